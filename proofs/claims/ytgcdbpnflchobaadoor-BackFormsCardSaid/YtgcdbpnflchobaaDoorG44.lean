-- Laid by the session's own driver gp.py over the kit's printer. Not trusted: Lean checks it.
import Derived.Test.YtgcdbpnflchobaaDoorBase
import Derived.Test.YtgcdbpnflchobaaDoorGI
import Derived.Test.YtgcdbpnflchobaaDoorG38
import Derived.Test.YtgcdbpnflchobaaDoorG40
import Derived.Test.YtgcdbpnflchobaaDoorG41
import Derived.Test.YtgcdbpnflchobaaDoorG42
namespace Go.Proofs.YtgcdbpnflchobaaDoor.G
open Go.RowKit Go.Proofs.YtgcdbpnflchobaaDoorW.PrintWords Go.Proofs.YtgcdbpnflchobaaDoorW.PrintLast Go.Proofs.YtgcdbpnflchobaaDoorW.PrintMore
attribute [local go_sem] max2_int min2_int max_two min_two max_three min_three max_four min_four   -- for this text's walks alone
set_option linter.unusedVariables false
set_option linter.unusedSimpArgs false
theorem hNm_ {p q : Prop} (h : q) (x : q → p := by intro hN0_; (with_reducible repeat (first | apply Kd.N_alloc | apply Kd.N_drewN | apply Kd.N_drew)); first | exact hN0_ | exact Kd.N_mono hN0_ (fun _ hk => by simp_all)) : p := x h
theorem hRm_ {p q : Prop} (h : q) (x : q → p := by intro hN0_; (with_reducible repeat (first | apply Kd.R_alloc | apply Kd.R_drewN | apply Kd.R_drew)); first | exact hN0_ | exact Kd.R_mono hN0_ (fun _ hk => by simp_all)) : p := x h

/-! ### sleuthlaw24_BackForms: function 10 -/
def sleuthlaw24_BackForms.f (k : Nat) (a0 : Int) (a1 : Int) : Option (Bool) := (sleuthlaw24_awake.f k).bind fun t552 => (if t552 = true then ((sleuthlaw24_some.f).bind fun t553 => (if 0 ≤ (Go.bits .and .i64 a1 3) then (if (Go.bits .and .i64 a1 3) < (t553.length : Int) then ((some (t553.set ((Go.bits .and .i64 a1 3) : Int).toNat (⟨(rd_T44 t553 (Go.bits .and .i64 a1 3)).f0, (rd_T44 t553 (Go.bits .and .i64 a1 3)).f1, (rd_T44 t553 (Go.bits .and .i64 a1 3)).f2, (⟨#[63]⟩ : ByteArray)⟩ : S44) : List (S44))).bind fun y556 => ((back_Path.f k y556 0).bind fun bt557 => ((back_Last.f k y556).bind fun bt561 => ((sleuthlaw24_some.f).bind fun t564 => ((some (([wrap64 (-(wrap64 (1 + (Go.bits .and .i64 a1 1023)))), wrap64 (4 + (wrap64 (1 + (Go.bits .and .i64 a1 1023))))] : List Int) : List Int)).bind fun y567 => (if 0 ≤ (Go.bits .and .i64 a0 1) then (if (Go.bits .and .i64 a0 1) < (y567.length : Int) then ((back_Path.f k t564 (rd y567 (Go.bits .and .i64 a0 1))).bind fun bt571 => (if (bt557.1.length : Int) = 0 then ((sleuthlaw0_Num.f bt557.2).bind fun t575 => (if t575 = 2400 then (if bt561.2.1 = true then (some false) else ((sleuthlaw0_Num.f bt561.2.2).bind fun t576 => (if t576 = 2400 then ((sleuthlaw0_Num.f bt571.2).bind fun t577 => (some (t577 == 2400))) else (some false)))) else (some false))) else (some false))) else (none)) else (none))))))) else (none)) else (none))) else (some false))
theorem sleuthlaw24_BackForms.mono : ∀ a0 a1 k, LeO (sleuthlaw24_BackForms.f k a0 a1) (sleuthlaw24_BackForms.f (k + 1) a0 a1) := by
  intro a0 a1 k
  unfold sleuthlaw24_BackForms.f
  repeat' first
      | (with_reducible exact back_Last.mono _ _)
      | (with_reducible exact back_Path.mono _ _ _)
      | (with_reducible exact sleuthlaw24_awake.mono _)
      | (with_reducible exact LeO.refl _)
      | (with_reducible exact LeO.none _)
      | (with_reducible refine LeO.ite ?_ ?_)
      | (with_reducible refine LeO.bind ?_ (fun _ => ?_))
      | exact back_Last.mono _ _
      | exact back_Path.mono _ _ _
      | exact sleuthlaw24_awake.mono _
      | exact LeO.none _
      | refine LeO.ite ?_ ?_
      | refine LeO.bind ?_ (fun _ => ?_)
def sleuthlaw24_BackForms.T8 : Bool × List (List Nat × List Nat) := (true, [([], []), ([], []), ([1], [1]), ([], []), ([3], [3]), ([2, 4], [2, 4]), ([], []), ([6], [6]), ([5, 7], [5, 7]), ([8], [8]), ([0, 9, 0], [0, 9]), ([10], [10]), ([11], [11]), ([11], [11]), ([12, 10, 0, 1, 2, 3, 4, 5, 6, 7, 8, 9, 10, 11, 12], [12]), ([13, 14, 0, 1, 2, 3, 4, 5, 6, 7, 8, 9, 10, 11, 12, 13, 14], [13])])
def sleuthlaw24_BackForms.B8 : List Nat := [0, 0, 2, 0, 8, 30, 0, 64, 254, 510, 1023, 2047, 4095, 4095, 8191, 32767]
theorem sleuthlaw24_BackForms.tab8 : rtab .any (opsOf Tryd.f10 8) = sleuthlaw24_BackForms.T8 := by kernel_rfl
theorem sleuthlaw24_BackForms.bits8 : waitsOk sleuthlaw24_BackForms.T8.2 sleuthlaw24_BackForms.B8 = true := by kernel_rfl
set_option maxHeartbeats 8000000 in
set_option maxRecDepth 100000 in
theorem sleuthlaw24_BackForms.calls (k : Nat) (a0 : Int) (a1 : Int) (r : Bool) (w : World) (h : sleuthlaw24_BackForms.f k a0 a1 = some r) (hG : GOK w) :
    Calls Tryd.prog 10 #[.int .i64 a0, .int .i64 a1] w fun e w' => e = .returned (.bool r) ∧ Below w.heap.size w w' := by
  have HB := Aside0.mk (Below.refl w.heap.size w)
  have H : ((sleuthlaw24_awake.f k).bind fun t552 => (if t552 = true then ((sleuthlaw24_some.f).bind fun t553 => (if 0 ≤ (Go.bits .and .i64 a1 3) then (if (Go.bits .and .i64 a1 3) < (t553.length : Int) then ((some (t553.set ((Go.bits .and .i64 a1 3) : Int).toNat (⟨(rd_T44 t553 (Go.bits .and .i64 a1 3)).f0, (rd_T44 t553 (Go.bits .and .i64 a1 3)).f1, (rd_T44 t553 (Go.bits .and .i64 a1 3)).f2, (⟨#[63]⟩ : ByteArray)⟩ : S44) : List (S44))).bind fun y556 => ((back_Path.f k y556 0).bind fun bt557 => ((back_Last.f k y556).bind fun bt561 => ((sleuthlaw24_some.f).bind fun t564 => ((some (([wrap64 (-(wrap64 (1 + (Go.bits .and .i64 a1 1023)))), wrap64 (4 + (wrap64 (1 + (Go.bits .and .i64 a1 1023))))] : List Int) : List Int)).bind fun y567 => (if 0 ≤ (Go.bits .and .i64 a0 1) then (if (Go.bits .and .i64 a0 1) < (y567.length : Int) then ((back_Path.f k t564 (rd y567 (Go.bits .and .i64 a0 1))).bind fun bt571 => (if (bt557.1.length : Int) = 0 then ((sleuthlaw0_Num.f bt557.2).bind fun t575 => (if t575 = 2400 then (if bt561.2.1 = true then (some false) else ((sleuthlaw0_Num.f bt561.2.2).bind fun t576 => (if t576 = 2400 then ((sleuthlaw0_Num.f bt571.2).bind fun t577 => (some (t577 == 2400))) else (some false)))) else (some false))) else (some false))) else (none)) else (none))))))) else (none)) else (none))) else (some false))) = some r := h
  clear h
  replace H := Option.bind_eq_some_iff.mp H
  obtain ⟨t552, A30, H⟩ := H
  replace H : (if t552 = true then ((sleuthlaw24_some.f).bind fun t553 => (if 0 ≤ (Go.bits .and .i64 a1 3) then (if (Go.bits .and .i64 a1 3) < (t553.length : Int) then ((some (t553.set ((Go.bits .and .i64 a1 3) : Int).toNat (⟨(rd_T44 t553 (Go.bits .and .i64 a1 3)).f0, (rd_T44 t553 (Go.bits .and .i64 a1 3)).f1, (rd_T44 t553 (Go.bits .and .i64 a1 3)).f2, (⟨#[63]⟩ : ByteArray)⟩ : S44) : List (S44))).bind fun y556 => ((back_Path.f k y556 0).bind fun bt557 => ((back_Last.f k y556).bind fun bt561 => ((sleuthlaw24_some.f).bind fun t564 => ((some (([wrap64 (-(wrap64 (1 + (Go.bits .and .i64 a1 1023)))), wrap64 (4 + (wrap64 (1 + (Go.bits .and .i64 a1 1023))))] : List Int) : List Int)).bind fun y567 => (if 0 ≤ (Go.bits .and .i64 a0 1) then (if (Go.bits .and .i64 a0 1) < (y567.length : Int) then ((back_Path.f k t564 (rd y567 (Go.bits .and .i64 a0 1))).bind fun bt571 => (if (bt557.1.length : Int) = 0 then ((sleuthlaw0_Num.f bt557.2).bind fun t575 => (if t575 = 2400 then (if bt561.2.1 = true then (some false) else ((sleuthlaw0_Num.f bt561.2.2).bind fun t576 => (if t576 = 2400 then ((sleuthlaw0_Num.f bt571.2).bind fun t577 => (some (t577 == 2400))) else (some false)))) else (some false))) else (some false))) else (none)) else (none))))))) else (none)) else (none))) else (some false)) = some r := H
  have A3 := Aside0.mk A30
  clear A30
  by_cases c4 : t552 = true
  · subst c4
    have H1 : ((sleuthlaw24_some.f).bind fun t553 => (if 0 ≤ (Go.bits .and .i64 a1 3) then (if (Go.bits .and .i64 a1 3) < (t553.length : Int) then ((some (t553.set ((Go.bits .and .i64 a1 3) : Int).toNat (⟨(rd_T44 t553 (Go.bits .and .i64 a1 3)).f0, (rd_T44 t553 (Go.bits .and .i64 a1 3)).f1, (rd_T44 t553 (Go.bits .and .i64 a1 3)).f2, (⟨#[63]⟩ : ByteArray)⟩ : S44) : List (S44))).bind fun y556 => ((back_Path.f k y556 0).bind fun bt557 => ((back_Last.f k y556).bind fun bt561 => ((sleuthlaw24_some.f).bind fun t564 => ((some (([wrap64 (-(wrap64 (1 + (Go.bits .and .i64 a1 1023)))), wrap64 (4 + (wrap64 (1 + (Go.bits .and .i64 a1 1023))))] : List Int) : List Int)).bind fun y567 => (if 0 ≤ (Go.bits .and .i64 a0 1) then (if (Go.bits .and .i64 a0 1) < (y567.length : Int) then ((back_Path.f k t564 (rd y567 (Go.bits .and .i64 a0 1))).bind fun bt571 => (if (bt557.1.length : Int) = 0 then ((sleuthlaw0_Num.f bt557.2).bind fun t575 => (if t575 = 2400 then (if bt561.2.1 = true then (some false) else ((sleuthlaw0_Num.f bt561.2.2).bind fun t576 => (if t576 = 2400 then ((sleuthlaw0_Num.f bt571.2).bind fun t577 => (some (t577 == 2400))) else (some false)))) else (some false))) else (some false))) else (none)) else (none))))))) else (none)) else (none))) = some r := by rw [if_pos rfl] at H; exact H
    clear H
    have H := H1
    clear H1
    replace H := Option.bind_eq_some_iff.mp H
    obtain ⟨t553, A50, H⟩ := H
    replace H : (if 0 ≤ (Go.bits .and .i64 a1 3) then (if (Go.bits .and .i64 a1 3) < (t553.length : Int) then ((some (t553.set ((Go.bits .and .i64 a1 3) : Int).toNat (⟨(rd_T44 t553 (Go.bits .and .i64 a1 3)).f0, (rd_T44 t553 (Go.bits .and .i64 a1 3)).f1, (rd_T44 t553 (Go.bits .and .i64 a1 3)).f2, (⟨#[63]⟩ : ByteArray)⟩ : S44) : List (S44))).bind fun y556 => ((back_Path.f k y556 0).bind fun bt557 => ((back_Last.f k y556).bind fun bt561 => ((sleuthlaw24_some.f).bind fun t564 => ((some (([wrap64 (-(wrap64 (1 + (Go.bits .and .i64 a1 1023)))), wrap64 (4 + (wrap64 (1 + (Go.bits .and .i64 a1 1023))))] : List Int) : List Int)).bind fun y567 => (if 0 ≤ (Go.bits .and .i64 a0 1) then (if (Go.bits .and .i64 a0 1) < (y567.length : Int) then ((back_Path.f k t564 (rd y567 (Go.bits .and .i64 a0 1))).bind fun bt571 => (if (bt557.1.length : Int) = 0 then ((sleuthlaw0_Num.f bt557.2).bind fun t575 => (if t575 = 2400 then (if bt561.2.1 = true then (some false) else ((sleuthlaw0_Num.f bt561.2.2).bind fun t576 => (if t576 = 2400 then ((sleuthlaw0_Num.f bt571.2).bind fun t577 => (some (t577 == 2400))) else (some false)))) else (some false))) else (some false))) else (none)) else (none))))))) else (none)) else (none)) = some r := H
    have A5 := Aside0.mk A50
    clear A50
    by_cases c6 : 0 ≤ (Go.bits .and .i64 a1 3)
    · rw [if_pos c6] at H
      have c6b0 : decide (0 ≤ (Go.bits .and .i64 a1 3)) = true := decide_eq_true c6
      clear c6
      by_cases c7 : (Go.bits .and .i64 a1 3) < (t553.length : Int)
      · rw [if_pos c7] at H
        have c7b0 : decide ((Go.bits .and .i64 a1 3) < (t553.length : Int)) = true := decide_eq_true c7
        clear c7
        obtain ⟨y556, hy556⟩ : ∃ y_ : List (S44), y_ = (t553.set ((Go.bits .and .i64 a1 3) : Int).toNat (⟨(rd_T44 t553 (Go.bits .and .i64 a1 3)).f0, (rd_T44 t553 (Go.bits .and .i64 a1 3)).f1, (rd_T44 t553 (Go.bits .and .i64 a1 3)).f2, (⟨#[63]⟩ : ByteArray)⟩ : S44)) := ⟨_, rfl⟩
        replace H : ((back_Path.f k y556 0).bind fun bt557 => ((back_Last.f k y556).bind fun bt561 => ((sleuthlaw24_some.f).bind fun t564 => ((some (([wrap64 (-(wrap64 (1 + (Go.bits .and .i64 a1 1023)))), wrap64 (4 + (wrap64 (1 + (Go.bits .and .i64 a1 1023))))] : List Int) : List Int)).bind fun y567 => (if 0 ≤ (Go.bits .and .i64 a0 1) then (if (Go.bits .and .i64 a0 1) < (y567.length : Int) then ((back_Path.f k t564 (rd y567 (Go.bits .and .i64 a0 1))).bind fun bt571 => (if (bt557.1.length : Int) = 0 then ((sleuthlaw0_Num.f bt557.2).bind fun t575 => (if t575 = 2400 then (if bt561.2.1 = true then (some false) else ((sleuthlaw0_Num.f bt561.2.2).bind fun t576 => (if t576 = 2400 then ((sleuthlaw0_Num.f bt571.2).bind fun t577 => (some (t577 == 2400))) else (some false)))) else (some false))) else (some false))) else (none)) else (none)))))) = some r := by first | (rw [hy556]; with_reducible exact H) | (have H2_ := (Option.bind_some _ _).symm.trans H; rw [hy556]; with_reducible exact H2_) | (have H2_ := (Option.bind_some _ _).symm.trans H; with_reducible exact H2_) | with_reducible exact H | (rw [hy556]; exact H) | exact H
        have Ny556 := Aside0.mk hy556
        clear hy556
        replace H := Option.bind_eq_some_iff.mp H
        obtain ⟨⟨t557, t558⟩, A90, H⟩ := H
        replace H : ((back_Last.f k y556).bind fun bt561 => ((sleuthlaw24_some.f).bind fun t564 => ((some (([wrap64 (-(wrap64 (1 + (Go.bits .and .i64 a1 1023)))), wrap64 (4 + (wrap64 (1 + (Go.bits .and .i64 a1 1023))))] : List Int) : List Int)).bind fun y567 => (if 0 ≤ (Go.bits .and .i64 a0 1) then (if (Go.bits .and .i64 a0 1) < (y567.length : Int) then ((back_Path.f k t564 (rd y567 (Go.bits .and .i64 a0 1))).bind fun bt571 => (if (t557.length : Int) = 0 then ((sleuthlaw0_Num.f t558).bind fun t575 => (if t575 = 2400 then (if bt561.2.1 = true then (some false) else ((sleuthlaw0_Num.f bt561.2.2).bind fun t576 => (if t576 = 2400 then ((sleuthlaw0_Num.f bt571.2).bind fun t577 => (some (t577 == 2400))) else (some false)))) else (some false))) else (some false))) else (none)) else (none))))) = some r := H
        have A9 := Aside0.mk A90
        clear A90
        replace H := Option.bind_eq_some_iff.mp H
        obtain ⟨⟨t561, t562, t563⟩, A100, H⟩ := H
        replace H : ((sleuthlaw24_some.f).bind fun t564 => ((some (([wrap64 (-(wrap64 (1 + (Go.bits .and .i64 a1 1023)))), wrap64 (4 + (wrap64 (1 + (Go.bits .and .i64 a1 1023))))] : List Int) : List Int)).bind fun y567 => (if 0 ≤ (Go.bits .and .i64 a0 1) then (if (Go.bits .and .i64 a0 1) < (y567.length : Int) then ((back_Path.f k t564 (rd y567 (Go.bits .and .i64 a0 1))).bind fun bt571 => (if (t557.length : Int) = 0 then ((sleuthlaw0_Num.f t558).bind fun t575 => (if t575 = 2400 then (if t562 = true then (some false) else ((sleuthlaw0_Num.f t563).bind fun t576 => (if t576 = 2400 then ((sleuthlaw0_Num.f bt571.2).bind fun t577 => (some (t577 == 2400))) else (some false)))) else (some false))) else (some false))) else (none)) else (none)))) = some r := H
        have A10 := Aside0.mk A100
        clear A100
        replace H := Option.bind_eq_some_iff.mp H
        obtain ⟨t564, A110, H⟩ := H
        replace H : ((some (([wrap64 (-(wrap64 (1 + (Go.bits .and .i64 a1 1023)))), wrap64 (4 + (wrap64 (1 + (Go.bits .and .i64 a1 1023))))] : List Int) : List Int)).bind fun y567 => (if 0 ≤ (Go.bits .and .i64 a0 1) then (if (Go.bits .and .i64 a0 1) < (y567.length : Int) then ((back_Path.f k t564 (rd y567 (Go.bits .and .i64 a0 1))).bind fun bt571 => (if (t557.length : Int) = 0 then ((sleuthlaw0_Num.f t558).bind fun t575 => (if t575 = 2400 then (if t562 = true then (some false) else ((sleuthlaw0_Num.f t563).bind fun t576 => (if t576 = 2400 then ((sleuthlaw0_Num.f bt571.2).bind fun t577 => (some (t577 == 2400))) else (some false)))) else (some false))) else (some false))) else (none)) else (none))) = some r := H
        have A11 := Aside0.mk A110
        clear A110
        obtain ⟨y567, hy567⟩ : ∃ y_ : List Int, y_ = (([wrap64 (-(wrap64 (1 + (Go.bits .and .i64 a1 1023)))), wrap64 (4 + (wrap64 (1 + (Go.bits .and .i64 a1 1023))))] : List Int)) := ⟨_, rfl⟩
        replace H : (if 0 ≤ (Go.bits .and .i64 a0 1) then (if (Go.bits .and .i64 a0 1) < (y567.length : Int) then ((back_Path.f k t564 (rd y567 (Go.bits .and .i64 a0 1))).bind fun bt571 => (if (t557.length : Int) = 0 then ((sleuthlaw0_Num.f t558).bind fun t575 => (if t575 = 2400 then (if t562 = true then (some false) else ((sleuthlaw0_Num.f t563).bind fun t576 => (if t576 = 2400 then ((sleuthlaw0_Num.f bt571.2).bind fun t577 => (some (t577 == 2400))) else (some false)))) else (some false))) else (some false))) else (none)) else (none)) = some r := by first | (rw [hy567]; with_reducible exact H) | (have H2_ := (Option.bind_some _ _).symm.trans H; rw [hy567]; with_reducible exact H2_) | (have H2_ := (Option.bind_some _ _).symm.trans H; with_reducible exact H2_) | with_reducible exact H | (rw [hy567]; exact H) | exact H
        have Ny567 := Aside0.mk hy567
        clear hy567
        by_cases c12 : 0 ≤ (Go.bits .and .i64 a0 1)
        · rw [if_pos c12] at H
          have c12b0 : decide (0 ≤ (Go.bits .and .i64 a0 1)) = true := decide_eq_true c12
          clear c12
          by_cases c13 : (Go.bits .and .i64 a0 1) < (y567.length : Int)
          · rw [if_pos c13] at H
            have c13b0 : decide ((Go.bits .and .i64 a0 1) < (y567.length : Int)) = true := decide_eq_true c13
            clear c13
            replace H := Option.bind_eq_some_iff.mp H
            obtain ⟨⟨t571, t572⟩, A140, H⟩ := H
            replace H : (if (t557.length : Int) = 0 then ((sleuthlaw0_Num.f t558).bind fun t575 => (if t575 = 2400 then (if t562 = true then (some false) else ((sleuthlaw0_Num.f t563).bind fun t576 => (if t576 = 2400 then ((sleuthlaw0_Num.f t572).bind fun t577 => (some (t577 == 2400))) else (some false)))) else (some false))) else (some false)) = some r := H
            have A14 := Aside0.mk A140
            clear A140
            by_cases c15 : (t557.length : Int) = 0
            · rw [if_pos c15] at H
              have c15b0 : ((t557.length : Int) == 0) = true := beq_iff_eq.mpr c15
              have c15b1 : ((t557.length : Int) != 0) = false := bne_eq_false_iff_eq.mpr c15
              clear c15
              replace H := Option.bind_eq_some_iff.mp H
              obtain ⟨t575, A160, H⟩ := H
              replace H : (if t575 = 2400 then (if t562 = true then (some false) else ((sleuthlaw0_Num.f t563).bind fun t576 => (if t576 = 2400 then ((sleuthlaw0_Num.f t572).bind fun t577 => (some (t577 == 2400))) else (some false)))) else (some false)) = some r := H
              have A16 := Aside0.mk A160
              clear A160
              by_cases c17 : t575 = 2400
              · rw [if_pos c17] at H
                have c17b0 : (t575 == 2400) = true := beq_iff_eq.mpr c17
                have c17b1 : (t575 != 2400) = false := bne_eq_false_iff_eq.mpr c17
                clear c17
                by_cases c18 : t562 = true
                · subst c18
                  have H1 : (some false) = some r := by rw [if_pos rfl] at H; exact H
                  clear H
                  have H := H1
                  clear H1
                  obtain rfl := Option.some.inj H
                  go_enter Tryd.func10, Tryd.ntmps10
                  try go_wp2_with (first | ((with_reducible refine gate_callee (f := 30) rfl ?_); refine goesL_ (some 14) rfl rfl Tryd.func30 (by kernel_rfl) rfl #[] rfl hL_ ?_; (with_reducible refine (sleuthlaw24_awake.calls k  true _ A3.out hG_).mono ?_); rintro e w19 ⟨rfl, hb⟩; refine ⟨_, rfl, ?_⟩; have n0_ := Aside0.mk (below_step hB_ hb); clear HB; have HB := n0_; clear n0_; (try clear hb); (try clear hb2); (try clear hk); (try clear hi)) | ((with_reducible refine gate_callee (f := 31) rfl ?_); refine goesL_ (some 19) rfl rfl Tryd.func31 (by kernel_rfl) rfl #[] rfl hL_ ?_; (with_reducible refine (sleuthlaw24_some.calls  t553 _ A5.out).mono ?_); rintro e w20 ⟨v554, rfl, ho0, hb⟩; refine ⟨_, rfl, ?_⟩; have n0_ := Aside0.mk (Kd.N_lower (Kd.N_mono (ok' := fun k_ => True) ho0 (fun k_ hk_ => trivial)) hS_); have n1_ := Aside0.mk (below_step hB_ hb); clear HB; have HO555 := n0_; have HB := n1_; clear n0_ n1_; (try clear hb); (try clear hb2); (try clear hk); (try clear hi); (try clear ho0); have p8 : 0 ≤ ((Go.bits .and .i64 a1 3) : Int) := of_decide_eq_true hA_; have q8 : ((Go.bits .and .i64 a1 3) : Int) < ((t553.length : Int) : Int) := of_decide_eq_true hA_; obtain ⟨go8, co8, eo8, gb8, gl8, cl8, HG8⟩ := Kd.N_form HO555.out (by omega); (first | cases eo8 | (injection eo8 with ea_ en_ ec_; (first | subst ea_ | (injection ea_ with ea_; subst ea_)); subst ec_; clear en_)); have GB8 := Aside0.mk gb8; have GG8 := Aside0.mk HG8; clear gb8 gl8 HG8; obtain ⟨ce8, hcl8, hM8, hcc8, hfr8⟩ := Kd.N_elem HO555.out z44 ((Go.bits .and .i64 a1 3) : Int) p8 q8; obtain ⟨ua8_2, uc8_2, rfl, ul8_2, ge8_2⟩ := k44_openF hM8; have hx8_0 : w20.cell? ⟨go8, ((Go.bits .and .i64 a1 3) : Int).toNat * 4, none⟩ = some (.int .i64 ((rd_T44 t553 (Go.bits .and .i64 a1 3)).f0)) := hcc8 0 _ rfl; have hx8_1 : w20.cell? ⟨go8, ((Go.bits .and .i64 a1 3) : Int).toNat * 4 + 1, none⟩ = some (.int .i64 ((rd_T44 t553 (Go.bits .and .i64 a1 3)).f1)) := hcc8 1 _ rfl; have hx8_2 : w20.cell? ⟨go8, ((Go.bits .and .i64 a1 3) : Int).toNat * 4 + 2, none⟩ = some (.slice ua8_2 ((rd_T44 t553 (Go.bits .and .i64 a1 3)).f2).length uc8_2) := hcc8 2 _ rfl; have hx8_3 : w20.cell? ⟨go8, ((Go.bits .and .i64 a1 3) : Int).toNat * 4 + 3, none⟩ = some (.string ((rd_T44 t553 (Go.bits .and .i64 a1 3)).f3)) := hcc8 3 _ rfl; have hf8_0 : w20.frozen? ⟨go8, ((Go.bits .and .i64 a1 3) : Int).toNat * 4, none⟩ = false := hfr8 0; have hf8_1 : w20.frozen? ⟨go8, ((Go.bits .and .i64 a1 3) : Int).toNat * 4 + 1, none⟩ = false := hfr8 1; have hf8_2 : w20.frozen? ⟨go8, ((Go.bits .and .i64 a1 3) : Int).toNat * 4 + 2, none⟩ = false := hfr8 2; have hf8_3 : w20.frozen? ⟨go8, ((Go.bits .and .i64 a1 3) : Int).toNat * 4 + 3, none⟩ = false := hfr8 3; clear hcl8 hcc8 hfr8 hM8; replace p8 := eq_true p8; replace q8 := eq_true q8; have HX21 := Aside0.mk (show Kd.N k44 44 w20 w.heap.size (fun _ => True) (.slice (some ⟨go8, 0, none⟩) t553.length co8) t553 from (hN_ HO555.out)); obtain ⟨ce21, hcl21, hM21, hcc21, hfr21⟩ := Kd.N_elem HX21.out z44 ((Go.bits .and .i64 a1 3) : Int) (of_decide_eq_true hA_) (by have h_ : ((Go.bits .and .i64 a1 3) : Int) < ((t553.length : Int) : Int) := of_decide_eq_true hA_; first | exact h_ | (have e_ := (Kd.N_reads' HO555.out).1; omega) | simpa using h_); obtain ⟨ua21_2, uc21_2, rfl, ul21_2, ge21_2⟩ := k44_openF hM21; have HP21 := Kd.N_seg HX21.out ((Go.bits .and .i64 a1 3) : Int) (of_decide_eq_true hA_) (by have h_ : ((Go.bits .and .i64 a1 3) : Int) < ((t553.length : Int) : Int) := of_decide_eq_true hA_; first | exact h_ | (have e_ := (Kd.N_reads' HO555.out).1; omega) | simpa using h_) (seg := [.string (⟨#[63]⟩ : ByteArray)]) (j := 3) hcl21 hcc21 (show 4 ≤ 4 from by decide) (x' := (⟨(rd_T44 t553 (Go.bits .and .i64 a1 3)).f0, (rd_T44 t553 (Go.bits .and .i64 a1 3)).f1, (rd_T44 t553 (Go.bits .and .i64 a1 3)).f2, (⟨#[63]⟩ : ByteArray)⟩ : S44)) (k44_mkF _ _ (⟨(rd_T44 t553 (Go.bits .and .i64 a1 3)).f0, (rd_T44 t553 (Go.bits .and .i64 a1 3)).f1, (rd_T44 t553 (Go.bits .and .i64 a1 3)).f2, (⟨#[63]⟩ : ByteArray)⟩ : S44) ul21_2 ge21_2) (fun _ hk => hk); have hx21_3 := hcc21 3 _ rfl; (try simp only [show (k44).sz = 4 from rfl, Nat.mul_one, Nat.add_zero] at hx21_3); have hf21_3 := hfr21 3; (try simp only [show (k44).sz = 4 from rfl, Nat.mul_one, Nat.add_zero] at hf21_3); clear hcl21 hcc21 hfr21 hM21) | ((with_reducible refine gate_store (t := 9) (p := 24) rfl ?_); refine store_event (t := 9) (p := 24) (v := ?vo_w22) (w1 := (w20.setCell ⟨go8, ((Go.bits .and .i64 a1 3) : Int).toNat * 4 + 3, none⟩ (.string (⟨#[63]⟩ : ByteArray)))) ?hg ?ho ?hn ?hr ?_; (case ho => rfl); (case hg => rfl); (case hn => rfl); (case hr => first | (go_simp; done) | (go_simp; rfl)); intro w22 hw; have hg : w20.grownBy w22 (some go8) := (by rw [hw]; exact HP21.2); have hp_ : Kd.N k44 44 w22 w.heap.size (fun _ => True) (.slice (some ⟨go8, 0, none⟩) t553.length co8) y556 := (by rw [hw, Ny556.out]; exact HP21.1); clear HP21; have n0_ := Aside0.mk (hp_); have n1_ := Aside0.mk ((by rw [hw]; exact below_set (HB.out) GB8.out : Below w.heap.size w w22)); clear HO555; clear HB; have HO555 := n0_; have HB := n1_; clear n0_ n1_; clear hg hw hp_) | ((with_reducible refine gate_callee (f := 26) rfl ?_); refine goesL_ (some 27) rfl rfl Tryd.func26 (by kernel_rfl) rfl #[.slice (some ⟨go8, 0, none⟩) y556.length co8, .int .i64 0] rfl (by (try simp only [List.map_toArray, List.map_cons, List.map_nil]); first | done | (rw [show y556.length = t553.length from (Kd.N_reads' HO555.out).1.symm] <;> rfl) | rfl | (simp only [List.length_drop, List.length_take]; rfl)) ?_; (with_reducible refine (back_Path.calls k _ _ y556 0 t557 t558 _ ?side1 ?side2 A9.out hG_).mono ?_); (case side1 => repeat (first | exact (Kd.N_reads' HO555.out).2.2 | (with_reducible refine Kd.C_alloc ?_ _) | (with_reducible refine Kd.C_drewN ?_ _) | (with_reducible refine Kd.C_drew ?_))); (case side2 => rw [show y556.length = t553.length from (Kd.N_reads' HO555.out).1.symm]; exact (Kd.N_reads' HO555.out).2.1); rintro e w23 ⟨v559, rfl, ho0, hb⟩; refine ⟨_, rfl, ?_⟩; have n0_ := Aside0.mk (Kd.N_elder' (hN_ HO555.out) (Kd.R_base ho0) hb); have n1_ := Aside0.mk (Kd.R_lower ho0 hS_); have n2_ := Aside0.mk (below_step hB_ hb); clear HO555; clear HB; have HO555 := n0_; have HO560 := n1_; have HB := n2_; clear n0_ n1_ n2_; (try clear hb); (try clear hb2); (try clear hk); (try clear hi); (try clear ho0)) | ((with_reducible refine gate_callee (f := 28) rfl ?_); refine goesL_ (some 32) rfl rfl Tryd.func28 (by kernel_rfl) rfl #[.slice (some ⟨go8, 0, none⟩) y556.length co8] rfl (by (try simp only [List.map_toArray, List.map_cons, List.map_nil]); first | done | (rw [show y556.length = t553.length from (Kd.N_reads' HO555.out).1.symm] <;> rfl) | rfl | (simp only [List.length_drop, List.length_take]; rfl)) ?_; (with_reducible refine (back_Last.calls k _ _ y556 t561 true t563 _ ?side1 ?side2 A10.out hG_).mono ?_); (case side1 => repeat (first | exact (Kd.N_reads' HO555.out).2.2 | (with_reducible refine Kd.C_alloc ?_ _) | (with_reducible refine Kd.C_drewN ?_ _) | (with_reducible refine Kd.C_drew ?_))); (case side2 => rw [show y556.length = t553.length from (Kd.N_reads' HO555.out).1.symm]; exact (Kd.N_reads' HO555.out).2.1); rintro e w24 ⟨rfl, hb⟩; refine ⟨_, rfl, ?_⟩; have n0_ := Aside0.mk (Kd.N_below (hN_ HO555.out) hb); have n1_ := Aside0.mk (Kd.R_below (hR_ HO560.out) hb); have n2_ := Aside0.mk (below_step hB_ hb); clear HO555; clear HO560; clear HB; have HO555 := n0_; have HO560 := n1_; have HB := n2_; clear n0_ n1_ n2_; (try clear hb); (try clear hb2); (try clear hk); (try clear hi)))
                  have pi570 : (0 ≤ ((Go.bits .and .i64 a0 1) : Int)) = True := eq_true (of_decide_eq_true hA_)
                  have qi570 : ((Go.bits .and .i64 a0 1) < (y567.length : Int)) = True := eq_true (of_decide_eq_true hA_)
                  have n0_ := Aside0.mk (Kd.N_drew HO555.out)
                  have n1_ := Aside0.mk (Kd.R_drew HO560.out)
                  have n2_ := Aside0.mk (below_drew1 HB.out)
                  clear HO555
                  clear HO560
                  clear HB
                  have HO555 := n0_
                  have HO560 := n1_
                  have HB := n2_
                  clear n0_ n1_ n2_
                  refine start_ (n := 16) (S := fun w' => True) (ds := []) #[false, false, false, false, false, false, false, false, false, false, false, false, false, false, false, false] (by kernel_rfl) rfl rfl trivial (fun hHeld => ?_); refine with_tabW sleuthlaw24_BackForms.tab8 sleuthlaw24_BackForms.bits8 (fun HT_ HW_ => ?_)
                  generalize w24.drew = w25 at HO555 HO560 HB hHeld ⊢
                  refine pure_ (i := 1) (N := some 38) (v := ?_) (a' := ?_) #[false, true, false, false, false, false, false, false, false, false, false, false, false, false, false, false] rfl rfl (any_of HT_.out (by kernel_rfl)) (fun _ _ _ h => h) (Or.inl ⟨by rfl, ?_⟩) ?_ ?_
                  rotate_left
                  · intro w'
                    go_simp
                    with_reducible rfl
                  rotate_left
                  · simp only [Act.put, List.setIfInBounds_toArray, List.set_cons_zero, List.set_cons_succ, i64_w, i32_w]
                    rfl
                  refine pure_ (i := 3) (N := some 40) (v := ?_) (a' := ?_) #[false, true, false, true, false, false, false, false, false, false, false, false, false, false, false, false] rfl rfl (any_of HT_.out (by kernel_rfl)) (fun _ _ _ h => h) (Or.inl ⟨by rfl, ?_⟩) ?_ ?_
                  rotate_left
                  · intro w'
                    go_simp
                    with_reducible rfl
                  rotate_left
                  · simp only [Act.put, List.setIfInBounds_toArray, List.set_cons_zero, List.set_cons_succ, i64_w, i32_w]
                    rfl
                  refine pure_ (i := 6) (N := some 43) (v := ?_) (a' := ?_) #[false, true, false, true, false, false, true, false, false, false, false, false, false, false, false, false] rfl rfl (any_of HT_.out (by kernel_rfl)) (fun _ _ _ h => h) (Or.inl ⟨by rfl, ?_⟩) ?_ ?_
                  rotate_left
                  · intro w'
                    go_simp
                    with_reducible rfl
                  rotate_left
                  · simp only [Act.put, List.setIfInBounds_toArray, List.set_cons_zero, List.set_cons_succ, i64_w, i32_w]
                    rfl
                  refine inv_at [0, 2, 4, 5, 7, 8, 9, 10, 11, 12, 13, 14, 15] (fun a0_ b a w' => ∃ (v565 : Value) (v568 : Value) (adz_v568 : Addr) (v573 : Value) (m8_ : Value) (m10_ : Value) (m11_ : Value) (m12_ : Value) (m14_ : Value), a = putSel a0_ b [(0, 37, v565), (2, 39, .int .i64 (wrap64 (-(wrap64 (1 + (Go.bits .and .i64 a1 1023)))))), (4, 41, .int .i64 (wrap64 (4 + (wrap64 (1 + (Go.bits .and .i64 a1 1023)))))), (5, 42, v568), (7, 44, .int .i64 (Go.bits .and .i64 a0 1)), (8, 45, m8_), (9, 46, .int .i64 (rd y567 (Go.bits .and .i64 a0 1))), (10, 47, m10_), (11, 36, m11_), (12, 48, m12_), (13, 49, .int .i64 t572), (14, 12, m14_), (15, 13, .int .i64 t572)] ∧ (Kd.N k44 44 w' w.heap.size (fun k_ => some k_ ≠ (v559 : Value).ownBlock) (.slice (some ⟨go8, 0, none⟩) t553.length co8) y556) ∧ (Kd.R (Kd.int .i64) 3 w' w.heap.size (fun _ => True) v559 t557) ∧ (Below w.heap.size w w') ∧ (b 0 = true → Kd.N k44 44 w' w.heap.size (fun k_ => some k_ ≠ (.slice (some ⟨go8, 0, none⟩) t553.length co8 : Value).ownBlock ∧ some k_ ≠ (v559 : Value).ownBlock) v565 t564) ∧ (b 5 = true → Kd.R (Kd.int .i64) 3 w' w.heap.size (fun k_ => some k_ ≠ (v559 : Value).ownBlock) v568 y567) ∧ (b 5 = true → ∃ c_, (v568 : Value) = .slice (some adz_v568) y567.length c_) ∧ (b 10 = true → Kd.R (Kd.int .i64) 3 w' w.heap.size (fun k_ => some k_ ≠ (v559 : Value).ownBlock) v573 t571) ∧ (b 8 = true → (m8_ : Value) = .pointer (some (adz_v568.add ((Go.bits .and .i64 a0 1)).toNat))) ∧ (b 10 = true → (m10_ : Value) = .tuple #[v573, .int .i64 t572]) ∧ (b 11 = true → (m11_ : Value) = .tuple #[v573, .int .i64 t572]) ∧ (b 12 = true → (m12_ : Value) = v573) ∧ (b 14 = true → (m14_ : Value) = v573)) HT_.out HW_.out (by kernel_rfl) (by kernel_rfl) ?_ ?_ ?_
                  · exact ⟨.bool false, .bool false, ⟨0, 0, none⟩, .bool false, .bool false, .bool false, .bool false, .bool false, .bool false, by simp only [putSel, Bool.false_eq_true, if_false], (by first | exact HO555.out | exact Kd.N_mono HO555.out (fun _ hk => by simp_all) | exact Kd.R_mono HO555.out (fun _ hk => by simp_all)), (by first | exact HO560.out | exact Kd.N_mono HO560.out (fun _ hk => by simp_all) | exact Kd.R_mono HO560.out (fun _ hk => by simp_all)), HB.out, fun h_ => absurd h_ (by decide), fun h_ => absurd h_ (by decide), fun h_ => absurd h_ (by decide), fun h_ => absurd h_ (by decide), fun h_ => absurd h_ (by decide), fun h_ => absurd h_ (by decide), fun h_ => absurd h_ (by decide), fun h_ => absurd h_ (by decide), fun h_ => absurd h_ (by decide)⟩
                  · skip
                    clear HB HO555 HO560
                    refine steps_cons ?_ ?_
                    · rintro b a w' ⟨v565, v568, adz_v568, v573, m8_, m10_, m11_, m12_, m14_, ha, Q_HO555, Q_HO560, Q_HB, Q_HO566, Q_HO569, Q_HA_HO569, Q_HO574, Q_X8_, Q_X10_, Q_X11_, Q_X12_, Q_X14_⟩ hb_ hon hoff
                      refine ⟨_, rfl, fun K hK => ?_⟩
                      replace ha := Aside0.mk ha
                      have HO555 := Aside0.mk Q_HO555
                      have HO560 := Aside0.mk Q_HO560
                      have HB := Aside0.mk Q_HB
                      refine goes_ Tryd.func31 (by kernel_rfl) rfl #[] (by rfl) rfl rfl (by first | (simp only [List.map_toArray, List.map_cons, List.map_nil, Act.eval, Array.getD_eq_getD_getElem?, Option.getD_some]; done) | (simp only [List.map_toArray, List.map_cons, List.map_nil, Act.eval, Array.getD_eq_getD_getElem?, Option.getD_some]; rfl)) ?_
                      with_reducible refine (sleuthlaw24_some.calls  t564 _ A11.out).mono ?_
                      rintro e w26 ⟨v565, rfl, ho0, hb⟩
                      refine ⟨_, rfl, ?_⟩
                      have n0_ := Aside0.mk (Kd.N_elder' (hN_ HO555.out) (Kd.N_base ho0) hb)
                      have n1_ := Aside0.mk (Kd.R_below (hR_ HO560.out) hb)
                      have n2_ := Aside0.mk (Kd.N_lower (Kd.N_mono (ok' := fun k_ => some k_ ≠ (.slice (some ⟨go8, 0, none⟩) t553.length co8 : Value).ownBlock ∧ some k_ ≠ (v559 : Value).ownBlock) ho0 (fun k_ hk_ => ⟨(Kd.fresh' (Kd.N_lt (hN_ HO555.out)) k_ hk_), (Kd.fresh' (Kd.R_lt (hR_ HO560.out)) k_ hk_)⟩)) hS_)
                      have n3_ := Aside0.mk (below_step hB_ hb)
                      have z_HO569 := fun (h0_ : b 5 = true) => (show Kd.R (Kd.int .i64) 3 w26 w.heap.size (fun k_ => some k_ ≠ (v559 : Value).ownBlock) v568 y567 from by first | exact (Kd.R_below (by (with_reducible repeat (first | apply Kd.R_alloc | apply Kd.R_drewN | apply Kd.R_drew)); exact (Q_HO569 h0_)) hb) | exact Kd.R_mono (Kd.R_below (by (with_reducible repeat (first | apply Kd.R_alloc | apply Kd.R_drewN | apply Kd.R_drew)); exact (Q_HO569 h0_)) hb) (fun _ h_ => by first | trivial | exact h_ | exact h_.1))
                      clear HO555
                      clear HO560
                      clear HB
                      have HO555 := n0_
                      have HO560 := n1_
                      have HO566 := n2_
                      have HB := n3_
                      clear n0_ n1_ n2_ n3_
                      (try clear hb)
                      (try clear hb2)
                      (try clear hk)
                      (try clear hi)
                      (try clear ho0)
                      refine hK.out _ _ ⟨v565, v568, adz_v568, v573, m8_, m10_, m11_, m12_, m14_, (by rw [ha.out]; exact putSel_upk 0 hb_ rfl rfl rfl), (hNm_ HO555.out), (hRm_ HO560.out), hB_, fun _ => (hNm_ HO566.out), z_HO569, Q_HA_HO569, fun h0_ => absurd ((hoff 10 (by kernel_rfl)).symm.trans h0_) (by decide), Q_X8_, fun h0_ => absurd ((hoff 10 (by kernel_rfl)).symm.trans h0_) (by decide), fun h0_ => absurd ((hoff 11 (by kernel_rfl)).symm.trans h0_) (by decide), fun h0_ => absurd ((hoff 12 (by kernel_rfl)).symm.trans h0_) (by decide), fun h0_ => absurd ((hoff 14 (by kernel_rfl)).symm.trans h0_) (by decide)⟩
                    refine steps_cons ?_ ?_
                    · rintro b a w' ⟨v565, v568, adz_v568, v573, m8_, m10_, m11_, m12_, m14_, ha, Q_HO555, Q_HO560, Q_HB, Q_HO566, Q_HO569, Q_HA_HO569, Q_HO574, Q_X8_, Q_X10_, Q_X11_, Q_X12_, Q_X14_⟩ hb_ hon hoff
                      refine ⟨_, rfl, fun K hK => ?_⟩
                      have e38 : a.tmps[38]? = some (.int .i64 (wrap64 (1 + (Go.bits .and .i64 a1 1023)))) := by rw [ha]; exact (putSel_off rfl).trans rfl
                      replace ha := Aside0.mk ha
                      have HO555 := Aside0.mk Q_HO555
                      have HO560 := Aside0.mk Q_HO560
                      have HB := Aside0.mk Q_HB
                      refine value_ (w1 := w') (v := .int .i64 (wrap64 (-(wrap64 (1 + (Go.bits .and .i64 a1 1023)))))) (by rfl) rfl ?_ ?_
                      · go_simp
                        (try simp only [i64_w])
                        try rfl
                      refine hK.out _ _ ⟨v565, v568, adz_v568, v573, m8_, m10_, m11_, m12_, m14_, (by rw [ha.out]; exact putSel_upk 1 hb_ rfl rfl rfl), Q_HO555, Q_HO560, Q_HB, Q_HO566, fun h0_ => absurd ((hoff 5 (by kernel_rfl)).symm.trans h0_) (by decide), fun h0_ => absurd ((hoff 5 (by kernel_rfl)).symm.trans h0_) (by decide), fun h0_ => absurd ((hoff 10 (by kernel_rfl)).symm.trans h0_) (by decide), fun h0_ => absurd ((hoff 8 (by kernel_rfl)).symm.trans h0_) (by decide), fun h0_ => absurd ((hoff 10 (by kernel_rfl)).symm.trans h0_) (by decide), fun h0_ => absurd ((hoff 11 (by kernel_rfl)).symm.trans h0_) (by decide), fun h0_ => absurd ((hoff 12 (by kernel_rfl)).symm.trans h0_) (by decide), fun h0_ => absurd ((hoff 14 (by kernel_rfl)).symm.trans h0_) (by decide)⟩
                    refine steps_cons ?_ ?_
                    · rintro b a w' ⟨v565, v568, adz_v568, v573, m8_, m10_, m11_, m12_, m14_, ha, Q_HO555, Q_HO560, Q_HB, Q_HO566, Q_HO569, Q_HA_HO569, Q_HO574, Q_X8_, Q_X10_, Q_X11_, Q_X12_, Q_X14_⟩ hb_ hon hoff
                      refine ⟨_, rfl, fun K hK => ?_⟩
                      have e40 : a.tmps[40]? = some (.int .i64 (wrap64 (1 + (Go.bits .and .i64 a1 1023)))) := by rw [ha]; exact (putSel_off rfl).trans rfl
                      replace ha := Aside0.mk ha
                      have HO555 := Aside0.mk Q_HO555
                      have HO560 := Aside0.mk Q_HO560
                      have HB := Aside0.mk Q_HB
                      refine value_ (w1 := w') (v := .int .i64 (wrap64 (4 + (wrap64 (1 + (Go.bits .and .i64 a1 1023)))))) (by rfl) rfl ?_ ?_
                      · go_simp
                        (try simp only [i64_w])
                        try rfl
                      refine hK.out _ _ ⟨v565, v568, adz_v568, v573, m8_, m10_, m11_, m12_, m14_, (by rw [ha.out]; exact putSel_upk 2 hb_ rfl rfl rfl), Q_HO555, Q_HO560, Q_HB, Q_HO566, fun h0_ => absurd ((hoff 5 (by kernel_rfl)).symm.trans h0_) (by decide), fun h0_ => absurd ((hoff 5 (by kernel_rfl)).symm.trans h0_) (by decide), fun h0_ => absurd ((hoff 10 (by kernel_rfl)).symm.trans h0_) (by decide), fun h0_ => absurd ((hoff 8 (by kernel_rfl)).symm.trans h0_) (by decide), fun h0_ => absurd ((hoff 10 (by kernel_rfl)).symm.trans h0_) (by decide), fun h0_ => absurd ((hoff 11 (by kernel_rfl)).symm.trans h0_) (by decide), fun h0_ => absurd ((hoff 12 (by kernel_rfl)).symm.trans h0_) (by decide), fun h0_ => absurd ((hoff 14 (by kernel_rfl)).symm.trans h0_) (by decide)⟩
                    refine steps_cons ?_ ?_
                    · rintro b a w' ⟨v565, v568, adz_v568, v573, m8_, m10_, m11_, m12_, m14_, ha, Q_HO555, Q_HO560, Q_HB, Q_HO566, Q_HO569, Q_HA_HO569, Q_HO574, Q_X8_, Q_X10_, Q_X11_, Q_X12_, Q_X14_⟩ hb_ hon hoff
                      refine ⟨_, rfl, fun K hK => ?_⟩
                      have e39 : a.tmps[39]? = some (.int .i64 (wrap64 (-(wrap64 (1 + (Go.bits .and .i64 a1 1023)))))) := by rw [ha]; exact putSel_on (e := (2, 39, .int .i64 (wrap64 (-(wrap64 (1 + (Go.bits .and .i64 a1 1023))))))) 1 rfl rfl (hon 2 (by kernel_rfl)) rfl
                      have e41 : a.tmps[41]? = some (.int .i64 (wrap64 (4 + (wrap64 (1 + (Go.bits .and .i64 a1 1023)))))) := by rw [ha]; exact putSel_on (e := (4, 41, .int .i64 (wrap64 (4 + (wrap64 (1 + (Go.bits .and .i64 a1 1023))))))) 2 rfl rfl (hon 4 (by kernel_rfl)) rfl
                      replace ha := Aside0.mk ha
                      have HO555 := Aside0.mk Q_HO555
                      have HO560 := Aside0.mk Q_HO560
                      have HB := Aside0.mk Q_HB
                      refine Kd.R_lit_step (Kd.int .i64) _ 3 ?hg (N := 42) ?hd (xs := ([wrap64 (-(wrap64 (1 + (Go.bits .and .i64 a1 1023)))), wrap64 (4 + (wrap64 (1 + (Go.bits .and .i64 a1 1023))))] : List Int)) (inner := [.int .i64 (wrap64 (-(wrap64 (1 + (Go.bits .and .i64 a1 1023))))), .int .i64 (wrap64 (4 + (wrap64 (1 + (Go.bits .and .i64 a1 1023)))))]) (ok := fun _ => True) (okp := fun _ => True) ?hr ?hp (fun _ hk => hk) trivial (Below.refl _ _) (Nat.le_refl _) (by simp) ?_; (case hd => rfl); (case hg => rfl); (case hr => first | (go_simp; done) | (go_simp; rfl)); (case hp => exact (Reps.one (show Kd.M (Kd.int .i64) _ _ _ (wrap64 (-(wrap64 (1 + (Go.bits .and .i64 a1 1023))))) [.int .i64 (wrap64 (-(wrap64 (1 + (Go.bits .and .i64 a1 1023)))))] from rfl) (Reps.one (show Kd.M (Kd.int .i64) _ _ _ (wrap64 (4 + (wrap64 (1 + (Go.bits .and .i64 a1 1023))))) [.int .i64 (wrap64 (4 + (wrap64 (1 + (Go.bits .and .i64 a1 1023)))))] from rfl) (Reps.none _ _))))
                      intro v568 w26 ho27 hb hg_ hnew_
                      clear hg_ hnew_
                      (first | rw [← Ny567.out] at ho27 | (simp only [Int.reduceToNat] at ho27; rw [← Ny567.out] at ho27))
                      have n0_ := Aside0.mk (Kd.N_elder' (hN_ HO555.out) (Kd.R_base ho27) hb)
                      have n1_ := Aside0.mk (Kd.R_elder' (hR_ HO560.out) (Kd.R_base ho27) hb)
                      have n2_ := Aside0.mk (Kd.R_lower (Kd.R_new' ho27 (Kd.R_lt (hR_ HO560.out))) hS_)
                      have n3_ := Aside0.mk (below_step hB_ hb)
                      have z_HO566 := fun (h0_ : b 0 = true) => (show Kd.N k44 44 w26 w.heap.size (fun k_ => some k_ ≠ (.slice (some ⟨go8, 0, none⟩) t553.length co8 : Value).ownBlock ∧ some k_ ≠ (v559 : Value).ownBlock) v565 t564 from by first | exact (Kd.N_elder' (by (with_reducible repeat (first | apply Kd.N_alloc | apply Kd.N_drewN | apply Kd.N_drew)); exact (Q_HO566 h0_)) (Kd.R_base ho27) hb) | exact Kd.N_mono (Kd.N_elder' (by (with_reducible repeat (first | apply Kd.N_alloc | apply Kd.N_drewN | apply Kd.N_drew)); exact (Q_HO566 h0_)) (Kd.R_base ho27) hb) (fun _ h_ => by first | trivial | exact h_ | exact h_.1))
                      clear HO555
                      clear HO560
                      clear HB
                      have HO555 := n0_
                      have HO560 := n1_
                      have HO569 := n2_
                      have HB := n3_
                      clear n0_ n1_ n2_ n3_
                      clear hb ho27
                      obtain ⟨Ao28, co28, eo28⟩ := Kd.R_slice HO569.out
                      subst eo28
                      obtain ⟨ado28, fo28, _⟩ := Kd.at_int (Kd.R_reads' HO569.out).2.2 0 (by decide) (by rw [Ny567.out]; simp)
                      cases fo28
                      refine hK.out _ _ ⟨v565, .slice (some ado28) y567.length co28, ado28, v573, m8_, m10_, m11_, m12_, m14_, (by rw [ha.out]; exact putSel_upk 3 hb_ rfl rfl rfl), (hNm_ HO555.out), (hRm_ HO560.out), hB_, z_HO566, fun _ => (hRm_ HO569.out), fun _ => ⟨_, rfl⟩, fun h0_ => absurd ((hoff 10 (by kernel_rfl)).symm.trans h0_) (by decide), fun h0_ => absurd ((hoff 8 (by kernel_rfl)).symm.trans h0_) (by decide), fun h0_ => absurd ((hoff 10 (by kernel_rfl)).symm.trans h0_) (by decide), fun h0_ => absurd ((hoff 11 (by kernel_rfl)).symm.trans h0_) (by decide), fun h0_ => absurd ((hoff 12 (by kernel_rfl)).symm.trans h0_) (by decide), fun h0_ => absurd ((hoff 14 (by kernel_rfl)).symm.trans h0_) (by decide)⟩
                    refine steps_cons ?_ ?_
                    · rintro b a w' ⟨v565, v568, adz_v568, v573, m8_, m10_, m11_, m12_, m14_, ha, Q_HO555, Q_HO560, Q_HB, Q_HO566, Q_HO569, Q_HA_HO569, Q_HO574, Q_X8_, Q_X10_, Q_X11_, Q_X12_, Q_X14_⟩ hb_ hon hoff
                      refine ⟨_, rfl, fun K hK => ?_⟩
                      have e43 : a.tmps[43]? = some (.int .i64 a0) := by rw [ha]; exact (putSel_off rfl).trans rfl
                      replace ha := Aside0.mk ha
                      have HO555 := Aside0.mk Q_HO555
                      have HO560 := Aside0.mk Q_HO560
                      have HB := Aside0.mk Q_HB
                      refine value_ (w1 := w') (v := .int .i64 (Go.bits .and .i64 a0 1)) (by rfl) rfl ?_ ?_
                      · go_simp
                        (try simp only [i64_w])
                        try rfl
                      refine hK.out _ _ ⟨v565, v568, adz_v568, v573, m8_, m10_, m11_, m12_, m14_, (by rw [ha.out]; exact putSel_upk 4 hb_ rfl rfl rfl), Q_HO555, Q_HO560, Q_HB, Q_HO566, Q_HO569, Q_HA_HO569, fun h0_ => absurd ((hoff 10 (by kernel_rfl)).symm.trans h0_) (by decide), fun h0_ => absurd ((hoff 8 (by kernel_rfl)).symm.trans h0_) (by decide), fun h0_ => absurd ((hoff 10 (by kernel_rfl)).symm.trans h0_) (by decide), fun h0_ => absurd ((hoff 11 (by kernel_rfl)).symm.trans h0_) (by decide), fun h0_ => absurd ((hoff 12 (by kernel_rfl)).symm.trans h0_) (by decide), fun h0_ => absurd ((hoff 14 (by kernel_rfl)).symm.trans h0_) (by decide)⟩
                    refine steps_cons ?_ ?_
                    · rintro b a w' ⟨v565, v568, adz_v568, v573, m8_, m10_, m11_, m12_, m14_, ha, Q_HO555, Q_HO560, Q_HB, Q_HO566, Q_HO569, Q_HA_HO569, Q_HO574, Q_X8_, Q_X10_, Q_X11_, Q_X12_, Q_X14_⟩ hb_ hon hoff
                      refine ⟨_, rfl, fun K hK => ?_⟩
                      have e42 : a.tmps[42]? = some (v568) := by rw [ha]; exact putSel_on (e := (5, 42, v568)) 3 rfl rfl (hon 5 (by kernel_rfl)) rfl
                      have e44 : a.tmps[44]? = some (.int .i64 (Go.bits .and .i64 a0 1)) := by rw [ha]; exact putSel_on (e := (7, 44, .int .i64 (Go.bits .and .i64 a0 1))) 4 rfl rfl (hon 7 (by kernel_rfl)) rfl
                      replace ha := Aside0.mk ha
                      have HO555 := Aside0.mk Q_HO555
                      have HO560 := Aside0.mk Q_HO560
                      have HB := Aside0.mk Q_HB
                      have HO569 := Aside0.mk (Q_HO569 (hon 5 (by kernel_rfl)))
                      have HA_HO569 := Aside0.mk (Q_HA_HO569 (hon 5 (by kernel_rfl)))
                      obtain ⟨c_, hv_⟩ := HA_HO569.out
                      rw [hv_] at e42
                      refine value_ (w1 := w') (v := .pointer (some (adz_v568.add ((Go.bits .and .i64 a0 1)).toNat))) (by rfl) rfl ?_ ?_
                      · go_simp
                        (try simp only [i64_w])
                        try rfl
                      refine hK.out _ _ ⟨v565, v568, adz_v568, v573, (.pointer (some (adz_v568.add ((Go.bits .and .i64 a0 1)).toNat))), m10_, m11_, m12_, m14_, (by rw [ha.out]; exact putSel_upk 5 hb_ rfl rfl rfl), Q_HO555, Q_HO560, Q_HB, Q_HO566, Q_HO569, Q_HA_HO569, fun h0_ => absurd ((hoff 10 (by kernel_rfl)).symm.trans h0_) (by decide), fun _ => rfl, fun h0_ => absurd ((hoff 10 (by kernel_rfl)).symm.trans h0_) (by decide), fun h0_ => absurd ((hoff 11 (by kernel_rfl)).symm.trans h0_) (by decide), fun h0_ => absurd ((hoff 12 (by kernel_rfl)).symm.trans h0_) (by decide), fun h0_ => absurd ((hoff 14 (by kernel_rfl)).symm.trans h0_) (by decide)⟩
                    refine steps_cons ?_ ?_
                    · rintro b a w' ⟨v565, v568, adz_v568, v573, m8_, m10_, m11_, m12_, m14_, ha, Q_HO555, Q_HO560, Q_HB, Q_HO566, Q_HO569, Q_HA_HO569, Q_HO574, Q_X8_, Q_X10_, Q_X11_, Q_X12_, Q_X14_⟩ hb_ hon hoff
                      refine ⟨_, rfl, fun K hK => ?_⟩
                      have e45 : a.tmps[45]? = some (m8_) := by rw [ha]; exact putSel_on (e := (8, 45, m8_)) 5 rfl rfl (hon 8 (by kernel_rfl)) rfl
                      rw [Q_X8_ (hon 8 (by kernel_rfl))] at e45
                      replace ha := Aside0.mk ha
                      have HO555 := Aside0.mk Q_HO555
                      have HO560 := Aside0.mk Q_HO560
                      have HB := Aside0.mk Q_HB
                      have HO569 := Aside0.mk (Q_HO569 (hon 5 (by kernel_rfl)))
                      have HA_HO569 := Aside0.mk (Q_HA_HO569 (hon 5 (by kernel_rfl)))
                      obtain ⟨c_, hv_⟩ := HA_HO569.out
                      have hF_ := HO569.out
                      rw [hv_] at hF_
                      obtain ⟨ad_, ea_, hx_⟩ := Kd.at_int (Kd.R_reads' hF_).2.2 (Go.bits .and .i64 a0 1) (of_eq_true pi570) (of_eq_true qi570)
                      cases ea_
                      refine value_ (w1 := w') (v := .int .i64 (rd y567 (Go.bits .and .i64 a0 1))) (by rfl) rfl ?_ ?_
                      · go_simp
                        (try simp only [i64_w])
                        try rfl
                      refine hK.out _ _ ⟨v565, v568, adz_v568, v573, m8_, m10_, m11_, m12_, m14_, (by rw [ha.out]; exact putSel_upk 6 hb_ rfl rfl rfl), Q_HO555, Q_HO560, Q_HB, Q_HO566, Q_HO569, Q_HA_HO569, fun h0_ => absurd ((hoff 10 (by kernel_rfl)).symm.trans h0_) (by decide), Q_X8_, fun h0_ => absurd ((hoff 10 (by kernel_rfl)).symm.trans h0_) (by decide), fun h0_ => absurd ((hoff 11 (by kernel_rfl)).symm.trans h0_) (by decide), fun h0_ => absurd ((hoff 12 (by kernel_rfl)).symm.trans h0_) (by decide), fun h0_ => absurd ((hoff 14 (by kernel_rfl)).symm.trans h0_) (by decide)⟩
                    refine steps_cons ?_ ?_
                    · rintro b a w' ⟨v565, v568, adz_v568, v573, m8_, m10_, m11_, m12_, m14_, ha, Q_HO555, Q_HO560, Q_HB, Q_HO566, Q_HO569, Q_HA_HO569, Q_HO574, Q_X8_, Q_X10_, Q_X11_, Q_X12_, Q_X14_⟩ hb_ hon hoff
                      refine ⟨_, rfl, fun K hK => ?_⟩
                      have e37 : a.tmps[37]? = some (v565) := by rw [ha]; exact putSel_on (e := (0, 37, v565)) 0 rfl rfl (hon 0 (by kernel_rfl)) rfl
                      have e46 : a.tmps[46]? = some (.int .i64 (rd y567 (Go.bits .and .i64 a0 1))) := by rw [ha]; exact putSel_on (e := (9, 46, .int .i64 (rd y567 (Go.bits .and .i64 a0 1)))) 6 rfl rfl (hon 9 (by kernel_rfl)) rfl
                      replace ha := Aside0.mk ha
                      have HO555 := Aside0.mk Q_HO555
                      have HO560 := Aside0.mk Q_HO560
                      have HB := Aside0.mk Q_HB
                      have HO566 := Aside0.mk (Q_HO566 (hon 0 (by kernel_rfl)))
                      have HO569 := Aside0.mk (Q_HO569 (hon 5 (by kernel_rfl)))
                      have HA_HO569 := Aside0.mk (Q_HA_HO569 (hon 5 (by kernel_rfl)))
                      obtain ⟨co31, eo31⟩ := HA_HO569.out
                      clear HA_HO569
                      subst eo31
                      obtain ⟨Ao32, co32, eo32⟩ := Kd.N_slice HO566.out
                      (first | subst eo32 | (injection eo32 with f1_ f2_ f3_; have f4_ := f1_.symm; have f5_ := f3_.symm; clear f1_ f2_ f3_; subst f4_; subst f5_))
                      refine goes_ Tryd.func26 (by kernel_rfl) rfl #[.slice Ao32 t564.length co32, .int .i64 (rd y567 (Go.bits .and .i64 a0 1))] (by rfl) rfl rfl (by first | (simp only [List.map_toArray, List.map_cons, List.map_nil, Act.eval, Array.getD_eq_getD_getElem?, Option.getD_some, e37, e46]; done) | (simp only [List.map_toArray, List.map_cons, List.map_nil, Act.eval, Array.getD_eq_getD_getElem?, Option.getD_some, e37, e46]; rfl)) ?_
                      with_reducible refine (back_Path.calls k _ _ t564 (rd y567 (Go.bits .and .i64 a0 1)) t571 t572 _ ?side1 ?side2 A14.out hG_).mono ?_
                      (case side1 => repeat (first | exact (Kd.N_reads' HO566.out).2.2 | (with_reducible refine Kd.C_alloc ?_ _) | (with_reducible refine Kd.C_drewN ?_ _) | (with_reducible refine Kd.C_drew ?_)))
                      (case side2 => exact (Kd.N_reads' HO566.out).2.1)
                      rintro e w33 ⟨v573, rfl, ho0, hb⟩
                      refine ⟨_, rfl, ?_⟩
                      have n0_ := Aside0.mk (Kd.N_elder' (hN_ HO555.out) (Kd.R_base ho0) hb)
                      have n1_ := Aside0.mk (Kd.R_elder' (hR_ HO560.out) (Kd.R_base ho0) hb)
                      have n2_ := Aside0.mk (Kd.N_elder' (hN_ HO566.out) (Kd.R_base ho0) hb)
                      have n3_ := Aside0.mk (Kd.R_elder' (hR_ HO569.out) (Kd.R_base ho0) hb)
                      have n4_ := Aside0.mk (Kd.R_lower (Kd.R_new' (Kd.R_new' ho0 (Kd.R_lt (hR_ HO560.out))) (Kd.R_lt (hR_ HO569.out))) hS_)
                      have n5_ := Aside0.mk (below_step hB_ hb)
                      clear HO555
                      clear HO560
                      clear HO566
                      clear HO569
                      clear HB
                      have HO555 := n0_
                      have HO560 := n1_
                      have HO566 := n2_
                      have HO569 := n3_
                      have HO574 := n4_
                      have HB := n5_
                      clear n0_ n1_ n2_ n3_ n4_ n5_
                      (try clear hb)
                      (try clear hb2)
                      (try clear hk)
                      (try clear hi)
                      (try clear ho0)
                      refine hK.out _ _ ⟨.slice Ao32 t564.length co32, .slice (some adz_v568) y567.length co31, adz_v568, v573, m8_, (.tuple #[v573, .int .i64 t572]), m11_, m12_, m14_, (by rw [ha.out]; exact putSel_upk 7 hb_ rfl rfl rfl), (hNm_ HO555.out), (hRm_ HO560.out), hB_, fun _ => (hNm_ HO566.out), fun _ => (hRm_ HO569.out), fun _ => ⟨_, rfl⟩, fun _ => (hRm_ HO574.out), Q_X8_, fun _ => rfl, fun h0_ => absurd ((hoff 11 (by kernel_rfl)).symm.trans h0_) (by decide), fun h0_ => absurd ((hoff 12 (by kernel_rfl)).symm.trans h0_) (by decide), fun h0_ => absurd ((hoff 14 (by kernel_rfl)).symm.trans h0_) (by decide)⟩
                    refine steps_cons ?_ ?_
                    · rintro b a w' ⟨v565, v568, adz_v568, v573, m8_, m10_, m11_, m12_, m14_, ha, Q_HO555, Q_HO560, Q_HB, Q_HO566, Q_HO569, Q_HA_HO569, Q_HO574, Q_X8_, Q_X10_, Q_X11_, Q_X12_, Q_X14_⟩ hb_ hon hoff
                      refine ⟨_, rfl, fun K hK => ?_⟩
                      have e47 : a.tmps[47]? = some (m10_) := by rw [ha]; exact putSel_on (e := (10, 47, m10_)) 7 rfl rfl (hon 10 (by kernel_rfl)) rfl
                      rw [Q_X10_ (hon 10 (by kernel_rfl))] at e47
                      replace ha := Aside0.mk ha
                      have HO555 := Aside0.mk Q_HO555
                      have HO560 := Aside0.mk Q_HO560
                      have HB := Aside0.mk Q_HB
                      have HO566 := Aside0.mk (Q_HO566 (hon 0 (by kernel_rfl)))
                      have HO569 := Aside0.mk (Q_HO569 (hon 5 (by kernel_rfl)))
                      have HA_HO569 := Aside0.mk (Q_HA_HO569 (hon 5 (by kernel_rfl)))
                      have HO574 := Aside0.mk (Q_HO574 (hon 10 (by kernel_rfl)))
                      refine value_ (w1 := w') (v := .tuple #[v573, .int .i64 t572]) (by rfl) rfl ?_ ?_
                      · go_simp
                        (try simp only [i64_w])
                        try rfl
                      refine hK.out _ _ ⟨v565, v568, adz_v568, v573, m8_, m10_, (.tuple #[v573, .int .i64 t572]), m12_, m14_, (by rw [ha.out]; exact putSel_upk 8 hb_ rfl rfl rfl), Q_HO555, Q_HO560, Q_HB, Q_HO566, Q_HO569, Q_HA_HO569, Q_HO574, Q_X8_, Q_X10_, fun _ => rfl, fun h0_ => absurd ((hoff 12 (by kernel_rfl)).symm.trans h0_) (by decide), fun h0_ => absurd ((hoff 14 (by kernel_rfl)).symm.trans h0_) (by decide)⟩
                    refine steps_cons ?_ ?_
                    · rintro b a w' ⟨v565, v568, adz_v568, v573, m8_, m10_, m11_, m12_, m14_, ha, Q_HO555, Q_HO560, Q_HB, Q_HO566, Q_HO569, Q_HA_HO569, Q_HO574, Q_X8_, Q_X10_, Q_X11_, Q_X12_, Q_X14_⟩ hb_ hon hoff
                      refine ⟨_, rfl, fun K hK => ?_⟩
                      have e36 : a.tmps[36]? = some (m11_) := by rw [ha]; exact putSel_on (e := (11, 36, m11_)) 8 rfl rfl (hon 11 (by kernel_rfl)) rfl
                      rw [Q_X11_ (hon 11 (by kernel_rfl))] at e36
                      replace ha := Aside0.mk ha
                      have HO555 := Aside0.mk Q_HO555
                      have HO560 := Aside0.mk Q_HO560
                      have HB := Aside0.mk Q_HB
                      have HO566 := Aside0.mk (Q_HO566 (hon 0 (by kernel_rfl)))
                      have HO569 := Aside0.mk (Q_HO569 (hon 5 (by kernel_rfl)))
                      have HA_HO569 := Aside0.mk (Q_HA_HO569 (hon 5 (by kernel_rfl)))
                      have HO574 := Aside0.mk (Q_HO574 (hon 10 (by kernel_rfl)))
                      obtain ⟨Ao12_0, co12_0, eo_⟩ := Kd.R_slice HO574.out
                      subst eo_
                      refine value_ (w1 := w') (v := .slice Ao12_0 t571.length co12_0) (by rfl) rfl ?_ ?_
                      · go_simp
                        (try simp only [i64_w])
                        try rfl
                      refine hK.out _ _ ⟨v565, v568, adz_v568, .slice Ao12_0 t571.length co12_0, m8_, m10_, m11_, (.slice Ao12_0 t571.length co12_0), m14_, (by rw [ha.out]; exact putSel_upk 9 hb_ rfl rfl rfl), Q_HO555, Q_HO560, Q_HB, Q_HO566, Q_HO569, Q_HA_HO569, Q_HO574, Q_X8_, Q_X10_, Q_X11_, fun _ => rfl, fun h0_ => absurd ((hoff 14 (by kernel_rfl)).symm.trans h0_) (by decide)⟩
                    refine steps_cons ?_ ?_
                    · rintro b a w' ⟨v565, v568, adz_v568, v573, m8_, m10_, m11_, m12_, m14_, ha, Q_HO555, Q_HO560, Q_HB, Q_HO566, Q_HO569, Q_HA_HO569, Q_HO574, Q_X8_, Q_X10_, Q_X11_, Q_X12_, Q_X14_⟩ hb_ hon hoff
                      refine ⟨_, rfl, fun K hK => ?_⟩
                      have e36 : a.tmps[36]? = some (m11_) := by rw [ha]; exact putSel_on (e := (11, 36, m11_)) 8 rfl rfl (hon 11 (by kernel_rfl)) rfl
                      rw [Q_X11_ (hon 11 (by kernel_rfl))] at e36
                      replace ha := Aside0.mk ha
                      have HO555 := Aside0.mk Q_HO555
                      have HO560 := Aside0.mk Q_HO560
                      have HB := Aside0.mk Q_HB
                      have HO566 := Aside0.mk (Q_HO566 (hon 0 (by kernel_rfl)))
                      have HO569 := Aside0.mk (Q_HO569 (hon 5 (by kernel_rfl)))
                      have HA_HO569 := Aside0.mk (Q_HA_HO569 (hon 5 (by kernel_rfl)))
                      have HO574 := Aside0.mk (Q_HO574 (hon 10 (by kernel_rfl)))
                      obtain ⟨Ao13_0, co13_0, eo_⟩ := Kd.R_slice HO574.out
                      subst eo_
                      refine value_ (w1 := w') (v := .int .i64 t572) (by rfl) rfl ?_ ?_
                      · go_simp
                        (try simp only [i64_w])
                        try rfl
                      refine hK.out _ _ ⟨v565, v568, adz_v568, .slice Ao13_0 t571.length co13_0, m8_, m10_, m11_, m12_, m14_, (by rw [ha.out]; exact putSel_upk 10 hb_ rfl rfl rfl), Q_HO555, Q_HO560, Q_HB, Q_HO566, Q_HO569, Q_HA_HO569, Q_HO574, Q_X8_, Q_X10_, Q_X11_, Q_X12_, Q_X14_⟩
                    refine steps_cons ?_ ?_
                    · rintro b a w' ⟨v565, v568, adz_v568, v573, m8_, m10_, m11_, m12_, m14_, ha, Q_HO555, Q_HO560, Q_HB, Q_HO566, Q_HO569, Q_HA_HO569, Q_HO574, Q_X8_, Q_X10_, Q_X11_, Q_X12_, Q_X14_⟩ hb_ hon hoff
                      refine ⟨_, rfl, fun K hK => ?_⟩
                      have e48 : a.tmps[48]? = some (m12_) := by rw [ha]; exact putSel_on (e := (12, 48, m12_)) 9 rfl rfl (hon 12 (by kernel_rfl)) rfl
                      rw [Q_X12_ (hon 12 (by kernel_rfl))] at e48
                      replace ha := Aside0.mk ha
                      have HO555 := Aside0.mk Q_HO555
                      have HO560 := Aside0.mk Q_HO560
                      have HB := Aside0.mk Q_HB
                      have HO566 := Aside0.mk (Q_HO566 (hon 0 (by kernel_rfl)))
                      have HO569 := Aside0.mk (Q_HO569 (hon 5 (by kernel_rfl)))
                      have HA_HO569 := Aside0.mk (Q_HA_HO569 (hon 5 (by kernel_rfl)))
                      have HO574 := Aside0.mk (Q_HO574 (hon 10 (by kernel_rfl)))
                      refine value_ (w1 := w') (v := v573) (by rfl) rfl ?_ ?_
                      · go_simp
                        (try simp only [i64_w])
                        try rfl
                      refine hK.out _ _ ⟨v565, v568, adz_v568, v573, m8_, m10_, m11_, m12_, (v573), (by rw [ha.out]; exact putSel_upk 11 hb_ rfl rfl rfl), Q_HO555, Q_HO560, Q_HB, Q_HO566, Q_HO569, Q_HA_HO569, Q_HO574, Q_X8_, Q_X10_, Q_X11_, Q_X12_, fun _ => rfl⟩
                    refine steps_cons ?_ ?_
                    · rintro b a w' ⟨v565, v568, adz_v568, v573, m8_, m10_, m11_, m12_, m14_, ha, Q_HO555, Q_HO560, Q_HB, Q_HO566, Q_HO569, Q_HA_HO569, Q_HO574, Q_X8_, Q_X10_, Q_X11_, Q_X12_, Q_X14_⟩ hb_ hon hoff
                      refine ⟨_, rfl, fun K hK => ?_⟩
                      have e49 : a.tmps[49]? = some (.int .i64 t572) := by rw [ha]; exact putSel_on (e := (13, 49, .int .i64 t572)) 10 rfl rfl (hon 13 (by kernel_rfl)) rfl
                      replace ha := Aside0.mk ha
                      have HO555 := Aside0.mk Q_HO555
                      have HO560 := Aside0.mk Q_HO560
                      have HB := Aside0.mk Q_HB
                      have HO566 := Aside0.mk (Q_HO566 (hon 0 (by kernel_rfl)))
                      have HO569 := Aside0.mk (Q_HO569 (hon 5 (by kernel_rfl)))
                      have HA_HO569 := Aside0.mk (Q_HA_HO569 (hon 5 (by kernel_rfl)))
                      have HO574 := Aside0.mk (Q_HO574 (hon 10 (by kernel_rfl)))
                      refine value_ (w1 := w') (v := .int .i64 t572) (by rfl) rfl ?_ ?_
                      · go_simp
                        (try simp only [i64_w])
                        try rfl
                      refine hK.out _ _ ⟨v565, v568, adz_v568, v573, m8_, m10_, m11_, m12_, m14_, (by rw [ha.out]; exact putSel_upk 12 hb_ rfl rfl rfl), Q_HO555, Q_HO560, Q_HB, Q_HO566, Q_HO569, Q_HA_HO569, Q_HO574, Q_X8_, Q_X10_, Q_X11_, Q_X12_, Q_X14_⟩
                    exact steps_nil
                  rintro b a w32 hall ⟨v565, v568, adz_v568, v573, m8_, m10_, m11_, m12_, m14_, ha, Q_HO555, Q_HO560, Q_HB, Q_HO566, Q_HO569, Q_HA_HO569, Q_HO574, Q_X8_, Q_X10_, Q_X11_, Q_X12_, Q_X14_⟩
                  clear HB HO555 HO560
                  have hb0_ := hall 0 (by kernel_rfl)
                  have hb2_ := hall 2 (by kernel_rfl)
                  have hb4_ := hall 4 (by kernel_rfl)
                  have hb5_ := hall 5 (by kernel_rfl)
                  have hb7_ := hall 7 (by kernel_rfl)
                  have hb8_ := hall 8 (by kernel_rfl)
                  have hb9_ := hall 9 (by kernel_rfl)
                  have hb10_ := hall 10 (by kernel_rfl)
                  have hb11_ := hall 11 (by kernel_rfl)
                  have hb12_ := hall 12 (by kernel_rfl)
                  have hb13_ := hall 13 (by kernel_rfl)
                  have hb14_ := hall 14 (by kernel_rfl)
                  have hb15_ := hall 15 (by kernel_rfl)
                  subst ha
                  obtain rfl := Q_X8_ hb8_
                  obtain rfl := Q_X10_ hb10_
                  obtain rfl := Q_X11_ hb11_
                  obtain rfl := Q_X12_ hb12_
                  obtain rfl := Q_X14_ hb14_
                  simp only [putSel, hb0_, hb2_, hb4_, hb5_, hb7_, hb8_, hb9_, hb10_, hb11_, hb12_, hb13_, hb14_, hb15_, if_true, Act.put, List.setIfInBounds_toArray, List.set_cons_zero, List.set_cons_succ]
                  have HO555 := Aside0.mk Q_HO555
                  clear Q_HO555
                  have HO560 := Aside0.mk Q_HO560
                  clear Q_HO560
                  have HB := Aside0.mk Q_HB
                  clear Q_HB
                  have HO566 := Aside0.mk (Q_HO566 hb0_)
                  clear Q_HO566
                  have HO569 := Aside0.mk (Q_HO569 hb5_)
                  clear Q_HO569
                  have HA_HO569 := Aside0.mk (Q_HA_HO569 hb5_)
                  clear Q_HA_HO569
                  have HO574 := Aside0.mk (Q_HO574 hb10_)
                  clear Q_HO574
                  clear hall hb0_ hb2_ hb4_ hb5_ hb7_ hb8_ hb9_ hb10_ hb11_ hb12_ hb13_ hb14_ hb15_
                  obtain ⟨co33, eo33⟩ := HA_HO569.out
                  clear HA_HO569
                  subst eo33
                  obtain ⟨Ao34, co34, eo34⟩ := Kd.R_slice HO560.out
                  subst eo34
                  try go_wp2_with (first | (go_at_call 20; (with_reducible refine (sleuthlaw0_Num.calls t558 t575 _ A16.out).mono ?_); rintro e w' ⟨rfl, ⟨nd, rfl⟩⟩))
                  go_ret
                  exact ⟨by first | rfl | (simp [errW_none, errW_some] <;> rfl) | (simp [*, errW_none, errW_some] <;> rfl), by repeat (first | (with_reducible first | exact HB.out | apply below_alloc | apply pw_below_drewN | apply below_drew1) | exact HB.out)⟩
                · replace c18 := Bool.eq_false_iff.mpr c18
                  subst c18
                  have H1 : ((sleuthlaw0_Num.f t563).bind fun t576 => (if t576 = 2400 then ((sleuthlaw0_Num.f t572).bind fun t577 => (some (t577 == 2400))) else (some false))) = some r := by rw [if_neg (show ¬ (false = true) by decide)] at H; exact H
                  clear H
                  have H := H1
                  clear H1
                  replace H := Option.bind_eq_some_iff.mp H
                  obtain ⟨t576, A350, H⟩ := H
                  replace H : (if t576 = 2400 then ((sleuthlaw0_Num.f t572).bind fun t577 => (some (t577 == 2400))) else (some false)) = some r := H
                  have A35 := Aside0.mk A350
                  clear A350
                  by_cases c36 : t576 = 2400
                  · rw [if_pos c36] at H
                    have c36b0 : (t576 == 2400) = true := beq_iff_eq.mpr c36
                    have c36b1 : (t576 != 2400) = false := bne_eq_false_iff_eq.mpr c36
                    clear c36
                    replace H := Option.bind_eq_some_iff.mp H
                    obtain ⟨t577, A370, H⟩ := H
                    replace H : (some (t577 == 2400)) = some r := H
                    have A37 := Aside0.mk A370
                    clear A370
                    obtain rfl := Option.some.inj H
                    go_enter Tryd.func10, Tryd.ntmps10
                    try go_wp2_with (first | ((with_reducible refine gate_callee (f := 30) rfl ?_); refine goesL_ (some 14) rfl rfl Tryd.func30 (by kernel_rfl) rfl #[] rfl hL_ ?_; (with_reducible refine (sleuthlaw24_awake.calls k  true _ A3.out hG_).mono ?_); rintro e w38 ⟨rfl, hb⟩; refine ⟨_, rfl, ?_⟩; have n0_ := Aside0.mk (below_step hB_ hb); clear HB; have HB := n0_; clear n0_; (try clear hb); (try clear hb2); (try clear hk); (try clear hi)) | ((with_reducible refine gate_callee (f := 31) rfl ?_); refine goesL_ (some 19) rfl rfl Tryd.func31 (by kernel_rfl) rfl #[] rfl hL_ ?_; (with_reducible refine (sleuthlaw24_some.calls  t553 _ A5.out).mono ?_); rintro e w39 ⟨v554, rfl, ho0, hb⟩; refine ⟨_, rfl, ?_⟩; have n0_ := Aside0.mk (Kd.N_lower (Kd.N_mono (ok' := fun k_ => True) ho0 (fun k_ hk_ => trivial)) hS_); have n1_ := Aside0.mk (below_step hB_ hb); clear HB; have HO555 := n0_; have HB := n1_; clear n0_ n1_; (try clear hb); (try clear hb2); (try clear hk); (try clear hi); (try clear ho0); have p8 : 0 ≤ ((Go.bits .and .i64 a1 3) : Int) := of_decide_eq_true hA_; have q8 : ((Go.bits .and .i64 a1 3) : Int) < ((t553.length : Int) : Int) := of_decide_eq_true hA_; obtain ⟨go8, co8, eo8, gb8, gl8, cl8, HG8⟩ := Kd.N_form HO555.out (by omega); (first | cases eo8 | (injection eo8 with ea_ en_ ec_; (first | subst ea_ | (injection ea_ with ea_; subst ea_)); subst ec_; clear en_)); have GB8 := Aside0.mk gb8; have GG8 := Aside0.mk HG8; clear gb8 gl8 HG8; obtain ⟨ce8, hcl8, hM8, hcc8, hfr8⟩ := Kd.N_elem HO555.out z44 ((Go.bits .and .i64 a1 3) : Int) p8 q8; obtain ⟨ua8_2, uc8_2, rfl, ul8_2, ge8_2⟩ := k44_openF hM8; have hx8_0 : w39.cell? ⟨go8, ((Go.bits .and .i64 a1 3) : Int).toNat * 4, none⟩ = some (.int .i64 ((rd_T44 t553 (Go.bits .and .i64 a1 3)).f0)) := hcc8 0 _ rfl; have hx8_1 : w39.cell? ⟨go8, ((Go.bits .and .i64 a1 3) : Int).toNat * 4 + 1, none⟩ = some (.int .i64 ((rd_T44 t553 (Go.bits .and .i64 a1 3)).f1)) := hcc8 1 _ rfl; have hx8_2 : w39.cell? ⟨go8, ((Go.bits .and .i64 a1 3) : Int).toNat * 4 + 2, none⟩ = some (.slice ua8_2 ((rd_T44 t553 (Go.bits .and .i64 a1 3)).f2).length uc8_2) := hcc8 2 _ rfl; have hx8_3 : w39.cell? ⟨go8, ((Go.bits .and .i64 a1 3) : Int).toNat * 4 + 3, none⟩ = some (.string ((rd_T44 t553 (Go.bits .and .i64 a1 3)).f3)) := hcc8 3 _ rfl; have hf8_0 : w39.frozen? ⟨go8, ((Go.bits .and .i64 a1 3) : Int).toNat * 4, none⟩ = false := hfr8 0; have hf8_1 : w39.frozen? ⟨go8, ((Go.bits .and .i64 a1 3) : Int).toNat * 4 + 1, none⟩ = false := hfr8 1; have hf8_2 : w39.frozen? ⟨go8, ((Go.bits .and .i64 a1 3) : Int).toNat * 4 + 2, none⟩ = false := hfr8 2; have hf8_3 : w39.frozen? ⟨go8, ((Go.bits .and .i64 a1 3) : Int).toNat * 4 + 3, none⟩ = false := hfr8 3; clear hcl8 hcc8 hfr8 hM8; replace p8 := eq_true p8; replace q8 := eq_true q8; have HX40 := Aside0.mk (show Kd.N k44 44 w39 w.heap.size (fun _ => True) (.slice (some ⟨go8, 0, none⟩) t553.length co8) t553 from (hN_ HO555.out)); obtain ⟨ce40, hcl40, hM40, hcc40, hfr40⟩ := Kd.N_elem HX40.out z44 ((Go.bits .and .i64 a1 3) : Int) (of_decide_eq_true hA_) (by have h_ : ((Go.bits .and .i64 a1 3) : Int) < ((t553.length : Int) : Int) := of_decide_eq_true hA_; first | exact h_ | (have e_ := (Kd.N_reads' HO555.out).1; omega) | simpa using h_); obtain ⟨ua40_2, uc40_2, rfl, ul40_2, ge40_2⟩ := k44_openF hM40; have HP40 := Kd.N_seg HX40.out ((Go.bits .and .i64 a1 3) : Int) (of_decide_eq_true hA_) (by have h_ : ((Go.bits .and .i64 a1 3) : Int) < ((t553.length : Int) : Int) := of_decide_eq_true hA_; first | exact h_ | (have e_ := (Kd.N_reads' HO555.out).1; omega) | simpa using h_) (seg := [.string (⟨#[63]⟩ : ByteArray)]) (j := 3) hcl40 hcc40 (show 4 ≤ 4 from by decide) (x' := (⟨(rd_T44 t553 (Go.bits .and .i64 a1 3)).f0, (rd_T44 t553 (Go.bits .and .i64 a1 3)).f1, (rd_T44 t553 (Go.bits .and .i64 a1 3)).f2, (⟨#[63]⟩ : ByteArray)⟩ : S44)) (k44_mkF _ _ (⟨(rd_T44 t553 (Go.bits .and .i64 a1 3)).f0, (rd_T44 t553 (Go.bits .and .i64 a1 3)).f1, (rd_T44 t553 (Go.bits .and .i64 a1 3)).f2, (⟨#[63]⟩ : ByteArray)⟩ : S44) ul40_2 ge40_2) (fun _ hk => hk); have hx40_3 := hcc40 3 _ rfl; (try simp only [show (k44).sz = 4 from rfl, Nat.mul_one, Nat.add_zero] at hx40_3); have hf40_3 := hfr40 3; (try simp only [show (k44).sz = 4 from rfl, Nat.mul_one, Nat.add_zero] at hf40_3); clear hcl40 hcc40 hfr40 hM40) | ((with_reducible refine gate_store (t := 9) (p := 24) rfl ?_); refine store_event (t := 9) (p := 24) (v := ?vo_w41) (w1 := (w39.setCell ⟨go8, ((Go.bits .and .i64 a1 3) : Int).toNat * 4 + 3, none⟩ (.string (⟨#[63]⟩ : ByteArray)))) ?hg ?ho ?hn ?hr ?_; (case ho => rfl); (case hg => rfl); (case hn => rfl); (case hr => first | (go_simp; done) | (go_simp; rfl)); intro w41 hw; have hg : w39.grownBy w41 (some go8) := (by rw [hw]; exact HP40.2); have hp_ : Kd.N k44 44 w41 w.heap.size (fun _ => True) (.slice (some ⟨go8, 0, none⟩) t553.length co8) y556 := (by rw [hw, Ny556.out]; exact HP40.1); clear HP40; have n0_ := Aside0.mk (hp_); have n1_ := Aside0.mk ((by rw [hw]; exact below_set (HB.out) GB8.out : Below w.heap.size w w41)); clear HO555; clear HB; have HO555 := n0_; have HB := n1_; clear n0_ n1_; clear hg hw hp_) | ((with_reducible refine gate_callee (f := 26) rfl ?_); refine goesL_ (some 27) rfl rfl Tryd.func26 (by kernel_rfl) rfl #[.slice (some ⟨go8, 0, none⟩) y556.length co8, .int .i64 0] rfl (by (try simp only [List.map_toArray, List.map_cons, List.map_nil]); first | done | (rw [show y556.length = t553.length from (Kd.N_reads' HO555.out).1.symm] <;> rfl) | rfl | (simp only [List.length_drop, List.length_take]; rfl)) ?_; (with_reducible refine (back_Path.calls k _ _ y556 0 t557 t558 _ ?side1 ?side2 A9.out hG_).mono ?_); (case side1 => repeat (first | exact (Kd.N_reads' HO555.out).2.2 | (with_reducible refine Kd.C_alloc ?_ _) | (with_reducible refine Kd.C_drewN ?_ _) | (with_reducible refine Kd.C_drew ?_))); (case side2 => rw [show y556.length = t553.length from (Kd.N_reads' HO555.out).1.symm]; exact (Kd.N_reads' HO555.out).2.1); rintro e w42 ⟨v559, rfl, ho0, hb⟩; refine ⟨_, rfl, ?_⟩; have n0_ := Aside0.mk (Kd.N_elder' (hN_ HO555.out) (Kd.R_base ho0) hb); have n1_ := Aside0.mk (Kd.R_lower ho0 hS_); have n2_ := Aside0.mk (below_step hB_ hb); clear HO555; clear HB; have HO555 := n0_; have HO560 := n1_; have HB := n2_; clear n0_ n1_ n2_; (try clear hb); (try clear hb2); (try clear hk); (try clear hi); (try clear ho0)) | ((with_reducible refine gate_callee (f := 28) rfl ?_); refine goesL_ (some 32) rfl rfl Tryd.func28 (by kernel_rfl) rfl #[.slice (some ⟨go8, 0, none⟩) y556.length co8] rfl (by (try simp only [List.map_toArray, List.map_cons, List.map_nil]); first | done | (rw [show y556.length = t553.length from (Kd.N_reads' HO555.out).1.symm] <;> rfl) | rfl | (simp only [List.length_drop, List.length_take]; rfl)) ?_; (with_reducible refine (back_Last.calls k _ _ y556 t561 false t563 _ ?side1 ?side2 A10.out hG_).mono ?_); (case side1 => repeat (first | exact (Kd.N_reads' HO555.out).2.2 | (with_reducible refine Kd.C_alloc ?_ _) | (with_reducible refine Kd.C_drewN ?_ _) | (with_reducible refine Kd.C_drew ?_))); (case side2 => rw [show y556.length = t553.length from (Kd.N_reads' HO555.out).1.symm]; exact (Kd.N_reads' HO555.out).2.1); rintro e w43 ⟨rfl, hb⟩; refine ⟨_, rfl, ?_⟩; have n0_ := Aside0.mk (Kd.N_below (hN_ HO555.out) hb); have n1_ := Aside0.mk (Kd.R_below (hR_ HO560.out) hb); have n2_ := Aside0.mk (below_step hB_ hb); clear HO555; clear HO560; clear HB; have HO555 := n0_; have HO560 := n1_; have HB := n2_; clear n0_ n1_ n2_; (try clear hb); (try clear hb2); (try clear hk); (try clear hi)))
                    have pi570 : (0 ≤ ((Go.bits .and .i64 a0 1) : Int)) = True := eq_true (of_decide_eq_true hA_)
                    have qi570 : ((Go.bits .and .i64 a0 1) < (y567.length : Int)) = True := eq_true (of_decide_eq_true hA_)
                    have n0_ := Aside0.mk (Kd.N_drew HO555.out)
                    have n1_ := Aside0.mk (Kd.R_drew HO560.out)
                    have n2_ := Aside0.mk (below_drew1 HB.out)
                    clear HO555
                    clear HO560
                    clear HB
                    have HO555 := n0_
                    have HO560 := n1_
                    have HB := n2_
                    clear n0_ n1_ n2_
                    refine start_ (n := 16) (S := fun w' => True) (ds := []) #[false, false, false, false, false, false, false, false, false, false, false, false, false, false, false, false] (by kernel_rfl) rfl rfl trivial (fun hHeld => ?_); refine with_tabW sleuthlaw24_BackForms.tab8 sleuthlaw24_BackForms.bits8 (fun HT_ HW_ => ?_)
                    generalize w43.drew = w44 at HO555 HO560 HB hHeld ⊢
                    refine pure_ (i := 1) (N := some 38) (v := ?_) (a' := ?_) #[false, true, false, false, false, false, false, false, false, false, false, false, false, false, false, false] rfl rfl (any_of HT_.out (by kernel_rfl)) (fun _ _ _ h => h) (Or.inl ⟨by rfl, ?_⟩) ?_ ?_
                    rotate_left
                    · intro w'
                      go_simp
                      with_reducible rfl
                    rotate_left
                    · simp only [Act.put, List.setIfInBounds_toArray, List.set_cons_zero, List.set_cons_succ, i64_w, i32_w]
                      rfl
                    refine pure_ (i := 3) (N := some 40) (v := ?_) (a' := ?_) #[false, true, false, true, false, false, false, false, false, false, false, false, false, false, false, false] rfl rfl (any_of HT_.out (by kernel_rfl)) (fun _ _ _ h => h) (Or.inl ⟨by rfl, ?_⟩) ?_ ?_
                    rotate_left
                    · intro w'
                      go_simp
                      with_reducible rfl
                    rotate_left
                    · simp only [Act.put, List.setIfInBounds_toArray, List.set_cons_zero, List.set_cons_succ, i64_w, i32_w]
                      rfl
                    refine pure_ (i := 6) (N := some 43) (v := ?_) (a' := ?_) #[false, true, false, true, false, false, true, false, false, false, false, false, false, false, false, false] rfl rfl (any_of HT_.out (by kernel_rfl)) (fun _ _ _ h => h) (Or.inl ⟨by rfl, ?_⟩) ?_ ?_
                    rotate_left
                    · intro w'
                      go_simp
                      with_reducible rfl
                    rotate_left
                    · simp only [Act.put, List.setIfInBounds_toArray, List.set_cons_zero, List.set_cons_succ, i64_w, i32_w]
                      rfl
                    refine inv_at [0, 2, 4, 5, 7, 8, 9, 10, 11, 12, 13, 14, 15] (fun a0_ b a w' => ∃ (v565 : Value) (v568 : Value) (adz_v568 : Addr) (v573 : Value) (m8_ : Value) (m10_ : Value) (m11_ : Value) (m12_ : Value) (m14_ : Value), a = putSel a0_ b [(0, 37, v565), (2, 39, .int .i64 (wrap64 (-(wrap64 (1 + (Go.bits .and .i64 a1 1023)))))), (4, 41, .int .i64 (wrap64 (4 + (wrap64 (1 + (Go.bits .and .i64 a1 1023)))))), (5, 42, v568), (7, 44, .int .i64 (Go.bits .and .i64 a0 1)), (8, 45, m8_), (9, 46, .int .i64 (rd y567 (Go.bits .and .i64 a0 1))), (10, 47, m10_), (11, 36, m11_), (12, 48, m12_), (13, 49, .int .i64 t572), (14, 12, m14_), (15, 13, .int .i64 t572)] ∧ (Kd.N k44 44 w' w.heap.size (fun k_ => some k_ ≠ (v559 : Value).ownBlock) (.slice (some ⟨go8, 0, none⟩) t553.length co8) y556) ∧ (Kd.R (Kd.int .i64) 3 w' w.heap.size (fun _ => True) v559 t557) ∧ (Below w.heap.size w w') ∧ (b 0 = true → Kd.N k44 44 w' w.heap.size (fun k_ => some k_ ≠ (.slice (some ⟨go8, 0, none⟩) t553.length co8 : Value).ownBlock ∧ some k_ ≠ (v559 : Value).ownBlock) v565 t564) ∧ (b 5 = true → Kd.R (Kd.int .i64) 3 w' w.heap.size (fun k_ => some k_ ≠ (v559 : Value).ownBlock) v568 y567) ∧ (b 5 = true → ∃ c_, (v568 : Value) = .slice (some adz_v568) y567.length c_) ∧ (b 10 = true → Kd.R (Kd.int .i64) 3 w' w.heap.size (fun k_ => some k_ ≠ (v559 : Value).ownBlock) v573 t571) ∧ (b 8 = true → (m8_ : Value) = .pointer (some (adz_v568.add ((Go.bits .and .i64 a0 1)).toNat))) ∧ (b 10 = true → (m10_ : Value) = .tuple #[v573, .int .i64 t572]) ∧ (b 11 = true → (m11_ : Value) = .tuple #[v573, .int .i64 t572]) ∧ (b 12 = true → (m12_ : Value) = v573) ∧ (b 14 = true → (m14_ : Value) = v573)) HT_.out HW_.out (by kernel_rfl) (by kernel_rfl) ?_ ?_ ?_
                    · exact ⟨.bool false, .bool false, ⟨0, 0, none⟩, .bool false, .bool false, .bool false, .bool false, .bool false, .bool false, by simp only [putSel, Bool.false_eq_true, if_false], (by first | exact HO555.out | exact Kd.N_mono HO555.out (fun _ hk => by simp_all) | exact Kd.R_mono HO555.out (fun _ hk => by simp_all)), (by first | exact HO560.out | exact Kd.N_mono HO560.out (fun _ hk => by simp_all) | exact Kd.R_mono HO560.out (fun _ hk => by simp_all)), HB.out, fun h_ => absurd h_ (by decide), fun h_ => absurd h_ (by decide), fun h_ => absurd h_ (by decide), fun h_ => absurd h_ (by decide), fun h_ => absurd h_ (by decide), fun h_ => absurd h_ (by decide), fun h_ => absurd h_ (by decide), fun h_ => absurd h_ (by decide), fun h_ => absurd h_ (by decide)⟩
                    · skip
                      clear HB HO555 HO560
                      refine steps_cons ?_ ?_
                      · rintro b a w' ⟨v565, v568, adz_v568, v573, m8_, m10_, m11_, m12_, m14_, ha, Q_HO555, Q_HO560, Q_HB, Q_HO566, Q_HO569, Q_HA_HO569, Q_HO574, Q_X8_, Q_X10_, Q_X11_, Q_X12_, Q_X14_⟩ hb_ hon hoff
                        refine ⟨_, rfl, fun K hK => ?_⟩
                        replace ha := Aside0.mk ha
                        have HO555 := Aside0.mk Q_HO555
                        have HO560 := Aside0.mk Q_HO560
                        have HB := Aside0.mk Q_HB
                        refine goes_ Tryd.func31 (by kernel_rfl) rfl #[] (by rfl) rfl rfl (by first | (simp only [List.map_toArray, List.map_cons, List.map_nil, Act.eval, Array.getD_eq_getD_getElem?, Option.getD_some]; done) | (simp only [List.map_toArray, List.map_cons, List.map_nil, Act.eval, Array.getD_eq_getD_getElem?, Option.getD_some]; rfl)) ?_
                        with_reducible refine (sleuthlaw24_some.calls  t564 _ A11.out).mono ?_
                        rintro e w45 ⟨v565, rfl, ho0, hb⟩
                        refine ⟨_, rfl, ?_⟩
                        have n0_ := Aside0.mk (Kd.N_elder' (hN_ HO555.out) (Kd.N_base ho0) hb)
                        have n1_ := Aside0.mk (Kd.R_below (hR_ HO560.out) hb)
                        have n2_ := Aside0.mk (Kd.N_lower (Kd.N_mono (ok' := fun k_ => some k_ ≠ (.slice (some ⟨go8, 0, none⟩) t553.length co8 : Value).ownBlock ∧ some k_ ≠ (v559 : Value).ownBlock) ho0 (fun k_ hk_ => ⟨(Kd.fresh' (Kd.N_lt (hN_ HO555.out)) k_ hk_), (Kd.fresh' (Kd.R_lt (hR_ HO560.out)) k_ hk_)⟩)) hS_)
                        have n3_ := Aside0.mk (below_step hB_ hb)
                        have z_HO569 := fun (h0_ : b 5 = true) => (show Kd.R (Kd.int .i64) 3 w45 w.heap.size (fun k_ => some k_ ≠ (v559 : Value).ownBlock) v568 y567 from by first | exact (Kd.R_below (by (with_reducible repeat (first | apply Kd.R_alloc | apply Kd.R_drewN | apply Kd.R_drew)); exact (Q_HO569 h0_)) hb) | exact Kd.R_mono (Kd.R_below (by (with_reducible repeat (first | apply Kd.R_alloc | apply Kd.R_drewN | apply Kd.R_drew)); exact (Q_HO569 h0_)) hb) (fun _ h_ => by first | trivial | exact h_ | exact h_.1))
                        clear HO555
                        clear HO560
                        clear HB
                        have HO555 := n0_
                        have HO560 := n1_
                        have HO566 := n2_
                        have HB := n3_
                        clear n0_ n1_ n2_ n3_
                        (try clear hb)
                        (try clear hb2)
                        (try clear hk)
                        (try clear hi)
                        (try clear ho0)
                        refine hK.out _ _ ⟨v565, v568, adz_v568, v573, m8_, m10_, m11_, m12_, m14_, (by rw [ha.out]; exact putSel_upk 0 hb_ rfl rfl rfl), (hNm_ HO555.out), (hRm_ HO560.out), hB_, fun _ => (hNm_ HO566.out), z_HO569, Q_HA_HO569, fun h0_ => absurd ((hoff 10 (by kernel_rfl)).symm.trans h0_) (by decide), Q_X8_, fun h0_ => absurd ((hoff 10 (by kernel_rfl)).symm.trans h0_) (by decide), fun h0_ => absurd ((hoff 11 (by kernel_rfl)).symm.trans h0_) (by decide), fun h0_ => absurd ((hoff 12 (by kernel_rfl)).symm.trans h0_) (by decide), fun h0_ => absurd ((hoff 14 (by kernel_rfl)).symm.trans h0_) (by decide)⟩
                      refine steps_cons ?_ ?_
                      · rintro b a w' ⟨v565, v568, adz_v568, v573, m8_, m10_, m11_, m12_, m14_, ha, Q_HO555, Q_HO560, Q_HB, Q_HO566, Q_HO569, Q_HA_HO569, Q_HO574, Q_X8_, Q_X10_, Q_X11_, Q_X12_, Q_X14_⟩ hb_ hon hoff
                        refine ⟨_, rfl, fun K hK => ?_⟩
                        have e38 : a.tmps[38]? = some (.int .i64 (wrap64 (1 + (Go.bits .and .i64 a1 1023)))) := by rw [ha]; exact (putSel_off rfl).trans rfl
                        replace ha := Aside0.mk ha
                        have HO555 := Aside0.mk Q_HO555
                        have HO560 := Aside0.mk Q_HO560
                        have HB := Aside0.mk Q_HB
                        refine value_ (w1 := w') (v := .int .i64 (wrap64 (-(wrap64 (1 + (Go.bits .and .i64 a1 1023)))))) (by rfl) rfl ?_ ?_
                        · go_simp
                          (try simp only [i64_w])
                          try rfl
                        refine hK.out _ _ ⟨v565, v568, adz_v568, v573, m8_, m10_, m11_, m12_, m14_, (by rw [ha.out]; exact putSel_upk 1 hb_ rfl rfl rfl), Q_HO555, Q_HO560, Q_HB, Q_HO566, fun h0_ => absurd ((hoff 5 (by kernel_rfl)).symm.trans h0_) (by decide), fun h0_ => absurd ((hoff 5 (by kernel_rfl)).symm.trans h0_) (by decide), fun h0_ => absurd ((hoff 10 (by kernel_rfl)).symm.trans h0_) (by decide), fun h0_ => absurd ((hoff 8 (by kernel_rfl)).symm.trans h0_) (by decide), fun h0_ => absurd ((hoff 10 (by kernel_rfl)).symm.trans h0_) (by decide), fun h0_ => absurd ((hoff 11 (by kernel_rfl)).symm.trans h0_) (by decide), fun h0_ => absurd ((hoff 12 (by kernel_rfl)).symm.trans h0_) (by decide), fun h0_ => absurd ((hoff 14 (by kernel_rfl)).symm.trans h0_) (by decide)⟩
                      refine steps_cons ?_ ?_
                      · rintro b a w' ⟨v565, v568, adz_v568, v573, m8_, m10_, m11_, m12_, m14_, ha, Q_HO555, Q_HO560, Q_HB, Q_HO566, Q_HO569, Q_HA_HO569, Q_HO574, Q_X8_, Q_X10_, Q_X11_, Q_X12_, Q_X14_⟩ hb_ hon hoff
                        refine ⟨_, rfl, fun K hK => ?_⟩
                        have e40 : a.tmps[40]? = some (.int .i64 (wrap64 (1 + (Go.bits .and .i64 a1 1023)))) := by rw [ha]; exact (putSel_off rfl).trans rfl
                        replace ha := Aside0.mk ha
                        have HO555 := Aside0.mk Q_HO555
                        have HO560 := Aside0.mk Q_HO560
                        have HB := Aside0.mk Q_HB
                        refine value_ (w1 := w') (v := .int .i64 (wrap64 (4 + (wrap64 (1 + (Go.bits .and .i64 a1 1023)))))) (by rfl) rfl ?_ ?_
                        · go_simp
                          (try simp only [i64_w])
                          try rfl
                        refine hK.out _ _ ⟨v565, v568, adz_v568, v573, m8_, m10_, m11_, m12_, m14_, (by rw [ha.out]; exact putSel_upk 2 hb_ rfl rfl rfl), Q_HO555, Q_HO560, Q_HB, Q_HO566, fun h0_ => absurd ((hoff 5 (by kernel_rfl)).symm.trans h0_) (by decide), fun h0_ => absurd ((hoff 5 (by kernel_rfl)).symm.trans h0_) (by decide), fun h0_ => absurd ((hoff 10 (by kernel_rfl)).symm.trans h0_) (by decide), fun h0_ => absurd ((hoff 8 (by kernel_rfl)).symm.trans h0_) (by decide), fun h0_ => absurd ((hoff 10 (by kernel_rfl)).symm.trans h0_) (by decide), fun h0_ => absurd ((hoff 11 (by kernel_rfl)).symm.trans h0_) (by decide), fun h0_ => absurd ((hoff 12 (by kernel_rfl)).symm.trans h0_) (by decide), fun h0_ => absurd ((hoff 14 (by kernel_rfl)).symm.trans h0_) (by decide)⟩
                      refine steps_cons ?_ ?_
                      · rintro b a w' ⟨v565, v568, adz_v568, v573, m8_, m10_, m11_, m12_, m14_, ha, Q_HO555, Q_HO560, Q_HB, Q_HO566, Q_HO569, Q_HA_HO569, Q_HO574, Q_X8_, Q_X10_, Q_X11_, Q_X12_, Q_X14_⟩ hb_ hon hoff
                        refine ⟨_, rfl, fun K hK => ?_⟩
                        have e39 : a.tmps[39]? = some (.int .i64 (wrap64 (-(wrap64 (1 + (Go.bits .and .i64 a1 1023)))))) := by rw [ha]; exact putSel_on (e := (2, 39, .int .i64 (wrap64 (-(wrap64 (1 + (Go.bits .and .i64 a1 1023))))))) 1 rfl rfl (hon 2 (by kernel_rfl)) rfl
                        have e41 : a.tmps[41]? = some (.int .i64 (wrap64 (4 + (wrap64 (1 + (Go.bits .and .i64 a1 1023)))))) := by rw [ha]; exact putSel_on (e := (4, 41, .int .i64 (wrap64 (4 + (wrap64 (1 + (Go.bits .and .i64 a1 1023))))))) 2 rfl rfl (hon 4 (by kernel_rfl)) rfl
                        replace ha := Aside0.mk ha
                        have HO555 := Aside0.mk Q_HO555
                        have HO560 := Aside0.mk Q_HO560
                        have HB := Aside0.mk Q_HB
                        refine Kd.R_lit_step (Kd.int .i64) _ 3 ?hg (N := 42) ?hd (xs := ([wrap64 (-(wrap64 (1 + (Go.bits .and .i64 a1 1023)))), wrap64 (4 + (wrap64 (1 + (Go.bits .and .i64 a1 1023))))] : List Int)) (inner := [.int .i64 (wrap64 (-(wrap64 (1 + (Go.bits .and .i64 a1 1023))))), .int .i64 (wrap64 (4 + (wrap64 (1 + (Go.bits .and .i64 a1 1023)))))]) (ok := fun _ => True) (okp := fun _ => True) ?hr ?hp (fun _ hk => hk) trivial (Below.refl _ _) (Nat.le_refl _) (by simp) ?_; (case hd => rfl); (case hg => rfl); (case hr => first | (go_simp; done) | (go_simp; rfl)); (case hp => exact (Reps.one (show Kd.M (Kd.int .i64) _ _ _ (wrap64 (-(wrap64 (1 + (Go.bits .and .i64 a1 1023))))) [.int .i64 (wrap64 (-(wrap64 (1 + (Go.bits .and .i64 a1 1023)))))] from rfl) (Reps.one (show Kd.M (Kd.int .i64) _ _ _ (wrap64 (4 + (wrap64 (1 + (Go.bits .and .i64 a1 1023))))) [.int .i64 (wrap64 (4 + (wrap64 (1 + (Go.bits .and .i64 a1 1023)))))] from rfl) (Reps.none _ _))))
                        intro v568 w45 ho46 hb hg_ hnew_
                        clear hg_ hnew_
                        (first | rw [← Ny567.out] at ho46 | (simp only [Int.reduceToNat] at ho46; rw [← Ny567.out] at ho46))
                        have n0_ := Aside0.mk (Kd.N_elder' (hN_ HO555.out) (Kd.R_base ho46) hb)
                        have n1_ := Aside0.mk (Kd.R_elder' (hR_ HO560.out) (Kd.R_base ho46) hb)
                        have n2_ := Aside0.mk (Kd.R_lower (Kd.R_new' ho46 (Kd.R_lt (hR_ HO560.out))) hS_)
                        have n3_ := Aside0.mk (below_step hB_ hb)
                        have z_HO566 := fun (h0_ : b 0 = true) => (show Kd.N k44 44 w45 w.heap.size (fun k_ => some k_ ≠ (.slice (some ⟨go8, 0, none⟩) t553.length co8 : Value).ownBlock ∧ some k_ ≠ (v559 : Value).ownBlock) v565 t564 from by first | exact (Kd.N_elder' (by (with_reducible repeat (first | apply Kd.N_alloc | apply Kd.N_drewN | apply Kd.N_drew)); exact (Q_HO566 h0_)) (Kd.R_base ho46) hb) | exact Kd.N_mono (Kd.N_elder' (by (with_reducible repeat (first | apply Kd.N_alloc | apply Kd.N_drewN | apply Kd.N_drew)); exact (Q_HO566 h0_)) (Kd.R_base ho46) hb) (fun _ h_ => by first | trivial | exact h_ | exact h_.1))
                        clear HO555
                        clear HO560
                        clear HB
                        have HO555 := n0_
                        have HO560 := n1_
                        have HO569 := n2_
                        have HB := n3_
                        clear n0_ n1_ n2_ n3_
                        clear hb ho46
                        obtain ⟨Ao47, co47, eo47⟩ := Kd.R_slice HO569.out
                        subst eo47
                        obtain ⟨ado47, fo47, _⟩ := Kd.at_int (Kd.R_reads' HO569.out).2.2 0 (by decide) (by rw [Ny567.out]; simp)
                        cases fo47
                        refine hK.out _ _ ⟨v565, .slice (some ado47) y567.length co47, ado47, v573, m8_, m10_, m11_, m12_, m14_, (by rw [ha.out]; exact putSel_upk 3 hb_ rfl rfl rfl), (hNm_ HO555.out), (hRm_ HO560.out), hB_, z_HO566, fun _ => (hRm_ HO569.out), fun _ => ⟨_, rfl⟩, fun h0_ => absurd ((hoff 10 (by kernel_rfl)).symm.trans h0_) (by decide), fun h0_ => absurd ((hoff 8 (by kernel_rfl)).symm.trans h0_) (by decide), fun h0_ => absurd ((hoff 10 (by kernel_rfl)).symm.trans h0_) (by decide), fun h0_ => absurd ((hoff 11 (by kernel_rfl)).symm.trans h0_) (by decide), fun h0_ => absurd ((hoff 12 (by kernel_rfl)).symm.trans h0_) (by decide), fun h0_ => absurd ((hoff 14 (by kernel_rfl)).symm.trans h0_) (by decide)⟩
                      refine steps_cons ?_ ?_
                      · rintro b a w' ⟨v565, v568, adz_v568, v573, m8_, m10_, m11_, m12_, m14_, ha, Q_HO555, Q_HO560, Q_HB, Q_HO566, Q_HO569, Q_HA_HO569, Q_HO574, Q_X8_, Q_X10_, Q_X11_, Q_X12_, Q_X14_⟩ hb_ hon hoff
                        refine ⟨_, rfl, fun K hK => ?_⟩
                        have e43 : a.tmps[43]? = some (.int .i64 a0) := by rw [ha]; exact (putSel_off rfl).trans rfl
                        replace ha := Aside0.mk ha
                        have HO555 := Aside0.mk Q_HO555
                        have HO560 := Aside0.mk Q_HO560
                        have HB := Aside0.mk Q_HB
                        refine value_ (w1 := w') (v := .int .i64 (Go.bits .and .i64 a0 1)) (by rfl) rfl ?_ ?_
                        · go_simp
                          (try simp only [i64_w])
                          try rfl
                        refine hK.out _ _ ⟨v565, v568, adz_v568, v573, m8_, m10_, m11_, m12_, m14_, (by rw [ha.out]; exact putSel_upk 4 hb_ rfl rfl rfl), Q_HO555, Q_HO560, Q_HB, Q_HO566, Q_HO569, Q_HA_HO569, fun h0_ => absurd ((hoff 10 (by kernel_rfl)).symm.trans h0_) (by decide), fun h0_ => absurd ((hoff 8 (by kernel_rfl)).symm.trans h0_) (by decide), fun h0_ => absurd ((hoff 10 (by kernel_rfl)).symm.trans h0_) (by decide), fun h0_ => absurd ((hoff 11 (by kernel_rfl)).symm.trans h0_) (by decide), fun h0_ => absurd ((hoff 12 (by kernel_rfl)).symm.trans h0_) (by decide), fun h0_ => absurd ((hoff 14 (by kernel_rfl)).symm.trans h0_) (by decide)⟩
                      refine steps_cons ?_ ?_
                      · rintro b a w' ⟨v565, v568, adz_v568, v573, m8_, m10_, m11_, m12_, m14_, ha, Q_HO555, Q_HO560, Q_HB, Q_HO566, Q_HO569, Q_HA_HO569, Q_HO574, Q_X8_, Q_X10_, Q_X11_, Q_X12_, Q_X14_⟩ hb_ hon hoff
                        refine ⟨_, rfl, fun K hK => ?_⟩
                        have e42 : a.tmps[42]? = some (v568) := by rw [ha]; exact putSel_on (e := (5, 42, v568)) 3 rfl rfl (hon 5 (by kernel_rfl)) rfl
                        have e44 : a.tmps[44]? = some (.int .i64 (Go.bits .and .i64 a0 1)) := by rw [ha]; exact putSel_on (e := (7, 44, .int .i64 (Go.bits .and .i64 a0 1))) 4 rfl rfl (hon 7 (by kernel_rfl)) rfl
                        replace ha := Aside0.mk ha
                        have HO555 := Aside0.mk Q_HO555
                        have HO560 := Aside0.mk Q_HO560
                        have HB := Aside0.mk Q_HB
                        have HO569 := Aside0.mk (Q_HO569 (hon 5 (by kernel_rfl)))
                        have HA_HO569 := Aside0.mk (Q_HA_HO569 (hon 5 (by kernel_rfl)))
                        obtain ⟨c_, hv_⟩ := HA_HO569.out
                        rw [hv_] at e42
                        refine value_ (w1 := w') (v := .pointer (some (adz_v568.add ((Go.bits .and .i64 a0 1)).toNat))) (by rfl) rfl ?_ ?_
                        · go_simp
                          (try simp only [i64_w])
                          try rfl
                        refine hK.out _ _ ⟨v565, v568, adz_v568, v573, (.pointer (some (adz_v568.add ((Go.bits .and .i64 a0 1)).toNat))), m10_, m11_, m12_, m14_, (by rw [ha.out]; exact putSel_upk 5 hb_ rfl rfl rfl), Q_HO555, Q_HO560, Q_HB, Q_HO566, Q_HO569, Q_HA_HO569, fun h0_ => absurd ((hoff 10 (by kernel_rfl)).symm.trans h0_) (by decide), fun _ => rfl, fun h0_ => absurd ((hoff 10 (by kernel_rfl)).symm.trans h0_) (by decide), fun h0_ => absurd ((hoff 11 (by kernel_rfl)).symm.trans h0_) (by decide), fun h0_ => absurd ((hoff 12 (by kernel_rfl)).symm.trans h0_) (by decide), fun h0_ => absurd ((hoff 14 (by kernel_rfl)).symm.trans h0_) (by decide)⟩
                      refine steps_cons ?_ ?_
                      · rintro b a w' ⟨v565, v568, adz_v568, v573, m8_, m10_, m11_, m12_, m14_, ha, Q_HO555, Q_HO560, Q_HB, Q_HO566, Q_HO569, Q_HA_HO569, Q_HO574, Q_X8_, Q_X10_, Q_X11_, Q_X12_, Q_X14_⟩ hb_ hon hoff
                        refine ⟨_, rfl, fun K hK => ?_⟩
                        have e45 : a.tmps[45]? = some (m8_) := by rw [ha]; exact putSel_on (e := (8, 45, m8_)) 5 rfl rfl (hon 8 (by kernel_rfl)) rfl
                        rw [Q_X8_ (hon 8 (by kernel_rfl))] at e45
                        replace ha := Aside0.mk ha
                        have HO555 := Aside0.mk Q_HO555
                        have HO560 := Aside0.mk Q_HO560
                        have HB := Aside0.mk Q_HB
                        have HO569 := Aside0.mk (Q_HO569 (hon 5 (by kernel_rfl)))
                        have HA_HO569 := Aside0.mk (Q_HA_HO569 (hon 5 (by kernel_rfl)))
                        obtain ⟨c_, hv_⟩ := HA_HO569.out
                        have hF_ := HO569.out
                        rw [hv_] at hF_
                        obtain ⟨ad_, ea_, hx_⟩ := Kd.at_int (Kd.R_reads' hF_).2.2 (Go.bits .and .i64 a0 1) (of_eq_true pi570) (of_eq_true qi570)
                        cases ea_
                        refine value_ (w1 := w') (v := .int .i64 (rd y567 (Go.bits .and .i64 a0 1))) (by rfl) rfl ?_ ?_
                        · go_simp
                          (try simp only [i64_w])
                          try rfl
                        refine hK.out _ _ ⟨v565, v568, adz_v568, v573, m8_, m10_, m11_, m12_, m14_, (by rw [ha.out]; exact putSel_upk 6 hb_ rfl rfl rfl), Q_HO555, Q_HO560, Q_HB, Q_HO566, Q_HO569, Q_HA_HO569, fun h0_ => absurd ((hoff 10 (by kernel_rfl)).symm.trans h0_) (by decide), Q_X8_, fun h0_ => absurd ((hoff 10 (by kernel_rfl)).symm.trans h0_) (by decide), fun h0_ => absurd ((hoff 11 (by kernel_rfl)).symm.trans h0_) (by decide), fun h0_ => absurd ((hoff 12 (by kernel_rfl)).symm.trans h0_) (by decide), fun h0_ => absurd ((hoff 14 (by kernel_rfl)).symm.trans h0_) (by decide)⟩
                      refine steps_cons ?_ ?_
                      · rintro b a w' ⟨v565, v568, adz_v568, v573, m8_, m10_, m11_, m12_, m14_, ha, Q_HO555, Q_HO560, Q_HB, Q_HO566, Q_HO569, Q_HA_HO569, Q_HO574, Q_X8_, Q_X10_, Q_X11_, Q_X12_, Q_X14_⟩ hb_ hon hoff
                        refine ⟨_, rfl, fun K hK => ?_⟩
                        have e37 : a.tmps[37]? = some (v565) := by rw [ha]; exact putSel_on (e := (0, 37, v565)) 0 rfl rfl (hon 0 (by kernel_rfl)) rfl
                        have e46 : a.tmps[46]? = some (.int .i64 (rd y567 (Go.bits .and .i64 a0 1))) := by rw [ha]; exact putSel_on (e := (9, 46, .int .i64 (rd y567 (Go.bits .and .i64 a0 1)))) 6 rfl rfl (hon 9 (by kernel_rfl)) rfl
                        replace ha := Aside0.mk ha
                        have HO555 := Aside0.mk Q_HO555
                        have HO560 := Aside0.mk Q_HO560
                        have HB := Aside0.mk Q_HB
                        have HO566 := Aside0.mk (Q_HO566 (hon 0 (by kernel_rfl)))
                        have HO569 := Aside0.mk (Q_HO569 (hon 5 (by kernel_rfl)))
                        have HA_HO569 := Aside0.mk (Q_HA_HO569 (hon 5 (by kernel_rfl)))
                        obtain ⟨co50, eo50⟩ := HA_HO569.out
                        clear HA_HO569
                        subst eo50
                        obtain ⟨Ao51, co51, eo51⟩ := Kd.N_slice HO566.out
                        (first | subst eo51 | (injection eo51 with f1_ f2_ f3_; have f4_ := f1_.symm; have f5_ := f3_.symm; clear f1_ f2_ f3_; subst f4_; subst f5_))
                        refine goes_ Tryd.func26 (by kernel_rfl) rfl #[.slice Ao51 t564.length co51, .int .i64 (rd y567 (Go.bits .and .i64 a0 1))] (by rfl) rfl rfl (by first | (simp only [List.map_toArray, List.map_cons, List.map_nil, Act.eval, Array.getD_eq_getD_getElem?, Option.getD_some, e37, e46]; done) | (simp only [List.map_toArray, List.map_cons, List.map_nil, Act.eval, Array.getD_eq_getD_getElem?, Option.getD_some, e37, e46]; rfl)) ?_
                        with_reducible refine (back_Path.calls k _ _ t564 (rd y567 (Go.bits .and .i64 a0 1)) t571 t572 _ ?side1 ?side2 A14.out hG_).mono ?_
                        (case side1 => repeat (first | exact (Kd.N_reads' HO566.out).2.2 | (with_reducible refine Kd.C_alloc ?_ _) | (with_reducible refine Kd.C_drewN ?_ _) | (with_reducible refine Kd.C_drew ?_)))
                        (case side2 => exact (Kd.N_reads' HO566.out).2.1)
                        rintro e w52 ⟨v573, rfl, ho0, hb⟩
                        refine ⟨_, rfl, ?_⟩
                        have n0_ := Aside0.mk (Kd.N_elder' (hN_ HO555.out) (Kd.R_base ho0) hb)
                        have n1_ := Aside0.mk (Kd.R_elder' (hR_ HO560.out) (Kd.R_base ho0) hb)
                        have n2_ := Aside0.mk (Kd.N_elder' (hN_ HO566.out) (Kd.R_base ho0) hb)
                        have n3_ := Aside0.mk (Kd.R_elder' (hR_ HO569.out) (Kd.R_base ho0) hb)
                        have n4_ := Aside0.mk (Kd.R_lower (Kd.R_new' (Kd.R_new' ho0 (Kd.R_lt (hR_ HO560.out))) (Kd.R_lt (hR_ HO569.out))) hS_)
                        have n5_ := Aside0.mk (below_step hB_ hb)
                        clear HO555
                        clear HO560
                        clear HO566
                        clear HO569
                        clear HB
                        have HO555 := n0_
                        have HO560 := n1_
                        have HO566 := n2_
                        have HO569 := n3_
                        have HO574 := n4_
                        have HB := n5_
                        clear n0_ n1_ n2_ n3_ n4_ n5_
                        (try clear hb)
                        (try clear hb2)
                        (try clear hk)
                        (try clear hi)
                        (try clear ho0)
                        refine hK.out _ _ ⟨.slice Ao51 t564.length co51, .slice (some adz_v568) y567.length co50, adz_v568, v573, m8_, (.tuple #[v573, .int .i64 t572]), m11_, m12_, m14_, (by rw [ha.out]; exact putSel_upk 7 hb_ rfl rfl rfl), (hNm_ HO555.out), (hRm_ HO560.out), hB_, fun _ => (hNm_ HO566.out), fun _ => (hRm_ HO569.out), fun _ => ⟨_, rfl⟩, fun _ => (hRm_ HO574.out), Q_X8_, fun _ => rfl, fun h0_ => absurd ((hoff 11 (by kernel_rfl)).symm.trans h0_) (by decide), fun h0_ => absurd ((hoff 12 (by kernel_rfl)).symm.trans h0_) (by decide), fun h0_ => absurd ((hoff 14 (by kernel_rfl)).symm.trans h0_) (by decide)⟩
                      refine steps_cons ?_ ?_
                      · rintro b a w' ⟨v565, v568, adz_v568, v573, m8_, m10_, m11_, m12_, m14_, ha, Q_HO555, Q_HO560, Q_HB, Q_HO566, Q_HO569, Q_HA_HO569, Q_HO574, Q_X8_, Q_X10_, Q_X11_, Q_X12_, Q_X14_⟩ hb_ hon hoff
                        refine ⟨_, rfl, fun K hK => ?_⟩
                        have e47 : a.tmps[47]? = some (m10_) := by rw [ha]; exact putSel_on (e := (10, 47, m10_)) 7 rfl rfl (hon 10 (by kernel_rfl)) rfl
                        rw [Q_X10_ (hon 10 (by kernel_rfl))] at e47
                        replace ha := Aside0.mk ha
                        have HO555 := Aside0.mk Q_HO555
                        have HO560 := Aside0.mk Q_HO560
                        have HB := Aside0.mk Q_HB
                        have HO566 := Aside0.mk (Q_HO566 (hon 0 (by kernel_rfl)))
                        have HO569 := Aside0.mk (Q_HO569 (hon 5 (by kernel_rfl)))
                        have HA_HO569 := Aside0.mk (Q_HA_HO569 (hon 5 (by kernel_rfl)))
                        have HO574 := Aside0.mk (Q_HO574 (hon 10 (by kernel_rfl)))
                        refine value_ (w1 := w') (v := .tuple #[v573, .int .i64 t572]) (by rfl) rfl ?_ ?_
                        · go_simp
                          (try simp only [i64_w])
                          try rfl
                        refine hK.out _ _ ⟨v565, v568, adz_v568, v573, m8_, m10_, (.tuple #[v573, .int .i64 t572]), m12_, m14_, (by rw [ha.out]; exact putSel_upk 8 hb_ rfl rfl rfl), Q_HO555, Q_HO560, Q_HB, Q_HO566, Q_HO569, Q_HA_HO569, Q_HO574, Q_X8_, Q_X10_, fun _ => rfl, fun h0_ => absurd ((hoff 12 (by kernel_rfl)).symm.trans h0_) (by decide), fun h0_ => absurd ((hoff 14 (by kernel_rfl)).symm.trans h0_) (by decide)⟩
                      refine steps_cons ?_ ?_
                      · rintro b a w' ⟨v565, v568, adz_v568, v573, m8_, m10_, m11_, m12_, m14_, ha, Q_HO555, Q_HO560, Q_HB, Q_HO566, Q_HO569, Q_HA_HO569, Q_HO574, Q_X8_, Q_X10_, Q_X11_, Q_X12_, Q_X14_⟩ hb_ hon hoff
                        refine ⟨_, rfl, fun K hK => ?_⟩
                        have e36 : a.tmps[36]? = some (m11_) := by rw [ha]; exact putSel_on (e := (11, 36, m11_)) 8 rfl rfl (hon 11 (by kernel_rfl)) rfl
                        rw [Q_X11_ (hon 11 (by kernel_rfl))] at e36
                        replace ha := Aside0.mk ha
                        have HO555 := Aside0.mk Q_HO555
                        have HO560 := Aside0.mk Q_HO560
                        have HB := Aside0.mk Q_HB
                        have HO566 := Aside0.mk (Q_HO566 (hon 0 (by kernel_rfl)))
                        have HO569 := Aside0.mk (Q_HO569 (hon 5 (by kernel_rfl)))
                        have HA_HO569 := Aside0.mk (Q_HA_HO569 (hon 5 (by kernel_rfl)))
                        have HO574 := Aside0.mk (Q_HO574 (hon 10 (by kernel_rfl)))
                        obtain ⟨Ao12_0, co12_0, eo_⟩ := Kd.R_slice HO574.out
                        subst eo_
                        refine value_ (w1 := w') (v := .slice Ao12_0 t571.length co12_0) (by rfl) rfl ?_ ?_
                        · go_simp
                          (try simp only [i64_w])
                          try rfl
                        refine hK.out _ _ ⟨v565, v568, adz_v568, .slice Ao12_0 t571.length co12_0, m8_, m10_, m11_, (.slice Ao12_0 t571.length co12_0), m14_, (by rw [ha.out]; exact putSel_upk 9 hb_ rfl rfl rfl), Q_HO555, Q_HO560, Q_HB, Q_HO566, Q_HO569, Q_HA_HO569, Q_HO574, Q_X8_, Q_X10_, Q_X11_, fun _ => rfl, fun h0_ => absurd ((hoff 14 (by kernel_rfl)).symm.trans h0_) (by decide)⟩
                      refine steps_cons ?_ ?_
                      · rintro b a w' ⟨v565, v568, adz_v568, v573, m8_, m10_, m11_, m12_, m14_, ha, Q_HO555, Q_HO560, Q_HB, Q_HO566, Q_HO569, Q_HA_HO569, Q_HO574, Q_X8_, Q_X10_, Q_X11_, Q_X12_, Q_X14_⟩ hb_ hon hoff
                        refine ⟨_, rfl, fun K hK => ?_⟩
                        have e36 : a.tmps[36]? = some (m11_) := by rw [ha]; exact putSel_on (e := (11, 36, m11_)) 8 rfl rfl (hon 11 (by kernel_rfl)) rfl
                        rw [Q_X11_ (hon 11 (by kernel_rfl))] at e36
                        replace ha := Aside0.mk ha
                        have HO555 := Aside0.mk Q_HO555
                        have HO560 := Aside0.mk Q_HO560
                        have HB := Aside0.mk Q_HB
                        have HO566 := Aside0.mk (Q_HO566 (hon 0 (by kernel_rfl)))
                        have HO569 := Aside0.mk (Q_HO569 (hon 5 (by kernel_rfl)))
                        have HA_HO569 := Aside0.mk (Q_HA_HO569 (hon 5 (by kernel_rfl)))
                        have HO574 := Aside0.mk (Q_HO574 (hon 10 (by kernel_rfl)))
                        obtain ⟨Ao13_0, co13_0, eo_⟩ := Kd.R_slice HO574.out
                        subst eo_
                        refine value_ (w1 := w') (v := .int .i64 t572) (by rfl) rfl ?_ ?_
                        · go_simp
                          (try simp only [i64_w])
                          try rfl
                        refine hK.out _ _ ⟨v565, v568, adz_v568, .slice Ao13_0 t571.length co13_0, m8_, m10_, m11_, m12_, m14_, (by rw [ha.out]; exact putSel_upk 10 hb_ rfl rfl rfl), Q_HO555, Q_HO560, Q_HB, Q_HO566, Q_HO569, Q_HA_HO569, Q_HO574, Q_X8_, Q_X10_, Q_X11_, Q_X12_, Q_X14_⟩
                      refine steps_cons ?_ ?_
                      · rintro b a w' ⟨v565, v568, adz_v568, v573, m8_, m10_, m11_, m12_, m14_, ha, Q_HO555, Q_HO560, Q_HB, Q_HO566, Q_HO569, Q_HA_HO569, Q_HO574, Q_X8_, Q_X10_, Q_X11_, Q_X12_, Q_X14_⟩ hb_ hon hoff
                        refine ⟨_, rfl, fun K hK => ?_⟩
                        have e48 : a.tmps[48]? = some (m12_) := by rw [ha]; exact putSel_on (e := (12, 48, m12_)) 9 rfl rfl (hon 12 (by kernel_rfl)) rfl
                        rw [Q_X12_ (hon 12 (by kernel_rfl))] at e48
                        replace ha := Aside0.mk ha
                        have HO555 := Aside0.mk Q_HO555
                        have HO560 := Aside0.mk Q_HO560
                        have HB := Aside0.mk Q_HB
                        have HO566 := Aside0.mk (Q_HO566 (hon 0 (by kernel_rfl)))
                        have HO569 := Aside0.mk (Q_HO569 (hon 5 (by kernel_rfl)))
                        have HA_HO569 := Aside0.mk (Q_HA_HO569 (hon 5 (by kernel_rfl)))
                        have HO574 := Aside0.mk (Q_HO574 (hon 10 (by kernel_rfl)))
                        refine value_ (w1 := w') (v := v573) (by rfl) rfl ?_ ?_
                        · go_simp
                          (try simp only [i64_w])
                          try rfl
                        refine hK.out _ _ ⟨v565, v568, adz_v568, v573, m8_, m10_, m11_, m12_, (v573), (by rw [ha.out]; exact putSel_upk 11 hb_ rfl rfl rfl), Q_HO555, Q_HO560, Q_HB, Q_HO566, Q_HO569, Q_HA_HO569, Q_HO574, Q_X8_, Q_X10_, Q_X11_, Q_X12_, fun _ => rfl⟩
                      refine steps_cons ?_ ?_
                      · rintro b a w' ⟨v565, v568, adz_v568, v573, m8_, m10_, m11_, m12_, m14_, ha, Q_HO555, Q_HO560, Q_HB, Q_HO566, Q_HO569, Q_HA_HO569, Q_HO574, Q_X8_, Q_X10_, Q_X11_, Q_X12_, Q_X14_⟩ hb_ hon hoff
                        refine ⟨_, rfl, fun K hK => ?_⟩
                        have e49 : a.tmps[49]? = some (.int .i64 t572) := by rw [ha]; exact putSel_on (e := (13, 49, .int .i64 t572)) 10 rfl rfl (hon 13 (by kernel_rfl)) rfl
                        replace ha := Aside0.mk ha
                        have HO555 := Aside0.mk Q_HO555
                        have HO560 := Aside0.mk Q_HO560
                        have HB := Aside0.mk Q_HB
                        have HO566 := Aside0.mk (Q_HO566 (hon 0 (by kernel_rfl)))
                        have HO569 := Aside0.mk (Q_HO569 (hon 5 (by kernel_rfl)))
                        have HA_HO569 := Aside0.mk (Q_HA_HO569 (hon 5 (by kernel_rfl)))
                        have HO574 := Aside0.mk (Q_HO574 (hon 10 (by kernel_rfl)))
                        refine value_ (w1 := w') (v := .int .i64 t572) (by rfl) rfl ?_ ?_
                        · go_simp
                          (try simp only [i64_w])
                          try rfl
                        refine hK.out _ _ ⟨v565, v568, adz_v568, v573, m8_, m10_, m11_, m12_, m14_, (by rw [ha.out]; exact putSel_upk 12 hb_ rfl rfl rfl), Q_HO555, Q_HO560, Q_HB, Q_HO566, Q_HO569, Q_HA_HO569, Q_HO574, Q_X8_, Q_X10_, Q_X11_, Q_X12_, Q_X14_⟩
                      exact steps_nil
                    rintro b a w51 hall ⟨v565, v568, adz_v568, v573, m8_, m10_, m11_, m12_, m14_, ha, Q_HO555, Q_HO560, Q_HB, Q_HO566, Q_HO569, Q_HA_HO569, Q_HO574, Q_X8_, Q_X10_, Q_X11_, Q_X12_, Q_X14_⟩
                    clear HB HO555 HO560
                    have hb0_ := hall 0 (by kernel_rfl)
                    have hb2_ := hall 2 (by kernel_rfl)
                    have hb4_ := hall 4 (by kernel_rfl)
                    have hb5_ := hall 5 (by kernel_rfl)
                    have hb7_ := hall 7 (by kernel_rfl)
                    have hb8_ := hall 8 (by kernel_rfl)
                    have hb9_ := hall 9 (by kernel_rfl)
                    have hb10_ := hall 10 (by kernel_rfl)
                    have hb11_ := hall 11 (by kernel_rfl)
                    have hb12_ := hall 12 (by kernel_rfl)
                    have hb13_ := hall 13 (by kernel_rfl)
                    have hb14_ := hall 14 (by kernel_rfl)
                    have hb15_ := hall 15 (by kernel_rfl)
                    subst ha
                    obtain rfl := Q_X8_ hb8_
                    obtain rfl := Q_X10_ hb10_
                    obtain rfl := Q_X11_ hb11_
                    obtain rfl := Q_X12_ hb12_
                    obtain rfl := Q_X14_ hb14_
                    simp only [putSel, hb0_, hb2_, hb4_, hb5_, hb7_, hb8_, hb9_, hb10_, hb11_, hb12_, hb13_, hb14_, hb15_, if_true, Act.put, List.setIfInBounds_toArray, List.set_cons_zero, List.set_cons_succ]
                    have HO555 := Aside0.mk Q_HO555
                    clear Q_HO555
                    have HO560 := Aside0.mk Q_HO560
                    clear Q_HO560
                    have HB := Aside0.mk Q_HB
                    clear Q_HB
                    have HO566 := Aside0.mk (Q_HO566 hb0_)
                    clear Q_HO566
                    have HO569 := Aside0.mk (Q_HO569 hb5_)
                    clear Q_HO569
                    have HA_HO569 := Aside0.mk (Q_HA_HO569 hb5_)
                    clear Q_HA_HO569
                    have HO574 := Aside0.mk (Q_HO574 hb10_)
                    clear Q_HO574
                    clear hall hb0_ hb2_ hb4_ hb5_ hb7_ hb8_ hb9_ hb10_ hb11_ hb12_ hb13_ hb14_ hb15_
                    obtain ⟨co52, eo52⟩ := HA_HO569.out
                    clear HA_HO569
                    subst eo52
                    obtain ⟨Ao53, co53, eo53⟩ := Kd.R_slice HO560.out
                    subst eo53
                    try go_wp2_with (first | (go_at_call 20; (with_reducible refine (sleuthlaw0_Num.calls t558 t575 _ A16.out).mono ?_); rintro e w' ⟨rfl, ⟨nd, rfl⟩⟩) | (go_at_call 20; (with_reducible refine (sleuthlaw0_Num.calls t563 t576 _ A35.out).mono ?_); rintro e w' ⟨rfl, ⟨nd, rfl⟩⟩) | (go_at_call 20; (with_reducible refine (sleuthlaw0_Num.calls t572 t577 _ A37.out).mono ?_); rintro e w' ⟨rfl, ⟨nd, rfl⟩⟩))
                    go_ret
                    exact ⟨by first | rfl | (simp [errW_none, errW_some] <;> rfl) | (simp [*, errW_none, errW_some] <;> rfl), by repeat (first | (with_reducible first | exact HB.out | apply below_alloc | apply pw_below_drewN | apply below_drew1) | exact HB.out)⟩
                  · rw [if_neg c36] at H
                    have c36b0 : (t576 == 2400) = false := beq_eq_false_iff_ne.mpr c36
                    have c36b1 : (t576 != 2400) = true := bne_iff_ne.mpr c36
                    obtain rfl := Option.some.inj H
                    go_enter Tryd.func10, Tryd.ntmps10
                    try go_wp2_with (first | ((with_reducible refine gate_callee (f := 30) rfl ?_); refine goesL_ (some 14) rfl rfl Tryd.func30 (by kernel_rfl) rfl #[] rfl hL_ ?_; (with_reducible refine (sleuthlaw24_awake.calls k  true _ A3.out hG_).mono ?_); rintro e w54 ⟨rfl, hb⟩; refine ⟨_, rfl, ?_⟩; have n0_ := Aside0.mk (below_step hB_ hb); clear HB; have HB := n0_; clear n0_; (try clear hb); (try clear hb2); (try clear hk); (try clear hi)) | ((with_reducible refine gate_callee (f := 31) rfl ?_); refine goesL_ (some 19) rfl rfl Tryd.func31 (by kernel_rfl) rfl #[] rfl hL_ ?_; (with_reducible refine (sleuthlaw24_some.calls  t553 _ A5.out).mono ?_); rintro e w55 ⟨v554, rfl, ho0, hb⟩; refine ⟨_, rfl, ?_⟩; have n0_ := Aside0.mk (Kd.N_lower (Kd.N_mono (ok' := fun k_ => True) ho0 (fun k_ hk_ => trivial)) hS_); have n1_ := Aside0.mk (below_step hB_ hb); clear HB; have HO555 := n0_; have HB := n1_; clear n0_ n1_; (try clear hb); (try clear hb2); (try clear hk); (try clear hi); (try clear ho0); have p8 : 0 ≤ ((Go.bits .and .i64 a1 3) : Int) := of_decide_eq_true hA_; have q8 : ((Go.bits .and .i64 a1 3) : Int) < ((t553.length : Int) : Int) := of_decide_eq_true hA_; obtain ⟨go8, co8, eo8, gb8, gl8, cl8, HG8⟩ := Kd.N_form HO555.out (by omega); (first | cases eo8 | (injection eo8 with ea_ en_ ec_; (first | subst ea_ | (injection ea_ with ea_; subst ea_)); subst ec_; clear en_)); have GB8 := Aside0.mk gb8; have GG8 := Aside0.mk HG8; clear gb8 gl8 HG8; obtain ⟨ce8, hcl8, hM8, hcc8, hfr8⟩ := Kd.N_elem HO555.out z44 ((Go.bits .and .i64 a1 3) : Int) p8 q8; obtain ⟨ua8_2, uc8_2, rfl, ul8_2, ge8_2⟩ := k44_openF hM8; have hx8_0 : w55.cell? ⟨go8, ((Go.bits .and .i64 a1 3) : Int).toNat * 4, none⟩ = some (.int .i64 ((rd_T44 t553 (Go.bits .and .i64 a1 3)).f0)) := hcc8 0 _ rfl; have hx8_1 : w55.cell? ⟨go8, ((Go.bits .and .i64 a1 3) : Int).toNat * 4 + 1, none⟩ = some (.int .i64 ((rd_T44 t553 (Go.bits .and .i64 a1 3)).f1)) := hcc8 1 _ rfl; have hx8_2 : w55.cell? ⟨go8, ((Go.bits .and .i64 a1 3) : Int).toNat * 4 + 2, none⟩ = some (.slice ua8_2 ((rd_T44 t553 (Go.bits .and .i64 a1 3)).f2).length uc8_2) := hcc8 2 _ rfl; have hx8_3 : w55.cell? ⟨go8, ((Go.bits .and .i64 a1 3) : Int).toNat * 4 + 3, none⟩ = some (.string ((rd_T44 t553 (Go.bits .and .i64 a1 3)).f3)) := hcc8 3 _ rfl; have hf8_0 : w55.frozen? ⟨go8, ((Go.bits .and .i64 a1 3) : Int).toNat * 4, none⟩ = false := hfr8 0; have hf8_1 : w55.frozen? ⟨go8, ((Go.bits .and .i64 a1 3) : Int).toNat * 4 + 1, none⟩ = false := hfr8 1; have hf8_2 : w55.frozen? ⟨go8, ((Go.bits .and .i64 a1 3) : Int).toNat * 4 + 2, none⟩ = false := hfr8 2; have hf8_3 : w55.frozen? ⟨go8, ((Go.bits .and .i64 a1 3) : Int).toNat * 4 + 3, none⟩ = false := hfr8 3; clear hcl8 hcc8 hfr8 hM8; replace p8 := eq_true p8; replace q8 := eq_true q8; have HX56 := Aside0.mk (show Kd.N k44 44 w55 w.heap.size (fun _ => True) (.slice (some ⟨go8, 0, none⟩) t553.length co8) t553 from (hN_ HO555.out)); obtain ⟨ce56, hcl56, hM56, hcc56, hfr56⟩ := Kd.N_elem HX56.out z44 ((Go.bits .and .i64 a1 3) : Int) (of_decide_eq_true hA_) (by have h_ : ((Go.bits .and .i64 a1 3) : Int) < ((t553.length : Int) : Int) := of_decide_eq_true hA_; first | exact h_ | (have e_ := (Kd.N_reads' HO555.out).1; omega) | simpa using h_); obtain ⟨ua56_2, uc56_2, rfl, ul56_2, ge56_2⟩ := k44_openF hM56; have HP56 := Kd.N_seg HX56.out ((Go.bits .and .i64 a1 3) : Int) (of_decide_eq_true hA_) (by have h_ : ((Go.bits .and .i64 a1 3) : Int) < ((t553.length : Int) : Int) := of_decide_eq_true hA_; first | exact h_ | (have e_ := (Kd.N_reads' HO555.out).1; omega) | simpa using h_) (seg := [.string (⟨#[63]⟩ : ByteArray)]) (j := 3) hcl56 hcc56 (show 4 ≤ 4 from by decide) (x' := (⟨(rd_T44 t553 (Go.bits .and .i64 a1 3)).f0, (rd_T44 t553 (Go.bits .and .i64 a1 3)).f1, (rd_T44 t553 (Go.bits .and .i64 a1 3)).f2, (⟨#[63]⟩ : ByteArray)⟩ : S44)) (k44_mkF _ _ (⟨(rd_T44 t553 (Go.bits .and .i64 a1 3)).f0, (rd_T44 t553 (Go.bits .and .i64 a1 3)).f1, (rd_T44 t553 (Go.bits .and .i64 a1 3)).f2, (⟨#[63]⟩ : ByteArray)⟩ : S44) ul56_2 ge56_2) (fun _ hk => hk); have hx56_3 := hcc56 3 _ rfl; (try simp only [show (k44).sz = 4 from rfl, Nat.mul_one, Nat.add_zero] at hx56_3); have hf56_3 := hfr56 3; (try simp only [show (k44).sz = 4 from rfl, Nat.mul_one, Nat.add_zero] at hf56_3); clear hcl56 hcc56 hfr56 hM56) | ((with_reducible refine gate_store (t := 9) (p := 24) rfl ?_); refine store_event (t := 9) (p := 24) (v := ?vo_w57) (w1 := (w55.setCell ⟨go8, ((Go.bits .and .i64 a1 3) : Int).toNat * 4 + 3, none⟩ (.string (⟨#[63]⟩ : ByteArray)))) ?hg ?ho ?hn ?hr ?_; (case ho => rfl); (case hg => rfl); (case hn => rfl); (case hr => first | (go_simp; done) | (go_simp; rfl)); intro w57 hw; have hg : w55.grownBy w57 (some go8) := (by rw [hw]; exact HP56.2); have hp_ : Kd.N k44 44 w57 w.heap.size (fun _ => True) (.slice (some ⟨go8, 0, none⟩) t553.length co8) y556 := (by rw [hw, Ny556.out]; exact HP56.1); clear HP56; have n0_ := Aside0.mk (hp_); have n1_ := Aside0.mk ((by rw [hw]; exact below_set (HB.out) GB8.out : Below w.heap.size w w57)); clear HO555; clear HB; have HO555 := n0_; have HB := n1_; clear n0_ n1_; clear hg hw hp_) | ((with_reducible refine gate_callee (f := 26) rfl ?_); refine goesL_ (some 27) rfl rfl Tryd.func26 (by kernel_rfl) rfl #[.slice (some ⟨go8, 0, none⟩) y556.length co8, .int .i64 0] rfl (by (try simp only [List.map_toArray, List.map_cons, List.map_nil]); first | done | (rw [show y556.length = t553.length from (Kd.N_reads' HO555.out).1.symm] <;> rfl) | rfl | (simp only [List.length_drop, List.length_take]; rfl)) ?_; (with_reducible refine (back_Path.calls k _ _ y556 0 t557 t558 _ ?side1 ?side2 A9.out hG_).mono ?_); (case side1 => repeat (first | exact (Kd.N_reads' HO555.out).2.2 | (with_reducible refine Kd.C_alloc ?_ _) | (with_reducible refine Kd.C_drewN ?_ _) | (with_reducible refine Kd.C_drew ?_))); (case side2 => rw [show y556.length = t553.length from (Kd.N_reads' HO555.out).1.symm]; exact (Kd.N_reads' HO555.out).2.1); rintro e w58 ⟨v559, rfl, ho0, hb⟩; refine ⟨_, rfl, ?_⟩; have n0_ := Aside0.mk (Kd.N_elder' (hN_ HO555.out) (Kd.R_base ho0) hb); have n1_ := Aside0.mk (Kd.R_lower ho0 hS_); have n2_ := Aside0.mk (below_step hB_ hb); clear HO555; clear HB; have HO555 := n0_; have HO560 := n1_; have HB := n2_; clear n0_ n1_ n2_; (try clear hb); (try clear hb2); (try clear hk); (try clear hi); (try clear ho0)) | ((with_reducible refine gate_callee (f := 28) rfl ?_); refine goesL_ (some 32) rfl rfl Tryd.func28 (by kernel_rfl) rfl #[.slice (some ⟨go8, 0, none⟩) y556.length co8] rfl (by (try simp only [List.map_toArray, List.map_cons, List.map_nil]); first | done | (rw [show y556.length = t553.length from (Kd.N_reads' HO555.out).1.symm] <;> rfl) | rfl | (simp only [List.length_drop, List.length_take]; rfl)) ?_; (with_reducible refine (back_Last.calls k _ _ y556 t561 false t563 _ ?side1 ?side2 A10.out hG_).mono ?_); (case side1 => repeat (first | exact (Kd.N_reads' HO555.out).2.2 | (with_reducible refine Kd.C_alloc ?_ _) | (with_reducible refine Kd.C_drewN ?_ _) | (with_reducible refine Kd.C_drew ?_))); (case side2 => rw [show y556.length = t553.length from (Kd.N_reads' HO555.out).1.symm]; exact (Kd.N_reads' HO555.out).2.1); rintro e w59 ⟨rfl, hb⟩; refine ⟨_, rfl, ?_⟩; have n0_ := Aside0.mk (Kd.N_below (hN_ HO555.out) hb); have n1_ := Aside0.mk (Kd.R_below (hR_ HO560.out) hb); have n2_ := Aside0.mk (below_step hB_ hb); clear HO555; clear HO560; clear HB; have HO555 := n0_; have HO560 := n1_; have HB := n2_; clear n0_ n1_ n2_; (try clear hb); (try clear hb2); (try clear hk); (try clear hi)))
                    have pi570 : (0 ≤ ((Go.bits .and .i64 a0 1) : Int)) = True := eq_true (of_decide_eq_true hA_)
                    have qi570 : ((Go.bits .and .i64 a0 1) < (y567.length : Int)) = True := eq_true (of_decide_eq_true hA_)
                    have n0_ := Aside0.mk (Kd.N_drew HO555.out)
                    have n1_ := Aside0.mk (Kd.R_drew HO560.out)
                    have n2_ := Aside0.mk (below_drew1 HB.out)
                    clear HO555
                    clear HO560
                    clear HB
                    have HO555 := n0_
                    have HO560 := n1_
                    have HB := n2_
                    clear n0_ n1_ n2_
                    refine start_ (n := 16) (S := fun w' => True) (ds := []) #[false, false, false, false, false, false, false, false, false, false, false, false, false, false, false, false] (by kernel_rfl) rfl rfl trivial (fun hHeld => ?_); refine with_tabW sleuthlaw24_BackForms.tab8 sleuthlaw24_BackForms.bits8 (fun HT_ HW_ => ?_)
                    generalize w59.drew = w60 at HO555 HO560 HB hHeld ⊢
                    refine pure_ (i := 1) (N := some 38) (v := ?_) (a' := ?_) #[false, true, false, false, false, false, false, false, false, false, false, false, false, false, false, false] rfl rfl (any_of HT_.out (by kernel_rfl)) (fun _ _ _ h => h) (Or.inl ⟨by rfl, ?_⟩) ?_ ?_
                    rotate_left
                    · intro w'
                      go_simp
                      with_reducible rfl
                    rotate_left
                    · simp only [Act.put, List.setIfInBounds_toArray, List.set_cons_zero, List.set_cons_succ, i64_w, i32_w]
                      rfl
                    refine pure_ (i := 3) (N := some 40) (v := ?_) (a' := ?_) #[false, true, false, true, false, false, false, false, false, false, false, false, false, false, false, false] rfl rfl (any_of HT_.out (by kernel_rfl)) (fun _ _ _ h => h) (Or.inl ⟨by rfl, ?_⟩) ?_ ?_
                    rotate_left
                    · intro w'
                      go_simp
                      with_reducible rfl
                    rotate_left
                    · simp only [Act.put, List.setIfInBounds_toArray, List.set_cons_zero, List.set_cons_succ, i64_w, i32_w]
                      rfl
                    refine pure_ (i := 6) (N := some 43) (v := ?_) (a' := ?_) #[false, true, false, true, false, false, true, false, false, false, false, false, false, false, false, false] rfl rfl (any_of HT_.out (by kernel_rfl)) (fun _ _ _ h => h) (Or.inl ⟨by rfl, ?_⟩) ?_ ?_
                    rotate_left
                    · intro w'
                      go_simp
                      with_reducible rfl
                    rotate_left
                    · simp only [Act.put, List.setIfInBounds_toArray, List.set_cons_zero, List.set_cons_succ, i64_w, i32_w]
                      rfl
                    refine inv_at [0, 2, 4, 5, 7, 8, 9, 10, 11, 12, 13, 14, 15] (fun a0_ b a w' => ∃ (v565 : Value) (v568 : Value) (adz_v568 : Addr) (v573 : Value) (m8_ : Value) (m10_ : Value) (m11_ : Value) (m12_ : Value) (m14_ : Value), a = putSel a0_ b [(0, 37, v565), (2, 39, .int .i64 (wrap64 (-(wrap64 (1 + (Go.bits .and .i64 a1 1023)))))), (4, 41, .int .i64 (wrap64 (4 + (wrap64 (1 + (Go.bits .and .i64 a1 1023)))))), (5, 42, v568), (7, 44, .int .i64 (Go.bits .and .i64 a0 1)), (8, 45, m8_), (9, 46, .int .i64 (rd y567 (Go.bits .and .i64 a0 1))), (10, 47, m10_), (11, 36, m11_), (12, 48, m12_), (13, 49, .int .i64 t572), (14, 12, m14_), (15, 13, .int .i64 t572)] ∧ (Kd.N k44 44 w' w.heap.size (fun k_ => some k_ ≠ (v559 : Value).ownBlock) (.slice (some ⟨go8, 0, none⟩) t553.length co8) y556) ∧ (Kd.R (Kd.int .i64) 3 w' w.heap.size (fun _ => True) v559 t557) ∧ (Below w.heap.size w w') ∧ (b 0 = true → Kd.N k44 44 w' w.heap.size (fun k_ => some k_ ≠ (.slice (some ⟨go8, 0, none⟩) t553.length co8 : Value).ownBlock ∧ some k_ ≠ (v559 : Value).ownBlock) v565 t564) ∧ (b 5 = true → Kd.R (Kd.int .i64) 3 w' w.heap.size (fun k_ => some k_ ≠ (v559 : Value).ownBlock) v568 y567) ∧ (b 5 = true → ∃ c_, (v568 : Value) = .slice (some adz_v568) y567.length c_) ∧ (b 10 = true → Kd.R (Kd.int .i64) 3 w' w.heap.size (fun k_ => some k_ ≠ (v559 : Value).ownBlock) v573 t571) ∧ (b 8 = true → (m8_ : Value) = .pointer (some (adz_v568.add ((Go.bits .and .i64 a0 1)).toNat))) ∧ (b 10 = true → (m10_ : Value) = .tuple #[v573, .int .i64 t572]) ∧ (b 11 = true → (m11_ : Value) = .tuple #[v573, .int .i64 t572]) ∧ (b 12 = true → (m12_ : Value) = v573) ∧ (b 14 = true → (m14_ : Value) = v573)) HT_.out HW_.out (by kernel_rfl) (by kernel_rfl) ?_ ?_ ?_
                    · exact ⟨.bool false, .bool false, ⟨0, 0, none⟩, .bool false, .bool false, .bool false, .bool false, .bool false, .bool false, by simp only [putSel, Bool.false_eq_true, if_false], (by first | exact HO555.out | exact Kd.N_mono HO555.out (fun _ hk => by simp_all) | exact Kd.R_mono HO555.out (fun _ hk => by simp_all)), (by first | exact HO560.out | exact Kd.N_mono HO560.out (fun _ hk => by simp_all) | exact Kd.R_mono HO560.out (fun _ hk => by simp_all)), HB.out, fun h_ => absurd h_ (by decide), fun h_ => absurd h_ (by decide), fun h_ => absurd h_ (by decide), fun h_ => absurd h_ (by decide), fun h_ => absurd h_ (by decide), fun h_ => absurd h_ (by decide), fun h_ => absurd h_ (by decide), fun h_ => absurd h_ (by decide), fun h_ => absurd h_ (by decide)⟩
                    · skip
                      clear HB HO555 HO560
                      refine steps_cons ?_ ?_
                      · rintro b a w' ⟨v565, v568, adz_v568, v573, m8_, m10_, m11_, m12_, m14_, ha, Q_HO555, Q_HO560, Q_HB, Q_HO566, Q_HO569, Q_HA_HO569, Q_HO574, Q_X8_, Q_X10_, Q_X11_, Q_X12_, Q_X14_⟩ hb_ hon hoff
                        refine ⟨_, rfl, fun K hK => ?_⟩
                        replace ha := Aside0.mk ha
                        have HO555 := Aside0.mk Q_HO555
                        have HO560 := Aside0.mk Q_HO560
                        have HB := Aside0.mk Q_HB
                        refine goes_ Tryd.func31 (by kernel_rfl) rfl #[] (by rfl) rfl rfl (by first | (simp only [List.map_toArray, List.map_cons, List.map_nil, Act.eval, Array.getD_eq_getD_getElem?, Option.getD_some]; done) | (simp only [List.map_toArray, List.map_cons, List.map_nil, Act.eval, Array.getD_eq_getD_getElem?, Option.getD_some]; rfl)) ?_
                        with_reducible refine (sleuthlaw24_some.calls  t564 _ A11.out).mono ?_
                        rintro e w61 ⟨v565, rfl, ho0, hb⟩
                        refine ⟨_, rfl, ?_⟩
                        have n0_ := Aside0.mk (Kd.N_elder' (hN_ HO555.out) (Kd.N_base ho0) hb)
                        have n1_ := Aside0.mk (Kd.R_below (hR_ HO560.out) hb)
                        have n2_ := Aside0.mk (Kd.N_lower (Kd.N_mono (ok' := fun k_ => some k_ ≠ (.slice (some ⟨go8, 0, none⟩) t553.length co8 : Value).ownBlock ∧ some k_ ≠ (v559 : Value).ownBlock) ho0 (fun k_ hk_ => ⟨(Kd.fresh' (Kd.N_lt (hN_ HO555.out)) k_ hk_), (Kd.fresh' (Kd.R_lt (hR_ HO560.out)) k_ hk_)⟩)) hS_)
                        have n3_ := Aside0.mk (below_step hB_ hb)
                        have z_HO569 := fun (h0_ : b 5 = true) => (show Kd.R (Kd.int .i64) 3 w61 w.heap.size (fun k_ => some k_ ≠ (v559 : Value).ownBlock) v568 y567 from by first | exact (Kd.R_below (by (with_reducible repeat (first | apply Kd.R_alloc | apply Kd.R_drewN | apply Kd.R_drew)); exact (Q_HO569 h0_)) hb) | exact Kd.R_mono (Kd.R_below (by (with_reducible repeat (first | apply Kd.R_alloc | apply Kd.R_drewN | apply Kd.R_drew)); exact (Q_HO569 h0_)) hb) (fun _ h_ => by first | trivial | exact h_ | exact h_.1))
                        clear HO555
                        clear HO560
                        clear HB
                        have HO555 := n0_
                        have HO560 := n1_
                        have HO566 := n2_
                        have HB := n3_
                        clear n0_ n1_ n2_ n3_
                        (try clear hb)
                        (try clear hb2)
                        (try clear hk)
                        (try clear hi)
                        (try clear ho0)
                        refine hK.out _ _ ⟨v565, v568, adz_v568, v573, m8_, m10_, m11_, m12_, m14_, (by rw [ha.out]; exact putSel_upk 0 hb_ rfl rfl rfl), (hNm_ HO555.out), (hRm_ HO560.out), hB_, fun _ => (hNm_ HO566.out), z_HO569, Q_HA_HO569, fun h0_ => absurd ((hoff 10 (by kernel_rfl)).symm.trans h0_) (by decide), Q_X8_, fun h0_ => absurd ((hoff 10 (by kernel_rfl)).symm.trans h0_) (by decide), fun h0_ => absurd ((hoff 11 (by kernel_rfl)).symm.trans h0_) (by decide), fun h0_ => absurd ((hoff 12 (by kernel_rfl)).symm.trans h0_) (by decide), fun h0_ => absurd ((hoff 14 (by kernel_rfl)).symm.trans h0_) (by decide)⟩
                      refine steps_cons ?_ ?_
                      · rintro b a w' ⟨v565, v568, adz_v568, v573, m8_, m10_, m11_, m12_, m14_, ha, Q_HO555, Q_HO560, Q_HB, Q_HO566, Q_HO569, Q_HA_HO569, Q_HO574, Q_X8_, Q_X10_, Q_X11_, Q_X12_, Q_X14_⟩ hb_ hon hoff
                        refine ⟨_, rfl, fun K hK => ?_⟩
                        have e38 : a.tmps[38]? = some (.int .i64 (wrap64 (1 + (Go.bits .and .i64 a1 1023)))) := by rw [ha]; exact (putSel_off rfl).trans rfl
                        replace ha := Aside0.mk ha
                        have HO555 := Aside0.mk Q_HO555
                        have HO560 := Aside0.mk Q_HO560
                        have HB := Aside0.mk Q_HB
                        refine value_ (w1 := w') (v := .int .i64 (wrap64 (-(wrap64 (1 + (Go.bits .and .i64 a1 1023)))))) (by rfl) rfl ?_ ?_
                        · go_simp
                          (try simp only [i64_w])
                          try rfl
                        refine hK.out _ _ ⟨v565, v568, adz_v568, v573, m8_, m10_, m11_, m12_, m14_, (by rw [ha.out]; exact putSel_upk 1 hb_ rfl rfl rfl), Q_HO555, Q_HO560, Q_HB, Q_HO566, fun h0_ => absurd ((hoff 5 (by kernel_rfl)).symm.trans h0_) (by decide), fun h0_ => absurd ((hoff 5 (by kernel_rfl)).symm.trans h0_) (by decide), fun h0_ => absurd ((hoff 10 (by kernel_rfl)).symm.trans h0_) (by decide), fun h0_ => absurd ((hoff 8 (by kernel_rfl)).symm.trans h0_) (by decide), fun h0_ => absurd ((hoff 10 (by kernel_rfl)).symm.trans h0_) (by decide), fun h0_ => absurd ((hoff 11 (by kernel_rfl)).symm.trans h0_) (by decide), fun h0_ => absurd ((hoff 12 (by kernel_rfl)).symm.trans h0_) (by decide), fun h0_ => absurd ((hoff 14 (by kernel_rfl)).symm.trans h0_) (by decide)⟩
                      refine steps_cons ?_ ?_
                      · rintro b a w' ⟨v565, v568, adz_v568, v573, m8_, m10_, m11_, m12_, m14_, ha, Q_HO555, Q_HO560, Q_HB, Q_HO566, Q_HO569, Q_HA_HO569, Q_HO574, Q_X8_, Q_X10_, Q_X11_, Q_X12_, Q_X14_⟩ hb_ hon hoff
                        refine ⟨_, rfl, fun K hK => ?_⟩
                        have e40 : a.tmps[40]? = some (.int .i64 (wrap64 (1 + (Go.bits .and .i64 a1 1023)))) := by rw [ha]; exact (putSel_off rfl).trans rfl
                        replace ha := Aside0.mk ha
                        have HO555 := Aside0.mk Q_HO555
                        have HO560 := Aside0.mk Q_HO560
                        have HB := Aside0.mk Q_HB
                        refine value_ (w1 := w') (v := .int .i64 (wrap64 (4 + (wrap64 (1 + (Go.bits .and .i64 a1 1023)))))) (by rfl) rfl ?_ ?_
                        · go_simp
                          (try simp only [i64_w])
                          try rfl
                        refine hK.out _ _ ⟨v565, v568, adz_v568, v573, m8_, m10_, m11_, m12_, m14_, (by rw [ha.out]; exact putSel_upk 2 hb_ rfl rfl rfl), Q_HO555, Q_HO560, Q_HB, Q_HO566, fun h0_ => absurd ((hoff 5 (by kernel_rfl)).symm.trans h0_) (by decide), fun h0_ => absurd ((hoff 5 (by kernel_rfl)).symm.trans h0_) (by decide), fun h0_ => absurd ((hoff 10 (by kernel_rfl)).symm.trans h0_) (by decide), fun h0_ => absurd ((hoff 8 (by kernel_rfl)).symm.trans h0_) (by decide), fun h0_ => absurd ((hoff 10 (by kernel_rfl)).symm.trans h0_) (by decide), fun h0_ => absurd ((hoff 11 (by kernel_rfl)).symm.trans h0_) (by decide), fun h0_ => absurd ((hoff 12 (by kernel_rfl)).symm.trans h0_) (by decide), fun h0_ => absurd ((hoff 14 (by kernel_rfl)).symm.trans h0_) (by decide)⟩
                      refine steps_cons ?_ ?_
                      · rintro b a w' ⟨v565, v568, adz_v568, v573, m8_, m10_, m11_, m12_, m14_, ha, Q_HO555, Q_HO560, Q_HB, Q_HO566, Q_HO569, Q_HA_HO569, Q_HO574, Q_X8_, Q_X10_, Q_X11_, Q_X12_, Q_X14_⟩ hb_ hon hoff
                        refine ⟨_, rfl, fun K hK => ?_⟩
                        have e39 : a.tmps[39]? = some (.int .i64 (wrap64 (-(wrap64 (1 + (Go.bits .and .i64 a1 1023)))))) := by rw [ha]; exact putSel_on (e := (2, 39, .int .i64 (wrap64 (-(wrap64 (1 + (Go.bits .and .i64 a1 1023))))))) 1 rfl rfl (hon 2 (by kernel_rfl)) rfl
                        have e41 : a.tmps[41]? = some (.int .i64 (wrap64 (4 + (wrap64 (1 + (Go.bits .and .i64 a1 1023)))))) := by rw [ha]; exact putSel_on (e := (4, 41, .int .i64 (wrap64 (4 + (wrap64 (1 + (Go.bits .and .i64 a1 1023))))))) 2 rfl rfl (hon 4 (by kernel_rfl)) rfl
                        replace ha := Aside0.mk ha
                        have HO555 := Aside0.mk Q_HO555
                        have HO560 := Aside0.mk Q_HO560
                        have HB := Aside0.mk Q_HB
                        refine Kd.R_lit_step (Kd.int .i64) _ 3 ?hg (N := 42) ?hd (xs := ([wrap64 (-(wrap64 (1 + (Go.bits .and .i64 a1 1023)))), wrap64 (4 + (wrap64 (1 + (Go.bits .and .i64 a1 1023))))] : List Int)) (inner := [.int .i64 (wrap64 (-(wrap64 (1 + (Go.bits .and .i64 a1 1023))))), .int .i64 (wrap64 (4 + (wrap64 (1 + (Go.bits .and .i64 a1 1023)))))]) (ok := fun _ => True) (okp := fun _ => True) ?hr ?hp (fun _ hk => hk) trivial (Below.refl _ _) (Nat.le_refl _) (by simp) ?_; (case hd => rfl); (case hg => rfl); (case hr => first | (go_simp; done) | (go_simp; rfl)); (case hp => exact (Reps.one (show Kd.M (Kd.int .i64) _ _ _ (wrap64 (-(wrap64 (1 + (Go.bits .and .i64 a1 1023))))) [.int .i64 (wrap64 (-(wrap64 (1 + (Go.bits .and .i64 a1 1023)))))] from rfl) (Reps.one (show Kd.M (Kd.int .i64) _ _ _ (wrap64 (4 + (wrap64 (1 + (Go.bits .and .i64 a1 1023))))) [.int .i64 (wrap64 (4 + (wrap64 (1 + (Go.bits .and .i64 a1 1023)))))] from rfl) (Reps.none _ _))))
                        intro v568 w61 ho62 hb hg_ hnew_
                        clear hg_ hnew_
                        (first | rw [← Ny567.out] at ho62 | (simp only [Int.reduceToNat] at ho62; rw [← Ny567.out] at ho62))
                        have n0_ := Aside0.mk (Kd.N_elder' (hN_ HO555.out) (Kd.R_base ho62) hb)
                        have n1_ := Aside0.mk (Kd.R_elder' (hR_ HO560.out) (Kd.R_base ho62) hb)
                        have n2_ := Aside0.mk (Kd.R_lower (Kd.R_new' ho62 (Kd.R_lt (hR_ HO560.out))) hS_)
                        have n3_ := Aside0.mk (below_step hB_ hb)
                        have z_HO566 := fun (h0_ : b 0 = true) => (show Kd.N k44 44 w61 w.heap.size (fun k_ => some k_ ≠ (.slice (some ⟨go8, 0, none⟩) t553.length co8 : Value).ownBlock ∧ some k_ ≠ (v559 : Value).ownBlock) v565 t564 from by first | exact (Kd.N_elder' (by (with_reducible repeat (first | apply Kd.N_alloc | apply Kd.N_drewN | apply Kd.N_drew)); exact (Q_HO566 h0_)) (Kd.R_base ho62) hb) | exact Kd.N_mono (Kd.N_elder' (by (with_reducible repeat (first | apply Kd.N_alloc | apply Kd.N_drewN | apply Kd.N_drew)); exact (Q_HO566 h0_)) (Kd.R_base ho62) hb) (fun _ h_ => by first | trivial | exact h_ | exact h_.1))
                        clear HO555
                        clear HO560
                        clear HB
                        have HO555 := n0_
                        have HO560 := n1_
                        have HO569 := n2_
                        have HB := n3_
                        clear n0_ n1_ n2_ n3_
                        clear hb ho62
                        obtain ⟨Ao63, co63, eo63⟩ := Kd.R_slice HO569.out
                        subst eo63
                        obtain ⟨ado63, fo63, _⟩ := Kd.at_int (Kd.R_reads' HO569.out).2.2 0 (by decide) (by rw [Ny567.out]; simp)
                        cases fo63
                        refine hK.out _ _ ⟨v565, .slice (some ado63) y567.length co63, ado63, v573, m8_, m10_, m11_, m12_, m14_, (by rw [ha.out]; exact putSel_upk 3 hb_ rfl rfl rfl), (hNm_ HO555.out), (hRm_ HO560.out), hB_, z_HO566, fun _ => (hRm_ HO569.out), fun _ => ⟨_, rfl⟩, fun h0_ => absurd ((hoff 10 (by kernel_rfl)).symm.trans h0_) (by decide), fun h0_ => absurd ((hoff 8 (by kernel_rfl)).symm.trans h0_) (by decide), fun h0_ => absurd ((hoff 10 (by kernel_rfl)).symm.trans h0_) (by decide), fun h0_ => absurd ((hoff 11 (by kernel_rfl)).symm.trans h0_) (by decide), fun h0_ => absurd ((hoff 12 (by kernel_rfl)).symm.trans h0_) (by decide), fun h0_ => absurd ((hoff 14 (by kernel_rfl)).symm.trans h0_) (by decide)⟩
                      refine steps_cons ?_ ?_
                      · rintro b a w' ⟨v565, v568, adz_v568, v573, m8_, m10_, m11_, m12_, m14_, ha, Q_HO555, Q_HO560, Q_HB, Q_HO566, Q_HO569, Q_HA_HO569, Q_HO574, Q_X8_, Q_X10_, Q_X11_, Q_X12_, Q_X14_⟩ hb_ hon hoff
                        refine ⟨_, rfl, fun K hK => ?_⟩
                        have e43 : a.tmps[43]? = some (.int .i64 a0) := by rw [ha]; exact (putSel_off rfl).trans rfl
                        replace ha := Aside0.mk ha
                        have HO555 := Aside0.mk Q_HO555
                        have HO560 := Aside0.mk Q_HO560
                        have HB := Aside0.mk Q_HB
                        refine value_ (w1 := w') (v := .int .i64 (Go.bits .and .i64 a0 1)) (by rfl) rfl ?_ ?_
                        · go_simp
                          (try simp only [i64_w])
                          try rfl
                        refine hK.out _ _ ⟨v565, v568, adz_v568, v573, m8_, m10_, m11_, m12_, m14_, (by rw [ha.out]; exact putSel_upk 4 hb_ rfl rfl rfl), Q_HO555, Q_HO560, Q_HB, Q_HO566, Q_HO569, Q_HA_HO569, fun h0_ => absurd ((hoff 10 (by kernel_rfl)).symm.trans h0_) (by decide), fun h0_ => absurd ((hoff 8 (by kernel_rfl)).symm.trans h0_) (by decide), fun h0_ => absurd ((hoff 10 (by kernel_rfl)).symm.trans h0_) (by decide), fun h0_ => absurd ((hoff 11 (by kernel_rfl)).symm.trans h0_) (by decide), fun h0_ => absurd ((hoff 12 (by kernel_rfl)).symm.trans h0_) (by decide), fun h0_ => absurd ((hoff 14 (by kernel_rfl)).symm.trans h0_) (by decide)⟩
                      refine steps_cons ?_ ?_
                      · rintro b a w' ⟨v565, v568, adz_v568, v573, m8_, m10_, m11_, m12_, m14_, ha, Q_HO555, Q_HO560, Q_HB, Q_HO566, Q_HO569, Q_HA_HO569, Q_HO574, Q_X8_, Q_X10_, Q_X11_, Q_X12_, Q_X14_⟩ hb_ hon hoff
                        refine ⟨_, rfl, fun K hK => ?_⟩
                        have e42 : a.tmps[42]? = some (v568) := by rw [ha]; exact putSel_on (e := (5, 42, v568)) 3 rfl rfl (hon 5 (by kernel_rfl)) rfl
                        have e44 : a.tmps[44]? = some (.int .i64 (Go.bits .and .i64 a0 1)) := by rw [ha]; exact putSel_on (e := (7, 44, .int .i64 (Go.bits .and .i64 a0 1))) 4 rfl rfl (hon 7 (by kernel_rfl)) rfl
                        replace ha := Aside0.mk ha
                        have HO555 := Aside0.mk Q_HO555
                        have HO560 := Aside0.mk Q_HO560
                        have HB := Aside0.mk Q_HB
                        have HO569 := Aside0.mk (Q_HO569 (hon 5 (by kernel_rfl)))
                        have HA_HO569 := Aside0.mk (Q_HA_HO569 (hon 5 (by kernel_rfl)))
                        obtain ⟨c_, hv_⟩ := HA_HO569.out
                        rw [hv_] at e42
                        refine value_ (w1 := w') (v := .pointer (some (adz_v568.add ((Go.bits .and .i64 a0 1)).toNat))) (by rfl) rfl ?_ ?_
                        · go_simp
                          (try simp only [i64_w])
                          try rfl
                        refine hK.out _ _ ⟨v565, v568, adz_v568, v573, (.pointer (some (adz_v568.add ((Go.bits .and .i64 a0 1)).toNat))), m10_, m11_, m12_, m14_, (by rw [ha.out]; exact putSel_upk 5 hb_ rfl rfl rfl), Q_HO555, Q_HO560, Q_HB, Q_HO566, Q_HO569, Q_HA_HO569, fun h0_ => absurd ((hoff 10 (by kernel_rfl)).symm.trans h0_) (by decide), fun _ => rfl, fun h0_ => absurd ((hoff 10 (by kernel_rfl)).symm.trans h0_) (by decide), fun h0_ => absurd ((hoff 11 (by kernel_rfl)).symm.trans h0_) (by decide), fun h0_ => absurd ((hoff 12 (by kernel_rfl)).symm.trans h0_) (by decide), fun h0_ => absurd ((hoff 14 (by kernel_rfl)).symm.trans h0_) (by decide)⟩
                      refine steps_cons ?_ ?_
                      · rintro b a w' ⟨v565, v568, adz_v568, v573, m8_, m10_, m11_, m12_, m14_, ha, Q_HO555, Q_HO560, Q_HB, Q_HO566, Q_HO569, Q_HA_HO569, Q_HO574, Q_X8_, Q_X10_, Q_X11_, Q_X12_, Q_X14_⟩ hb_ hon hoff
                        refine ⟨_, rfl, fun K hK => ?_⟩
                        have e45 : a.tmps[45]? = some (m8_) := by rw [ha]; exact putSel_on (e := (8, 45, m8_)) 5 rfl rfl (hon 8 (by kernel_rfl)) rfl
                        rw [Q_X8_ (hon 8 (by kernel_rfl))] at e45
                        replace ha := Aside0.mk ha
                        have HO555 := Aside0.mk Q_HO555
                        have HO560 := Aside0.mk Q_HO560
                        have HB := Aside0.mk Q_HB
                        have HO569 := Aside0.mk (Q_HO569 (hon 5 (by kernel_rfl)))
                        have HA_HO569 := Aside0.mk (Q_HA_HO569 (hon 5 (by kernel_rfl)))
                        obtain ⟨c_, hv_⟩ := HA_HO569.out
                        have hF_ := HO569.out
                        rw [hv_] at hF_
                        obtain ⟨ad_, ea_, hx_⟩ := Kd.at_int (Kd.R_reads' hF_).2.2 (Go.bits .and .i64 a0 1) (of_eq_true pi570) (of_eq_true qi570)
                        cases ea_
                        refine value_ (w1 := w') (v := .int .i64 (rd y567 (Go.bits .and .i64 a0 1))) (by rfl) rfl ?_ ?_
                        · go_simp
                          (try simp only [i64_w])
                          try rfl
                        refine hK.out _ _ ⟨v565, v568, adz_v568, v573, m8_, m10_, m11_, m12_, m14_, (by rw [ha.out]; exact putSel_upk 6 hb_ rfl rfl rfl), Q_HO555, Q_HO560, Q_HB, Q_HO566, Q_HO569, Q_HA_HO569, fun h0_ => absurd ((hoff 10 (by kernel_rfl)).symm.trans h0_) (by decide), Q_X8_, fun h0_ => absurd ((hoff 10 (by kernel_rfl)).symm.trans h0_) (by decide), fun h0_ => absurd ((hoff 11 (by kernel_rfl)).symm.trans h0_) (by decide), fun h0_ => absurd ((hoff 12 (by kernel_rfl)).symm.trans h0_) (by decide), fun h0_ => absurd ((hoff 14 (by kernel_rfl)).symm.trans h0_) (by decide)⟩
                      refine steps_cons ?_ ?_
                      · rintro b a w' ⟨v565, v568, adz_v568, v573, m8_, m10_, m11_, m12_, m14_, ha, Q_HO555, Q_HO560, Q_HB, Q_HO566, Q_HO569, Q_HA_HO569, Q_HO574, Q_X8_, Q_X10_, Q_X11_, Q_X12_, Q_X14_⟩ hb_ hon hoff
                        refine ⟨_, rfl, fun K hK => ?_⟩
                        have e37 : a.tmps[37]? = some (v565) := by rw [ha]; exact putSel_on (e := (0, 37, v565)) 0 rfl rfl (hon 0 (by kernel_rfl)) rfl
                        have e46 : a.tmps[46]? = some (.int .i64 (rd y567 (Go.bits .and .i64 a0 1))) := by rw [ha]; exact putSel_on (e := (9, 46, .int .i64 (rd y567 (Go.bits .and .i64 a0 1)))) 6 rfl rfl (hon 9 (by kernel_rfl)) rfl
                        replace ha := Aside0.mk ha
                        have HO555 := Aside0.mk Q_HO555
                        have HO560 := Aside0.mk Q_HO560
                        have HB := Aside0.mk Q_HB
                        have HO566 := Aside0.mk (Q_HO566 (hon 0 (by kernel_rfl)))
                        have HO569 := Aside0.mk (Q_HO569 (hon 5 (by kernel_rfl)))
                        have HA_HO569 := Aside0.mk (Q_HA_HO569 (hon 5 (by kernel_rfl)))
                        obtain ⟨co66, eo66⟩ := HA_HO569.out
                        clear HA_HO569
                        subst eo66
                        obtain ⟨Ao67, co67, eo67⟩ := Kd.N_slice HO566.out
                        (first | subst eo67 | (injection eo67 with f1_ f2_ f3_; have f4_ := f1_.symm; have f5_ := f3_.symm; clear f1_ f2_ f3_; subst f4_; subst f5_))
                        refine goes_ Tryd.func26 (by kernel_rfl) rfl #[.slice Ao67 t564.length co67, .int .i64 (rd y567 (Go.bits .and .i64 a0 1))] (by rfl) rfl rfl (by first | (simp only [List.map_toArray, List.map_cons, List.map_nil, Act.eval, Array.getD_eq_getD_getElem?, Option.getD_some, e37, e46]; done) | (simp only [List.map_toArray, List.map_cons, List.map_nil, Act.eval, Array.getD_eq_getD_getElem?, Option.getD_some, e37, e46]; rfl)) ?_
                        with_reducible refine (back_Path.calls k _ _ t564 (rd y567 (Go.bits .and .i64 a0 1)) t571 t572 _ ?side1 ?side2 A14.out hG_).mono ?_
                        (case side1 => repeat (first | exact (Kd.N_reads' HO566.out).2.2 | (with_reducible refine Kd.C_alloc ?_ _) | (with_reducible refine Kd.C_drewN ?_ _) | (with_reducible refine Kd.C_drew ?_)))
                        (case side2 => exact (Kd.N_reads' HO566.out).2.1)
                        rintro e w68 ⟨v573, rfl, ho0, hb⟩
                        refine ⟨_, rfl, ?_⟩
                        have n0_ := Aside0.mk (Kd.N_elder' (hN_ HO555.out) (Kd.R_base ho0) hb)
                        have n1_ := Aside0.mk (Kd.R_elder' (hR_ HO560.out) (Kd.R_base ho0) hb)
                        have n2_ := Aside0.mk (Kd.N_elder' (hN_ HO566.out) (Kd.R_base ho0) hb)
                        have n3_ := Aside0.mk (Kd.R_elder' (hR_ HO569.out) (Kd.R_base ho0) hb)
                        have n4_ := Aside0.mk (Kd.R_lower (Kd.R_new' (Kd.R_new' ho0 (Kd.R_lt (hR_ HO560.out))) (Kd.R_lt (hR_ HO569.out))) hS_)
                        have n5_ := Aside0.mk (below_step hB_ hb)
                        clear HO555
                        clear HO560
                        clear HO566
                        clear HO569
                        clear HB
                        have HO555 := n0_
                        have HO560 := n1_
                        have HO566 := n2_
                        have HO569 := n3_
                        have HO574 := n4_
                        have HB := n5_
                        clear n0_ n1_ n2_ n3_ n4_ n5_
                        (try clear hb)
                        (try clear hb2)
                        (try clear hk)
                        (try clear hi)
                        (try clear ho0)
                        refine hK.out _ _ ⟨.slice Ao67 t564.length co67, .slice (some adz_v568) y567.length co66, adz_v568, v573, m8_, (.tuple #[v573, .int .i64 t572]), m11_, m12_, m14_, (by rw [ha.out]; exact putSel_upk 7 hb_ rfl rfl rfl), (hNm_ HO555.out), (hRm_ HO560.out), hB_, fun _ => (hNm_ HO566.out), fun _ => (hRm_ HO569.out), fun _ => ⟨_, rfl⟩, fun _ => (hRm_ HO574.out), Q_X8_, fun _ => rfl, fun h0_ => absurd ((hoff 11 (by kernel_rfl)).symm.trans h0_) (by decide), fun h0_ => absurd ((hoff 12 (by kernel_rfl)).symm.trans h0_) (by decide), fun h0_ => absurd ((hoff 14 (by kernel_rfl)).symm.trans h0_) (by decide)⟩
                      refine steps_cons ?_ ?_
                      · rintro b a w' ⟨v565, v568, adz_v568, v573, m8_, m10_, m11_, m12_, m14_, ha, Q_HO555, Q_HO560, Q_HB, Q_HO566, Q_HO569, Q_HA_HO569, Q_HO574, Q_X8_, Q_X10_, Q_X11_, Q_X12_, Q_X14_⟩ hb_ hon hoff
                        refine ⟨_, rfl, fun K hK => ?_⟩
                        have e47 : a.tmps[47]? = some (m10_) := by rw [ha]; exact putSel_on (e := (10, 47, m10_)) 7 rfl rfl (hon 10 (by kernel_rfl)) rfl
                        rw [Q_X10_ (hon 10 (by kernel_rfl))] at e47
                        replace ha := Aside0.mk ha
                        have HO555 := Aside0.mk Q_HO555
                        have HO560 := Aside0.mk Q_HO560
                        have HB := Aside0.mk Q_HB
                        have HO566 := Aside0.mk (Q_HO566 (hon 0 (by kernel_rfl)))
                        have HO569 := Aside0.mk (Q_HO569 (hon 5 (by kernel_rfl)))
                        have HA_HO569 := Aside0.mk (Q_HA_HO569 (hon 5 (by kernel_rfl)))
                        have HO574 := Aside0.mk (Q_HO574 (hon 10 (by kernel_rfl)))
                        refine value_ (w1 := w') (v := .tuple #[v573, .int .i64 t572]) (by rfl) rfl ?_ ?_
                        · go_simp
                          (try simp only [i64_w])
                          try rfl
                        refine hK.out _ _ ⟨v565, v568, adz_v568, v573, m8_, m10_, (.tuple #[v573, .int .i64 t572]), m12_, m14_, (by rw [ha.out]; exact putSel_upk 8 hb_ rfl rfl rfl), Q_HO555, Q_HO560, Q_HB, Q_HO566, Q_HO569, Q_HA_HO569, Q_HO574, Q_X8_, Q_X10_, fun _ => rfl, fun h0_ => absurd ((hoff 12 (by kernel_rfl)).symm.trans h0_) (by decide), fun h0_ => absurd ((hoff 14 (by kernel_rfl)).symm.trans h0_) (by decide)⟩
                      refine steps_cons ?_ ?_
                      · rintro b a w' ⟨v565, v568, adz_v568, v573, m8_, m10_, m11_, m12_, m14_, ha, Q_HO555, Q_HO560, Q_HB, Q_HO566, Q_HO569, Q_HA_HO569, Q_HO574, Q_X8_, Q_X10_, Q_X11_, Q_X12_, Q_X14_⟩ hb_ hon hoff
                        refine ⟨_, rfl, fun K hK => ?_⟩
                        have e36 : a.tmps[36]? = some (m11_) := by rw [ha]; exact putSel_on (e := (11, 36, m11_)) 8 rfl rfl (hon 11 (by kernel_rfl)) rfl
                        rw [Q_X11_ (hon 11 (by kernel_rfl))] at e36
                        replace ha := Aside0.mk ha
                        have HO555 := Aside0.mk Q_HO555
                        have HO560 := Aside0.mk Q_HO560
                        have HB := Aside0.mk Q_HB
                        have HO566 := Aside0.mk (Q_HO566 (hon 0 (by kernel_rfl)))
                        have HO569 := Aside0.mk (Q_HO569 (hon 5 (by kernel_rfl)))
                        have HA_HO569 := Aside0.mk (Q_HA_HO569 (hon 5 (by kernel_rfl)))
                        have HO574 := Aside0.mk (Q_HO574 (hon 10 (by kernel_rfl)))
                        obtain ⟨Ao12_0, co12_0, eo_⟩ := Kd.R_slice HO574.out
                        subst eo_
                        refine value_ (w1 := w') (v := .slice Ao12_0 t571.length co12_0) (by rfl) rfl ?_ ?_
                        · go_simp
                          (try simp only [i64_w])
                          try rfl
                        refine hK.out _ _ ⟨v565, v568, adz_v568, .slice Ao12_0 t571.length co12_0, m8_, m10_, m11_, (.slice Ao12_0 t571.length co12_0), m14_, (by rw [ha.out]; exact putSel_upk 9 hb_ rfl rfl rfl), Q_HO555, Q_HO560, Q_HB, Q_HO566, Q_HO569, Q_HA_HO569, Q_HO574, Q_X8_, Q_X10_, Q_X11_, fun _ => rfl, fun h0_ => absurd ((hoff 14 (by kernel_rfl)).symm.trans h0_) (by decide)⟩
                      refine steps_cons ?_ ?_
                      · rintro b a w' ⟨v565, v568, adz_v568, v573, m8_, m10_, m11_, m12_, m14_, ha, Q_HO555, Q_HO560, Q_HB, Q_HO566, Q_HO569, Q_HA_HO569, Q_HO574, Q_X8_, Q_X10_, Q_X11_, Q_X12_, Q_X14_⟩ hb_ hon hoff
                        refine ⟨_, rfl, fun K hK => ?_⟩
                        have e36 : a.tmps[36]? = some (m11_) := by rw [ha]; exact putSel_on (e := (11, 36, m11_)) 8 rfl rfl (hon 11 (by kernel_rfl)) rfl
                        rw [Q_X11_ (hon 11 (by kernel_rfl))] at e36
                        replace ha := Aside0.mk ha
                        have HO555 := Aside0.mk Q_HO555
                        have HO560 := Aside0.mk Q_HO560
                        have HB := Aside0.mk Q_HB
                        have HO566 := Aside0.mk (Q_HO566 (hon 0 (by kernel_rfl)))
                        have HO569 := Aside0.mk (Q_HO569 (hon 5 (by kernel_rfl)))
                        have HA_HO569 := Aside0.mk (Q_HA_HO569 (hon 5 (by kernel_rfl)))
                        have HO574 := Aside0.mk (Q_HO574 (hon 10 (by kernel_rfl)))
                        obtain ⟨Ao13_0, co13_0, eo_⟩ := Kd.R_slice HO574.out
                        subst eo_
                        refine value_ (w1 := w') (v := .int .i64 t572) (by rfl) rfl ?_ ?_
                        · go_simp
                          (try simp only [i64_w])
                          try rfl
                        refine hK.out _ _ ⟨v565, v568, adz_v568, .slice Ao13_0 t571.length co13_0, m8_, m10_, m11_, m12_, m14_, (by rw [ha.out]; exact putSel_upk 10 hb_ rfl rfl rfl), Q_HO555, Q_HO560, Q_HB, Q_HO566, Q_HO569, Q_HA_HO569, Q_HO574, Q_X8_, Q_X10_, Q_X11_, Q_X12_, Q_X14_⟩
                      refine steps_cons ?_ ?_
                      · rintro b a w' ⟨v565, v568, adz_v568, v573, m8_, m10_, m11_, m12_, m14_, ha, Q_HO555, Q_HO560, Q_HB, Q_HO566, Q_HO569, Q_HA_HO569, Q_HO574, Q_X8_, Q_X10_, Q_X11_, Q_X12_, Q_X14_⟩ hb_ hon hoff
                        refine ⟨_, rfl, fun K hK => ?_⟩
                        have e48 : a.tmps[48]? = some (m12_) := by rw [ha]; exact putSel_on (e := (12, 48, m12_)) 9 rfl rfl (hon 12 (by kernel_rfl)) rfl
                        rw [Q_X12_ (hon 12 (by kernel_rfl))] at e48
                        replace ha := Aside0.mk ha
                        have HO555 := Aside0.mk Q_HO555
                        have HO560 := Aside0.mk Q_HO560
                        have HB := Aside0.mk Q_HB
                        have HO566 := Aside0.mk (Q_HO566 (hon 0 (by kernel_rfl)))
                        have HO569 := Aside0.mk (Q_HO569 (hon 5 (by kernel_rfl)))
                        have HA_HO569 := Aside0.mk (Q_HA_HO569 (hon 5 (by kernel_rfl)))
                        have HO574 := Aside0.mk (Q_HO574 (hon 10 (by kernel_rfl)))
                        refine value_ (w1 := w') (v := v573) (by rfl) rfl ?_ ?_
                        · go_simp
                          (try simp only [i64_w])
                          try rfl
                        refine hK.out _ _ ⟨v565, v568, adz_v568, v573, m8_, m10_, m11_, m12_, (v573), (by rw [ha.out]; exact putSel_upk 11 hb_ rfl rfl rfl), Q_HO555, Q_HO560, Q_HB, Q_HO566, Q_HO569, Q_HA_HO569, Q_HO574, Q_X8_, Q_X10_, Q_X11_, Q_X12_, fun _ => rfl⟩
                      refine steps_cons ?_ ?_
                      · rintro b a w' ⟨v565, v568, adz_v568, v573, m8_, m10_, m11_, m12_, m14_, ha, Q_HO555, Q_HO560, Q_HB, Q_HO566, Q_HO569, Q_HA_HO569, Q_HO574, Q_X8_, Q_X10_, Q_X11_, Q_X12_, Q_X14_⟩ hb_ hon hoff
                        refine ⟨_, rfl, fun K hK => ?_⟩
                        have e49 : a.tmps[49]? = some (.int .i64 t572) := by rw [ha]; exact putSel_on (e := (13, 49, .int .i64 t572)) 10 rfl rfl (hon 13 (by kernel_rfl)) rfl
                        replace ha := Aside0.mk ha
                        have HO555 := Aside0.mk Q_HO555
                        have HO560 := Aside0.mk Q_HO560
                        have HB := Aside0.mk Q_HB
                        have HO566 := Aside0.mk (Q_HO566 (hon 0 (by kernel_rfl)))
                        have HO569 := Aside0.mk (Q_HO569 (hon 5 (by kernel_rfl)))
                        have HA_HO569 := Aside0.mk (Q_HA_HO569 (hon 5 (by kernel_rfl)))
                        have HO574 := Aside0.mk (Q_HO574 (hon 10 (by kernel_rfl)))
                        refine value_ (w1 := w') (v := .int .i64 t572) (by rfl) rfl ?_ ?_
                        · go_simp
                          (try simp only [i64_w])
                          try rfl
                        refine hK.out _ _ ⟨v565, v568, adz_v568, v573, m8_, m10_, m11_, m12_, m14_, (by rw [ha.out]; exact putSel_upk 12 hb_ rfl rfl rfl), Q_HO555, Q_HO560, Q_HB, Q_HO566, Q_HO569, Q_HA_HO569, Q_HO574, Q_X8_, Q_X10_, Q_X11_, Q_X12_, Q_X14_⟩
                      exact steps_nil
                    rintro b a w67 hall ⟨v565, v568, adz_v568, v573, m8_, m10_, m11_, m12_, m14_, ha, Q_HO555, Q_HO560, Q_HB, Q_HO566, Q_HO569, Q_HA_HO569, Q_HO574, Q_X8_, Q_X10_, Q_X11_, Q_X12_, Q_X14_⟩
                    clear HB HO555 HO560
                    have hb0_ := hall 0 (by kernel_rfl)
                    have hb2_ := hall 2 (by kernel_rfl)
                    have hb4_ := hall 4 (by kernel_rfl)
                    have hb5_ := hall 5 (by kernel_rfl)
                    have hb7_ := hall 7 (by kernel_rfl)
                    have hb8_ := hall 8 (by kernel_rfl)
                    have hb9_ := hall 9 (by kernel_rfl)
                    have hb10_ := hall 10 (by kernel_rfl)
                    have hb11_ := hall 11 (by kernel_rfl)
                    have hb12_ := hall 12 (by kernel_rfl)
                    have hb13_ := hall 13 (by kernel_rfl)
                    have hb14_ := hall 14 (by kernel_rfl)
                    have hb15_ := hall 15 (by kernel_rfl)
                    subst ha
                    obtain rfl := Q_X8_ hb8_
                    obtain rfl := Q_X10_ hb10_
                    obtain rfl := Q_X11_ hb11_
                    obtain rfl := Q_X12_ hb12_
                    obtain rfl := Q_X14_ hb14_
                    simp only [putSel, hb0_, hb2_, hb4_, hb5_, hb7_, hb8_, hb9_, hb10_, hb11_, hb12_, hb13_, hb14_, hb15_, if_true, Act.put, List.setIfInBounds_toArray, List.set_cons_zero, List.set_cons_succ]
                    have HO555 := Aside0.mk Q_HO555
                    clear Q_HO555
                    have HO560 := Aside0.mk Q_HO560
                    clear Q_HO560
                    have HB := Aside0.mk Q_HB
                    clear Q_HB
                    have HO566 := Aside0.mk (Q_HO566 hb0_)
                    clear Q_HO566
                    have HO569 := Aside0.mk (Q_HO569 hb5_)
                    clear Q_HO569
                    have HA_HO569 := Aside0.mk (Q_HA_HO569 hb5_)
                    clear Q_HA_HO569
                    have HO574 := Aside0.mk (Q_HO574 hb10_)
                    clear Q_HO574
                    clear hall hb0_ hb2_ hb4_ hb5_ hb7_ hb8_ hb9_ hb10_ hb11_ hb12_ hb13_ hb14_ hb15_
                    obtain ⟨co68, eo68⟩ := HA_HO569.out
                    clear HA_HO569
                    subst eo68
                    obtain ⟨Ao69, co69, eo69⟩ := Kd.R_slice HO560.out
                    subst eo69
                    try go_wp2_with (first | (go_at_call 20; (with_reducible refine (sleuthlaw0_Num.calls t558 t575 _ A16.out).mono ?_); rintro e w' ⟨rfl, ⟨nd, rfl⟩⟩) | (go_at_call 20; (with_reducible refine (sleuthlaw0_Num.calls t563 t576 _ A35.out).mono ?_); rintro e w' ⟨rfl, ⟨nd, rfl⟩⟩))
                    go_ret
                    exact ⟨by first | rfl | (simp [errW_none, errW_some] <;> rfl) | (simp [*, errW_none, errW_some] <;> rfl), by repeat (first | (with_reducible first | exact HB.out | apply below_alloc | apply pw_below_drewN | apply below_drew1) | exact HB.out)⟩
              · rw [if_neg c17] at H
                have c17b0 : (t575 == 2400) = false := beq_eq_false_iff_ne.mpr c17
                have c17b1 : (t575 != 2400) = true := bne_iff_ne.mpr c17
                obtain rfl := Option.some.inj H
                go_enter Tryd.func10, Tryd.ntmps10
                try go_wp2_with (first | ((with_reducible refine gate_callee (f := 30) rfl ?_); refine goesL_ (some 14) rfl rfl Tryd.func30 (by kernel_rfl) rfl #[] rfl hL_ ?_; (with_reducible refine (sleuthlaw24_awake.calls k  true _ A3.out hG_).mono ?_); rintro e w70 ⟨rfl, hb⟩; refine ⟨_, rfl, ?_⟩; have n0_ := Aside0.mk (below_step hB_ hb); clear HB; have HB := n0_; clear n0_; (try clear hb); (try clear hb2); (try clear hk); (try clear hi)) | ((with_reducible refine gate_callee (f := 31) rfl ?_); refine goesL_ (some 19) rfl rfl Tryd.func31 (by kernel_rfl) rfl #[] rfl hL_ ?_; (with_reducible refine (sleuthlaw24_some.calls  t553 _ A5.out).mono ?_); rintro e w71 ⟨v554, rfl, ho0, hb⟩; refine ⟨_, rfl, ?_⟩; have n0_ := Aside0.mk (Kd.N_lower (Kd.N_mono (ok' := fun k_ => True) ho0 (fun k_ hk_ => trivial)) hS_); have n1_ := Aside0.mk (below_step hB_ hb); clear HB; have HO555 := n0_; have HB := n1_; clear n0_ n1_; (try clear hb); (try clear hb2); (try clear hk); (try clear hi); (try clear ho0); have p8 : 0 ≤ ((Go.bits .and .i64 a1 3) : Int) := of_decide_eq_true hA_; have q8 : ((Go.bits .and .i64 a1 3) : Int) < ((t553.length : Int) : Int) := of_decide_eq_true hA_; obtain ⟨go8, co8, eo8, gb8, gl8, cl8, HG8⟩ := Kd.N_form HO555.out (by omega); (first | cases eo8 | (injection eo8 with ea_ en_ ec_; (first | subst ea_ | (injection ea_ with ea_; subst ea_)); subst ec_; clear en_)); have GB8 := Aside0.mk gb8; have GG8 := Aside0.mk HG8; clear gb8 gl8 HG8; obtain ⟨ce8, hcl8, hM8, hcc8, hfr8⟩ := Kd.N_elem HO555.out z44 ((Go.bits .and .i64 a1 3) : Int) p8 q8; obtain ⟨ua8_2, uc8_2, rfl, ul8_2, ge8_2⟩ := k44_openF hM8; have hx8_0 : w71.cell? ⟨go8, ((Go.bits .and .i64 a1 3) : Int).toNat * 4, none⟩ = some (.int .i64 ((rd_T44 t553 (Go.bits .and .i64 a1 3)).f0)) := hcc8 0 _ rfl; have hx8_1 : w71.cell? ⟨go8, ((Go.bits .and .i64 a1 3) : Int).toNat * 4 + 1, none⟩ = some (.int .i64 ((rd_T44 t553 (Go.bits .and .i64 a1 3)).f1)) := hcc8 1 _ rfl; have hx8_2 : w71.cell? ⟨go8, ((Go.bits .and .i64 a1 3) : Int).toNat * 4 + 2, none⟩ = some (.slice ua8_2 ((rd_T44 t553 (Go.bits .and .i64 a1 3)).f2).length uc8_2) := hcc8 2 _ rfl; have hx8_3 : w71.cell? ⟨go8, ((Go.bits .and .i64 a1 3) : Int).toNat * 4 + 3, none⟩ = some (.string ((rd_T44 t553 (Go.bits .and .i64 a1 3)).f3)) := hcc8 3 _ rfl; have hf8_0 : w71.frozen? ⟨go8, ((Go.bits .and .i64 a1 3) : Int).toNat * 4, none⟩ = false := hfr8 0; have hf8_1 : w71.frozen? ⟨go8, ((Go.bits .and .i64 a1 3) : Int).toNat * 4 + 1, none⟩ = false := hfr8 1; have hf8_2 : w71.frozen? ⟨go8, ((Go.bits .and .i64 a1 3) : Int).toNat * 4 + 2, none⟩ = false := hfr8 2; have hf8_3 : w71.frozen? ⟨go8, ((Go.bits .and .i64 a1 3) : Int).toNat * 4 + 3, none⟩ = false := hfr8 3; clear hcl8 hcc8 hfr8 hM8; replace p8 := eq_true p8; replace q8 := eq_true q8; have HX72 := Aside0.mk (show Kd.N k44 44 w71 w.heap.size (fun _ => True) (.slice (some ⟨go8, 0, none⟩) t553.length co8) t553 from (hN_ HO555.out)); obtain ⟨ce72, hcl72, hM72, hcc72, hfr72⟩ := Kd.N_elem HX72.out z44 ((Go.bits .and .i64 a1 3) : Int) (of_decide_eq_true hA_) (by have h_ : ((Go.bits .and .i64 a1 3) : Int) < ((t553.length : Int) : Int) := of_decide_eq_true hA_; first | exact h_ | (have e_ := (Kd.N_reads' HO555.out).1; omega) | simpa using h_); obtain ⟨ua72_2, uc72_2, rfl, ul72_2, ge72_2⟩ := k44_openF hM72; have HP72 := Kd.N_seg HX72.out ((Go.bits .and .i64 a1 3) : Int) (of_decide_eq_true hA_) (by have h_ : ((Go.bits .and .i64 a1 3) : Int) < ((t553.length : Int) : Int) := of_decide_eq_true hA_; first | exact h_ | (have e_ := (Kd.N_reads' HO555.out).1; omega) | simpa using h_) (seg := [.string (⟨#[63]⟩ : ByteArray)]) (j := 3) hcl72 hcc72 (show 4 ≤ 4 from by decide) (x' := (⟨(rd_T44 t553 (Go.bits .and .i64 a1 3)).f0, (rd_T44 t553 (Go.bits .and .i64 a1 3)).f1, (rd_T44 t553 (Go.bits .and .i64 a1 3)).f2, (⟨#[63]⟩ : ByteArray)⟩ : S44)) (k44_mkF _ _ (⟨(rd_T44 t553 (Go.bits .and .i64 a1 3)).f0, (rd_T44 t553 (Go.bits .and .i64 a1 3)).f1, (rd_T44 t553 (Go.bits .and .i64 a1 3)).f2, (⟨#[63]⟩ : ByteArray)⟩ : S44) ul72_2 ge72_2) (fun _ hk => hk); have hx72_3 := hcc72 3 _ rfl; (try simp only [show (k44).sz = 4 from rfl, Nat.mul_one, Nat.add_zero] at hx72_3); have hf72_3 := hfr72 3; (try simp only [show (k44).sz = 4 from rfl, Nat.mul_one, Nat.add_zero] at hf72_3); clear hcl72 hcc72 hfr72 hM72) | ((with_reducible refine gate_store (t := 9) (p := 24) rfl ?_); refine store_event (t := 9) (p := 24) (v := ?vo_w73) (w1 := (w71.setCell ⟨go8, ((Go.bits .and .i64 a1 3) : Int).toNat * 4 + 3, none⟩ (.string (⟨#[63]⟩ : ByteArray)))) ?hg ?ho ?hn ?hr ?_; (case ho => rfl); (case hg => rfl); (case hn => rfl); (case hr => first | (go_simp; done) | (go_simp; rfl)); intro w73 hw; have hg : w71.grownBy w73 (some go8) := (by rw [hw]; exact HP72.2); have hp_ : Kd.N k44 44 w73 w.heap.size (fun _ => True) (.slice (some ⟨go8, 0, none⟩) t553.length co8) y556 := (by rw [hw, Ny556.out]; exact HP72.1); clear HP72; have n0_ := Aside0.mk (hp_); have n1_ := Aside0.mk ((by rw [hw]; exact below_set (HB.out) GB8.out : Below w.heap.size w w73)); clear HO555; clear HB; have HO555 := n0_; have HB := n1_; clear n0_ n1_; clear hg hw hp_) | ((with_reducible refine gate_callee (f := 26) rfl ?_); refine goesL_ (some 27) rfl rfl Tryd.func26 (by kernel_rfl) rfl #[.slice (some ⟨go8, 0, none⟩) y556.length co8, .int .i64 0] rfl (by (try simp only [List.map_toArray, List.map_cons, List.map_nil]); first | done | (rw [show y556.length = t553.length from (Kd.N_reads' HO555.out).1.symm] <;> rfl) | rfl | (simp only [List.length_drop, List.length_take]; rfl)) ?_; (with_reducible refine (back_Path.calls k _ _ y556 0 t557 t558 _ ?side1 ?side2 A9.out hG_).mono ?_); (case side1 => repeat (first | exact (Kd.N_reads' HO555.out).2.2 | (with_reducible refine Kd.C_alloc ?_ _) | (with_reducible refine Kd.C_drewN ?_ _) | (with_reducible refine Kd.C_drew ?_))); (case side2 => rw [show y556.length = t553.length from (Kd.N_reads' HO555.out).1.symm]; exact (Kd.N_reads' HO555.out).2.1); rintro e w74 ⟨v559, rfl, ho0, hb⟩; refine ⟨_, rfl, ?_⟩; have n0_ := Aside0.mk (Kd.N_elder' (hN_ HO555.out) (Kd.R_base ho0) hb); have n1_ := Aside0.mk (Kd.R_lower ho0 hS_); have n2_ := Aside0.mk (below_step hB_ hb); clear HO555; clear HB; have HO555 := n0_; have HO560 := n1_; have HB := n2_; clear n0_ n1_ n2_; (try clear hb); (try clear hb2); (try clear hk); (try clear hi); (try clear ho0)) | ((with_reducible refine gate_callee (f := 28) rfl ?_); refine goesL_ (some 32) rfl rfl Tryd.func28 (by kernel_rfl) rfl #[.slice (some ⟨go8, 0, none⟩) y556.length co8] rfl (by (try simp only [List.map_toArray, List.map_cons, List.map_nil]); first | done | (rw [show y556.length = t553.length from (Kd.N_reads' HO555.out).1.symm] <;> rfl) | rfl | (simp only [List.length_drop, List.length_take]; rfl)) ?_; (with_reducible refine (back_Last.calls k _ _ y556 t561 t562 t563 _ ?side1 ?side2 A10.out hG_).mono ?_); (case side1 => repeat (first | exact (Kd.N_reads' HO555.out).2.2 | (with_reducible refine Kd.C_alloc ?_ _) | (with_reducible refine Kd.C_drewN ?_ _) | (with_reducible refine Kd.C_drew ?_))); (case side2 => rw [show y556.length = t553.length from (Kd.N_reads' HO555.out).1.symm]; exact (Kd.N_reads' HO555.out).2.1); rintro e w75 ⟨rfl, hb⟩; refine ⟨_, rfl, ?_⟩; have n0_ := Aside0.mk (Kd.N_below (hN_ HO555.out) hb); have n1_ := Aside0.mk (Kd.R_below (hR_ HO560.out) hb); have n2_ := Aside0.mk (below_step hB_ hb); clear HO555; clear HO560; clear HB; have HO555 := n0_; have HO560 := n1_; have HB := n2_; clear n0_ n1_ n2_; (try clear hb); (try clear hb2); (try clear hk); (try clear hi)))
                have pi570 : (0 ≤ ((Go.bits .and .i64 a0 1) : Int)) = True := eq_true (of_decide_eq_true hA_)
                have qi570 : ((Go.bits .and .i64 a0 1) < (y567.length : Int)) = True := eq_true (of_decide_eq_true hA_)
                have n0_ := Aside0.mk (Kd.N_drew HO555.out)
                have n1_ := Aside0.mk (Kd.R_drew HO560.out)
                have n2_ := Aside0.mk (below_drew1 HB.out)
                clear HO555
                clear HO560
                clear HB
                have HO555 := n0_
                have HO560 := n1_
                have HB := n2_
                clear n0_ n1_ n2_
                refine start_ (n := 16) (S := fun w' => True) (ds := []) #[false, false, false, false, false, false, false, false, false, false, false, false, false, false, false, false] (by kernel_rfl) rfl rfl trivial (fun hHeld => ?_); refine with_tabW sleuthlaw24_BackForms.tab8 sleuthlaw24_BackForms.bits8 (fun HT_ HW_ => ?_)
                generalize w75.drew = w76 at HO555 HO560 HB hHeld ⊢
                refine pure_ (i := 1) (N := some 38) (v := ?_) (a' := ?_) #[false, true, false, false, false, false, false, false, false, false, false, false, false, false, false, false] rfl rfl (any_of HT_.out (by kernel_rfl)) (fun _ _ _ h => h) (Or.inl ⟨by rfl, ?_⟩) ?_ ?_
                rotate_left
                · intro w'
                  go_simp
                  with_reducible rfl
                rotate_left
                · simp only [Act.put, List.setIfInBounds_toArray, List.set_cons_zero, List.set_cons_succ, i64_w, i32_w]
                  rfl
                refine pure_ (i := 3) (N := some 40) (v := ?_) (a' := ?_) #[false, true, false, true, false, false, false, false, false, false, false, false, false, false, false, false] rfl rfl (any_of HT_.out (by kernel_rfl)) (fun _ _ _ h => h) (Or.inl ⟨by rfl, ?_⟩) ?_ ?_
                rotate_left
                · intro w'
                  go_simp
                  with_reducible rfl
                rotate_left
                · simp only [Act.put, List.setIfInBounds_toArray, List.set_cons_zero, List.set_cons_succ, i64_w, i32_w]
                  rfl
                refine pure_ (i := 6) (N := some 43) (v := ?_) (a' := ?_) #[false, true, false, true, false, false, true, false, false, false, false, false, false, false, false, false] rfl rfl (any_of HT_.out (by kernel_rfl)) (fun _ _ _ h => h) (Or.inl ⟨by rfl, ?_⟩) ?_ ?_
                rotate_left
                · intro w'
                  go_simp
                  with_reducible rfl
                rotate_left
                · simp only [Act.put, List.setIfInBounds_toArray, List.set_cons_zero, List.set_cons_succ, i64_w, i32_w]
                  rfl
                refine inv_at [0, 2, 4, 5, 7, 8, 9, 10, 11, 12, 13, 14, 15] (fun a0_ b a w' => ∃ (v565 : Value) (v568 : Value) (adz_v568 : Addr) (v573 : Value) (m8_ : Value) (m10_ : Value) (m11_ : Value) (m12_ : Value) (m14_ : Value), a = putSel a0_ b [(0, 37, v565), (2, 39, .int .i64 (wrap64 (-(wrap64 (1 + (Go.bits .and .i64 a1 1023)))))), (4, 41, .int .i64 (wrap64 (4 + (wrap64 (1 + (Go.bits .and .i64 a1 1023)))))), (5, 42, v568), (7, 44, .int .i64 (Go.bits .and .i64 a0 1)), (8, 45, m8_), (9, 46, .int .i64 (rd y567 (Go.bits .and .i64 a0 1))), (10, 47, m10_), (11, 36, m11_), (12, 48, m12_), (13, 49, .int .i64 t572), (14, 12, m14_), (15, 13, .int .i64 t572)] ∧ (Kd.N k44 44 w' w.heap.size (fun k_ => some k_ ≠ (v559 : Value).ownBlock) (.slice (some ⟨go8, 0, none⟩) t553.length co8) y556) ∧ (Kd.R (Kd.int .i64) 3 w' w.heap.size (fun _ => True) v559 t557) ∧ (Below w.heap.size w w') ∧ (b 0 = true → Kd.N k44 44 w' w.heap.size (fun k_ => some k_ ≠ (.slice (some ⟨go8, 0, none⟩) t553.length co8 : Value).ownBlock ∧ some k_ ≠ (v559 : Value).ownBlock) v565 t564) ∧ (b 5 = true → Kd.R (Kd.int .i64) 3 w' w.heap.size (fun k_ => some k_ ≠ (v559 : Value).ownBlock) v568 y567) ∧ (b 5 = true → ∃ c_, (v568 : Value) = .slice (some adz_v568) y567.length c_) ∧ (b 10 = true → Kd.R (Kd.int .i64) 3 w' w.heap.size (fun k_ => some k_ ≠ (v559 : Value).ownBlock) v573 t571) ∧ (b 8 = true → (m8_ : Value) = .pointer (some (adz_v568.add ((Go.bits .and .i64 a0 1)).toNat))) ∧ (b 10 = true → (m10_ : Value) = .tuple #[v573, .int .i64 t572]) ∧ (b 11 = true → (m11_ : Value) = .tuple #[v573, .int .i64 t572]) ∧ (b 12 = true → (m12_ : Value) = v573) ∧ (b 14 = true → (m14_ : Value) = v573)) HT_.out HW_.out (by kernel_rfl) (by kernel_rfl) ?_ ?_ ?_
                · exact ⟨.bool false, .bool false, ⟨0, 0, none⟩, .bool false, .bool false, .bool false, .bool false, .bool false, .bool false, by simp only [putSel, Bool.false_eq_true, if_false], (by first | exact HO555.out | exact Kd.N_mono HO555.out (fun _ hk => by simp_all) | exact Kd.R_mono HO555.out (fun _ hk => by simp_all)), (by first | exact HO560.out | exact Kd.N_mono HO560.out (fun _ hk => by simp_all) | exact Kd.R_mono HO560.out (fun _ hk => by simp_all)), HB.out, fun h_ => absurd h_ (by decide), fun h_ => absurd h_ (by decide), fun h_ => absurd h_ (by decide), fun h_ => absurd h_ (by decide), fun h_ => absurd h_ (by decide), fun h_ => absurd h_ (by decide), fun h_ => absurd h_ (by decide), fun h_ => absurd h_ (by decide), fun h_ => absurd h_ (by decide)⟩
                · skip
                  clear HB HO555 HO560
                  refine steps_cons ?_ ?_
                  · rintro b a w' ⟨v565, v568, adz_v568, v573, m8_, m10_, m11_, m12_, m14_, ha, Q_HO555, Q_HO560, Q_HB, Q_HO566, Q_HO569, Q_HA_HO569, Q_HO574, Q_X8_, Q_X10_, Q_X11_, Q_X12_, Q_X14_⟩ hb_ hon hoff
                    refine ⟨_, rfl, fun K hK => ?_⟩
                    replace ha := Aside0.mk ha
                    have HO555 := Aside0.mk Q_HO555
                    have HO560 := Aside0.mk Q_HO560
                    have HB := Aside0.mk Q_HB
                    refine goes_ Tryd.func31 (by kernel_rfl) rfl #[] (by rfl) rfl rfl (by first | (simp only [List.map_toArray, List.map_cons, List.map_nil, Act.eval, Array.getD_eq_getD_getElem?, Option.getD_some]; done) | (simp only [List.map_toArray, List.map_cons, List.map_nil, Act.eval, Array.getD_eq_getD_getElem?, Option.getD_some]; rfl)) ?_
                    with_reducible refine (sleuthlaw24_some.calls  t564 _ A11.out).mono ?_
                    rintro e w77 ⟨v565, rfl, ho0, hb⟩
                    refine ⟨_, rfl, ?_⟩
                    have n0_ := Aside0.mk (Kd.N_elder' (hN_ HO555.out) (Kd.N_base ho0) hb)
                    have n1_ := Aside0.mk (Kd.R_below (hR_ HO560.out) hb)
                    have n2_ := Aside0.mk (Kd.N_lower (Kd.N_mono (ok' := fun k_ => some k_ ≠ (.slice (some ⟨go8, 0, none⟩) t553.length co8 : Value).ownBlock ∧ some k_ ≠ (v559 : Value).ownBlock) ho0 (fun k_ hk_ => ⟨(Kd.fresh' (Kd.N_lt (hN_ HO555.out)) k_ hk_), (Kd.fresh' (Kd.R_lt (hR_ HO560.out)) k_ hk_)⟩)) hS_)
                    have n3_ := Aside0.mk (below_step hB_ hb)
                    have z_HO569 := fun (h0_ : b 5 = true) => (show Kd.R (Kd.int .i64) 3 w77 w.heap.size (fun k_ => some k_ ≠ (v559 : Value).ownBlock) v568 y567 from by first | exact (Kd.R_below (by (with_reducible repeat (first | apply Kd.R_alloc | apply Kd.R_drewN | apply Kd.R_drew)); exact (Q_HO569 h0_)) hb) | exact Kd.R_mono (Kd.R_below (by (with_reducible repeat (first | apply Kd.R_alloc | apply Kd.R_drewN | apply Kd.R_drew)); exact (Q_HO569 h0_)) hb) (fun _ h_ => by first | trivial | exact h_ | exact h_.1))
                    clear HO555
                    clear HO560
                    clear HB
                    have HO555 := n0_
                    have HO560 := n1_
                    have HO566 := n2_
                    have HB := n3_
                    clear n0_ n1_ n2_ n3_
                    (try clear hb)
                    (try clear hb2)
                    (try clear hk)
                    (try clear hi)
                    (try clear ho0)
                    refine hK.out _ _ ⟨v565, v568, adz_v568, v573, m8_, m10_, m11_, m12_, m14_, (by rw [ha.out]; exact putSel_upk 0 hb_ rfl rfl rfl), (hNm_ HO555.out), (hRm_ HO560.out), hB_, fun _ => (hNm_ HO566.out), z_HO569, Q_HA_HO569, fun h0_ => absurd ((hoff 10 (by kernel_rfl)).symm.trans h0_) (by decide), Q_X8_, fun h0_ => absurd ((hoff 10 (by kernel_rfl)).symm.trans h0_) (by decide), fun h0_ => absurd ((hoff 11 (by kernel_rfl)).symm.trans h0_) (by decide), fun h0_ => absurd ((hoff 12 (by kernel_rfl)).symm.trans h0_) (by decide), fun h0_ => absurd ((hoff 14 (by kernel_rfl)).symm.trans h0_) (by decide)⟩
                  refine steps_cons ?_ ?_
                  · rintro b a w' ⟨v565, v568, adz_v568, v573, m8_, m10_, m11_, m12_, m14_, ha, Q_HO555, Q_HO560, Q_HB, Q_HO566, Q_HO569, Q_HA_HO569, Q_HO574, Q_X8_, Q_X10_, Q_X11_, Q_X12_, Q_X14_⟩ hb_ hon hoff
                    refine ⟨_, rfl, fun K hK => ?_⟩
                    have e38 : a.tmps[38]? = some (.int .i64 (wrap64 (1 + (Go.bits .and .i64 a1 1023)))) := by rw [ha]; exact (putSel_off rfl).trans rfl
                    replace ha := Aside0.mk ha
                    have HO555 := Aside0.mk Q_HO555
                    have HO560 := Aside0.mk Q_HO560
                    have HB := Aside0.mk Q_HB
                    refine value_ (w1 := w') (v := .int .i64 (wrap64 (-(wrap64 (1 + (Go.bits .and .i64 a1 1023)))))) (by rfl) rfl ?_ ?_
                    · go_simp
                      (try simp only [i64_w])
                      try rfl
                    refine hK.out _ _ ⟨v565, v568, adz_v568, v573, m8_, m10_, m11_, m12_, m14_, (by rw [ha.out]; exact putSel_upk 1 hb_ rfl rfl rfl), Q_HO555, Q_HO560, Q_HB, Q_HO566, fun h0_ => absurd ((hoff 5 (by kernel_rfl)).symm.trans h0_) (by decide), fun h0_ => absurd ((hoff 5 (by kernel_rfl)).symm.trans h0_) (by decide), fun h0_ => absurd ((hoff 10 (by kernel_rfl)).symm.trans h0_) (by decide), fun h0_ => absurd ((hoff 8 (by kernel_rfl)).symm.trans h0_) (by decide), fun h0_ => absurd ((hoff 10 (by kernel_rfl)).symm.trans h0_) (by decide), fun h0_ => absurd ((hoff 11 (by kernel_rfl)).symm.trans h0_) (by decide), fun h0_ => absurd ((hoff 12 (by kernel_rfl)).symm.trans h0_) (by decide), fun h0_ => absurd ((hoff 14 (by kernel_rfl)).symm.trans h0_) (by decide)⟩
                  refine steps_cons ?_ ?_
                  · rintro b a w' ⟨v565, v568, adz_v568, v573, m8_, m10_, m11_, m12_, m14_, ha, Q_HO555, Q_HO560, Q_HB, Q_HO566, Q_HO569, Q_HA_HO569, Q_HO574, Q_X8_, Q_X10_, Q_X11_, Q_X12_, Q_X14_⟩ hb_ hon hoff
                    refine ⟨_, rfl, fun K hK => ?_⟩
                    have e40 : a.tmps[40]? = some (.int .i64 (wrap64 (1 + (Go.bits .and .i64 a1 1023)))) := by rw [ha]; exact (putSel_off rfl).trans rfl
                    replace ha := Aside0.mk ha
                    have HO555 := Aside0.mk Q_HO555
                    have HO560 := Aside0.mk Q_HO560
                    have HB := Aside0.mk Q_HB
                    refine value_ (w1 := w') (v := .int .i64 (wrap64 (4 + (wrap64 (1 + (Go.bits .and .i64 a1 1023)))))) (by rfl) rfl ?_ ?_
                    · go_simp
                      (try simp only [i64_w])
                      try rfl
                    refine hK.out _ _ ⟨v565, v568, adz_v568, v573, m8_, m10_, m11_, m12_, m14_, (by rw [ha.out]; exact putSel_upk 2 hb_ rfl rfl rfl), Q_HO555, Q_HO560, Q_HB, Q_HO566, fun h0_ => absurd ((hoff 5 (by kernel_rfl)).symm.trans h0_) (by decide), fun h0_ => absurd ((hoff 5 (by kernel_rfl)).symm.trans h0_) (by decide), fun h0_ => absurd ((hoff 10 (by kernel_rfl)).symm.trans h0_) (by decide), fun h0_ => absurd ((hoff 8 (by kernel_rfl)).symm.trans h0_) (by decide), fun h0_ => absurd ((hoff 10 (by kernel_rfl)).symm.trans h0_) (by decide), fun h0_ => absurd ((hoff 11 (by kernel_rfl)).symm.trans h0_) (by decide), fun h0_ => absurd ((hoff 12 (by kernel_rfl)).symm.trans h0_) (by decide), fun h0_ => absurd ((hoff 14 (by kernel_rfl)).symm.trans h0_) (by decide)⟩
                  refine steps_cons ?_ ?_
                  · rintro b a w' ⟨v565, v568, adz_v568, v573, m8_, m10_, m11_, m12_, m14_, ha, Q_HO555, Q_HO560, Q_HB, Q_HO566, Q_HO569, Q_HA_HO569, Q_HO574, Q_X8_, Q_X10_, Q_X11_, Q_X12_, Q_X14_⟩ hb_ hon hoff
                    refine ⟨_, rfl, fun K hK => ?_⟩
                    have e39 : a.tmps[39]? = some (.int .i64 (wrap64 (-(wrap64 (1 + (Go.bits .and .i64 a1 1023)))))) := by rw [ha]; exact putSel_on (e := (2, 39, .int .i64 (wrap64 (-(wrap64 (1 + (Go.bits .and .i64 a1 1023))))))) 1 rfl rfl (hon 2 (by kernel_rfl)) rfl
                    have e41 : a.tmps[41]? = some (.int .i64 (wrap64 (4 + (wrap64 (1 + (Go.bits .and .i64 a1 1023)))))) := by rw [ha]; exact putSel_on (e := (4, 41, .int .i64 (wrap64 (4 + (wrap64 (1 + (Go.bits .and .i64 a1 1023))))))) 2 rfl rfl (hon 4 (by kernel_rfl)) rfl
                    replace ha := Aside0.mk ha
                    have HO555 := Aside0.mk Q_HO555
                    have HO560 := Aside0.mk Q_HO560
                    have HB := Aside0.mk Q_HB
                    refine Kd.R_lit_step (Kd.int .i64) _ 3 ?hg (N := 42) ?hd (xs := ([wrap64 (-(wrap64 (1 + (Go.bits .and .i64 a1 1023)))), wrap64 (4 + (wrap64 (1 + (Go.bits .and .i64 a1 1023))))] : List Int)) (inner := [.int .i64 (wrap64 (-(wrap64 (1 + (Go.bits .and .i64 a1 1023))))), .int .i64 (wrap64 (4 + (wrap64 (1 + (Go.bits .and .i64 a1 1023)))))]) (ok := fun _ => True) (okp := fun _ => True) ?hr ?hp (fun _ hk => hk) trivial (Below.refl _ _) (Nat.le_refl _) (by simp) ?_; (case hd => rfl); (case hg => rfl); (case hr => first | (go_simp; done) | (go_simp; rfl)); (case hp => exact (Reps.one (show Kd.M (Kd.int .i64) _ _ _ (wrap64 (-(wrap64 (1 + (Go.bits .and .i64 a1 1023))))) [.int .i64 (wrap64 (-(wrap64 (1 + (Go.bits .and .i64 a1 1023)))))] from rfl) (Reps.one (show Kd.M (Kd.int .i64) _ _ _ (wrap64 (4 + (wrap64 (1 + (Go.bits .and .i64 a1 1023))))) [.int .i64 (wrap64 (4 + (wrap64 (1 + (Go.bits .and .i64 a1 1023)))))] from rfl) (Reps.none _ _))))
                    intro v568 w77 ho78 hb hg_ hnew_
                    clear hg_ hnew_
                    (first | rw [← Ny567.out] at ho78 | (simp only [Int.reduceToNat] at ho78; rw [← Ny567.out] at ho78))
                    have n0_ := Aside0.mk (Kd.N_elder' (hN_ HO555.out) (Kd.R_base ho78) hb)
                    have n1_ := Aside0.mk (Kd.R_elder' (hR_ HO560.out) (Kd.R_base ho78) hb)
                    have n2_ := Aside0.mk (Kd.R_lower (Kd.R_new' ho78 (Kd.R_lt (hR_ HO560.out))) hS_)
                    have n3_ := Aside0.mk (below_step hB_ hb)
                    have z_HO566 := fun (h0_ : b 0 = true) => (show Kd.N k44 44 w77 w.heap.size (fun k_ => some k_ ≠ (.slice (some ⟨go8, 0, none⟩) t553.length co8 : Value).ownBlock ∧ some k_ ≠ (v559 : Value).ownBlock) v565 t564 from by first | exact (Kd.N_elder' (by (with_reducible repeat (first | apply Kd.N_alloc | apply Kd.N_drewN | apply Kd.N_drew)); exact (Q_HO566 h0_)) (Kd.R_base ho78) hb) | exact Kd.N_mono (Kd.N_elder' (by (with_reducible repeat (first | apply Kd.N_alloc | apply Kd.N_drewN | apply Kd.N_drew)); exact (Q_HO566 h0_)) (Kd.R_base ho78) hb) (fun _ h_ => by first | trivial | exact h_ | exact h_.1))
                    clear HO555
                    clear HO560
                    clear HB
                    have HO555 := n0_
                    have HO560 := n1_
                    have HO569 := n2_
                    have HB := n3_
                    clear n0_ n1_ n2_ n3_
                    clear hb ho78
                    obtain ⟨Ao79, co79, eo79⟩ := Kd.R_slice HO569.out
                    subst eo79
                    obtain ⟨ado79, fo79, _⟩ := Kd.at_int (Kd.R_reads' HO569.out).2.2 0 (by decide) (by rw [Ny567.out]; simp)
                    cases fo79
                    refine hK.out _ _ ⟨v565, .slice (some ado79) y567.length co79, ado79, v573, m8_, m10_, m11_, m12_, m14_, (by rw [ha.out]; exact putSel_upk 3 hb_ rfl rfl rfl), (hNm_ HO555.out), (hRm_ HO560.out), hB_, z_HO566, fun _ => (hRm_ HO569.out), fun _ => ⟨_, rfl⟩, fun h0_ => absurd ((hoff 10 (by kernel_rfl)).symm.trans h0_) (by decide), fun h0_ => absurd ((hoff 8 (by kernel_rfl)).symm.trans h0_) (by decide), fun h0_ => absurd ((hoff 10 (by kernel_rfl)).symm.trans h0_) (by decide), fun h0_ => absurd ((hoff 11 (by kernel_rfl)).symm.trans h0_) (by decide), fun h0_ => absurd ((hoff 12 (by kernel_rfl)).symm.trans h0_) (by decide), fun h0_ => absurd ((hoff 14 (by kernel_rfl)).symm.trans h0_) (by decide)⟩
                  refine steps_cons ?_ ?_
                  · rintro b a w' ⟨v565, v568, adz_v568, v573, m8_, m10_, m11_, m12_, m14_, ha, Q_HO555, Q_HO560, Q_HB, Q_HO566, Q_HO569, Q_HA_HO569, Q_HO574, Q_X8_, Q_X10_, Q_X11_, Q_X12_, Q_X14_⟩ hb_ hon hoff
                    refine ⟨_, rfl, fun K hK => ?_⟩
                    have e43 : a.tmps[43]? = some (.int .i64 a0) := by rw [ha]; exact (putSel_off rfl).trans rfl
                    replace ha := Aside0.mk ha
                    have HO555 := Aside0.mk Q_HO555
                    have HO560 := Aside0.mk Q_HO560
                    have HB := Aside0.mk Q_HB
                    refine value_ (w1 := w') (v := .int .i64 (Go.bits .and .i64 a0 1)) (by rfl) rfl ?_ ?_
                    · go_simp
                      (try simp only [i64_w])
                      try rfl
                    refine hK.out _ _ ⟨v565, v568, adz_v568, v573, m8_, m10_, m11_, m12_, m14_, (by rw [ha.out]; exact putSel_upk 4 hb_ rfl rfl rfl), Q_HO555, Q_HO560, Q_HB, Q_HO566, Q_HO569, Q_HA_HO569, fun h0_ => absurd ((hoff 10 (by kernel_rfl)).symm.trans h0_) (by decide), fun h0_ => absurd ((hoff 8 (by kernel_rfl)).symm.trans h0_) (by decide), fun h0_ => absurd ((hoff 10 (by kernel_rfl)).symm.trans h0_) (by decide), fun h0_ => absurd ((hoff 11 (by kernel_rfl)).symm.trans h0_) (by decide), fun h0_ => absurd ((hoff 12 (by kernel_rfl)).symm.trans h0_) (by decide), fun h0_ => absurd ((hoff 14 (by kernel_rfl)).symm.trans h0_) (by decide)⟩
                  refine steps_cons ?_ ?_
                  · rintro b a w' ⟨v565, v568, adz_v568, v573, m8_, m10_, m11_, m12_, m14_, ha, Q_HO555, Q_HO560, Q_HB, Q_HO566, Q_HO569, Q_HA_HO569, Q_HO574, Q_X8_, Q_X10_, Q_X11_, Q_X12_, Q_X14_⟩ hb_ hon hoff
                    refine ⟨_, rfl, fun K hK => ?_⟩
                    have e42 : a.tmps[42]? = some (v568) := by rw [ha]; exact putSel_on (e := (5, 42, v568)) 3 rfl rfl (hon 5 (by kernel_rfl)) rfl
                    have e44 : a.tmps[44]? = some (.int .i64 (Go.bits .and .i64 a0 1)) := by rw [ha]; exact putSel_on (e := (7, 44, .int .i64 (Go.bits .and .i64 a0 1))) 4 rfl rfl (hon 7 (by kernel_rfl)) rfl
                    replace ha := Aside0.mk ha
                    have HO555 := Aside0.mk Q_HO555
                    have HO560 := Aside0.mk Q_HO560
                    have HB := Aside0.mk Q_HB
                    have HO569 := Aside0.mk (Q_HO569 (hon 5 (by kernel_rfl)))
                    have HA_HO569 := Aside0.mk (Q_HA_HO569 (hon 5 (by kernel_rfl)))
                    obtain ⟨c_, hv_⟩ := HA_HO569.out
                    rw [hv_] at e42
                    refine value_ (w1 := w') (v := .pointer (some (adz_v568.add ((Go.bits .and .i64 a0 1)).toNat))) (by rfl) rfl ?_ ?_
                    · go_simp
                      (try simp only [i64_w])
                      try rfl
                    refine hK.out _ _ ⟨v565, v568, adz_v568, v573, (.pointer (some (adz_v568.add ((Go.bits .and .i64 a0 1)).toNat))), m10_, m11_, m12_, m14_, (by rw [ha.out]; exact putSel_upk 5 hb_ rfl rfl rfl), Q_HO555, Q_HO560, Q_HB, Q_HO566, Q_HO569, Q_HA_HO569, fun h0_ => absurd ((hoff 10 (by kernel_rfl)).symm.trans h0_) (by decide), fun _ => rfl, fun h0_ => absurd ((hoff 10 (by kernel_rfl)).symm.trans h0_) (by decide), fun h0_ => absurd ((hoff 11 (by kernel_rfl)).symm.trans h0_) (by decide), fun h0_ => absurd ((hoff 12 (by kernel_rfl)).symm.trans h0_) (by decide), fun h0_ => absurd ((hoff 14 (by kernel_rfl)).symm.trans h0_) (by decide)⟩
                  refine steps_cons ?_ ?_
                  · rintro b a w' ⟨v565, v568, adz_v568, v573, m8_, m10_, m11_, m12_, m14_, ha, Q_HO555, Q_HO560, Q_HB, Q_HO566, Q_HO569, Q_HA_HO569, Q_HO574, Q_X8_, Q_X10_, Q_X11_, Q_X12_, Q_X14_⟩ hb_ hon hoff
                    refine ⟨_, rfl, fun K hK => ?_⟩
                    have e45 : a.tmps[45]? = some (m8_) := by rw [ha]; exact putSel_on (e := (8, 45, m8_)) 5 rfl rfl (hon 8 (by kernel_rfl)) rfl
                    rw [Q_X8_ (hon 8 (by kernel_rfl))] at e45
                    replace ha := Aside0.mk ha
                    have HO555 := Aside0.mk Q_HO555
                    have HO560 := Aside0.mk Q_HO560
                    have HB := Aside0.mk Q_HB
                    have HO569 := Aside0.mk (Q_HO569 (hon 5 (by kernel_rfl)))
                    have HA_HO569 := Aside0.mk (Q_HA_HO569 (hon 5 (by kernel_rfl)))
                    obtain ⟨c_, hv_⟩ := HA_HO569.out
                    have hF_ := HO569.out
                    rw [hv_] at hF_
                    obtain ⟨ad_, ea_, hx_⟩ := Kd.at_int (Kd.R_reads' hF_).2.2 (Go.bits .and .i64 a0 1) (of_eq_true pi570) (of_eq_true qi570)
                    cases ea_
                    refine value_ (w1 := w') (v := .int .i64 (rd y567 (Go.bits .and .i64 a0 1))) (by rfl) rfl ?_ ?_
                    · go_simp
                      (try simp only [i64_w])
                      try rfl
                    refine hK.out _ _ ⟨v565, v568, adz_v568, v573, m8_, m10_, m11_, m12_, m14_, (by rw [ha.out]; exact putSel_upk 6 hb_ rfl rfl rfl), Q_HO555, Q_HO560, Q_HB, Q_HO566, Q_HO569, Q_HA_HO569, fun h0_ => absurd ((hoff 10 (by kernel_rfl)).symm.trans h0_) (by decide), Q_X8_, fun h0_ => absurd ((hoff 10 (by kernel_rfl)).symm.trans h0_) (by decide), fun h0_ => absurd ((hoff 11 (by kernel_rfl)).symm.trans h0_) (by decide), fun h0_ => absurd ((hoff 12 (by kernel_rfl)).symm.trans h0_) (by decide), fun h0_ => absurd ((hoff 14 (by kernel_rfl)).symm.trans h0_) (by decide)⟩
                  refine steps_cons ?_ ?_
                  · rintro b a w' ⟨v565, v568, adz_v568, v573, m8_, m10_, m11_, m12_, m14_, ha, Q_HO555, Q_HO560, Q_HB, Q_HO566, Q_HO569, Q_HA_HO569, Q_HO574, Q_X8_, Q_X10_, Q_X11_, Q_X12_, Q_X14_⟩ hb_ hon hoff
                    refine ⟨_, rfl, fun K hK => ?_⟩
                    have e37 : a.tmps[37]? = some (v565) := by rw [ha]; exact putSel_on (e := (0, 37, v565)) 0 rfl rfl (hon 0 (by kernel_rfl)) rfl
                    have e46 : a.tmps[46]? = some (.int .i64 (rd y567 (Go.bits .and .i64 a0 1))) := by rw [ha]; exact putSel_on (e := (9, 46, .int .i64 (rd y567 (Go.bits .and .i64 a0 1)))) 6 rfl rfl (hon 9 (by kernel_rfl)) rfl
                    replace ha := Aside0.mk ha
                    have HO555 := Aside0.mk Q_HO555
                    have HO560 := Aside0.mk Q_HO560
                    have HB := Aside0.mk Q_HB
                    have HO566 := Aside0.mk (Q_HO566 (hon 0 (by kernel_rfl)))
                    have HO569 := Aside0.mk (Q_HO569 (hon 5 (by kernel_rfl)))
                    have HA_HO569 := Aside0.mk (Q_HA_HO569 (hon 5 (by kernel_rfl)))
                    obtain ⟨co82, eo82⟩ := HA_HO569.out
                    clear HA_HO569
                    subst eo82
                    obtain ⟨Ao83, co83, eo83⟩ := Kd.N_slice HO566.out
                    (first | subst eo83 | (injection eo83 with f1_ f2_ f3_; have f4_ := f1_.symm; have f5_ := f3_.symm; clear f1_ f2_ f3_; subst f4_; subst f5_))
                    refine goes_ Tryd.func26 (by kernel_rfl) rfl #[.slice Ao83 t564.length co83, .int .i64 (rd y567 (Go.bits .and .i64 a0 1))] (by rfl) rfl rfl (by first | (simp only [List.map_toArray, List.map_cons, List.map_nil, Act.eval, Array.getD_eq_getD_getElem?, Option.getD_some, e37, e46]; done) | (simp only [List.map_toArray, List.map_cons, List.map_nil, Act.eval, Array.getD_eq_getD_getElem?, Option.getD_some, e37, e46]; rfl)) ?_
                    with_reducible refine (back_Path.calls k _ _ t564 (rd y567 (Go.bits .and .i64 a0 1)) t571 t572 _ ?side1 ?side2 A14.out hG_).mono ?_
                    (case side1 => repeat (first | exact (Kd.N_reads' HO566.out).2.2 | (with_reducible refine Kd.C_alloc ?_ _) | (with_reducible refine Kd.C_drewN ?_ _) | (with_reducible refine Kd.C_drew ?_)))
                    (case side2 => exact (Kd.N_reads' HO566.out).2.1)
                    rintro e w84 ⟨v573, rfl, ho0, hb⟩
                    refine ⟨_, rfl, ?_⟩
                    have n0_ := Aside0.mk (Kd.N_elder' (hN_ HO555.out) (Kd.R_base ho0) hb)
                    have n1_ := Aside0.mk (Kd.R_elder' (hR_ HO560.out) (Kd.R_base ho0) hb)
                    have n2_ := Aside0.mk (Kd.N_elder' (hN_ HO566.out) (Kd.R_base ho0) hb)
                    have n3_ := Aside0.mk (Kd.R_elder' (hR_ HO569.out) (Kd.R_base ho0) hb)
                    have n4_ := Aside0.mk (Kd.R_lower (Kd.R_new' (Kd.R_new' ho0 (Kd.R_lt (hR_ HO560.out))) (Kd.R_lt (hR_ HO569.out))) hS_)
                    have n5_ := Aside0.mk (below_step hB_ hb)
                    clear HO555
                    clear HO560
                    clear HO566
                    clear HO569
                    clear HB
                    have HO555 := n0_
                    have HO560 := n1_
                    have HO566 := n2_
                    have HO569 := n3_
                    have HO574 := n4_
                    have HB := n5_
                    clear n0_ n1_ n2_ n3_ n4_ n5_
                    (try clear hb)
                    (try clear hb2)
                    (try clear hk)
                    (try clear hi)
                    (try clear ho0)
                    refine hK.out _ _ ⟨.slice Ao83 t564.length co83, .slice (some adz_v568) y567.length co82, adz_v568, v573, m8_, (.tuple #[v573, .int .i64 t572]), m11_, m12_, m14_, (by rw [ha.out]; exact putSel_upk 7 hb_ rfl rfl rfl), (hNm_ HO555.out), (hRm_ HO560.out), hB_, fun _ => (hNm_ HO566.out), fun _ => (hRm_ HO569.out), fun _ => ⟨_, rfl⟩, fun _ => (hRm_ HO574.out), Q_X8_, fun _ => rfl, fun h0_ => absurd ((hoff 11 (by kernel_rfl)).symm.trans h0_) (by decide), fun h0_ => absurd ((hoff 12 (by kernel_rfl)).symm.trans h0_) (by decide), fun h0_ => absurd ((hoff 14 (by kernel_rfl)).symm.trans h0_) (by decide)⟩
                  refine steps_cons ?_ ?_
                  · rintro b a w' ⟨v565, v568, adz_v568, v573, m8_, m10_, m11_, m12_, m14_, ha, Q_HO555, Q_HO560, Q_HB, Q_HO566, Q_HO569, Q_HA_HO569, Q_HO574, Q_X8_, Q_X10_, Q_X11_, Q_X12_, Q_X14_⟩ hb_ hon hoff
                    refine ⟨_, rfl, fun K hK => ?_⟩
                    have e47 : a.tmps[47]? = some (m10_) := by rw [ha]; exact putSel_on (e := (10, 47, m10_)) 7 rfl rfl (hon 10 (by kernel_rfl)) rfl
                    rw [Q_X10_ (hon 10 (by kernel_rfl))] at e47
                    replace ha := Aside0.mk ha
                    have HO555 := Aside0.mk Q_HO555
                    have HO560 := Aside0.mk Q_HO560
                    have HB := Aside0.mk Q_HB
                    have HO566 := Aside0.mk (Q_HO566 (hon 0 (by kernel_rfl)))
                    have HO569 := Aside0.mk (Q_HO569 (hon 5 (by kernel_rfl)))
                    have HA_HO569 := Aside0.mk (Q_HA_HO569 (hon 5 (by kernel_rfl)))
                    have HO574 := Aside0.mk (Q_HO574 (hon 10 (by kernel_rfl)))
                    refine value_ (w1 := w') (v := .tuple #[v573, .int .i64 t572]) (by rfl) rfl ?_ ?_
                    · go_simp
                      (try simp only [i64_w])
                      try rfl
                    refine hK.out _ _ ⟨v565, v568, adz_v568, v573, m8_, m10_, (.tuple #[v573, .int .i64 t572]), m12_, m14_, (by rw [ha.out]; exact putSel_upk 8 hb_ rfl rfl rfl), Q_HO555, Q_HO560, Q_HB, Q_HO566, Q_HO569, Q_HA_HO569, Q_HO574, Q_X8_, Q_X10_, fun _ => rfl, fun h0_ => absurd ((hoff 12 (by kernel_rfl)).symm.trans h0_) (by decide), fun h0_ => absurd ((hoff 14 (by kernel_rfl)).symm.trans h0_) (by decide)⟩
                  refine steps_cons ?_ ?_
                  · rintro b a w' ⟨v565, v568, adz_v568, v573, m8_, m10_, m11_, m12_, m14_, ha, Q_HO555, Q_HO560, Q_HB, Q_HO566, Q_HO569, Q_HA_HO569, Q_HO574, Q_X8_, Q_X10_, Q_X11_, Q_X12_, Q_X14_⟩ hb_ hon hoff
                    refine ⟨_, rfl, fun K hK => ?_⟩
                    have e36 : a.tmps[36]? = some (m11_) := by rw [ha]; exact putSel_on (e := (11, 36, m11_)) 8 rfl rfl (hon 11 (by kernel_rfl)) rfl
                    rw [Q_X11_ (hon 11 (by kernel_rfl))] at e36
                    replace ha := Aside0.mk ha
                    have HO555 := Aside0.mk Q_HO555
                    have HO560 := Aside0.mk Q_HO560
                    have HB := Aside0.mk Q_HB
                    have HO566 := Aside0.mk (Q_HO566 (hon 0 (by kernel_rfl)))
                    have HO569 := Aside0.mk (Q_HO569 (hon 5 (by kernel_rfl)))
                    have HA_HO569 := Aside0.mk (Q_HA_HO569 (hon 5 (by kernel_rfl)))
                    have HO574 := Aside0.mk (Q_HO574 (hon 10 (by kernel_rfl)))
                    obtain ⟨Ao12_0, co12_0, eo_⟩ := Kd.R_slice HO574.out
                    subst eo_
                    refine value_ (w1 := w') (v := .slice Ao12_0 t571.length co12_0) (by rfl) rfl ?_ ?_
                    · go_simp
                      (try simp only [i64_w])
                      try rfl
                    refine hK.out _ _ ⟨v565, v568, adz_v568, .slice Ao12_0 t571.length co12_0, m8_, m10_, m11_, (.slice Ao12_0 t571.length co12_0), m14_, (by rw [ha.out]; exact putSel_upk 9 hb_ rfl rfl rfl), Q_HO555, Q_HO560, Q_HB, Q_HO566, Q_HO569, Q_HA_HO569, Q_HO574, Q_X8_, Q_X10_, Q_X11_, fun _ => rfl, fun h0_ => absurd ((hoff 14 (by kernel_rfl)).symm.trans h0_) (by decide)⟩
                  refine steps_cons ?_ ?_
                  · rintro b a w' ⟨v565, v568, adz_v568, v573, m8_, m10_, m11_, m12_, m14_, ha, Q_HO555, Q_HO560, Q_HB, Q_HO566, Q_HO569, Q_HA_HO569, Q_HO574, Q_X8_, Q_X10_, Q_X11_, Q_X12_, Q_X14_⟩ hb_ hon hoff
                    refine ⟨_, rfl, fun K hK => ?_⟩
                    have e36 : a.tmps[36]? = some (m11_) := by rw [ha]; exact putSel_on (e := (11, 36, m11_)) 8 rfl rfl (hon 11 (by kernel_rfl)) rfl
                    rw [Q_X11_ (hon 11 (by kernel_rfl))] at e36
                    replace ha := Aside0.mk ha
                    have HO555 := Aside0.mk Q_HO555
                    have HO560 := Aside0.mk Q_HO560
                    have HB := Aside0.mk Q_HB
                    have HO566 := Aside0.mk (Q_HO566 (hon 0 (by kernel_rfl)))
                    have HO569 := Aside0.mk (Q_HO569 (hon 5 (by kernel_rfl)))
                    have HA_HO569 := Aside0.mk (Q_HA_HO569 (hon 5 (by kernel_rfl)))
                    have HO574 := Aside0.mk (Q_HO574 (hon 10 (by kernel_rfl)))
                    obtain ⟨Ao13_0, co13_0, eo_⟩ := Kd.R_slice HO574.out
                    subst eo_
                    refine value_ (w1 := w') (v := .int .i64 t572) (by rfl) rfl ?_ ?_
                    · go_simp
                      (try simp only [i64_w])
                      try rfl
                    refine hK.out _ _ ⟨v565, v568, adz_v568, .slice Ao13_0 t571.length co13_0, m8_, m10_, m11_, m12_, m14_, (by rw [ha.out]; exact putSel_upk 10 hb_ rfl rfl rfl), Q_HO555, Q_HO560, Q_HB, Q_HO566, Q_HO569, Q_HA_HO569, Q_HO574, Q_X8_, Q_X10_, Q_X11_, Q_X12_, Q_X14_⟩
                  refine steps_cons ?_ ?_
                  · rintro b a w' ⟨v565, v568, adz_v568, v573, m8_, m10_, m11_, m12_, m14_, ha, Q_HO555, Q_HO560, Q_HB, Q_HO566, Q_HO569, Q_HA_HO569, Q_HO574, Q_X8_, Q_X10_, Q_X11_, Q_X12_, Q_X14_⟩ hb_ hon hoff
                    refine ⟨_, rfl, fun K hK => ?_⟩
                    have e48 : a.tmps[48]? = some (m12_) := by rw [ha]; exact putSel_on (e := (12, 48, m12_)) 9 rfl rfl (hon 12 (by kernel_rfl)) rfl
                    rw [Q_X12_ (hon 12 (by kernel_rfl))] at e48
                    replace ha := Aside0.mk ha
                    have HO555 := Aside0.mk Q_HO555
                    have HO560 := Aside0.mk Q_HO560
                    have HB := Aside0.mk Q_HB
                    have HO566 := Aside0.mk (Q_HO566 (hon 0 (by kernel_rfl)))
                    have HO569 := Aside0.mk (Q_HO569 (hon 5 (by kernel_rfl)))
                    have HA_HO569 := Aside0.mk (Q_HA_HO569 (hon 5 (by kernel_rfl)))
                    have HO574 := Aside0.mk (Q_HO574 (hon 10 (by kernel_rfl)))
                    refine value_ (w1 := w') (v := v573) (by rfl) rfl ?_ ?_
                    · go_simp
                      (try simp only [i64_w])
                      try rfl
                    refine hK.out _ _ ⟨v565, v568, adz_v568, v573, m8_, m10_, m11_, m12_, (v573), (by rw [ha.out]; exact putSel_upk 11 hb_ rfl rfl rfl), Q_HO555, Q_HO560, Q_HB, Q_HO566, Q_HO569, Q_HA_HO569, Q_HO574, Q_X8_, Q_X10_, Q_X11_, Q_X12_, fun _ => rfl⟩
                  refine steps_cons ?_ ?_
                  · rintro b a w' ⟨v565, v568, adz_v568, v573, m8_, m10_, m11_, m12_, m14_, ha, Q_HO555, Q_HO560, Q_HB, Q_HO566, Q_HO569, Q_HA_HO569, Q_HO574, Q_X8_, Q_X10_, Q_X11_, Q_X12_, Q_X14_⟩ hb_ hon hoff
                    refine ⟨_, rfl, fun K hK => ?_⟩
                    have e49 : a.tmps[49]? = some (.int .i64 t572) := by rw [ha]; exact putSel_on (e := (13, 49, .int .i64 t572)) 10 rfl rfl (hon 13 (by kernel_rfl)) rfl
                    replace ha := Aside0.mk ha
                    have HO555 := Aside0.mk Q_HO555
                    have HO560 := Aside0.mk Q_HO560
                    have HB := Aside0.mk Q_HB
                    have HO566 := Aside0.mk (Q_HO566 (hon 0 (by kernel_rfl)))
                    have HO569 := Aside0.mk (Q_HO569 (hon 5 (by kernel_rfl)))
                    have HA_HO569 := Aside0.mk (Q_HA_HO569 (hon 5 (by kernel_rfl)))
                    have HO574 := Aside0.mk (Q_HO574 (hon 10 (by kernel_rfl)))
                    refine value_ (w1 := w') (v := .int .i64 t572) (by rfl) rfl ?_ ?_
                    · go_simp
                      (try simp only [i64_w])
                      try rfl
                    refine hK.out _ _ ⟨v565, v568, adz_v568, v573, m8_, m10_, m11_, m12_, m14_, (by rw [ha.out]; exact putSel_upk 12 hb_ rfl rfl rfl), Q_HO555, Q_HO560, Q_HB, Q_HO566, Q_HO569, Q_HA_HO569, Q_HO574, Q_X8_, Q_X10_, Q_X11_, Q_X12_, Q_X14_⟩
                  exact steps_nil
                rintro b a w83 hall ⟨v565, v568, adz_v568, v573, m8_, m10_, m11_, m12_, m14_, ha, Q_HO555, Q_HO560, Q_HB, Q_HO566, Q_HO569, Q_HA_HO569, Q_HO574, Q_X8_, Q_X10_, Q_X11_, Q_X12_, Q_X14_⟩
                clear HB HO555 HO560
                have hb0_ := hall 0 (by kernel_rfl)
                have hb2_ := hall 2 (by kernel_rfl)
                have hb4_ := hall 4 (by kernel_rfl)
                have hb5_ := hall 5 (by kernel_rfl)
                have hb7_ := hall 7 (by kernel_rfl)
                have hb8_ := hall 8 (by kernel_rfl)
                have hb9_ := hall 9 (by kernel_rfl)
                have hb10_ := hall 10 (by kernel_rfl)
                have hb11_ := hall 11 (by kernel_rfl)
                have hb12_ := hall 12 (by kernel_rfl)
                have hb13_ := hall 13 (by kernel_rfl)
                have hb14_ := hall 14 (by kernel_rfl)
                have hb15_ := hall 15 (by kernel_rfl)
                subst ha
                obtain rfl := Q_X8_ hb8_
                obtain rfl := Q_X10_ hb10_
                obtain rfl := Q_X11_ hb11_
                obtain rfl := Q_X12_ hb12_
                obtain rfl := Q_X14_ hb14_
                simp only [putSel, hb0_, hb2_, hb4_, hb5_, hb7_, hb8_, hb9_, hb10_, hb11_, hb12_, hb13_, hb14_, hb15_, if_true, Act.put, List.setIfInBounds_toArray, List.set_cons_zero, List.set_cons_succ]
                have HO555 := Aside0.mk Q_HO555
                clear Q_HO555
                have HO560 := Aside0.mk Q_HO560
                clear Q_HO560
                have HB := Aside0.mk Q_HB
                clear Q_HB
                have HO566 := Aside0.mk (Q_HO566 hb0_)
                clear Q_HO566
                have HO569 := Aside0.mk (Q_HO569 hb5_)
                clear Q_HO569
                have HA_HO569 := Aside0.mk (Q_HA_HO569 hb5_)
                clear Q_HA_HO569
                have HO574 := Aside0.mk (Q_HO574 hb10_)
                clear Q_HO574
                clear hall hb0_ hb2_ hb4_ hb5_ hb7_ hb8_ hb9_ hb10_ hb11_ hb12_ hb13_ hb14_ hb15_
                obtain ⟨co84, eo84⟩ := HA_HO569.out
                clear HA_HO569
                subst eo84
                obtain ⟨Ao85, co85, eo85⟩ := Kd.R_slice HO560.out
                subst eo85
                try go_wp2_with (first | (go_at_call 20; (with_reducible refine (sleuthlaw0_Num.calls t558 t575 _ A16.out).mono ?_); rintro e w' ⟨rfl, ⟨nd, rfl⟩⟩))
                go_ret
                exact ⟨by first | rfl | (simp [errW_none, errW_some] <;> rfl) | (simp [*, errW_none, errW_some] <;> rfl), by repeat (first | (with_reducible first | exact HB.out | apply below_alloc | apply pw_below_drewN | apply below_drew1) | exact HB.out)⟩
            · rw [if_neg c15] at H
              have c15b0 : ((t557.length : Int) == 0) = false := beq_eq_false_iff_ne.mpr c15
              have c15b1 : ((t557.length : Int) != 0) = true := bne_iff_ne.mpr c15
              have c15b2 : ¬ (t557 = []) := fun h_ => c15 (by rw [h_]; rfl)
              obtain rfl := Option.some.inj H
              go_enter Tryd.func10, Tryd.ntmps10
              try go_wp2_with (first | ((with_reducible refine gate_callee (f := 30) rfl ?_); refine goesL_ (some 14) rfl rfl Tryd.func30 (by kernel_rfl) rfl #[] rfl hL_ ?_; (with_reducible refine (sleuthlaw24_awake.calls k  true _ A3.out hG_).mono ?_); rintro e w86 ⟨rfl, hb⟩; refine ⟨_, rfl, ?_⟩; have n0_ := Aside0.mk (below_step hB_ hb); clear HB; have HB := n0_; clear n0_; (try clear hb); (try clear hb2); (try clear hk); (try clear hi)) | ((with_reducible refine gate_callee (f := 31) rfl ?_); refine goesL_ (some 19) rfl rfl Tryd.func31 (by kernel_rfl) rfl #[] rfl hL_ ?_; (with_reducible refine (sleuthlaw24_some.calls  t553 _ A5.out).mono ?_); rintro e w87 ⟨v554, rfl, ho0, hb⟩; refine ⟨_, rfl, ?_⟩; have n0_ := Aside0.mk (Kd.N_lower (Kd.N_mono (ok' := fun k_ => True) ho0 (fun k_ hk_ => trivial)) hS_); have n1_ := Aside0.mk (below_step hB_ hb); clear HB; have HO555 := n0_; have HB := n1_; clear n0_ n1_; (try clear hb); (try clear hb2); (try clear hk); (try clear hi); (try clear ho0); have p8 : 0 ≤ ((Go.bits .and .i64 a1 3) : Int) := of_decide_eq_true hA_; have q8 : ((Go.bits .and .i64 a1 3) : Int) < ((t553.length : Int) : Int) := of_decide_eq_true hA_; obtain ⟨go8, co8, eo8, gb8, gl8, cl8, HG8⟩ := Kd.N_form HO555.out (by omega); (first | cases eo8 | (injection eo8 with ea_ en_ ec_; (first | subst ea_ | (injection ea_ with ea_; subst ea_)); subst ec_; clear en_)); have GB8 := Aside0.mk gb8; have GG8 := Aside0.mk HG8; clear gb8 gl8 HG8; obtain ⟨ce8, hcl8, hM8, hcc8, hfr8⟩ := Kd.N_elem HO555.out z44 ((Go.bits .and .i64 a1 3) : Int) p8 q8; obtain ⟨ua8_2, uc8_2, rfl, ul8_2, ge8_2⟩ := k44_openF hM8; have hx8_0 : w87.cell? ⟨go8, ((Go.bits .and .i64 a1 3) : Int).toNat * 4, none⟩ = some (.int .i64 ((rd_T44 t553 (Go.bits .and .i64 a1 3)).f0)) := hcc8 0 _ rfl; have hx8_1 : w87.cell? ⟨go8, ((Go.bits .and .i64 a1 3) : Int).toNat * 4 + 1, none⟩ = some (.int .i64 ((rd_T44 t553 (Go.bits .and .i64 a1 3)).f1)) := hcc8 1 _ rfl; have hx8_2 : w87.cell? ⟨go8, ((Go.bits .and .i64 a1 3) : Int).toNat * 4 + 2, none⟩ = some (.slice ua8_2 ((rd_T44 t553 (Go.bits .and .i64 a1 3)).f2).length uc8_2) := hcc8 2 _ rfl; have hx8_3 : w87.cell? ⟨go8, ((Go.bits .and .i64 a1 3) : Int).toNat * 4 + 3, none⟩ = some (.string ((rd_T44 t553 (Go.bits .and .i64 a1 3)).f3)) := hcc8 3 _ rfl; have hf8_0 : w87.frozen? ⟨go8, ((Go.bits .and .i64 a1 3) : Int).toNat * 4, none⟩ = false := hfr8 0; have hf8_1 : w87.frozen? ⟨go8, ((Go.bits .and .i64 a1 3) : Int).toNat * 4 + 1, none⟩ = false := hfr8 1; have hf8_2 : w87.frozen? ⟨go8, ((Go.bits .and .i64 a1 3) : Int).toNat * 4 + 2, none⟩ = false := hfr8 2; have hf8_3 : w87.frozen? ⟨go8, ((Go.bits .and .i64 a1 3) : Int).toNat * 4 + 3, none⟩ = false := hfr8 3; clear hcl8 hcc8 hfr8 hM8; replace p8 := eq_true p8; replace q8 := eq_true q8; have HX88 := Aside0.mk (show Kd.N k44 44 w87 w.heap.size (fun _ => True) (.slice (some ⟨go8, 0, none⟩) t553.length co8) t553 from (hN_ HO555.out)); obtain ⟨ce88, hcl88, hM88, hcc88, hfr88⟩ := Kd.N_elem HX88.out z44 ((Go.bits .and .i64 a1 3) : Int) (of_decide_eq_true hA_) (by have h_ : ((Go.bits .and .i64 a1 3) : Int) < ((t553.length : Int) : Int) := of_decide_eq_true hA_; first | exact h_ | (have e_ := (Kd.N_reads' HO555.out).1; omega) | simpa using h_); obtain ⟨ua88_2, uc88_2, rfl, ul88_2, ge88_2⟩ := k44_openF hM88; have HP88 := Kd.N_seg HX88.out ((Go.bits .and .i64 a1 3) : Int) (of_decide_eq_true hA_) (by have h_ : ((Go.bits .and .i64 a1 3) : Int) < ((t553.length : Int) : Int) := of_decide_eq_true hA_; first | exact h_ | (have e_ := (Kd.N_reads' HO555.out).1; omega) | simpa using h_) (seg := [.string (⟨#[63]⟩ : ByteArray)]) (j := 3) hcl88 hcc88 (show 4 ≤ 4 from by decide) (x' := (⟨(rd_T44 t553 (Go.bits .and .i64 a1 3)).f0, (rd_T44 t553 (Go.bits .and .i64 a1 3)).f1, (rd_T44 t553 (Go.bits .and .i64 a1 3)).f2, (⟨#[63]⟩ : ByteArray)⟩ : S44)) (k44_mkF _ _ (⟨(rd_T44 t553 (Go.bits .and .i64 a1 3)).f0, (rd_T44 t553 (Go.bits .and .i64 a1 3)).f1, (rd_T44 t553 (Go.bits .and .i64 a1 3)).f2, (⟨#[63]⟩ : ByteArray)⟩ : S44) ul88_2 ge88_2) (fun _ hk => hk); have hx88_3 := hcc88 3 _ rfl; (try simp only [show (k44).sz = 4 from rfl, Nat.mul_one, Nat.add_zero] at hx88_3); have hf88_3 := hfr88 3; (try simp only [show (k44).sz = 4 from rfl, Nat.mul_one, Nat.add_zero] at hf88_3); clear hcl88 hcc88 hfr88 hM88) | ((with_reducible refine gate_store (t := 9) (p := 24) rfl ?_); refine store_event (t := 9) (p := 24) (v := ?vo_w89) (w1 := (w87.setCell ⟨go8, ((Go.bits .and .i64 a1 3) : Int).toNat * 4 + 3, none⟩ (.string (⟨#[63]⟩ : ByteArray)))) ?hg ?ho ?hn ?hr ?_; (case ho => rfl); (case hg => rfl); (case hn => rfl); (case hr => first | (go_simp; done) | (go_simp; rfl)); intro w89 hw; have hg : w87.grownBy w89 (some go8) := (by rw [hw]; exact HP88.2); have hp_ : Kd.N k44 44 w89 w.heap.size (fun _ => True) (.slice (some ⟨go8, 0, none⟩) t553.length co8) y556 := (by rw [hw, Ny556.out]; exact HP88.1); clear HP88; have n0_ := Aside0.mk (hp_); have n1_ := Aside0.mk ((by rw [hw]; exact below_set (HB.out) GB8.out : Below w.heap.size w w89)); clear HO555; clear HB; have HO555 := n0_; have HB := n1_; clear n0_ n1_; clear hg hw hp_) | ((with_reducible refine gate_callee (f := 26) rfl ?_); refine goesL_ (some 27) rfl rfl Tryd.func26 (by kernel_rfl) rfl #[.slice (some ⟨go8, 0, none⟩) y556.length co8, .int .i64 0] rfl (by (try simp only [List.map_toArray, List.map_cons, List.map_nil]); first | done | (rw [show y556.length = t553.length from (Kd.N_reads' HO555.out).1.symm] <;> rfl) | rfl | (simp only [List.length_drop, List.length_take]; rfl)) ?_; (with_reducible refine (back_Path.calls k _ _ y556 0 t557 t558 _ ?side1 ?side2 A9.out hG_).mono ?_); (case side1 => repeat (first | exact (Kd.N_reads' HO555.out).2.2 | (with_reducible refine Kd.C_alloc ?_ _) | (with_reducible refine Kd.C_drewN ?_ _) | (with_reducible refine Kd.C_drew ?_))); (case side2 => rw [show y556.length = t553.length from (Kd.N_reads' HO555.out).1.symm]; exact (Kd.N_reads' HO555.out).2.1); rintro e w90 ⟨v559, rfl, ho0, hb⟩; refine ⟨_, rfl, ?_⟩; have n0_ := Aside0.mk (Kd.N_elder' (hN_ HO555.out) (Kd.R_base ho0) hb); have n1_ := Aside0.mk (Kd.R_lower ho0 hS_); have n2_ := Aside0.mk (below_step hB_ hb); clear HO555; clear HB; have HO555 := n0_; have HO560 := n1_; have HB := n2_; clear n0_ n1_ n2_; (try clear hb); (try clear hb2); (try clear hk); (try clear hi); (try clear ho0)) | ((with_reducible refine gate_callee (f := 28) rfl ?_); refine goesL_ (some 32) rfl rfl Tryd.func28 (by kernel_rfl) rfl #[.slice (some ⟨go8, 0, none⟩) y556.length co8] rfl (by (try simp only [List.map_toArray, List.map_cons, List.map_nil]); first | done | (rw [show y556.length = t553.length from (Kd.N_reads' HO555.out).1.symm] <;> rfl) | rfl | (simp only [List.length_drop, List.length_take]; rfl)) ?_; (with_reducible refine (back_Last.calls k _ _ y556 t561 t562 t563 _ ?side1 ?side2 A10.out hG_).mono ?_); (case side1 => repeat (first | exact (Kd.N_reads' HO555.out).2.2 | (with_reducible refine Kd.C_alloc ?_ _) | (with_reducible refine Kd.C_drewN ?_ _) | (with_reducible refine Kd.C_drew ?_))); (case side2 => rw [show y556.length = t553.length from (Kd.N_reads' HO555.out).1.symm]; exact (Kd.N_reads' HO555.out).2.1); rintro e w91 ⟨rfl, hb⟩; refine ⟨_, rfl, ?_⟩; have n0_ := Aside0.mk (Kd.N_below (hN_ HO555.out) hb); have n1_ := Aside0.mk (Kd.R_below (hR_ HO560.out) hb); have n2_ := Aside0.mk (below_step hB_ hb); clear HO555; clear HO560; clear HB; have HO555 := n0_; have HO560 := n1_; have HB := n2_; clear n0_ n1_ n2_; (try clear hb); (try clear hb2); (try clear hk); (try clear hi)))
              have pi570 : (0 ≤ ((Go.bits .and .i64 a0 1) : Int)) = True := eq_true (of_decide_eq_true hA_)
              have qi570 : ((Go.bits .and .i64 a0 1) < (y567.length : Int)) = True := eq_true (of_decide_eq_true hA_)
              have n0_ := Aside0.mk (Kd.N_drew HO555.out)
              have n1_ := Aside0.mk (Kd.R_drew HO560.out)
              have n2_ := Aside0.mk (below_drew1 HB.out)
              clear HO555
              clear HO560
              clear HB
              have HO555 := n0_
              have HO560 := n1_
              have HB := n2_
              clear n0_ n1_ n2_
              refine start_ (n := 16) (S := fun w' => True) (ds := []) #[false, false, false, false, false, false, false, false, false, false, false, false, false, false, false, false] (by kernel_rfl) rfl rfl trivial (fun hHeld => ?_); refine with_tabW sleuthlaw24_BackForms.tab8 sleuthlaw24_BackForms.bits8 (fun HT_ HW_ => ?_)
              generalize w91.drew = w92 at HO555 HO560 HB hHeld ⊢
              refine pure_ (i := 1) (N := some 38) (v := ?_) (a' := ?_) #[false, true, false, false, false, false, false, false, false, false, false, false, false, false, false, false] rfl rfl (any_of HT_.out (by kernel_rfl)) (fun _ _ _ h => h) (Or.inl ⟨by rfl, ?_⟩) ?_ ?_
              rotate_left
              · intro w'
                go_simp
                with_reducible rfl
              rotate_left
              · simp only [Act.put, List.setIfInBounds_toArray, List.set_cons_zero, List.set_cons_succ, i64_w, i32_w]
                rfl
              refine pure_ (i := 3) (N := some 40) (v := ?_) (a' := ?_) #[false, true, false, true, false, false, false, false, false, false, false, false, false, false, false, false] rfl rfl (any_of HT_.out (by kernel_rfl)) (fun _ _ _ h => h) (Or.inl ⟨by rfl, ?_⟩) ?_ ?_
              rotate_left
              · intro w'
                go_simp
                with_reducible rfl
              rotate_left
              · simp only [Act.put, List.setIfInBounds_toArray, List.set_cons_zero, List.set_cons_succ, i64_w, i32_w]
                rfl
              refine pure_ (i := 6) (N := some 43) (v := ?_) (a' := ?_) #[false, true, false, true, false, false, true, false, false, false, false, false, false, false, false, false] rfl rfl (any_of HT_.out (by kernel_rfl)) (fun _ _ _ h => h) (Or.inl ⟨by rfl, ?_⟩) ?_ ?_
              rotate_left
              · intro w'
                go_simp
                with_reducible rfl
              rotate_left
              · simp only [Act.put, List.setIfInBounds_toArray, List.set_cons_zero, List.set_cons_succ, i64_w, i32_w]
                rfl
              refine inv_at [0, 2, 4, 5, 7, 8, 9, 10, 11, 12, 13, 14, 15] (fun a0_ b a w' => ∃ (v565 : Value) (v568 : Value) (adz_v568 : Addr) (v573 : Value) (m8_ : Value) (m10_ : Value) (m11_ : Value) (m12_ : Value) (m14_ : Value), a = putSel a0_ b [(0, 37, v565), (2, 39, .int .i64 (wrap64 (-(wrap64 (1 + (Go.bits .and .i64 a1 1023)))))), (4, 41, .int .i64 (wrap64 (4 + (wrap64 (1 + (Go.bits .and .i64 a1 1023)))))), (5, 42, v568), (7, 44, .int .i64 (Go.bits .and .i64 a0 1)), (8, 45, m8_), (9, 46, .int .i64 (rd y567 (Go.bits .and .i64 a0 1))), (10, 47, m10_), (11, 36, m11_), (12, 48, m12_), (13, 49, .int .i64 t572), (14, 12, m14_), (15, 13, .int .i64 t572)] ∧ (Kd.N k44 44 w' w.heap.size (fun k_ => some k_ ≠ (v559 : Value).ownBlock) (.slice (some ⟨go8, 0, none⟩) t553.length co8) y556) ∧ (Kd.R (Kd.int .i64) 3 w' w.heap.size (fun _ => True) v559 t557) ∧ (Below w.heap.size w w') ∧ (b 0 = true → Kd.N k44 44 w' w.heap.size (fun k_ => some k_ ≠ (.slice (some ⟨go8, 0, none⟩) t553.length co8 : Value).ownBlock ∧ some k_ ≠ (v559 : Value).ownBlock) v565 t564) ∧ (b 5 = true → Kd.R (Kd.int .i64) 3 w' w.heap.size (fun k_ => some k_ ≠ (v559 : Value).ownBlock) v568 y567) ∧ (b 5 = true → ∃ c_, (v568 : Value) = .slice (some adz_v568) y567.length c_) ∧ (b 10 = true → Kd.R (Kd.int .i64) 3 w' w.heap.size (fun k_ => some k_ ≠ (v559 : Value).ownBlock) v573 t571) ∧ (b 8 = true → (m8_ : Value) = .pointer (some (adz_v568.add ((Go.bits .and .i64 a0 1)).toNat))) ∧ (b 10 = true → (m10_ : Value) = .tuple #[v573, .int .i64 t572]) ∧ (b 11 = true → (m11_ : Value) = .tuple #[v573, .int .i64 t572]) ∧ (b 12 = true → (m12_ : Value) = v573) ∧ (b 14 = true → (m14_ : Value) = v573)) HT_.out HW_.out (by kernel_rfl) (by kernel_rfl) ?_ ?_ ?_
              · exact ⟨.bool false, .bool false, ⟨0, 0, none⟩, .bool false, .bool false, .bool false, .bool false, .bool false, .bool false, by simp only [putSel, Bool.false_eq_true, if_false], (by first | exact HO555.out | exact Kd.N_mono HO555.out (fun _ hk => by simp_all) | exact Kd.R_mono HO555.out (fun _ hk => by simp_all)), (by first | exact HO560.out | exact Kd.N_mono HO560.out (fun _ hk => by simp_all) | exact Kd.R_mono HO560.out (fun _ hk => by simp_all)), HB.out, fun h_ => absurd h_ (by decide), fun h_ => absurd h_ (by decide), fun h_ => absurd h_ (by decide), fun h_ => absurd h_ (by decide), fun h_ => absurd h_ (by decide), fun h_ => absurd h_ (by decide), fun h_ => absurd h_ (by decide), fun h_ => absurd h_ (by decide), fun h_ => absurd h_ (by decide)⟩
              · skip
                clear HB HO555 HO560
                refine steps_cons ?_ ?_
                · rintro b a w' ⟨v565, v568, adz_v568, v573, m8_, m10_, m11_, m12_, m14_, ha, Q_HO555, Q_HO560, Q_HB, Q_HO566, Q_HO569, Q_HA_HO569, Q_HO574, Q_X8_, Q_X10_, Q_X11_, Q_X12_, Q_X14_⟩ hb_ hon hoff
                  refine ⟨_, rfl, fun K hK => ?_⟩
                  replace ha := Aside0.mk ha
                  have HO555 := Aside0.mk Q_HO555
                  have HO560 := Aside0.mk Q_HO560
                  have HB := Aside0.mk Q_HB
                  refine goes_ Tryd.func31 (by kernel_rfl) rfl #[] (by rfl) rfl rfl (by first | (simp only [List.map_toArray, List.map_cons, List.map_nil, Act.eval, Array.getD_eq_getD_getElem?, Option.getD_some]; done) | (simp only [List.map_toArray, List.map_cons, List.map_nil, Act.eval, Array.getD_eq_getD_getElem?, Option.getD_some]; rfl)) ?_
                  with_reducible refine (sleuthlaw24_some.calls  t564 _ A11.out).mono ?_
                  rintro e w93 ⟨v565, rfl, ho0, hb⟩
                  refine ⟨_, rfl, ?_⟩
                  have n0_ := Aside0.mk (Kd.N_elder' (hN_ HO555.out) (Kd.N_base ho0) hb)
                  have n1_ := Aside0.mk (Kd.R_below (hR_ HO560.out) hb)
                  have n2_ := Aside0.mk (Kd.N_lower (Kd.N_mono (ok' := fun k_ => some k_ ≠ (.slice (some ⟨go8, 0, none⟩) t553.length co8 : Value).ownBlock ∧ some k_ ≠ (v559 : Value).ownBlock) ho0 (fun k_ hk_ => ⟨(Kd.fresh' (Kd.N_lt (hN_ HO555.out)) k_ hk_), (Kd.fresh' (Kd.R_lt (hR_ HO560.out)) k_ hk_)⟩)) hS_)
                  have n3_ := Aside0.mk (below_step hB_ hb)
                  have z_HO569 := fun (h0_ : b 5 = true) => (show Kd.R (Kd.int .i64) 3 w93 w.heap.size (fun k_ => some k_ ≠ (v559 : Value).ownBlock) v568 y567 from by first | exact (Kd.R_below (by (with_reducible repeat (first | apply Kd.R_alloc | apply Kd.R_drewN | apply Kd.R_drew)); exact (Q_HO569 h0_)) hb) | exact Kd.R_mono (Kd.R_below (by (with_reducible repeat (first | apply Kd.R_alloc | apply Kd.R_drewN | apply Kd.R_drew)); exact (Q_HO569 h0_)) hb) (fun _ h_ => by first | trivial | exact h_ | exact h_.1))
                  clear HO555
                  clear HO560
                  clear HB
                  have HO555 := n0_
                  have HO560 := n1_
                  have HO566 := n2_
                  have HB := n3_
                  clear n0_ n1_ n2_ n3_
                  (try clear hb)
                  (try clear hb2)
                  (try clear hk)
                  (try clear hi)
                  (try clear ho0)
                  refine hK.out _ _ ⟨v565, v568, adz_v568, v573, m8_, m10_, m11_, m12_, m14_, (by rw [ha.out]; exact putSel_upk 0 hb_ rfl rfl rfl), (hNm_ HO555.out), (hRm_ HO560.out), hB_, fun _ => (hNm_ HO566.out), z_HO569, Q_HA_HO569, fun h0_ => absurd ((hoff 10 (by kernel_rfl)).symm.trans h0_) (by decide), Q_X8_, fun h0_ => absurd ((hoff 10 (by kernel_rfl)).symm.trans h0_) (by decide), fun h0_ => absurd ((hoff 11 (by kernel_rfl)).symm.trans h0_) (by decide), fun h0_ => absurd ((hoff 12 (by kernel_rfl)).symm.trans h0_) (by decide), fun h0_ => absurd ((hoff 14 (by kernel_rfl)).symm.trans h0_) (by decide)⟩
                refine steps_cons ?_ ?_
                · rintro b a w' ⟨v565, v568, adz_v568, v573, m8_, m10_, m11_, m12_, m14_, ha, Q_HO555, Q_HO560, Q_HB, Q_HO566, Q_HO569, Q_HA_HO569, Q_HO574, Q_X8_, Q_X10_, Q_X11_, Q_X12_, Q_X14_⟩ hb_ hon hoff
                  refine ⟨_, rfl, fun K hK => ?_⟩
                  have e38 : a.tmps[38]? = some (.int .i64 (wrap64 (1 + (Go.bits .and .i64 a1 1023)))) := by rw [ha]; exact (putSel_off rfl).trans rfl
                  replace ha := Aside0.mk ha
                  have HO555 := Aside0.mk Q_HO555
                  have HO560 := Aside0.mk Q_HO560
                  have HB := Aside0.mk Q_HB
                  refine value_ (w1 := w') (v := .int .i64 (wrap64 (-(wrap64 (1 + (Go.bits .and .i64 a1 1023)))))) (by rfl) rfl ?_ ?_
                  · go_simp
                    (try simp only [i64_w])
                    try rfl
                  refine hK.out _ _ ⟨v565, v568, adz_v568, v573, m8_, m10_, m11_, m12_, m14_, (by rw [ha.out]; exact putSel_upk 1 hb_ rfl rfl rfl), Q_HO555, Q_HO560, Q_HB, Q_HO566, fun h0_ => absurd ((hoff 5 (by kernel_rfl)).symm.trans h0_) (by decide), fun h0_ => absurd ((hoff 5 (by kernel_rfl)).symm.trans h0_) (by decide), fun h0_ => absurd ((hoff 10 (by kernel_rfl)).symm.trans h0_) (by decide), fun h0_ => absurd ((hoff 8 (by kernel_rfl)).symm.trans h0_) (by decide), fun h0_ => absurd ((hoff 10 (by kernel_rfl)).symm.trans h0_) (by decide), fun h0_ => absurd ((hoff 11 (by kernel_rfl)).symm.trans h0_) (by decide), fun h0_ => absurd ((hoff 12 (by kernel_rfl)).symm.trans h0_) (by decide), fun h0_ => absurd ((hoff 14 (by kernel_rfl)).symm.trans h0_) (by decide)⟩
                refine steps_cons ?_ ?_
                · rintro b a w' ⟨v565, v568, adz_v568, v573, m8_, m10_, m11_, m12_, m14_, ha, Q_HO555, Q_HO560, Q_HB, Q_HO566, Q_HO569, Q_HA_HO569, Q_HO574, Q_X8_, Q_X10_, Q_X11_, Q_X12_, Q_X14_⟩ hb_ hon hoff
                  refine ⟨_, rfl, fun K hK => ?_⟩
                  have e40 : a.tmps[40]? = some (.int .i64 (wrap64 (1 + (Go.bits .and .i64 a1 1023)))) := by rw [ha]; exact (putSel_off rfl).trans rfl
                  replace ha := Aside0.mk ha
                  have HO555 := Aside0.mk Q_HO555
                  have HO560 := Aside0.mk Q_HO560
                  have HB := Aside0.mk Q_HB
                  refine value_ (w1 := w') (v := .int .i64 (wrap64 (4 + (wrap64 (1 + (Go.bits .and .i64 a1 1023)))))) (by rfl) rfl ?_ ?_
                  · go_simp
                    (try simp only [i64_w])
                    try rfl
                  refine hK.out _ _ ⟨v565, v568, adz_v568, v573, m8_, m10_, m11_, m12_, m14_, (by rw [ha.out]; exact putSel_upk 2 hb_ rfl rfl rfl), Q_HO555, Q_HO560, Q_HB, Q_HO566, fun h0_ => absurd ((hoff 5 (by kernel_rfl)).symm.trans h0_) (by decide), fun h0_ => absurd ((hoff 5 (by kernel_rfl)).symm.trans h0_) (by decide), fun h0_ => absurd ((hoff 10 (by kernel_rfl)).symm.trans h0_) (by decide), fun h0_ => absurd ((hoff 8 (by kernel_rfl)).symm.trans h0_) (by decide), fun h0_ => absurd ((hoff 10 (by kernel_rfl)).symm.trans h0_) (by decide), fun h0_ => absurd ((hoff 11 (by kernel_rfl)).symm.trans h0_) (by decide), fun h0_ => absurd ((hoff 12 (by kernel_rfl)).symm.trans h0_) (by decide), fun h0_ => absurd ((hoff 14 (by kernel_rfl)).symm.trans h0_) (by decide)⟩
                refine steps_cons ?_ ?_
                · rintro b a w' ⟨v565, v568, adz_v568, v573, m8_, m10_, m11_, m12_, m14_, ha, Q_HO555, Q_HO560, Q_HB, Q_HO566, Q_HO569, Q_HA_HO569, Q_HO574, Q_X8_, Q_X10_, Q_X11_, Q_X12_, Q_X14_⟩ hb_ hon hoff
                  refine ⟨_, rfl, fun K hK => ?_⟩
                  have e39 : a.tmps[39]? = some (.int .i64 (wrap64 (-(wrap64 (1 + (Go.bits .and .i64 a1 1023)))))) := by rw [ha]; exact putSel_on (e := (2, 39, .int .i64 (wrap64 (-(wrap64 (1 + (Go.bits .and .i64 a1 1023))))))) 1 rfl rfl (hon 2 (by kernel_rfl)) rfl
                  have e41 : a.tmps[41]? = some (.int .i64 (wrap64 (4 + (wrap64 (1 + (Go.bits .and .i64 a1 1023)))))) := by rw [ha]; exact putSel_on (e := (4, 41, .int .i64 (wrap64 (4 + (wrap64 (1 + (Go.bits .and .i64 a1 1023))))))) 2 rfl rfl (hon 4 (by kernel_rfl)) rfl
                  replace ha := Aside0.mk ha
                  have HO555 := Aside0.mk Q_HO555
                  have HO560 := Aside0.mk Q_HO560
                  have HB := Aside0.mk Q_HB
                  refine Kd.R_lit_step (Kd.int .i64) _ 3 ?hg (N := 42) ?hd (xs := ([wrap64 (-(wrap64 (1 + (Go.bits .and .i64 a1 1023)))), wrap64 (4 + (wrap64 (1 + (Go.bits .and .i64 a1 1023))))] : List Int)) (inner := [.int .i64 (wrap64 (-(wrap64 (1 + (Go.bits .and .i64 a1 1023))))), .int .i64 (wrap64 (4 + (wrap64 (1 + (Go.bits .and .i64 a1 1023)))))]) (ok := fun _ => True) (okp := fun _ => True) ?hr ?hp (fun _ hk => hk) trivial (Below.refl _ _) (Nat.le_refl _) (by simp) ?_; (case hd => rfl); (case hg => rfl); (case hr => first | (go_simp; done) | (go_simp; rfl)); (case hp => exact (Reps.one (show Kd.M (Kd.int .i64) _ _ _ (wrap64 (-(wrap64 (1 + (Go.bits .and .i64 a1 1023))))) [.int .i64 (wrap64 (-(wrap64 (1 + (Go.bits .and .i64 a1 1023)))))] from rfl) (Reps.one (show Kd.M (Kd.int .i64) _ _ _ (wrap64 (4 + (wrap64 (1 + (Go.bits .and .i64 a1 1023))))) [.int .i64 (wrap64 (4 + (wrap64 (1 + (Go.bits .and .i64 a1 1023)))))] from rfl) (Reps.none _ _))))
                  intro v568 w93 ho94 hb hg_ hnew_
                  clear hg_ hnew_
                  (first | rw [← Ny567.out] at ho94 | (simp only [Int.reduceToNat] at ho94; rw [← Ny567.out] at ho94))
                  have n0_ := Aside0.mk (Kd.N_elder' (hN_ HO555.out) (Kd.R_base ho94) hb)
                  have n1_ := Aside0.mk (Kd.R_elder' (hR_ HO560.out) (Kd.R_base ho94) hb)
                  have n2_ := Aside0.mk (Kd.R_lower (Kd.R_new' ho94 (Kd.R_lt (hR_ HO560.out))) hS_)
                  have n3_ := Aside0.mk (below_step hB_ hb)
                  have z_HO566 := fun (h0_ : b 0 = true) => (show Kd.N k44 44 w93 w.heap.size (fun k_ => some k_ ≠ (.slice (some ⟨go8, 0, none⟩) t553.length co8 : Value).ownBlock ∧ some k_ ≠ (v559 : Value).ownBlock) v565 t564 from by first | exact (Kd.N_elder' (by (with_reducible repeat (first | apply Kd.N_alloc | apply Kd.N_drewN | apply Kd.N_drew)); exact (Q_HO566 h0_)) (Kd.R_base ho94) hb) | exact Kd.N_mono (Kd.N_elder' (by (with_reducible repeat (first | apply Kd.N_alloc | apply Kd.N_drewN | apply Kd.N_drew)); exact (Q_HO566 h0_)) (Kd.R_base ho94) hb) (fun _ h_ => by first | trivial | exact h_ | exact h_.1))
                  clear HO555
                  clear HO560
                  clear HB
                  have HO555 := n0_
                  have HO560 := n1_
                  have HO569 := n2_
                  have HB := n3_
                  clear n0_ n1_ n2_ n3_
                  clear hb ho94
                  obtain ⟨Ao95, co95, eo95⟩ := Kd.R_slice HO569.out
                  subst eo95
                  obtain ⟨ado95, fo95, _⟩ := Kd.at_int (Kd.R_reads' HO569.out).2.2 0 (by decide) (by rw [Ny567.out]; simp)
                  cases fo95
                  refine hK.out _ _ ⟨v565, .slice (some ado95) y567.length co95, ado95, v573, m8_, m10_, m11_, m12_, m14_, (by rw [ha.out]; exact putSel_upk 3 hb_ rfl rfl rfl), (hNm_ HO555.out), (hRm_ HO560.out), hB_, z_HO566, fun _ => (hRm_ HO569.out), fun _ => ⟨_, rfl⟩, fun h0_ => absurd ((hoff 10 (by kernel_rfl)).symm.trans h0_) (by decide), fun h0_ => absurd ((hoff 8 (by kernel_rfl)).symm.trans h0_) (by decide), fun h0_ => absurd ((hoff 10 (by kernel_rfl)).symm.trans h0_) (by decide), fun h0_ => absurd ((hoff 11 (by kernel_rfl)).symm.trans h0_) (by decide), fun h0_ => absurd ((hoff 12 (by kernel_rfl)).symm.trans h0_) (by decide), fun h0_ => absurd ((hoff 14 (by kernel_rfl)).symm.trans h0_) (by decide)⟩
                refine steps_cons ?_ ?_
                · rintro b a w' ⟨v565, v568, adz_v568, v573, m8_, m10_, m11_, m12_, m14_, ha, Q_HO555, Q_HO560, Q_HB, Q_HO566, Q_HO569, Q_HA_HO569, Q_HO574, Q_X8_, Q_X10_, Q_X11_, Q_X12_, Q_X14_⟩ hb_ hon hoff
                  refine ⟨_, rfl, fun K hK => ?_⟩
                  have e43 : a.tmps[43]? = some (.int .i64 a0) := by rw [ha]; exact (putSel_off rfl).trans rfl
                  replace ha := Aside0.mk ha
                  have HO555 := Aside0.mk Q_HO555
                  have HO560 := Aside0.mk Q_HO560
                  have HB := Aside0.mk Q_HB
                  refine value_ (w1 := w') (v := .int .i64 (Go.bits .and .i64 a0 1)) (by rfl) rfl ?_ ?_
                  · go_simp
                    (try simp only [i64_w])
                    try rfl
                  refine hK.out _ _ ⟨v565, v568, adz_v568, v573, m8_, m10_, m11_, m12_, m14_, (by rw [ha.out]; exact putSel_upk 4 hb_ rfl rfl rfl), Q_HO555, Q_HO560, Q_HB, Q_HO566, Q_HO569, Q_HA_HO569, fun h0_ => absurd ((hoff 10 (by kernel_rfl)).symm.trans h0_) (by decide), fun h0_ => absurd ((hoff 8 (by kernel_rfl)).symm.trans h0_) (by decide), fun h0_ => absurd ((hoff 10 (by kernel_rfl)).symm.trans h0_) (by decide), fun h0_ => absurd ((hoff 11 (by kernel_rfl)).symm.trans h0_) (by decide), fun h0_ => absurd ((hoff 12 (by kernel_rfl)).symm.trans h0_) (by decide), fun h0_ => absurd ((hoff 14 (by kernel_rfl)).symm.trans h0_) (by decide)⟩
                refine steps_cons ?_ ?_
                · rintro b a w' ⟨v565, v568, adz_v568, v573, m8_, m10_, m11_, m12_, m14_, ha, Q_HO555, Q_HO560, Q_HB, Q_HO566, Q_HO569, Q_HA_HO569, Q_HO574, Q_X8_, Q_X10_, Q_X11_, Q_X12_, Q_X14_⟩ hb_ hon hoff
                  refine ⟨_, rfl, fun K hK => ?_⟩
                  have e42 : a.tmps[42]? = some (v568) := by rw [ha]; exact putSel_on (e := (5, 42, v568)) 3 rfl rfl (hon 5 (by kernel_rfl)) rfl
                  have e44 : a.tmps[44]? = some (.int .i64 (Go.bits .and .i64 a0 1)) := by rw [ha]; exact putSel_on (e := (7, 44, .int .i64 (Go.bits .and .i64 a0 1))) 4 rfl rfl (hon 7 (by kernel_rfl)) rfl
                  replace ha := Aside0.mk ha
                  have HO555 := Aside0.mk Q_HO555
                  have HO560 := Aside0.mk Q_HO560
                  have HB := Aside0.mk Q_HB
                  have HO569 := Aside0.mk (Q_HO569 (hon 5 (by kernel_rfl)))
                  have HA_HO569 := Aside0.mk (Q_HA_HO569 (hon 5 (by kernel_rfl)))
                  obtain ⟨c_, hv_⟩ := HA_HO569.out
                  rw [hv_] at e42
                  refine value_ (w1 := w') (v := .pointer (some (adz_v568.add ((Go.bits .and .i64 a0 1)).toNat))) (by rfl) rfl ?_ ?_
                  · go_simp
                    (try simp only [i64_w])
                    try rfl
                  refine hK.out _ _ ⟨v565, v568, adz_v568, v573, (.pointer (some (adz_v568.add ((Go.bits .and .i64 a0 1)).toNat))), m10_, m11_, m12_, m14_, (by rw [ha.out]; exact putSel_upk 5 hb_ rfl rfl rfl), Q_HO555, Q_HO560, Q_HB, Q_HO566, Q_HO569, Q_HA_HO569, fun h0_ => absurd ((hoff 10 (by kernel_rfl)).symm.trans h0_) (by decide), fun _ => rfl, fun h0_ => absurd ((hoff 10 (by kernel_rfl)).symm.trans h0_) (by decide), fun h0_ => absurd ((hoff 11 (by kernel_rfl)).symm.trans h0_) (by decide), fun h0_ => absurd ((hoff 12 (by kernel_rfl)).symm.trans h0_) (by decide), fun h0_ => absurd ((hoff 14 (by kernel_rfl)).symm.trans h0_) (by decide)⟩
                refine steps_cons ?_ ?_
                · rintro b a w' ⟨v565, v568, adz_v568, v573, m8_, m10_, m11_, m12_, m14_, ha, Q_HO555, Q_HO560, Q_HB, Q_HO566, Q_HO569, Q_HA_HO569, Q_HO574, Q_X8_, Q_X10_, Q_X11_, Q_X12_, Q_X14_⟩ hb_ hon hoff
                  refine ⟨_, rfl, fun K hK => ?_⟩
                  have e45 : a.tmps[45]? = some (m8_) := by rw [ha]; exact putSel_on (e := (8, 45, m8_)) 5 rfl rfl (hon 8 (by kernel_rfl)) rfl
                  rw [Q_X8_ (hon 8 (by kernel_rfl))] at e45
                  replace ha := Aside0.mk ha
                  have HO555 := Aside0.mk Q_HO555
                  have HO560 := Aside0.mk Q_HO560
                  have HB := Aside0.mk Q_HB
                  have HO569 := Aside0.mk (Q_HO569 (hon 5 (by kernel_rfl)))
                  have HA_HO569 := Aside0.mk (Q_HA_HO569 (hon 5 (by kernel_rfl)))
                  obtain ⟨c_, hv_⟩ := HA_HO569.out
                  have hF_ := HO569.out
                  rw [hv_] at hF_
                  obtain ⟨ad_, ea_, hx_⟩ := Kd.at_int (Kd.R_reads' hF_).2.2 (Go.bits .and .i64 a0 1) (of_eq_true pi570) (of_eq_true qi570)
                  cases ea_
                  refine value_ (w1 := w') (v := .int .i64 (rd y567 (Go.bits .and .i64 a0 1))) (by rfl) rfl ?_ ?_
                  · go_simp
                    (try simp only [i64_w])
                    try rfl
                  refine hK.out _ _ ⟨v565, v568, adz_v568, v573, m8_, m10_, m11_, m12_, m14_, (by rw [ha.out]; exact putSel_upk 6 hb_ rfl rfl rfl), Q_HO555, Q_HO560, Q_HB, Q_HO566, Q_HO569, Q_HA_HO569, fun h0_ => absurd ((hoff 10 (by kernel_rfl)).symm.trans h0_) (by decide), Q_X8_, fun h0_ => absurd ((hoff 10 (by kernel_rfl)).symm.trans h0_) (by decide), fun h0_ => absurd ((hoff 11 (by kernel_rfl)).symm.trans h0_) (by decide), fun h0_ => absurd ((hoff 12 (by kernel_rfl)).symm.trans h0_) (by decide), fun h0_ => absurd ((hoff 14 (by kernel_rfl)).symm.trans h0_) (by decide)⟩
                refine steps_cons ?_ ?_
                · rintro b a w' ⟨v565, v568, adz_v568, v573, m8_, m10_, m11_, m12_, m14_, ha, Q_HO555, Q_HO560, Q_HB, Q_HO566, Q_HO569, Q_HA_HO569, Q_HO574, Q_X8_, Q_X10_, Q_X11_, Q_X12_, Q_X14_⟩ hb_ hon hoff
                  refine ⟨_, rfl, fun K hK => ?_⟩
                  have e37 : a.tmps[37]? = some (v565) := by rw [ha]; exact putSel_on (e := (0, 37, v565)) 0 rfl rfl (hon 0 (by kernel_rfl)) rfl
                  have e46 : a.tmps[46]? = some (.int .i64 (rd y567 (Go.bits .and .i64 a0 1))) := by rw [ha]; exact putSel_on (e := (9, 46, .int .i64 (rd y567 (Go.bits .and .i64 a0 1)))) 6 rfl rfl (hon 9 (by kernel_rfl)) rfl
                  replace ha := Aside0.mk ha
                  have HO555 := Aside0.mk Q_HO555
                  have HO560 := Aside0.mk Q_HO560
                  have HB := Aside0.mk Q_HB
                  have HO566 := Aside0.mk (Q_HO566 (hon 0 (by kernel_rfl)))
                  have HO569 := Aside0.mk (Q_HO569 (hon 5 (by kernel_rfl)))
                  have HA_HO569 := Aside0.mk (Q_HA_HO569 (hon 5 (by kernel_rfl)))
                  obtain ⟨co98, eo98⟩ := HA_HO569.out
                  clear HA_HO569
                  subst eo98
                  obtain ⟨Ao99, co99, eo99⟩ := Kd.N_slice HO566.out
                  (first | subst eo99 | (injection eo99 with f1_ f2_ f3_; have f4_ := f1_.symm; have f5_ := f3_.symm; clear f1_ f2_ f3_; subst f4_; subst f5_))
                  refine goes_ Tryd.func26 (by kernel_rfl) rfl #[.slice Ao99 t564.length co99, .int .i64 (rd y567 (Go.bits .and .i64 a0 1))] (by rfl) rfl rfl (by first | (simp only [List.map_toArray, List.map_cons, List.map_nil, Act.eval, Array.getD_eq_getD_getElem?, Option.getD_some, e37, e46]; done) | (simp only [List.map_toArray, List.map_cons, List.map_nil, Act.eval, Array.getD_eq_getD_getElem?, Option.getD_some, e37, e46]; rfl)) ?_
                  with_reducible refine (back_Path.calls k _ _ t564 (rd y567 (Go.bits .and .i64 a0 1)) t571 t572 _ ?side1 ?side2 A14.out hG_).mono ?_
                  (case side1 => repeat (first | exact (Kd.N_reads' HO566.out).2.2 | (with_reducible refine Kd.C_alloc ?_ _) | (with_reducible refine Kd.C_drewN ?_ _) | (with_reducible refine Kd.C_drew ?_)))
                  (case side2 => exact (Kd.N_reads' HO566.out).2.1)
                  rintro e w100 ⟨v573, rfl, ho0, hb⟩
                  refine ⟨_, rfl, ?_⟩
                  have n0_ := Aside0.mk (Kd.N_elder' (hN_ HO555.out) (Kd.R_base ho0) hb)
                  have n1_ := Aside0.mk (Kd.R_elder' (hR_ HO560.out) (Kd.R_base ho0) hb)
                  have n2_ := Aside0.mk (Kd.N_elder' (hN_ HO566.out) (Kd.R_base ho0) hb)
                  have n3_ := Aside0.mk (Kd.R_elder' (hR_ HO569.out) (Kd.R_base ho0) hb)
                  have n4_ := Aside0.mk (Kd.R_lower (Kd.R_new' (Kd.R_new' ho0 (Kd.R_lt (hR_ HO560.out))) (Kd.R_lt (hR_ HO569.out))) hS_)
                  have n5_ := Aside0.mk (below_step hB_ hb)
                  clear HO555
                  clear HO560
                  clear HO566
                  clear HO569
                  clear HB
                  have HO555 := n0_
                  have HO560 := n1_
                  have HO566 := n2_
                  have HO569 := n3_
                  have HO574 := n4_
                  have HB := n5_
                  clear n0_ n1_ n2_ n3_ n4_ n5_
                  (try clear hb)
                  (try clear hb2)
                  (try clear hk)
                  (try clear hi)
                  (try clear ho0)
                  refine hK.out _ _ ⟨.slice Ao99 t564.length co99, .slice (some adz_v568) y567.length co98, adz_v568, v573, m8_, (.tuple #[v573, .int .i64 t572]), m11_, m12_, m14_, (by rw [ha.out]; exact putSel_upk 7 hb_ rfl rfl rfl), (hNm_ HO555.out), (hRm_ HO560.out), hB_, fun _ => (hNm_ HO566.out), fun _ => (hRm_ HO569.out), fun _ => ⟨_, rfl⟩, fun _ => (hRm_ HO574.out), Q_X8_, fun _ => rfl, fun h0_ => absurd ((hoff 11 (by kernel_rfl)).symm.trans h0_) (by decide), fun h0_ => absurd ((hoff 12 (by kernel_rfl)).symm.trans h0_) (by decide), fun h0_ => absurd ((hoff 14 (by kernel_rfl)).symm.trans h0_) (by decide)⟩
                refine steps_cons ?_ ?_
                · rintro b a w' ⟨v565, v568, adz_v568, v573, m8_, m10_, m11_, m12_, m14_, ha, Q_HO555, Q_HO560, Q_HB, Q_HO566, Q_HO569, Q_HA_HO569, Q_HO574, Q_X8_, Q_X10_, Q_X11_, Q_X12_, Q_X14_⟩ hb_ hon hoff
                  refine ⟨_, rfl, fun K hK => ?_⟩
                  have e47 : a.tmps[47]? = some (m10_) := by rw [ha]; exact putSel_on (e := (10, 47, m10_)) 7 rfl rfl (hon 10 (by kernel_rfl)) rfl
                  rw [Q_X10_ (hon 10 (by kernel_rfl))] at e47
                  replace ha := Aside0.mk ha
                  have HO555 := Aside0.mk Q_HO555
                  have HO560 := Aside0.mk Q_HO560
                  have HB := Aside0.mk Q_HB
                  have HO566 := Aside0.mk (Q_HO566 (hon 0 (by kernel_rfl)))
                  have HO569 := Aside0.mk (Q_HO569 (hon 5 (by kernel_rfl)))
                  have HA_HO569 := Aside0.mk (Q_HA_HO569 (hon 5 (by kernel_rfl)))
                  have HO574 := Aside0.mk (Q_HO574 (hon 10 (by kernel_rfl)))
                  refine value_ (w1 := w') (v := .tuple #[v573, .int .i64 t572]) (by rfl) rfl ?_ ?_
                  · go_simp
                    (try simp only [i64_w])
                    try rfl
                  refine hK.out _ _ ⟨v565, v568, adz_v568, v573, m8_, m10_, (.tuple #[v573, .int .i64 t572]), m12_, m14_, (by rw [ha.out]; exact putSel_upk 8 hb_ rfl rfl rfl), Q_HO555, Q_HO560, Q_HB, Q_HO566, Q_HO569, Q_HA_HO569, Q_HO574, Q_X8_, Q_X10_, fun _ => rfl, fun h0_ => absurd ((hoff 12 (by kernel_rfl)).symm.trans h0_) (by decide), fun h0_ => absurd ((hoff 14 (by kernel_rfl)).symm.trans h0_) (by decide)⟩
                refine steps_cons ?_ ?_
                · rintro b a w' ⟨v565, v568, adz_v568, v573, m8_, m10_, m11_, m12_, m14_, ha, Q_HO555, Q_HO560, Q_HB, Q_HO566, Q_HO569, Q_HA_HO569, Q_HO574, Q_X8_, Q_X10_, Q_X11_, Q_X12_, Q_X14_⟩ hb_ hon hoff
                  refine ⟨_, rfl, fun K hK => ?_⟩
                  have e36 : a.tmps[36]? = some (m11_) := by rw [ha]; exact putSel_on (e := (11, 36, m11_)) 8 rfl rfl (hon 11 (by kernel_rfl)) rfl
                  rw [Q_X11_ (hon 11 (by kernel_rfl))] at e36
                  replace ha := Aside0.mk ha
                  have HO555 := Aside0.mk Q_HO555
                  have HO560 := Aside0.mk Q_HO560
                  have HB := Aside0.mk Q_HB
                  have HO566 := Aside0.mk (Q_HO566 (hon 0 (by kernel_rfl)))
                  have HO569 := Aside0.mk (Q_HO569 (hon 5 (by kernel_rfl)))
                  have HA_HO569 := Aside0.mk (Q_HA_HO569 (hon 5 (by kernel_rfl)))
                  have HO574 := Aside0.mk (Q_HO574 (hon 10 (by kernel_rfl)))
                  obtain ⟨Ao12_0, co12_0, eo_⟩ := Kd.R_slice HO574.out
                  subst eo_
                  refine value_ (w1 := w') (v := .slice Ao12_0 t571.length co12_0) (by rfl) rfl ?_ ?_
                  · go_simp
                    (try simp only [i64_w])
                    try rfl
                  refine hK.out _ _ ⟨v565, v568, adz_v568, .slice Ao12_0 t571.length co12_0, m8_, m10_, m11_, (.slice Ao12_0 t571.length co12_0), m14_, (by rw [ha.out]; exact putSel_upk 9 hb_ rfl rfl rfl), Q_HO555, Q_HO560, Q_HB, Q_HO566, Q_HO569, Q_HA_HO569, Q_HO574, Q_X8_, Q_X10_, Q_X11_, fun _ => rfl, fun h0_ => absurd ((hoff 14 (by kernel_rfl)).symm.trans h0_) (by decide)⟩
                refine steps_cons ?_ ?_
                · rintro b a w' ⟨v565, v568, adz_v568, v573, m8_, m10_, m11_, m12_, m14_, ha, Q_HO555, Q_HO560, Q_HB, Q_HO566, Q_HO569, Q_HA_HO569, Q_HO574, Q_X8_, Q_X10_, Q_X11_, Q_X12_, Q_X14_⟩ hb_ hon hoff
                  refine ⟨_, rfl, fun K hK => ?_⟩
                  have e36 : a.tmps[36]? = some (m11_) := by rw [ha]; exact putSel_on (e := (11, 36, m11_)) 8 rfl rfl (hon 11 (by kernel_rfl)) rfl
                  rw [Q_X11_ (hon 11 (by kernel_rfl))] at e36
                  replace ha := Aside0.mk ha
                  have HO555 := Aside0.mk Q_HO555
                  have HO560 := Aside0.mk Q_HO560
                  have HB := Aside0.mk Q_HB
                  have HO566 := Aside0.mk (Q_HO566 (hon 0 (by kernel_rfl)))
                  have HO569 := Aside0.mk (Q_HO569 (hon 5 (by kernel_rfl)))
                  have HA_HO569 := Aside0.mk (Q_HA_HO569 (hon 5 (by kernel_rfl)))
                  have HO574 := Aside0.mk (Q_HO574 (hon 10 (by kernel_rfl)))
                  obtain ⟨Ao13_0, co13_0, eo_⟩ := Kd.R_slice HO574.out
                  subst eo_
                  refine value_ (w1 := w') (v := .int .i64 t572) (by rfl) rfl ?_ ?_
                  · go_simp
                    (try simp only [i64_w])
                    try rfl
                  refine hK.out _ _ ⟨v565, v568, adz_v568, .slice Ao13_0 t571.length co13_0, m8_, m10_, m11_, m12_, m14_, (by rw [ha.out]; exact putSel_upk 10 hb_ rfl rfl rfl), Q_HO555, Q_HO560, Q_HB, Q_HO566, Q_HO569, Q_HA_HO569, Q_HO574, Q_X8_, Q_X10_, Q_X11_, Q_X12_, Q_X14_⟩
                refine steps_cons ?_ ?_
                · rintro b a w' ⟨v565, v568, adz_v568, v573, m8_, m10_, m11_, m12_, m14_, ha, Q_HO555, Q_HO560, Q_HB, Q_HO566, Q_HO569, Q_HA_HO569, Q_HO574, Q_X8_, Q_X10_, Q_X11_, Q_X12_, Q_X14_⟩ hb_ hon hoff
                  refine ⟨_, rfl, fun K hK => ?_⟩
                  have e48 : a.tmps[48]? = some (m12_) := by rw [ha]; exact putSel_on (e := (12, 48, m12_)) 9 rfl rfl (hon 12 (by kernel_rfl)) rfl
                  rw [Q_X12_ (hon 12 (by kernel_rfl))] at e48
                  replace ha := Aside0.mk ha
                  have HO555 := Aside0.mk Q_HO555
                  have HO560 := Aside0.mk Q_HO560
                  have HB := Aside0.mk Q_HB
                  have HO566 := Aside0.mk (Q_HO566 (hon 0 (by kernel_rfl)))
                  have HO569 := Aside0.mk (Q_HO569 (hon 5 (by kernel_rfl)))
                  have HA_HO569 := Aside0.mk (Q_HA_HO569 (hon 5 (by kernel_rfl)))
                  have HO574 := Aside0.mk (Q_HO574 (hon 10 (by kernel_rfl)))
                  refine value_ (w1 := w') (v := v573) (by rfl) rfl ?_ ?_
                  · go_simp
                    (try simp only [i64_w])
                    try rfl
                  refine hK.out _ _ ⟨v565, v568, adz_v568, v573, m8_, m10_, m11_, m12_, (v573), (by rw [ha.out]; exact putSel_upk 11 hb_ rfl rfl rfl), Q_HO555, Q_HO560, Q_HB, Q_HO566, Q_HO569, Q_HA_HO569, Q_HO574, Q_X8_, Q_X10_, Q_X11_, Q_X12_, fun _ => rfl⟩
                refine steps_cons ?_ ?_
                · rintro b a w' ⟨v565, v568, adz_v568, v573, m8_, m10_, m11_, m12_, m14_, ha, Q_HO555, Q_HO560, Q_HB, Q_HO566, Q_HO569, Q_HA_HO569, Q_HO574, Q_X8_, Q_X10_, Q_X11_, Q_X12_, Q_X14_⟩ hb_ hon hoff
                  refine ⟨_, rfl, fun K hK => ?_⟩
                  have e49 : a.tmps[49]? = some (.int .i64 t572) := by rw [ha]; exact putSel_on (e := (13, 49, .int .i64 t572)) 10 rfl rfl (hon 13 (by kernel_rfl)) rfl
                  replace ha := Aside0.mk ha
                  have HO555 := Aside0.mk Q_HO555
                  have HO560 := Aside0.mk Q_HO560
                  have HB := Aside0.mk Q_HB
                  have HO566 := Aside0.mk (Q_HO566 (hon 0 (by kernel_rfl)))
                  have HO569 := Aside0.mk (Q_HO569 (hon 5 (by kernel_rfl)))
                  have HA_HO569 := Aside0.mk (Q_HA_HO569 (hon 5 (by kernel_rfl)))
                  have HO574 := Aside0.mk (Q_HO574 (hon 10 (by kernel_rfl)))
                  refine value_ (w1 := w') (v := .int .i64 t572) (by rfl) rfl ?_ ?_
                  · go_simp
                    (try simp only [i64_w])
                    try rfl
                  refine hK.out _ _ ⟨v565, v568, adz_v568, v573, m8_, m10_, m11_, m12_, m14_, (by rw [ha.out]; exact putSel_upk 12 hb_ rfl rfl rfl), Q_HO555, Q_HO560, Q_HB, Q_HO566, Q_HO569, Q_HA_HO569, Q_HO574, Q_X8_, Q_X10_, Q_X11_, Q_X12_, Q_X14_⟩
                exact steps_nil
              rintro b a w99 hall ⟨v565, v568, adz_v568, v573, m8_, m10_, m11_, m12_, m14_, ha, Q_HO555, Q_HO560, Q_HB, Q_HO566, Q_HO569, Q_HA_HO569, Q_HO574, Q_X8_, Q_X10_, Q_X11_, Q_X12_, Q_X14_⟩
              clear HB HO555 HO560
              have hb0_ := hall 0 (by kernel_rfl)
              have hb2_ := hall 2 (by kernel_rfl)
              have hb4_ := hall 4 (by kernel_rfl)
              have hb5_ := hall 5 (by kernel_rfl)
              have hb7_ := hall 7 (by kernel_rfl)
              have hb8_ := hall 8 (by kernel_rfl)
              have hb9_ := hall 9 (by kernel_rfl)
              have hb10_ := hall 10 (by kernel_rfl)
              have hb11_ := hall 11 (by kernel_rfl)
              have hb12_ := hall 12 (by kernel_rfl)
              have hb13_ := hall 13 (by kernel_rfl)
              have hb14_ := hall 14 (by kernel_rfl)
              have hb15_ := hall 15 (by kernel_rfl)
              subst ha
              obtain rfl := Q_X8_ hb8_
              obtain rfl := Q_X10_ hb10_
              obtain rfl := Q_X11_ hb11_
              obtain rfl := Q_X12_ hb12_
              obtain rfl := Q_X14_ hb14_
              simp only [putSel, hb0_, hb2_, hb4_, hb5_, hb7_, hb8_, hb9_, hb10_, hb11_, hb12_, hb13_, hb14_, hb15_, if_true, Act.put, List.setIfInBounds_toArray, List.set_cons_zero, List.set_cons_succ]
              have HO555 := Aside0.mk Q_HO555
              clear Q_HO555
              have HO560 := Aside0.mk Q_HO560
              clear Q_HO560
              have HB := Aside0.mk Q_HB
              clear Q_HB
              have HO566 := Aside0.mk (Q_HO566 hb0_)
              clear Q_HO566
              have HO569 := Aside0.mk (Q_HO569 hb5_)
              clear Q_HO569
              have HA_HO569 := Aside0.mk (Q_HA_HO569 hb5_)
              clear Q_HA_HO569
              have HO574 := Aside0.mk (Q_HO574 hb10_)
              clear Q_HO574
              clear hall hb0_ hb2_ hb4_ hb5_ hb7_ hb8_ hb9_ hb10_ hb11_ hb12_ hb13_ hb14_ hb15_
              obtain ⟨co100, eo100⟩ := HA_HO569.out
              clear HA_HO569
              subst eo100
              obtain ⟨Ao101, co101, eo101⟩ := Kd.R_slice HO560.out
              subst eo101
              try go_wp2
              go_ret
              exact ⟨by first | rfl | (simp [errW_none, errW_some] <;> rfl) | (simp [*, errW_none, errW_some] <;> rfl), by repeat (first | (with_reducible first | exact HB.out | apply below_alloc | apply pw_below_drewN | apply below_drew1) | exact HB.out)⟩
          · rw [if_neg c13] at H
            exact absurd H (by simp)
        · rw [if_neg c12] at H
          exact absurd H (by simp)
      · rw [if_neg c7] at H
        exact absurd H (by simp)
    · rw [if_neg c6] at H
      exact absurd H (by simp)
  · replace c4 := Bool.eq_false_iff.mpr c4
    subst c4
    have H1 : (some false) = some r := by rw [if_neg (show ¬ (false = true) by decide)] at H; exact H
    clear H
    have H := H1
    clear H1
    obtain rfl := Option.some.inj H
    go_enter Tryd.func10, Tryd.ntmps10
    go_wp2_with (first | ((with_reducible refine gate_callee (f := 30) rfl ?_); refine goesL_ (some 14) rfl rfl Tryd.func30 (by kernel_rfl) rfl #[] rfl hL_ ?_; (with_reducible refine (sleuthlaw24_awake.calls k  false _ A3.out hG_).mono ?_); rintro e w102 ⟨rfl, hb⟩; refine ⟨_, rfl, ?_⟩; have n0_ := Aside0.mk (below_step hB_ hb); clear HB; have HB := n0_; clear n0_; (try clear hb); (try clear hb2); (try clear hk); (try clear hi)))
    go_ret
    exact ⟨by first | rfl | (simp [errW_none, errW_some] <;> rfl) | (simp [*, errW_none, errW_some] <;> rfl), by repeat (first | (with_reducible first | exact HB.out | apply below_alloc | apply pw_below_drewN | apply below_drew1) | exact HB.out)⟩

/-- THE ONE PURE STATEMENT of sleuthlaw24_BackForms: yours. -/
def sleuthlaw24_BackForms.Pure : Prop := ∀ (a0 : Int) (a1 : Int), (Lit.int .i64 a0).wf = true → (Lit.int .i64 a1).wf = true → ∃ k, sleuthlaw24_BackForms.f k a0 a1 = some true
theorem sleuthlaw24_BackForms.walk (P : sleuthlaw24_BackForms.Pure) (a0 : Int) (a1 : Int) (w : World) (w0 : (Lit.int .i64 a0).wf = true) (w1 : (Lit.int .i64 a1).wf = true) (hG : GOK w) :
    Calls Tryd.prog 10 #[.int .i64 a0, .int .i64 a1] w fun e w' => e = .returned (.bool true) ∧ Below w.heap.size w w' := by
  obtain ⟨k, h⟩ := P a0 a1 w0 w1
  refine (sleuthlaw24_BackForms.calls k a0 a1 true w h hG).mono ?_
  rintro e w' ⟨rfl, hd⟩
  exact ⟨rfl, hd⟩

end Go.Proofs.YtgcdbpnflchobaaDoor.G
