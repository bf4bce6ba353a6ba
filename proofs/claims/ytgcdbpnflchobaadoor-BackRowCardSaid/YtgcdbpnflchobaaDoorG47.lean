-- Laid by the session's own driver gp.py over the kit's printer. Not trusted: Lean checks it.
import Derived.Test.YtgcdbpnflchobaaDoorBase
import Derived.Test.YtgcdbpnflchobaaDoorGS
import Derived.Test.YtgcdbpnflchobaaDoorGN
import Derived.Test.YtgcdbpnflchobaaDoorG38
import Derived.Test.YtgcdbpnflchobaaDoorG40
import Derived.Test.YtgcdbpnflchobaaDoorG41
import Derived.Test.YtgcdbpnflchobaaDoorG42
namespace Go.Proofs.YtgcdbpnflchobaaDoor.G
open Go.RowKit Go.Proofs.YtgcdbpnflchobaaDoorW.PrintWords Go.Proofs.YtgcdbpnflchobaaDoorW.PrintLast Go.Proofs.YtgcdbpnflchobaaDoorW.PrintMore
attribute [local go_sem] max2_int min2_int max_two min_two max_three min_three max_four min_four   -- for this text's walks alone
set_option linter.unusedVariables false
set_option linter.unusedSimpArgs false

/-! ### sleuthlaw24_BackRow: function 13 -/
mutual
def sleuthlaw24_BackRow.l0 : Nat → Int → Int → Int → List (S44) → Int → Int → Option (Bool)
  | 0, _, _, _, _, _, _ => none
  | k + 1, x1, x2, x7, x8, x9, x10 => if x10 < x7 then (if 0 ≤ x10 then (if x10 < (x8.length : Int) then ((some (x8.set (x10 : Int).toNat (⟨0, wrap64 (x10 - 1), ([] : List ByteArray), (⟨#[49]⟩ : ByteArray)⟩ : S44) : List (S44))).bind fun y610 => (if (Go.bits .and .i64 (shr .i64 x2 x10) 1) = 1 then (sleuthlaw24_BackRow.l0 k x1 x2 x7 (y610.set (x10 : Int).toNat (⟨(rd_T44 y610 x10).f0, (rd_T44 y610 x10).f1, (rd_T44 y610 x10).f2, (⟨#[33]⟩ : ByteArray)⟩ : S44)) x10 (wrap64 (x10 + 1))) else (sleuthlaw24_BackRow.l0 k x1 x2 x7 y610 x9 (wrap64 (x10 + 1))))) else (none)) else (none)) else (if (IntKind.u64.wrap (x7)) = 0 then (none) else ((back_Path.f k x8 (wrap64 (Int.tmod (IntKind.u64.wrap (x1)) (IntKind.u64.wrap (x7))))).bind fun bt612 => ((sleuthlaw0_Num.f bt612.2).bind fun t616 => (if t616 = 0 then (sleuthlaw24_BackRow.j1 k x8 x9 (wrap64 (Int.tmod (IntKind.u64.wrap (x1)) (IntKind.u64.wrap (x7)))) bt612.1 ((bt612.1.length : Int) != (wrap64 ((wrap64 (Int.tmod (IntKind.u64.wrap (x1)) (IntKind.u64.wrap (x7)))) + 1)))) else (sleuthlaw24_BackRow.j1 k x8 x9 (wrap64 (Int.tmod (IntKind.u64.wrap (x1)) (IntKind.u64.wrap (x7)))) bt612.1 true)))))
def sleuthlaw24_BackRow.j1 : Nat → List (S44) → Int → Int → List Int → Bool → Option (Bool)
  | 0, _, _, _, _, _ => none
  | k + 1, x8, x9, x11, x12, x67 => if x67 = true then (some false) else (sleuthlaw24_BackRow.l1 k x8 x9 x11 x12 0)
def sleuthlaw24_BackRow.l1 : Nat → List (S44) → Int → Int → List Int → Int → Option (Bool)
  | 0, _, _, _, _, _ => none
  | k + 1, x8, x9, x11, x12, x14 => if x14 ≤ x11 then (if 0 ≤ x14 then (if x14 < (x12.length : Int) then (if (rd x12 x14) = (wrap64 (x11 - x14)) then (sleuthlaw24_BackRow.l1 k x8 x9 x11 x12 (wrap64 (x14 + 1))) else (some false)) else (none)) else (none)) else ((back_Last.f k x8).bind fun bt618 => ((sleuthlaw0_Num.f bt618.2.2).bind fun t621 => (if t621 = 0 then (if (bt618.2.1 == (decide (x9 ≥ 0))) = true then (if bt618.1 = (mx 0 x9) then ((sleuthref12_TrailMay.f k x8).bind fun t622 => (if t622 = true then ((sleuthlaw24_some.f).bind fun t623 => (some ((t623.length : Int) == 5))) else (some false))) else (some false)) else (some false)) else (some false))))
end
def sleuthlaw24_BackRow.f (k : Nat) (a0 : Int) (a1 : Int) (a2 : Int) : Option (Bool) := (sleuthlaw24_awake.f k).bind fun t606 => (if t606 = true then (if 0 ≤ (wrap64 (1 + (Go.bits .and .i64 a0 31))) then (if (wrap64 (1 + (Go.bits .and .i64 a0 31)) : Int).toNat ≤ 5026338869833 then (sleuthlaw24_BackRow.l0 k a1 a2 (wrap64 (1 + (Go.bits .and .i64 a0 31))) (List.replicate (wrap64 (1 + (Go.bits .and .i64 a0 31)) : Int).toNat z44) (-1) 0) else (none)) else (none)) else (some false))
theorem sleuthlaw24_BackRow.mono_l : ∀ k, (∀ y0 y1 y2 y3 y4 y5, LeO (sleuthlaw24_BackRow.l0 k y0 y1 y2 y3 y4 y5) (sleuthlaw24_BackRow.l0 (k + 1) y0 y1 y2 y3 y4 y5)) ∧ (∀ y0 y1 y2 y3 y4, LeO (sleuthlaw24_BackRow.j1 k y0 y1 y2 y3 y4) (sleuthlaw24_BackRow.j1 (k + 1) y0 y1 y2 y3 y4)) ∧ (∀ y0 y1 y2 y3 y4, LeO (sleuthlaw24_BackRow.l1 k y0 y1 y2 y3 y4) (sleuthlaw24_BackRow.l1 (k + 1) y0 y1 y2 y3 y4))
  | 0 => ⟨fun _ _ _ _ _ _ r h => by simp [sleuthlaw24_BackRow.l0] at h, fun _ _ _ _ _ r h => by simp [sleuthlaw24_BackRow.j1] at h, fun _ _ _ _ _ r h => by simp [sleuthlaw24_BackRow.l1] at h⟩
  | k + 1 => by
    obtain ⟨ih0, ih1, ih2⟩ := sleuthlaw24_BackRow.mono_l k
    refine ⟨?_, ?_, ?_⟩
    · intro y0 y1 y2 y3 y4 y5
      unfold sleuthlaw24_BackRow.l0
      repeat' first
      | (with_reducible exact ih0 _ _ _ _ _ _)
      | (with_reducible exact ih1 _ _ _ _ _)
      | (with_reducible exact ih2 _ _ _ _ _)
      | (with_reducible exact back_Last.mono _ _)
      | (with_reducible exact back_Path.mono _ _ _)
      | (with_reducible exact sleuthlaw24_awake.mono _)
      | (with_reducible exact sleuthref12_TrailMay.mono _ _)
      | (with_reducible exact LeO.refl _)
      | (with_reducible exact LeO.none _)
      | (with_reducible refine LeO.ite ?_ ?_)
      | (with_reducible refine LeO.bind ?_ (fun _ => ?_))
      | exact ih0 _ _ _ _ _ _
      | exact ih1 _ _ _ _ _
      | exact ih2 _ _ _ _ _
      | exact back_Last.mono _ _
      | exact back_Path.mono _ _ _
      | exact sleuthlaw24_awake.mono _
      | exact sleuthref12_TrailMay.mono _ _
      | exact LeO.none _
      | refine LeO.ite ?_ ?_
      | refine LeO.bind ?_ (fun _ => ?_)
    · intro y0 y1 y2 y3 y4
      unfold sleuthlaw24_BackRow.j1
      repeat' first
      | (with_reducible exact ih0 _ _ _ _ _ _)
      | (with_reducible exact ih1 _ _ _ _ _)
      | (with_reducible exact ih2 _ _ _ _ _)
      | (with_reducible exact back_Last.mono _ _)
      | (with_reducible exact back_Path.mono _ _ _)
      | (with_reducible exact sleuthlaw24_awake.mono _)
      | (with_reducible exact sleuthref12_TrailMay.mono _ _)
      | (with_reducible exact LeO.refl _)
      | (with_reducible exact LeO.none _)
      | (with_reducible refine LeO.ite ?_ ?_)
      | (with_reducible refine LeO.bind ?_ (fun _ => ?_))
      | exact ih0 _ _ _ _ _ _
      | exact ih1 _ _ _ _ _
      | exact ih2 _ _ _ _ _
      | exact back_Last.mono _ _
      | exact back_Path.mono _ _ _
      | exact sleuthlaw24_awake.mono _
      | exact sleuthref12_TrailMay.mono _ _
      | exact LeO.none _
      | refine LeO.ite ?_ ?_
      | refine LeO.bind ?_ (fun _ => ?_)
    · intro y0 y1 y2 y3 y4
      unfold sleuthlaw24_BackRow.l1
      repeat' first
      | (with_reducible exact ih0 _ _ _ _ _ _)
      | (with_reducible exact ih1 _ _ _ _ _)
      | (with_reducible exact ih2 _ _ _ _ _)
      | (with_reducible exact back_Last.mono _ _)
      | (with_reducible exact back_Path.mono _ _ _)
      | (with_reducible exact sleuthlaw24_awake.mono _)
      | (with_reducible exact sleuthref12_TrailMay.mono _ _)
      | (with_reducible exact LeO.refl _)
      | (with_reducible exact LeO.none _)
      | (with_reducible refine LeO.ite ?_ ?_)
      | (with_reducible refine LeO.bind ?_ (fun _ => ?_))
      | exact ih0 _ _ _ _ _ _
      | exact ih1 _ _ _ _ _
      | exact ih2 _ _ _ _ _
      | exact back_Last.mono _ _
      | exact back_Path.mono _ _ _
      | exact sleuthlaw24_awake.mono _
      | exact sleuthref12_TrailMay.mono _ _
      | exact LeO.none _
      | refine LeO.ite ?_ ?_
      | refine LeO.bind ?_ (fun _ => ?_)
theorem sleuthlaw24_BackRow.mono : ∀ a0 a1 a2 k, LeO (sleuthlaw24_BackRow.f k a0 a1 a2) (sleuthlaw24_BackRow.f (k + 1) a0 a1 a2) := by
  intro a0 a1 a2 k
  obtain ⟨ih0, ih1, ih2⟩ := sleuthlaw24_BackRow.mono_l k
  unfold sleuthlaw24_BackRow.f
  repeat' first
      | (with_reducible exact ih0 _ _ _ _ _ _)
      | (with_reducible exact ih1 _ _ _ _ _)
      | (with_reducible exact ih2 _ _ _ _ _)
      | (with_reducible exact back_Last.mono _ _)
      | (with_reducible exact back_Path.mono _ _ _)
      | (with_reducible exact sleuthlaw24_awake.mono _)
      | (with_reducible exact sleuthref12_TrailMay.mono _ _)
      | (with_reducible exact LeO.refl _)
      | (with_reducible exact LeO.none _)
      | (with_reducible refine LeO.ite ?_ ?_)
      | (with_reducible refine LeO.bind ?_ (fun _ => ?_))
      | exact ih0 _ _ _ _ _ _
      | exact ih1 _ _ _ _ _
      | exact ih2 _ _ _ _ _
      | exact back_Last.mono _ _
      | exact back_Path.mono _ _ _
      | exact sleuthlaw24_awake.mono _
      | exact sleuthref12_TrailMay.mono _ _
      | exact LeO.none _
      | refine LeO.ite ?_ ?_
      | refine LeO.bind ?_ (fun _ => ?_)
set_option maxHeartbeats 8000000 in
set_option maxRecDepth 100000 in
theorem sleuthlaw24_BackRow.calls (k : Nat) (a0 : Int) (a1 : Int) (a2 : Int) (r : Bool) (w : World) (h : sleuthlaw24_BackRow.f k a0 a1 a2 = some r) (hG : GOK w) :
    Calls Tryd.prog 13 #[.int .i64 a0, .int .i64 a1, .int .i64 a2] w fun e w' => e = .returned (.bool r) ∧ Below w.heap.size w w' := by
  have hu44 := Tryd.underlying44
  have HB := Aside0.mk (Below.refl w.heap.size w)
  have H : ((sleuthlaw24_awake.f k).bind fun t606 => (if t606 = true then (if 0 ≤ (wrap64 (1 + (Go.bits .and .i64 a0 31))) then (if (wrap64 (1 + (Go.bits .and .i64 a0 31)) : Int).toNat ≤ 5026338869833 then (sleuthlaw24_BackRow.l0 k a1 a2 (wrap64 (1 + (Go.bits .and .i64 a0 31))) (List.replicate (wrap64 (1 + (Go.bits .and .i64 a0 31)) : Int).toNat z44) (-1) 0) else (none)) else (none)) else (some false))) = some r := h
  clear h
  replace H := Option.bind_eq_some_iff.mp H
  obtain ⟨t606, A40, H⟩ := H
  replace H : (if t606 = true then (if 0 ≤ (wrap64 (1 + (Go.bits .and .i64 a0 31))) then (if (wrap64 (1 + (Go.bits .and .i64 a0 31)) : Int).toNat ≤ 5026338869833 then (sleuthlaw24_BackRow.l0 k a1 a2 (wrap64 (1 + (Go.bits .and .i64 a0 31))) (List.replicate (wrap64 (1 + (Go.bits .and .i64 a0 31)) : Int).toNat z44) (-1) 0) else (none)) else (none)) else (some false)) = some r := H
  have A4 := Aside0.mk A40
  clear A40
  by_cases c5 : t606 = true
  · subst c5
    have H1 : (if 0 ≤ (wrap64 (1 + (Go.bits .and .i64 a0 31))) then (if (wrap64 (1 + (Go.bits .and .i64 a0 31)) : Int).toNat ≤ 5026338869833 then (sleuthlaw24_BackRow.l0 k a1 a2 (wrap64 (1 + (Go.bits .and .i64 a0 31))) (List.replicate (wrap64 (1 + (Go.bits .and .i64 a0 31)) : Int).toNat z44) (-1) 0) else (none)) else (none)) = some r := by rw [if_pos rfl] at H; exact H
    clear H
    have H := H1
    clear H1
    obtain ⟨ji6, hji6⟩ : ∃ j_ : Int, (wrap64 (1 + (Go.bits .and .i64 a0 31))) = j_ := ⟨_, rfl⟩
    replace H : (if 0 ≤ (ji6) then (if (ji6 : Int).toNat ≤ 5026338869833 then (sleuthlaw24_BackRow.l0 k a1 a2 ji6 (List.replicate (ji6 : Int).toNat z44) (-1) 0) else (none)) else (none)) = some r := by first | (rw [hji6] at H; exact H) | (simp only [hji6] at H ⊢; exact H)
    (try rw [hji6] at A4)
    have hji6w : (IntKind.i64.wrap (1 + (Go.bits .and .i64 a0 31))) = ji6 := (i64_w _).trans hji6
    by_cases c7 : 0 ≤ (ji6)
    · rw [if_pos c7] at H
      have c7b0 := eq_true c7
      have c7b1 : decide (0 ≤ (ji6)) = true := decide_eq_true c7
      clear c7
      by_cases c8 : (ji6 : Int).toNat ≤ 5026338869833
      · rw [if_pos c8] at H
        have c8b0 := eq_true c8
        have c8b1 : decide ((ji6 : Int).toNat ≤ 5026338869833) = true := decide_eq_true c8
        clear c8
        obtain ⟨y607, hy607⟩ : ∃ y_ : List (S44), y_ = (List.replicate (ji6 : Int).toNat z44) := ⟨_, rfl⟩
        replace H : (sleuthlaw24_BackRow.l0 k a1 a2 ji6 y607 (-1) 0) = some r := by first | (rw [hy607]; with_reducible exact H) | (have H2_ := (Option.bind_some _ _).symm.trans H; rw [hy607]; with_reducible exact H2_) | (have H2_ := (Option.bind_some _ _).symm.trans H; with_reducible exact H2_) | with_reducible exact H | (rw [hy607]; exact H) | exact H
        have Ny607 := Aside0.mk hy607
        clear hy607
        have H' := Aside0.mk H
        clear H
        go_enter Tryd.func13, Tryd.ntmps13
        go_wp2_with (first | ((with_reducible refine gate_callee (f := 30) rfl ?_); refine goesL_ (some 18) rfl rfl Tryd.func30 (by kernel_rfl) rfl #[] rfl hL_ ?_; (with_reducible refine (sleuthlaw24_awake.calls k  true _ A4.out hG_).mono ?_); rintro e w9 ⟨rfl, hb⟩; refine ⟨_, rfl, ?_⟩; have n0_ := Aside0.mk (below_step hB_ hb); clear HB; have HB := n0_; clear n0_; (try clear hb); (try clear hb2); (try clear hk); (try clear hi)) | ((with_reducible refine gate_dst (N := 24) rfl ?_); (try (refine gate_guard (by rfl) ?_; dsimp only)); refine Kd.N_make k44 _ 44 rfl (N' := 24) rfl 22 _ _ rfl ji6 rfl rfl Tryd.underlying22 (.agg #[(.int .i64 0), (.int .i64 0), (.slice none 0 0), (.string ⟨#[]⟩)]) 56 info44 rfl (by decide) (by omega) z44 (ok := fun k_ => w9.heap.size ≤ k_) (okp := fun _ => False) (k44_mkF _ _ z44 (Nat.le_refl _) (Kd.F_nil _ _ _)) (fun _ hk => hk.elim) (Nat.le_refl _) (of_decide_eq_true hA_) (Nat.le_trans (Nat.mul_le_mul_right _ (of_decide_eq_true hA_ : ji6.toNat ≤ 5026338869833)) (by omega)) (Below.refl _ _) (Nat.le_refl _) ?_; intro v608 w10 ho11 hb hg_ hnew_; clear hg_ hnew_; (first | rw [← Ny607.out] at ho11 | (simp only [Int.reduceToNat] at ho11; rw [← Ny607.out] at ho11)); have n0_ := Aside0.mk (Kd.N_lower (Kd.N_mono (ok' := fun k_ => True) ho11 (fun k_ hk_ => trivial)) hS_); have n1_ := Aside0.mk (below_step hB_ hb); clear HB; have HO609 := n0_; have HB := n1_; clear n0_ n1_; clear hb ho11))
        go_loopg [9, 10] k (fun kq v9 v10 w' => ∃ (x8_1 : List (S44)) (x9_1 : Int) (x10_1 : Int), v9 = .int .i64 x9_1 ∧ v10 = .int .i64 x10_1 ∧ Aside0 (sleuthlaw24_BackRow.l0 kq a1 a2 ji6 x8_1 x9_1 x10_1 = some r) ∧ Aside0 (kq ≤ k) ∧ Aside0 (Kd.N k44 44 w' w.heap.size (fun _ => True) v608 x8_1) ∧ Aside0 (Below w.heap.size w w'))
        case atStart => exact ⟨(y607), ((-1)), (0), (by first | rfl | (simp; done) | (simp [*]; done)), (by first | rfl | (simp; done) | (simp [*]; done)), H', ⟨Nat.le_refl _⟩, ⟨by (with_reducible repeat (first | apply Kd.N_alloc | apply Kd.N_drewN | apply Kd.N_drew)); exact HO609.out⟩, ⟨by repeat (first | (with_reducible first | exact HB.out | apply below_alloc | apply pw_below_drewN | apply below_drew1) | exact HB.out)⟩⟩
        case round =>
          clear H'
          try clear c1
          try clear p2
          try clear c3
          try clear c5
          try clear p6
          try clear c7
          try clear c7b0
          try clear c7b1
          try clear c8
          try clear c8b0
          try clear c8b1
          try clear hji6
          try clear hji6w
          obtain ⟨x8_1, x9_1, x10_1, rfl, rfl, HA, HK1, HO_8, HB⟩ := hrel
          cases gk with
          | zero => exact absurd HA.out (by simp [sleuthlaw24_BackRow.l0])
          | succ k1 =>
            have H := HA.out
            clear HA
            simp only [sleuthlaw24_BackRow.l0] at H
            by_cases c12 : x10_1 < ji6
            · rw [if_pos c12] at H
              have c12b0 : decide (x10_1 < ji6) = true := decide_eq_true c12
              clear c12
              by_cases c13 : 0 ≤ x10_1
              · rw [if_pos c13] at H
                have c13b0 : decide (0 ≤ x10_1) = true := decide_eq_true c13
                clear c13
                by_cases c14 : x10_1 < (x8_1.length : Int)
                · rw [if_pos c14] at H
                  have c14b0 : decide (x10_1 < (x8_1.length : Int)) = true := decide_eq_true c14
                  clear c14
                  obtain ⟨y610, hy610⟩ : ∃ y_ : List (S44), y_ = (x8_1.set (x10_1 : Int).toNat (⟨0, wrap64 (x10_1 - 1), ([] : List ByteArray), (⟨#[49]⟩ : ByteArray)⟩ : S44)) := ⟨_, rfl⟩
                  replace H : (if (Go.bits .and .i64 (shr .i64 a2 x10_1) 1) = 1 then (sleuthlaw24_BackRow.l0 k1 a1 a2 ji6 (y610.set (x10_1 : Int).toNat (⟨(rd_T44 y610 x10_1).f0, (rd_T44 y610 x10_1).f1, (rd_T44 y610 x10_1).f2, (⟨#[33]⟩ : ByteArray)⟩ : S44)) x10_1 (wrap64 (x10_1 + 1))) else (sleuthlaw24_BackRow.l0 k1 a1 a2 ji6 y610 x9_1 (wrap64 (x10_1 + 1)))) = some r := by first | (rw [hy610]; with_reducible exact H) | (have H2_ := (Option.bind_some _ _).symm.trans H; rw [hy610]; with_reducible exact H2_) | (have H2_ := (Option.bind_some _ _).symm.trans H; with_reducible exact H2_) | with_reducible exact H | (rw [hy610]; exact H) | exact H
                  have Ny610 := Aside0.mk hy610
                  clear hy610
                  have c16b0 := eq_true (of_decide_eq_true hA_ : 0 ≤ x10_1)
                  obtain ⟨ji17, hji17⟩ : ∃ j_ : Int, (shr .i64 a2 x10_1) = j_ := ⟨_, rfl⟩
                  replace H : (if (Go.bits .and .i64 (ji17) 1) = 1 then (sleuthlaw24_BackRow.l0 k1 a1 a2 ji6 (y610.set (x10_1 : Int).toNat (⟨(rd_T44 y610 x10_1).f0, (rd_T44 y610 x10_1).f1, (rd_T44 y610 x10_1).f2, (⟨#[33]⟩ : ByteArray)⟩ : S44)) x10_1 (wrap64 (x10_1 + 1))) else (sleuthlaw24_BackRow.l0 k1 a1 a2 ji6 y610 x9_1 (wrap64 (x10_1 + 1)))) = some r := by first | (rw [hji17] at H; exact H) | (simp only [hji17] at H ⊢; exact H)
                  have hji17_ : (a2 / 2 ^ min x10_1.toNat 64) = ji17 := hji17
                  have hji17z : x10_1 ≤ 64 → (a2 / 2 ^ x10_1.toNat) = ji17 := shr_small hji17
                  by_cases c18 : (Go.bits .and .i64 (ji17) 1) = 1
                  · rw [if_pos c18] at H
                    have c18b0 : ((Go.bits .and .i64 (ji17) 1) == 1) = true := beq_iff_eq.mpr c18
                    have c18b1 : ((Go.bits .and .i64 (ji17) 1) != 1) = false := bne_eq_false_iff_eq.mpr c18
                    clear c18
                    obtain ⟨y611, hy611⟩ : ∃ y_ : List (S44), y_ = (y610.set (x10_1 : Int).toNat (⟨(rd_T44 y610 x10_1).f0, (rd_T44 y610 x10_1).f1, (rd_T44 y610 x10_1).f2, (⟨#[33]⟩ : ByteArray)⟩ : S44)) := ⟨_, rfl⟩
                    replace H : (sleuthlaw24_BackRow.l0 k1 a1 a2 ji6 y611 x10_1 (wrap64 (x10_1 + 1))) = some r := by first | (rw [hy611]; with_reducible exact H) | (have H2_ := (Option.bind_some _ _).symm.trans H; rw [hy611]; with_reducible exact H2_) | (have H2_ := (Option.bind_some _ _).symm.trans H; with_reducible exact H2_) | with_reducible exact H | (rw [hy611]; exact H) | exact H
                    have Ny611 := Aside0.mk hy611
                    clear hy611
                    have H' := Aside0.mk H
                    clear H
                    have p15 : 0 ≤ (x10_1 : Int) := of_decide_eq_true hA_
                    have q15 : (x10_1 : Int) < ((x8_1.length : Int) : Int) := of_decide_eq_true hA_
                    obtain ⟨go15, co15, eo15, gb15, gl15, cl15, HG15⟩ := Kd.N_form HO_8.out (by omega)
                    (first | cases eo15 | (injection eo15 with ea_ en_ ec_; (first | subst ea_ | (injection ea_ with ea_; subst ea_)); subst ec_; clear en_))
                    have GB15 := Aside0.mk gb15
                    have GG15 := Aside0.mk HG15
                    clear gb15 gl15 HG15
                    obtain ⟨ce15, hcl15, hM15, hcc15, hfr15⟩ := Kd.N_elem HO_8.out z44 (x10_1 : Int) p15 q15
                    obtain ⟨ua15_2, uc15_2, rfl, ul15_2, ge15_2⟩ := k44_openF hM15
                    have hx15_0 : wr.cell? ⟨go15, (x10_1 : Int).toNat * 4, none⟩ = some (.int .i64 ((rd_T44 x8_1 x10_1).f0)) := hcc15 0 _ rfl
                    have hx15_1 : wr.cell? ⟨go15, (x10_1 : Int).toNat * 4 + 1, none⟩ = some (.int .i64 ((rd_T44 x8_1 x10_1).f1)) := hcc15 1 _ rfl
                    have hx15_2 : wr.cell? ⟨go15, (x10_1 : Int).toNat * 4 + 2, none⟩ = some (.slice ua15_2 ((rd_T44 x8_1 x10_1).f2).length uc15_2) := hcc15 2 _ rfl
                    have hx15_3 : wr.cell? ⟨go15, (x10_1 : Int).toNat * 4 + 3, none⟩ = some (.string ((rd_T44 x8_1 x10_1).f3)) := hcc15 3 _ rfl
                    have hf15_0 : wr.frozen? ⟨go15, (x10_1 : Int).toNat * 4, none⟩ = false := hfr15 0
                    have hf15_1 : wr.frozen? ⟨go15, (x10_1 : Int).toNat * 4 + 1, none⟩ = false := hfr15 1
                    have hf15_2 : wr.frozen? ⟨go15, (x10_1 : Int).toNat * 4 + 2, none⟩ = false := hfr15 2
                    have hf15_3 : wr.frozen? ⟨go15, (x10_1 : Int).toNat * 4 + 3, none⟩ = false := hfr15 3
                    clear hcl15 hcc15 hfr15 hM15
                    replace p15 := eq_true p15
                    replace q15 := eq_true q15
                    have HX20 := Aside0.mk (show Kd.N k44 44 wr w.heap.size (fun _ => True) (.slice (some ⟨go15, 0, none⟩) x8_1.length co15) x8_1 from (hN_ HO_8.out))
                    obtain ⟨ce20, hcl20, hM20, hcc20, hfr20⟩ := Kd.N_elem HX20.out z44 (x10_1 : Int) (of_decide_eq_true hA_) (by have h_ : (x10_1 : Int) < ((x8_1.length : Int) : Int) := of_decide_eq_true hA_; first | exact h_ | (have e_ := (Kd.N_reads' HO_8.out).1; omega) | simpa using h_)
                    obtain ⟨ua20_2, uc20_2, rfl, ul20_2, ge20_2⟩ := k44_openF hM20
                    have HP20 := Kd.N_seg HX20.out (x10_1 : Int) (of_decide_eq_true hA_) (by have h_ : (x10_1 : Int) < ((x8_1.length : Int) : Int) := of_decide_eq_true hA_; first | exact h_ | (have e_ := (Kd.N_reads' HO_8.out).1; omega) | simpa using h_) (seg := [.int .i64 0, .int .i64 (wrap64 (x10_1 - 1)), .slice none 0 0, .string (⟨#[49]⟩ : ByteArray)]) (j := 0) hcl20 hcc20 (show 4 ≤ 4 from by decide) (x' := (⟨0, wrap64 (x10_1 - 1), ([] : List ByteArray), (⟨#[49]⟩ : ByteArray)⟩ : S44)) (k44_mkF _ _ (⟨0, wrap64 (x10_1 - 1), ([] : List ByteArray), (⟨#[49]⟩ : ByteArray)⟩ : S44) (Nat.le_refl _) (Kd.F_nil _ _ _)) (fun _ hk => hk)
                    have hx20_0 := hcc20 0 _ rfl
                    (try simp only [show (k44).sz = 4 from rfl, Nat.mul_one, Nat.add_zero] at hx20_0)
                    have hf20_0 := hfr20 0
                    (try simp only [show (k44).sz = 4 from rfl, Nat.mul_one, Nat.add_zero] at hf20_0)
                    have hx20_1 := hcc20 1 _ rfl
                    (try simp only [show (k44).sz = 4 from rfl, Nat.mul_one, Nat.add_zero] at hx20_1)
                    have hf20_1 := hfr20 1
                    (try simp only [show (k44).sz = 4 from rfl, Nat.mul_one, Nat.add_zero] at hf20_1)
                    have hx20_2 := hcc20 2 _ rfl
                    (try simp only [show (k44).sz = 4 from rfl, Nat.mul_one, Nat.add_zero] at hx20_2)
                    have hf20_2 := hfr20 2
                    (try simp only [show (k44).sz = 4 from rfl, Nat.mul_one, Nat.add_zero] at hf20_2)
                    have hx20_3 := hcc20 3 _ rfl
                    (try simp only [show (k44).sz = 4 from rfl, Nat.mul_one, Nat.add_zero] at hx20_3)
                    have hf20_3 := hfr20 3
                    (try simp only [show (k44).sz = 4 from rfl, Nat.mul_one, Nat.add_zero] at hf20_3)
                    clear hcl20 hcc20 hfr20 hM20
                    go_wp2_with (first | ((with_reducible refine gate_store (t := 44) (p := 35) rfl ?_); refine store_event (t := 44) (p := 35) (v := ?vo_w21) (w1 := ((((wr.setCell ⟨go15, (x10_1 : Int).toNat * 4, none⟩ (.int .i64 0)).setCell ⟨go15, (x10_1 : Int).toNat * 4 + 1, none⟩ (.int .i64 (wrap64 (x10_1 - 1)))).setCell ⟨go15, (x10_1 : Int).toNat * 4 + 2, none⟩ (.slice none 0 0)).setCell ⟨go15, (x10_1 : Int).toNat * 4 + 3, none⟩ (.string (⟨#[49]⟩ : ByteArray)))) ?hg ?ho ?hn ?hr ?_; (case ho => rfl); (case hg => rfl); (case hn => rfl); (case hr => first | (go_simp; done) | (go_simp; rfl)); intro w21 hw; have hg : wr.grownBy w21 (some go15) := (by rw [hw]; exact HP20.2); have hp_ : Kd.N k44 44 w21 w.heap.size (fun _ => True) (.slice (some ⟨go15, 0, none⟩) x8_1.length co15) y610 := (by rw [hw, Ny610.out]; exact HP20.1); clear HP20; have n0_ := Aside0.mk (hp_); have n1_ := Aside0.mk ((by rw [hw]; exact below_set (below_set (below_set (below_set (HB.out) GB15.out) GB15.out) GB15.out) GB15.out : Below w.heap.size w w21)); clear HO_8; clear HB; have HO_8 := n0_; have HB := n1_; clear n0_ n1_; clear hg hw hp_; have p19 : 0 ≤ (x10_1 : Int) := of_decide_eq_true hA_; have q19 : (x10_1 : Int) < ((x8_1.length : Int) : Int) := of_decide_eq_true hA_; obtain ⟨ce19, hcl19, hM19, hcc19, hfr19⟩ := Kd.N_elem HO_8.out z44 (x10_1 : Int) p19 q19; obtain ⟨ua19_2, uc19_2, rfl, ul19_2, ge19_2⟩ := k44_openF hM19; have hx19_0 : w21.cell? ⟨go15, (x10_1 : Int).toNat * 4, none⟩ = some (.int .i64 ((rd_T44 y610 x10_1).f0)) := hcc19 0 _ rfl; have hx19_1 : w21.cell? ⟨go15, (x10_1 : Int).toNat * 4 + 1, none⟩ = some (.int .i64 ((rd_T44 y610 x10_1).f1)) := hcc19 1 _ rfl; have hx19_2 : w21.cell? ⟨go15, (x10_1 : Int).toNat * 4 + 2, none⟩ = some (.slice ua19_2 ((rd_T44 y610 x10_1).f2).length uc19_2) := hcc19 2 _ rfl; have hx19_3 : w21.cell? ⟨go15, (x10_1 : Int).toNat * 4 + 3, none⟩ = some (.string ((rd_T44 y610 x10_1).f3)) := hcc19 3 _ rfl; have hf19_0 : w21.frozen? ⟨go15, (x10_1 : Int).toNat * 4, none⟩ = false := hfr19 0; have hf19_1 : w21.frozen? ⟨go15, (x10_1 : Int).toNat * 4 + 1, none⟩ = false := hfr19 1; have hf19_2 : w21.frozen? ⟨go15, (x10_1 : Int).toNat * 4 + 2, none⟩ = false := hfr19 2; have hf19_3 : w21.frozen? ⟨go15, (x10_1 : Int).toNat * 4 + 3, none⟩ = false := hfr19 3; clear hcl19 hcc19 hfr19 hM19; replace p19 := eq_true p19; replace q19 := eq_true q19; have HX22 := Aside0.mk (show Kd.N k44 44 w21 w.heap.size (fun _ => True) (.slice (some ⟨go15, 0, none⟩) x8_1.length co15) y610 from (hN_ HO_8.out)); obtain ⟨ce22, hcl22, hM22, hcc22, hfr22⟩ := Kd.N_elem HX22.out z44 (x10_1 : Int) (of_decide_eq_true hA_) (by have h_ : (x10_1 : Int) < ((x8_1.length : Int) : Int) := of_decide_eq_true hA_; first | exact h_ | (have e_ := (Kd.N_reads' HO_8.out).1; omega) | simpa using h_); obtain ⟨ua22_2, uc22_2, rfl, ul22_2, ge22_2⟩ := k44_openF hM22; have HP22 := Kd.N_seg HX22.out (x10_1 : Int) (of_decide_eq_true hA_) (by have h_ : (x10_1 : Int) < ((x8_1.length : Int) : Int) := of_decide_eq_true hA_; first | exact h_ | (have e_ := (Kd.N_reads' HO_8.out).1; omega) | simpa using h_) (seg := [.string (⟨#[33]⟩ : ByteArray)]) (j := 3) hcl22 hcc22 (show 4 ≤ 4 from by decide) (x' := (⟨(rd_T44 y610 x10_1).f0, (rd_T44 y610 x10_1).f1, (rd_T44 y610 x10_1).f2, (⟨#[33]⟩ : ByteArray)⟩ : S44)) (k44_mkF _ _ (⟨(rd_T44 y610 x10_1).f0, (rd_T44 y610 x10_1).f1, (rd_T44 y610 x10_1).f2, (⟨#[33]⟩ : ByteArray)⟩ : S44) ul22_2 ge22_2) (fun _ hk => hk); have hx22_3 := hcc22 3 _ rfl; (try simp only [show (k44).sz = 4 from rfl, Nat.mul_one, Nat.add_zero] at hx22_3); have hf22_3 := hfr22 3; (try simp only [show (k44).sz = 4 from rfl, Nat.mul_one, Nat.add_zero] at hf22_3); clear hcl22 hcc22 hfr22 hM22) | ((with_reducible refine gate_store (t := 9) (p := 44) rfl ?_); refine store_event (t := 9) (p := 44) (v := ?vo_w23) (w1 := (w21.setCell ⟨go15, (x10_1 : Int).toNat * 4 + 3, none⟩ (.string (⟨#[33]⟩ : ByteArray)))) ?hg ?ho ?hn ?hr ?_; (case ho => rfl); (case hg => rfl); (case hn => rfl); (case hr => first | (go_simp; done) | (go_simp; rfl)); intro w23 hw; have hg : w21.grownBy w23 (some go15) := (by rw [hw]; exact HP22.2); have hp_ : Kd.N k44 44 w23 w.heap.size (fun _ => True) (.slice (some ⟨go15, 0, none⟩) x8_1.length co15) y611 := (by rw [hw, Ny611.out]; exact HP22.1); clear HP22; have n0_ := Aside0.mk (hp_); have n1_ := Aside0.mk ((by rw [hw]; exact below_set (HB.out) GB15.out : Below w.heap.size w w23)); clear HO_8; clear HB; have HO_8 := n0_; have HB := n1_; clear n0_ n1_; clear hg hw hp_))
                    go_roundg k1
                    case measure => have := HK1.out; omega
                    case rel => exact ⟨(y611), (x10_1), (wrap64 (x10_1 + 1)), (by first | rfl | (simp; done) | (simp [*]; done)), (by first | rfl | (simp; done) | (simp [*]; done)), H', ⟨by have := HK1.out; omega⟩, ⟨by (with_reducible repeat (first | apply Kd.N_alloc | apply Kd.N_drewN | apply Kd.N_drew)); exact HO_8.out⟩, ⟨by repeat (first | (with_reducible first | exact HB.out | apply below_alloc | apply pw_below_drewN | apply below_drew1) | exact HB.out)⟩⟩
                  · rw [if_neg c18] at H
                    have c18b0 : ((Go.bits .and .i64 (ji17) 1) == 1) = false := beq_eq_false_iff_ne.mpr c18
                    have c18b1 : ((Go.bits .and .i64 (ji17) 1) != 1) = true := bne_iff_ne.mpr c18
                    have H' := Aside0.mk H
                    clear H
                    have p15 : 0 ≤ (x10_1 : Int) := of_decide_eq_true hA_
                    have q15 : (x10_1 : Int) < ((x8_1.length : Int) : Int) := of_decide_eq_true hA_
                    obtain ⟨go15, co15, eo15, gb15, gl15, cl15, HG15⟩ := Kd.N_form HO_8.out (by omega)
                    (first | cases eo15 | (injection eo15 with ea_ en_ ec_; (first | subst ea_ | (injection ea_ with ea_; subst ea_)); subst ec_; clear en_))
                    have GB15 := Aside0.mk gb15
                    have GG15 := Aside0.mk HG15
                    clear gb15 gl15 HG15
                    obtain ⟨ce15, hcl15, hM15, hcc15, hfr15⟩ := Kd.N_elem HO_8.out z44 (x10_1 : Int) p15 q15
                    obtain ⟨ua15_2, uc15_2, rfl, ul15_2, ge15_2⟩ := k44_openF hM15
                    have hx15_0 : wr.cell? ⟨go15, (x10_1 : Int).toNat * 4, none⟩ = some (.int .i64 ((rd_T44 x8_1 x10_1).f0)) := hcc15 0 _ rfl
                    have hx15_1 : wr.cell? ⟨go15, (x10_1 : Int).toNat * 4 + 1, none⟩ = some (.int .i64 ((rd_T44 x8_1 x10_1).f1)) := hcc15 1 _ rfl
                    have hx15_2 : wr.cell? ⟨go15, (x10_1 : Int).toNat * 4 + 2, none⟩ = some (.slice ua15_2 ((rd_T44 x8_1 x10_1).f2).length uc15_2) := hcc15 2 _ rfl
                    have hx15_3 : wr.cell? ⟨go15, (x10_1 : Int).toNat * 4 + 3, none⟩ = some (.string ((rd_T44 x8_1 x10_1).f3)) := hcc15 3 _ rfl
                    have hf15_0 : wr.frozen? ⟨go15, (x10_1 : Int).toNat * 4, none⟩ = false := hfr15 0
                    have hf15_1 : wr.frozen? ⟨go15, (x10_1 : Int).toNat * 4 + 1, none⟩ = false := hfr15 1
                    have hf15_2 : wr.frozen? ⟨go15, (x10_1 : Int).toNat * 4 + 2, none⟩ = false := hfr15 2
                    have hf15_3 : wr.frozen? ⟨go15, (x10_1 : Int).toNat * 4 + 3, none⟩ = false := hfr15 3
                    clear hcl15 hcc15 hfr15 hM15
                    replace p15 := eq_true p15
                    replace q15 := eq_true q15
                    have HX24 := Aside0.mk (show Kd.N k44 44 wr w.heap.size (fun _ => True) (.slice (some ⟨go15, 0, none⟩) x8_1.length co15) x8_1 from (hN_ HO_8.out))
                    obtain ⟨ce24, hcl24, hM24, hcc24, hfr24⟩ := Kd.N_elem HX24.out z44 (x10_1 : Int) (of_decide_eq_true hA_) (by have h_ : (x10_1 : Int) < ((x8_1.length : Int) : Int) := of_decide_eq_true hA_; first | exact h_ | (have e_ := (Kd.N_reads' HO_8.out).1; omega) | simpa using h_)
                    obtain ⟨ua24_2, uc24_2, rfl, ul24_2, ge24_2⟩ := k44_openF hM24
                    have HP24 := Kd.N_seg HX24.out (x10_1 : Int) (of_decide_eq_true hA_) (by have h_ : (x10_1 : Int) < ((x8_1.length : Int) : Int) := of_decide_eq_true hA_; first | exact h_ | (have e_ := (Kd.N_reads' HO_8.out).1; omega) | simpa using h_) (seg := [.int .i64 0, .int .i64 (wrap64 (x10_1 - 1)), .slice none 0 0, .string (⟨#[49]⟩ : ByteArray)]) (j := 0) hcl24 hcc24 (show 4 ≤ 4 from by decide) (x' := (⟨0, wrap64 (x10_1 - 1), ([] : List ByteArray), (⟨#[49]⟩ : ByteArray)⟩ : S44)) (k44_mkF _ _ (⟨0, wrap64 (x10_1 - 1), ([] : List ByteArray), (⟨#[49]⟩ : ByteArray)⟩ : S44) (Nat.le_refl _) (Kd.F_nil _ _ _)) (fun _ hk => hk)
                    have hx24_0 := hcc24 0 _ rfl
                    (try simp only [show (k44).sz = 4 from rfl, Nat.mul_one, Nat.add_zero] at hx24_0)
                    have hf24_0 := hfr24 0
                    (try simp only [show (k44).sz = 4 from rfl, Nat.mul_one, Nat.add_zero] at hf24_0)
                    have hx24_1 := hcc24 1 _ rfl
                    (try simp only [show (k44).sz = 4 from rfl, Nat.mul_one, Nat.add_zero] at hx24_1)
                    have hf24_1 := hfr24 1
                    (try simp only [show (k44).sz = 4 from rfl, Nat.mul_one, Nat.add_zero] at hf24_1)
                    have hx24_2 := hcc24 2 _ rfl
                    (try simp only [show (k44).sz = 4 from rfl, Nat.mul_one, Nat.add_zero] at hx24_2)
                    have hf24_2 := hfr24 2
                    (try simp only [show (k44).sz = 4 from rfl, Nat.mul_one, Nat.add_zero] at hf24_2)
                    have hx24_3 := hcc24 3 _ rfl
                    (try simp only [show (k44).sz = 4 from rfl, Nat.mul_one, Nat.add_zero] at hx24_3)
                    have hf24_3 := hfr24 3
                    (try simp only [show (k44).sz = 4 from rfl, Nat.mul_one, Nat.add_zero] at hf24_3)
                    clear hcl24 hcc24 hfr24 hM24
                    go_wp2_with (first | ((with_reducible refine gate_store (t := 44) (p := 35) rfl ?_); refine store_event (t := 44) (p := 35) (v := ?vo_w25) (w1 := ((((wr.setCell ⟨go15, (x10_1 : Int).toNat * 4, none⟩ (.int .i64 0)).setCell ⟨go15, (x10_1 : Int).toNat * 4 + 1, none⟩ (.int .i64 (wrap64 (x10_1 - 1)))).setCell ⟨go15, (x10_1 : Int).toNat * 4 + 2, none⟩ (.slice none 0 0)).setCell ⟨go15, (x10_1 : Int).toNat * 4 + 3, none⟩ (.string (⟨#[49]⟩ : ByteArray)))) ?hg ?ho ?hn ?hr ?_; (case ho => rfl); (case hg => rfl); (case hn => rfl); (case hr => first | (go_simp; done) | (go_simp; rfl)); intro w25 hw; have hg : wr.grownBy w25 (some go15) := (by rw [hw]; exact HP24.2); have hp_ : Kd.N k44 44 w25 w.heap.size (fun _ => True) (.slice (some ⟨go15, 0, none⟩) x8_1.length co15) y610 := (by rw [hw, Ny610.out]; exact HP24.1); clear HP24; have n0_ := Aside0.mk (hp_); have n1_ := Aside0.mk ((by rw [hw]; exact below_set (below_set (below_set (below_set (HB.out) GB15.out) GB15.out) GB15.out) GB15.out : Below w.heap.size w w25)); clear HO_8; clear HB; have HO_8 := n0_; have HB := n1_; clear n0_ n1_; clear hg hw hp_))
                    go_roundg k1
                    case measure => have := HK1.out; omega
                    case rel => exact ⟨(y610), (x9_1), (wrap64 (x10_1 + 1)), (by first | rfl | (simp; done) | (simp [*]; done)), (by first | rfl | (simp; done) | (simp [*]; done)), H', ⟨by have := HK1.out; omega⟩, ⟨by (with_reducible repeat (first | apply Kd.N_alloc | apply Kd.N_drewN | apply Kd.N_drew)); exact HO_8.out⟩, ⟨by repeat (first | (with_reducible first | exact HB.out | apply below_alloc | apply pw_below_drewN | apply below_drew1) | exact HB.out)⟩⟩
                · rw [if_neg c14] at H
                  exact absurd H (by simp)
              · rw [if_neg c13] at H
                exact absurd H (by simp)
            · rw [if_neg c12] at H
              have c12b0 : decide (x10_1 < ji6) = false := decide_eq_false c12
              clear c12
              by_cases c26 : (IntKind.u64.wrap (ji6)) = 0
              · rw [if_pos c26] at H
                exact absurd H (by simp)
              · rw [if_neg c26] at H
                have c26b0 : ((IntKind.u64.wrap (ji6)) == 0) = false := beq_eq_false_iff_ne.mpr c26
                have c26b1 : ((IntKind.u64.wrap (ji6)) != 0) = true := bne_iff_ne.mpr c26
                replace H := Option.bind_eq_some_iff.mp H
                obtain ⟨⟨t612, t613⟩, A270, H⟩ := H
                replace H : ((sleuthlaw0_Num.f t613).bind fun t616 => (if t616 = 0 then (sleuthlaw24_BackRow.j1 k1 x8_1 x9_1 (wrap64 (Int.tmod (IntKind.u64.wrap (a1)) (IntKind.u64.wrap (ji6)))) t612 ((t612.length : Int) != (wrap64 ((wrap64 (Int.tmod (IntKind.u64.wrap (a1)) (IntKind.u64.wrap (ji6)))) + 1)))) else (sleuthlaw24_BackRow.j1 k1 x8_1 x9_1 (wrap64 (Int.tmod (IntKind.u64.wrap (a1)) (IntKind.u64.wrap (ji6)))) t612 true))) = some r := H
                have A27 := Aside0.mk A270
                clear A270
                have HC28 := Aside0.mk H
                clear H
                obtain ⟨Ao29, co29, eo29⟩ := Kd.N_slice HO_8.out
                subst eo29
                go_upto_region 15 with (first | ((with_reducible refine gate_callee (f := 26) rfl ?_); refine goesL_ (some 55) rfl rfl Tryd.func26 (by kernel_rfl) rfl #[.slice Ao29 x8_1.length co29, .int .i64 (wrap64 (Int.tmod (IntKind.u64.wrap (a1)) (IntKind.u64.wrap (ji6))))] rfl (by (try simp only [List.map_toArray, List.map_cons, List.map_nil]); first | done | (simp only [hji6]; rfl) | rfl | (simp only [List.length_drop, List.length_take]; rfl)) ?_; (with_reducible refine (back_Path.calls k1 _ _ x8_1 (wrap64 (Int.tmod (IntKind.u64.wrap (a1)) (IntKind.u64.wrap (ji6)))) t612 t613 _ ?side1 ?side2 A27.out hG_).mono ?_); (case side1 => repeat (first | exact (Kd.N_reads' HO_8.out).2.2 | (with_reducible refine Kd.C_alloc ?_ _) | (with_reducible refine Kd.C_drewN ?_ _) | (with_reducible refine Kd.C_drew ?_))); (case side2 => exact (Kd.N_reads' HO_8.out).2.1); rintro e w30 ⟨v614, rfl, ho0, hb⟩; refine ⟨_, rfl, ?_⟩; have n0_ := Aside0.mk (Kd.N_elder' (hN_ HO_8.out) (Kd.R_base ho0) hb); have n1_ := Aside0.mk (Kd.R_lower ho0 hS_); have n2_ := Aside0.mk (below_step hB_ hb); clear HO_8; clear HB; have HO_8 := n0_; have HO615 := n1_; have HB := n2_; clear n0_ n1_ n2_; (try clear hb); (try clear hb2); (try clear hk); (try clear hi); (try clear ho0)))
                (try simp only [Act.put, List.setIfInBounds_toArray, List.set_cons_zero, List.set_cons_succ])
                go_cut [67] (fun v67 wc => ∃ (kq : Nat) (x67_27 : Bool), v67 = .bool x67_27 ∧ Aside0 (sleuthlaw24_BackRow.j1 kq x8_1 x9_1 (wrap64 (Int.tmod (IntKind.u64.wrap (a1)) (IntKind.u64.wrap (ji6)))) t612 x67_27 = some r) ∧ Aside0 (kq ≤ k1) ∧ Aside0 (Kd.N k44 44 wc w.heap.size (fun k_ => some k_ ≠ (v614 : Value).ownBlock) (.slice Ao29 x8_1.length co29) x8_1) ∧ Aside0 (Kd.R (Kd.int .i64) 3 wc w.heap.size (fun _ => True) v614 t612) ∧ Aside0 (Below w.heap.size w wc))
                case first =>
                  have H := HC28.out
                  clear HC28
                  replace H := Option.bind_eq_some_iff.mp H
                  obtain ⟨t616, A310, H⟩ := H
                  replace H : (if t616 = 0 then (sleuthlaw24_BackRow.j1 k1 x8_1 x9_1 (wrap64 (Int.tmod (IntKind.u64.wrap (a1)) (IntKind.u64.wrap (ji6)))) t612 ((t612.length : Int) != (wrap64 ((wrap64 (Int.tmod (IntKind.u64.wrap (a1)) (IntKind.u64.wrap (ji6)))) + 1)))) else (sleuthlaw24_BackRow.j1 k1 x8_1 x9_1 (wrap64 (Int.tmod (IntKind.u64.wrap (a1)) (IntKind.u64.wrap (ji6)))) t612 true)) = some r := H
                  have A31 := Aside0.mk A310
                  clear A310
                  by_cases c32 : t616 = 0
                  · rw [if_pos c32] at H
                    have c32b0 : (t616 == 0) = true := beq_iff_eq.mpr c32
                    have c32b1 : (t616 != 0) = false := bne_eq_false_iff_eq.mpr c32
                    clear c32
                    (first | rw [c32b0] | (simp only [i64_w, i32_w]; rw [c32b0]) | skip)
                    have H' := Aside0.mk H
                    clear H
                    go_wp2_with (first | ((with_reducible refine gate_callee (f := 20) rfl ?_); refine goesL_ (some 59) rfl rfl Tryd.func20 (by kernel_rfl) rfl #[.int .i64 t613] rfl hL_ ?_; (with_reducible refine (sleuthlaw0_Num.calls t613 t616 _ A31.out).mono ?_); rintro e w' ⟨rfl, ⟨nd, rfl⟩⟩; refine ⟨_, rfl, ?_⟩; obtain ⟨Ao33, co33, eo33⟩ := Kd.R_slice HO615.out; subst eo33))
                    go_meet
                    case rel => exact ⟨_, (((t612.length : Int) != (wrap64 ((wrap64 (Int.tmod (IntKind.u64.wrap (a1)) (IntKind.u64.wrap (ji6)))) + 1)))), (by first | rfl | (simp; done) | (simp only [← hji6] <;> (first | rfl | simp)) | (simp [*]; done)), H', ⟨by have := HK1.out; first | omega | exact Nat.le_refl _⟩, ⟨by (with_reducible repeat (first | apply Kd.N_alloc | apply Kd.N_drewN | apply Kd.N_drew)); exact Kd.N_mono HO_8.out (fun _ hk => hk.2)⟩, ⟨by (with_reducible repeat (first | apply Kd.R_alloc | apply Kd.R_drewN | apply Kd.R_drew)); exact HO615.out⟩, ⟨by repeat (first | (with_reducible first | exact HB.out | apply below_alloc | apply pw_below_drewN | apply below_drew1) | exact HB.out)⟩⟩
                  · rw [if_neg c32] at H
                    have c32b0 : (t616 == 0) = false := beq_eq_false_iff_ne.mpr c32
                    have c32b1 : (t616 != 0) = true := bne_iff_ne.mpr c32
                    (first | rw [c32b0] | (simp only [i64_w, i32_w]; rw [c32b0]) | skip)
                    have H' := Aside0.mk H
                    clear H
                    go_wp2_with (first | ((with_reducible refine gate_callee (f := 20) rfl ?_); refine goesL_ (some 59) rfl rfl Tryd.func20 (by kernel_rfl) rfl #[.int .i64 t613] rfl hL_ ?_; (with_reducible refine (sleuthlaw0_Num.calls t613 t616 _ A31.out).mono ?_); rintro e w' ⟨rfl, ⟨nd, rfl⟩⟩; refine ⟨_, rfl, ?_⟩))
                    go_meet
                    case rel => exact ⟨_, (true), (by first | rfl | (simp; done) | (simp [*]; done)), H', ⟨by have := HK1.out; first | omega | exact Nat.le_refl _⟩, ⟨by (with_reducible repeat (first | apply Kd.N_alloc | apply Kd.N_drewN | apply Kd.N_drew)); exact Kd.N_mono HO_8.out (fun _ hk => hk.2)⟩, ⟨by (with_reducible repeat (first | apply Kd.R_alloc | apply Kd.R_drewN | apply Kd.R_drew)); exact HO615.out⟩, ⟨by repeat (first | (with_reducible first | exact HB.out | apply below_alloc | apply pw_below_drewN | apply below_drew1) | exact HB.out)⟩⟩
                case rest =>
                  clear HC28
                  try clear c1
                  try clear p1
                  try clear q1
                  try clear hx1
                  try clear c2
                  try clear p2
                  try clear hx2
                  try clear c3
                  try clear c5
                  try clear p6
                  try clear c7
                  try clear c7b0
                  try clear c7b1
                  try clear c8
                  try clear c8b0
                  try clear c8b1
                  try clear c12
                  try clear c12b0
                  try clear c13
                  try clear c13b0
                  try clear c14
                  try clear c14b0
                  try clear c15
                  try clear p15
                  try clear q15
                  try clear hx15
                  try clear hf15
                  try clear c16
                  try clear c16b0
                  try clear c18
                  try clear c18b0
                  try clear c18b1
                  try clear c19
                  try clear p19
                  try clear q19
                  try clear hx19
                  try clear hf19
                  try clear c20
                  try clear hx20
                  try clear hf20
                  try clear c22
                  try clear hx22
                  try clear hf22
                  try clear c24
                  try clear hx24
                  try clear hf24
                  try clear c26
                  try clear c26b0
                  try clear c26b1
                  try clear c30
                  try clear c32
                  try clear c32b0
                  try clear c32b1
                  try clear hji17
                  try clear hji17_
                  try clear hji17z
                  try clear hji6
                  try clear hji6w
                  try clear hx15_0
                  try clear hx15_1
                  try clear hx15_2
                  try clear hx15_3
                  try clear hx19_0
                  try clear hx19_1
                  try clear hx19_2
                  try clear hx19_3
                  try clear hx20_0
                  try clear hx20_1
                  try clear hx20_2
                  try clear hx20_3
                  try clear hx22_3
                  try clear hx24_0
                  try clear hx24_1
                  try clear hx24_2
                  try clear hx24_3
                  try clear p15
                  try clear p19
                  try clear p2
                  try clear p6
                  try clear q15
                  try clear q19
                  obtain ⟨kq, x67_27, rfl, HA, HJ27, HO_8, HO_12, HB⟩ := hcut
                  cases kq with
                  | zero => exact absurd HA.out (by simp [sleuthlaw24_BackRow.j1])
                  | succ kj27 =>
                    have H := HA.out
                    clear HA
                    simp only [sleuthlaw24_BackRow.j1] at H
                    by_cases c34 : x67_27 = true
                    · subst c34
                      have H1 : (some false) = some r := by rw [if_pos rfl] at H; exact H
                      clear H
                      have H := H1
                      clear H1
                      obtain rfl := Option.some.inj H
                      go_wp2
                      go_ret
                      exact ⟨by first | rfl | (simp [errW_none, errW_some] <;> rfl) | (simp only [← hji6]; first | rfl | (simp [errW_none, errW_some] <;> rfl)) | (simp [*, errW_none, errW_some] <;> rfl), by repeat (first | (with_reducible first | exact HB.out | apply below_alloc | apply pw_below_drewN | apply below_drew1) | exact HB.out)⟩
                    · replace c34 := Bool.eq_false_iff.mpr c34
                      subst c34
                      have H1 : (sleuthlaw24_BackRow.l1 kj27 x8_1 x9_1 (wrap64 (Int.tmod (IntKind.u64.wrap (a1)) (IntKind.u64.wrap (ji6)))) t612 0) = some r := by rw [if_neg (show ¬ (false = true) by decide)] at H; exact H
                      clear H
                      have H := H1
                      clear H1
                      have H' := Aside0.mk H
                      clear H
                      go_wp2
                      go_loopg [14] kj27 (fun kq v14 w' => ∃ (x14_3 : Int), v14 = .int .i64 x14_3 ∧ Aside0 (sleuthlaw24_BackRow.l1 kq x8_1 x9_1 (wrap64 (Int.tmod (IntKind.u64.wrap (a1)) (IntKind.u64.wrap (ji6)))) t612 x14_3 = some r) ∧ Aside0 (kq ≤ kj27) ∧ Aside0 (Kd.N k44 44 w' w.heap.size (fun k_ => some k_ ≠ (v614 : Value).ownBlock) (.slice Ao29 x8_1.length co29) x8_1) ∧ Aside0 (Kd.R (Kd.int .i64) 3 w' w.heap.size (fun _ => True) v614 t612) ∧ Aside0 (Below w.heap.size w w'))
                      case atStart => exact ⟨(0), (by first | rfl | (simp; done) | (simp [*]; done)), H', ⟨Nat.le_refl _⟩, ⟨by (with_reducible repeat (first | apply Kd.N_alloc | apply Kd.N_drewN | apply Kd.N_drew)); exact HO_8.out⟩, ⟨by (with_reducible repeat (first | apply Kd.R_alloc | apply Kd.R_drewN | apply Kd.R_drew)); exact HO_12.out⟩, ⟨by repeat (first | (with_reducible first | exact HB.out | apply below_alloc | apply pw_below_drewN | apply below_drew1) | exact HB.out)⟩⟩
                      case round =>
                        clear H'
                        try clear c1
                        try clear p1
                        try clear q1
                        try clear hx1
                        try clear c2
                        try clear p2
                        try clear hx2
                        try clear c3
                        try clear c5
                        try clear p6
                        try clear c7
                        try clear c7b0
                        try clear c7b1
                        try clear c8
                        try clear c8b0
                        try clear c8b1
                        try clear c12
                        try clear c12b0
                        try clear c13
                        try clear c13b0
                        try clear c14
                        try clear c14b0
                        try clear c15
                        try clear p15
                        try clear q15
                        try clear hx15
                        try clear hf15
                        try clear c16
                        try clear c16b0
                        try clear c18
                        try clear c18b0
                        try clear c18b1
                        try clear c19
                        try clear p19
                        try clear q19
                        try clear hx19
                        try clear hf19
                        try clear c20
                        try clear hx20
                        try clear hf20
                        try clear c22
                        try clear hx22
                        try clear hf22
                        try clear c24
                        try clear hx24
                        try clear hf24
                        try clear c26
                        try clear c26b0
                        try clear c26b1
                        try clear c30
                        try clear c32
                        try clear c32b0
                        try clear c32b1
                        try clear c34
                        try clear hji17
                        try clear hji17_
                        try clear hji17z
                        try clear hji6
                        try clear hji6w
                        try clear hx15_0
                        try clear hx15_1
                        try clear hx15_2
                        try clear hx15_3
                        try clear hx19_0
                        try clear hx19_1
                        try clear hx19_2
                        try clear hx19_3
                        try clear hx20_0
                        try clear hx20_1
                        try clear hx20_2
                        try clear hx20_3
                        try clear hx22_3
                        try clear hx24_0
                        try clear hx24_1
                        try clear hx24_2
                        try clear hx24_3
                        try clear p1
                        try clear p15
                        try clear p19
                        try clear p2
                        try clear p6
                        try clear q1
                        try clear q15
                        try clear q19
                        obtain ⟨x14_3, rfl, HA, HK3, HO_8, HO_12, HB⟩ := hrel
                        cases gk with
                        | zero => exact absurd HA.out (by simp [sleuthlaw24_BackRow.l1])
                        | succ k3 =>
                          have H := HA.out
                          clear HA
                          simp only [sleuthlaw24_BackRow.l1] at H
                          by_cases c35 : x14_3 ≤ (wrap64 (Int.tmod (IntKind.u64.wrap (a1)) (IntKind.u64.wrap (ji6))))
                          · rw [if_pos c35] at H
                            have c35b0 : decide (x14_3 ≤ (wrap64 (Int.tmod (IntKind.u64.wrap (a1)) (IntKind.u64.wrap (ji6))))) = true := decide_eq_true c35
                            (try (have c35b0w := c35b0; (rw [show wrap64 (Int.tmod (IntKind.u64.wrap (a1)) (IntKind.u64.wrap (ji6))) = (Int.tmod (IntKind.u64.wrap (a1)) (IntKind.u64.wrap (ji6))) from by unfold wrap64; omega] at c35b0w)))
                            clear c35
                            by_cases c36 : 0 ≤ x14_3
                            · rw [if_pos c36] at H
                              have c36b0 : decide (0 ≤ x14_3) = true := decide_eq_true c36
                              clear c36
                              by_cases c37 : x14_3 < (t612.length : Int)
                              · rw [if_pos c37] at H
                                have c37b0 : decide (x14_3 < (t612.length : Int)) = true := decide_eq_true c37
                                clear c37
                                by_cases c38 : (rd t612 x14_3) = (wrap64 ((wrap64 (Int.tmod (IntKind.u64.wrap (a1)) (IntKind.u64.wrap (ji6)))) - x14_3))
                                · rw [if_pos c38] at H
                                  have c38b0 : ((rd t612 x14_3) == (wrap64 ((wrap64 (Int.tmod (IntKind.u64.wrap (a1)) (IntKind.u64.wrap (ji6)))) - x14_3))) = true := beq_iff_eq.mpr c38
                                  have c38b1 : ((rd t612 x14_3) != (wrap64 ((wrap64 (Int.tmod (IntKind.u64.wrap (a1)) (IntKind.u64.wrap (ji6)))) - x14_3))) = false := bne_eq_false_iff_eq.mpr c38
                                  (try (have c38b0w := c38b0; try (rw [show wrap64 (Int.tmod (IntKind.u64.wrap (a1)) (IntKind.u64.wrap (ji6))) = (Int.tmod (IntKind.u64.wrap (a1)) (IntKind.u64.wrap (ji6))) from by unfold wrap64; omega] at c38b0w); try (rw [show wrap64 ((wrap64 (Int.tmod (IntKind.u64.wrap (a1)) (IntKind.u64.wrap (ji6)))) - x14_3) = ((wrap64 (Int.tmod (IntKind.u64.wrap (a1)) (IntKind.u64.wrap (ji6)))) - x14_3) from by unfold wrap64; omega] at c38b0w)))
                                  (try (have c38b1w := c38b1; try (rw [show wrap64 (Int.tmod (IntKind.u64.wrap (a1)) (IntKind.u64.wrap (ji6))) = (Int.tmod (IntKind.u64.wrap (a1)) (IntKind.u64.wrap (ji6))) from by unfold wrap64; omega] at c38b1w); try (rw [show wrap64 ((wrap64 (Int.tmod (IntKind.u64.wrap (a1)) (IntKind.u64.wrap (ji6)))) - x14_3) = ((wrap64 (Int.tmod (IntKind.u64.wrap (a1)) (IntKind.u64.wrap (ji6)))) - x14_3) from by unfold wrap64; omega] at c38b1w)))
                                  clear c38
                                  have H' := Aside0.mk H
                                  clear H
                                  obtain ⟨Ao39, co39, eo39⟩ := Kd.R_slice HO_12.out
                                  subst eo39
                                  have p617 : 0 ≤ (x14_3 : Int) := of_decide_eq_true hA_
                                  have q617 : x14_3 < (t612.length : Int) := of_decide_eq_true hA_
                                  obtain ⟨ad617, e617, hx617_0⟩ := Kd.at_int (Kd.R_reads' HO_12.out).2.2 x14_3 p617 q617
                                  cases e617
                                  replace p617 := eq_true p617
                                  replace q617 := eq_true q617
                                  go_wp2
                                  go_roundg k3
                                  case measure => have := HK1.out; have := HJ27.out; have := HK3.out; omega
                                  case rel => exact ⟨(wrap64 (x14_3 + 1)), (by first | rfl | (simp; done) | (simp [*]; done)), H', ⟨by have := HK1.out; have := HJ27.out; have := HK3.out; omega⟩, ⟨by (with_reducible repeat (first | apply Kd.N_alloc | apply Kd.N_drewN | apply Kd.N_drew)); exact HO_8.out⟩, ⟨by (with_reducible repeat (first | apply Kd.R_alloc | apply Kd.R_drewN | apply Kd.R_drew)); exact HO_12.out⟩, ⟨by repeat (first | (with_reducible first | exact HB.out | apply below_alloc | apply pw_below_drewN | apply below_drew1) | exact HB.out)⟩⟩
                                · rw [if_neg c38] at H
                                  have c38b0 : ((rd t612 x14_3) == (wrap64 ((wrap64 (Int.tmod (IntKind.u64.wrap (a1)) (IntKind.u64.wrap (ji6)))) - x14_3))) = false := beq_eq_false_iff_ne.mpr c38
                                  have c38b1 : ((rd t612 x14_3) != (wrap64 ((wrap64 (Int.tmod (IntKind.u64.wrap (a1)) (IntKind.u64.wrap (ji6)))) - x14_3))) = true := bne_iff_ne.mpr c38
                                  (try (have c38b0w := c38b0; try (rw [show wrap64 (Int.tmod (IntKind.u64.wrap (a1)) (IntKind.u64.wrap (ji6))) = (Int.tmod (IntKind.u64.wrap (a1)) (IntKind.u64.wrap (ji6))) from by unfold wrap64; omega] at c38b0w); try (rw [show wrap64 ((wrap64 (Int.tmod (IntKind.u64.wrap (a1)) (IntKind.u64.wrap (ji6)))) - x14_3) = ((wrap64 (Int.tmod (IntKind.u64.wrap (a1)) (IntKind.u64.wrap (ji6)))) - x14_3) from by unfold wrap64; omega] at c38b0w)))
                                  (try (have c38b1w := c38b1; try (rw [show wrap64 (Int.tmod (IntKind.u64.wrap (a1)) (IntKind.u64.wrap (ji6))) = (Int.tmod (IntKind.u64.wrap (a1)) (IntKind.u64.wrap (ji6))) from by unfold wrap64; omega] at c38b1w); try (rw [show wrap64 ((wrap64 (Int.tmod (IntKind.u64.wrap (a1)) (IntKind.u64.wrap (ji6)))) - x14_3) = ((wrap64 (Int.tmod (IntKind.u64.wrap (a1)) (IntKind.u64.wrap (ji6)))) - x14_3) from by unfold wrap64; omega] at c38b1w)))
                                  obtain rfl := Option.some.inj H
                                  obtain ⟨Ao40, co40, eo40⟩ := Kd.R_slice HO_12.out
                                  subst eo40
                                  have p617 : 0 ≤ (x14_3 : Int) := of_decide_eq_true hA_
                                  have q617 : x14_3 < (t612.length : Int) := of_decide_eq_true hA_
                                  obtain ⟨ad617, e617, hx617_0⟩ := Kd.at_int (Kd.R_reads' HO_12.out).2.2 x14_3 p617 q617
                                  cases e617
                                  replace p617 := eq_true p617
                                  replace q617 := eq_true q617
                                  go_wp2
                                  go_ret
                                  exact ⟨by first | rfl | (simp [errW_none, errW_some] <;> rfl) | (simp only [← hji6]; first | rfl | (simp [errW_none, errW_some] <;> rfl)) | (simp [*, errW_none, errW_some] <;> rfl), by repeat (first | (with_reducible first | exact HB.out | apply below_alloc | apply pw_below_drewN | apply below_drew1) | exact HB.out)⟩
                              · rw [if_neg c37] at H
                                exact absurd H (by simp)
                            · rw [if_neg c36] at H
                              exact absurd H (by simp)
                          · rw [if_neg c35] at H
                            have c35b0 : decide (x14_3 ≤ (wrap64 (Int.tmod (IntKind.u64.wrap (a1)) (IntKind.u64.wrap (ji6))))) = false := decide_eq_false c35
                            (try (have c35b0w := c35b0; (rw [show wrap64 (Int.tmod (IntKind.u64.wrap (a1)) (IntKind.u64.wrap (ji6))) = (Int.tmod (IntKind.u64.wrap (a1)) (IntKind.u64.wrap (ji6))) from by unfold wrap64; omega] at c35b0w)))
                            clear c35
                            replace H := Option.bind_eq_some_iff.mp H
                            obtain ⟨⟨t618, t619, t620⟩, A410, H⟩ := H
                            replace H : ((sleuthlaw0_Num.f t620).bind fun t621 => (if t621 = 0 then (if (t619 == (decide (x9_1 ≥ 0))) = true then (if t618 = (mx 0 x9_1) then ((sleuthref12_TrailMay.f k3 x8_1).bind fun t622 => (if t622 = true then ((sleuthlaw24_some.f).bind fun t623 => (some ((t623.length : Int) == 5))) else (some false))) else (some false)) else (some false)) else (some false))) = some r := H
                            have A41 := Aside0.mk A410
                            clear A410
                            replace H := Option.bind_eq_some_iff.mp H
                            obtain ⟨t621, A420, H⟩ := H
                            replace H : (if t621 = 0 then (if (t619 == (decide (x9_1 ≥ 0))) = true then (if t618 = (mx 0 x9_1) then ((sleuthref12_TrailMay.f k3 x8_1).bind fun t622 => (if t622 = true then ((sleuthlaw24_some.f).bind fun t623 => (some ((t623.length : Int) == 5))) else (some false))) else (some false)) else (some false)) else (some false)) = some r := H
                            have A42 := Aside0.mk A420
                            clear A420
                            by_cases c43 : t621 = 0
                            · rw [if_pos c43] at H
                              have c43b0 : (t621 == 0) = true := beq_iff_eq.mpr c43
                              have c43b1 : (t621 != 0) = false := bne_eq_false_iff_eq.mpr c43
                              clear c43
                              by_cases c44 : (t619 == (decide (x9_1 ≥ 0))) = true
                              · rw [if_pos c44] at H
                                have c44b0 : (t619 == (decide (x9_1 ≥ 0))) = true := c44
                                (try (have c44b1 : decide (t619 = (decide (x9_1 ≥ 0))) = true := by simpa using c44))
                                (try (have c44b2 : (t619 == (decide (x9_1 ≥ 0))) = true := by simpa using c44))
                                clear c44
                                obtain ⟨ji45, hji45⟩ : ∃ j_ : Int, (mx 0 x9_1) = j_ := ⟨_, rfl⟩
                                replace H : (if t618 = (ji45) then ((sleuthref12_TrailMay.f k3 x8_1).bind fun t622 => (if t622 = true then ((sleuthlaw24_some.f).bind fun t623 => (some ((t623.length : Int) == 5))) else (some false))) else (some false)) = some r := by first | (rw [hji45] at H; exact H) | (simp only [hji45] at H ⊢; exact H)
                                (try rw [hji45] at A41)
                                (try rw [hji45] at A42)
                                have hji45_ : (if 0 < x9_1 then x9_1 else 0) = ji45 := hji45
                                by_cases c46 : t618 = (ji45)
                                · rw [if_pos c46] at H
                                  have c46b0 : (t618 == (ji45)) = true := beq_iff_eq.mpr c46
                                  have c46b1 : (t618 != (ji45)) = false := bne_eq_false_iff_eq.mpr c46
                                  clear c46
                                  replace H := Option.bind_eq_some_iff.mp H
                                  obtain ⟨t622, A470, H⟩ := H
                                  replace H : (if t622 = true then ((sleuthlaw24_some.f).bind fun t623 => (some ((t623.length : Int) == 5))) else (some false)) = some r := H
                                  have A47 := Aside0.mk A470
                                  clear A470
                                  by_cases c48 : t622 = true
                                  · subst c48
                                    have H1 : ((sleuthlaw24_some.f).bind fun t623 => (some ((t623.length : Int) == 5))) = some r := by rw [if_pos rfl] at H; exact H
                                    clear H
                                    have H := H1
                                    clear H1
                                    replace H := Option.bind_eq_some_iff.mp H
                                    obtain ⟨t623, A490, H⟩ := H
                                    replace H : (some ((t623.length : Int) == 5)) = some r := H
                                    have A49 := Aside0.mk A490
                                    clear A490
                                    obtain rfl := Option.some.inj H
                                    go_wp2_with (first | ((with_reducible refine gate_callee (f := 28) rfl ?_); refine goesL_ (some 83) rfl rfl Tryd.func28 (by kernel_rfl) rfl #[.slice Ao29 x8_1.length co29] rfl hL_ ?_; (with_reducible refine (back_Last.calls k3 _ _ x8_1 t618 t619 t620 _ ?side1 ?side2 A41.out hG_).mono ?_); (case side1 => repeat (first | exact (Kd.N_reads' HO_8.out).2.2 | (with_reducible refine Kd.C_alloc ?_ _) | (with_reducible refine Kd.C_drewN ?_ _) | (with_reducible refine Kd.C_drew ?_))); (case side2 => exact (Kd.N_reads' HO_8.out).2.1); rintro e w50 ⟨rfl, hb⟩; refine ⟨_, rfl, ?_⟩; have n0_ := Aside0.mk (Kd.N_below (hN_ HO_8.out) hb); have n1_ := Aside0.mk (Kd.R_below (hR_ HO_12.out) hb); have n2_ := Aside0.mk (below_step hB_ hb); clear HO_8; clear HO_12; clear HB; have HO_8 := n0_; have HO_12 := n1_; have HB := n2_; clear n0_ n1_ n2_; (try clear hb); (try clear hb2); (try clear hk); (try clear hi)) | ((with_reducible refine gate_callee (f := 20) rfl ?_); refine goesL_ (some 88) rfl rfl Tryd.func20 (by kernel_rfl) rfl #[.int .i64 t620] rfl hL_ ?_; (with_reducible refine (sleuthlaw0_Num.calls t620 t621 _ A42.out).mono ?_); rintro e w' ⟨rfl, ⟨nd, rfl⟩⟩; refine ⟨_, rfl, ?_⟩) | (go_at_call 24; (with_reducible refine (sleuthref12_TrailMay.calls k3 _ _ x8_1 true _ ?side1 ?side2 A47.out).mono ?_); (case side1 => repeat (first | exact (Kd.N_reads' HO_8.out).2.2 | (with_reducible refine Kd.C_alloc ?_ _) | (with_reducible refine Kd.C_drewN ?_ _) | (with_reducible refine Kd.C_drew ?_))); (case side2 => exact (Kd.N_reads' HO_8.out).2.1); rintro e w51 ⟨rfl, hb⟩; have n0_ := Aside0.mk (Kd.N_below (hN_ HO_8.out) hb); have n1_ := Aside0.mk (Kd.R_below (hR_ HO_12.out) hb); have n2_ := Aside0.mk (below_step hB_ hb); clear HO_8; clear HO_12; clear HB; have HO_8 := n0_; have HO_12 := n1_; have HB := n2_; clear n0_ n1_ n2_; (try clear hb); (try clear hb2); (try clear hk); (try clear hi)) | (go_at_call 31; (with_reducible refine (sleuthlaw24_some.calls  t623 _ A49.out).mono ?_); rintro e w52 ⟨v624, rfl, ho0, hb⟩; have n0_ := Aside0.mk (Kd.N_elder' (hN_ HO_8.out) (Kd.N_base ho0) hb); have n1_ := Aside0.mk (Kd.R_below (hR_ HO_12.out) hb); have n2_ := Aside0.mk (Kd.N_lower (Kd.N_mono (ok' := fun k_ => some k_ ≠ (.slice Ao29 x8_1.length co29 : Value).ownBlock ∧ some k_ ≠ (v614 : Value).ownBlock) ho0 (fun k_ hk_ => ⟨(Kd.fresh' (Kd.N_lt (hN_ HO_8.out)) k_ hk_), (Kd.fresh' (Kd.R_lt (hR_ HO_12.out)) k_ hk_)⟩)) hS_); have n3_ := Aside0.mk (below_step hB_ hb); clear HO_8; clear HO_12; clear HB; have HO_8 := n0_; have HO_12 := n1_; have HO625 := n2_; have HB := n3_; clear n0_ n1_ n2_ n3_; (try clear hb); (try clear hb2); (try clear hk); (try clear hi); (try clear ho0); obtain ⟨Ao53, co53, eo53⟩ := Kd.N_slice HO625.out; subst eo53))
                                    go_ret
                                    exact ⟨by first | rfl | (simp [errW_none, errW_some] <;> rfl) | (simp only [← hji6, ← hji45]; first | rfl | (simp [errW_none, errW_some] <;> rfl)) | (simp [*, errW_none, errW_some] <;> rfl), by repeat (first | (with_reducible first | exact HB.out | apply below_alloc | apply pw_below_drewN | apply below_drew1) | exact HB.out)⟩
                                  · replace c48 := Bool.eq_false_iff.mpr c48
                                    subst c48
                                    have H1 : (some false) = some r := by rw [if_neg (show ¬ (false = true) by decide)] at H; exact H
                                    clear H
                                    have H := H1
                                    clear H1
                                    obtain rfl := Option.some.inj H
                                    go_wp2_with (first | ((with_reducible refine gate_callee (f := 28) rfl ?_); refine goesL_ (some 83) rfl rfl Tryd.func28 (by kernel_rfl) rfl #[.slice Ao29 x8_1.length co29] rfl hL_ ?_; (with_reducible refine (back_Last.calls k3 _ _ x8_1 t618 t619 t620 _ ?side1 ?side2 A41.out hG_).mono ?_); (case side1 => repeat (first | exact (Kd.N_reads' HO_8.out).2.2 | (with_reducible refine Kd.C_alloc ?_ _) | (with_reducible refine Kd.C_drewN ?_ _) | (with_reducible refine Kd.C_drew ?_))); (case side2 => exact (Kd.N_reads' HO_8.out).2.1); rintro e w54 ⟨rfl, hb⟩; refine ⟨_, rfl, ?_⟩; have n0_ := Aside0.mk (Kd.N_below (hN_ HO_8.out) hb); have n1_ := Aside0.mk (Kd.R_below (hR_ HO_12.out) hb); have n2_ := Aside0.mk (below_step hB_ hb); clear HO_8; clear HO_12; clear HB; have HO_8 := n0_; have HO_12 := n1_; have HB := n2_; clear n0_ n1_ n2_; (try clear hb); (try clear hb2); (try clear hk); (try clear hi)) | ((with_reducible refine gate_callee (f := 20) rfl ?_); refine goesL_ (some 88) rfl rfl Tryd.func20 (by kernel_rfl) rfl #[.int .i64 t620] rfl hL_ ?_; (with_reducible refine (sleuthlaw0_Num.calls t620 t621 _ A42.out).mono ?_); rintro e w' ⟨rfl, ⟨nd, rfl⟩⟩; refine ⟨_, rfl, ?_⟩) | (go_at_call 24; (with_reducible refine (sleuthref12_TrailMay.calls k3 _ _ x8_1 false _ ?side1 ?side2 A47.out).mono ?_); (case side1 => repeat (first | exact (Kd.N_reads' HO_8.out).2.2 | (with_reducible refine Kd.C_alloc ?_ _) | (with_reducible refine Kd.C_drewN ?_ _) | (with_reducible refine Kd.C_drew ?_))); (case side2 => exact (Kd.N_reads' HO_8.out).2.1); rintro e w55 ⟨rfl, hb⟩; have n0_ := Aside0.mk (Kd.N_below (hN_ HO_8.out) hb); have n1_ := Aside0.mk (Kd.R_below (hR_ HO_12.out) hb); have n2_ := Aside0.mk (below_step hB_ hb); clear HO_8; clear HO_12; clear HB; have HO_8 := n0_; have HO_12 := n1_; have HB := n2_; clear n0_ n1_ n2_; (try clear hb); (try clear hb2); (try clear hk); (try clear hi)))
                                    go_ret
                                    exact ⟨by first | rfl | (simp [errW_none, errW_some] <;> rfl) | (simp only [← hji6, ← hji45]; first | rfl | (simp [errW_none, errW_some] <;> rfl)) | (simp [*, errW_none, errW_some] <;> rfl), by repeat (first | (with_reducible first | exact HB.out | apply below_alloc | apply pw_below_drewN | apply below_drew1) | exact HB.out)⟩
                                · rw [if_neg c46] at H
                                  have c46b0 : (t618 == (ji45)) = false := beq_eq_false_iff_ne.mpr c46
                                  have c46b1 : (t618 != (ji45)) = true := bne_iff_ne.mpr c46
                                  obtain rfl := Option.some.inj H
                                  go_wp2_with (first | ((with_reducible refine gate_callee (f := 28) rfl ?_); refine goesL_ (some 83) rfl rfl Tryd.func28 (by kernel_rfl) rfl #[.slice Ao29 x8_1.length co29] rfl hL_ ?_; (with_reducible refine (back_Last.calls k3 _ _ x8_1 t618 t619 t620 _ ?side1 ?side2 A41.out hG_).mono ?_); (case side1 => repeat (first | exact (Kd.N_reads' HO_8.out).2.2 | (with_reducible refine Kd.C_alloc ?_ _) | (with_reducible refine Kd.C_drewN ?_ _) | (with_reducible refine Kd.C_drew ?_))); (case side2 => exact (Kd.N_reads' HO_8.out).2.1); rintro e w56 ⟨rfl, hb⟩; refine ⟨_, rfl, ?_⟩; have n0_ := Aside0.mk (Kd.N_below (hN_ HO_8.out) hb); have n1_ := Aside0.mk (Kd.R_below (hR_ HO_12.out) hb); have n2_ := Aside0.mk (below_step hB_ hb); clear HO_8; clear HO_12; clear HB; have HO_8 := n0_; have HO_12 := n1_; have HB := n2_; clear n0_ n1_ n2_; (try clear hb); (try clear hb2); (try clear hk); (try clear hi)) | ((with_reducible refine gate_callee (f := 20) rfl ?_); refine goesL_ (some 88) rfl rfl Tryd.func20 (by kernel_rfl) rfl #[.int .i64 t620] rfl hL_ ?_; (with_reducible refine (sleuthlaw0_Num.calls t620 t621 _ A42.out).mono ?_); rintro e w' ⟨rfl, ⟨nd, rfl⟩⟩; refine ⟨_, rfl, ?_⟩))
                                  go_ret
                                  exact ⟨by first | rfl | (simp [errW_none, errW_some] <;> rfl) | (simp only [← hji6, ← hji45]; first | rfl | (simp [errW_none, errW_some] <;> rfl)) | (simp [*, errW_none, errW_some] <;> rfl), by repeat (first | (with_reducible first | exact HB.out | apply below_alloc | apply pw_below_drewN | apply below_drew1) | exact HB.out)⟩
                              · rw [if_neg c44] at H
                                have c44b0 : (t619 == (decide (x9_1 ≥ 0))) = false := by simpa using c44
                                (try (have c44b1 : decide (t619 = (decide (x9_1 ≥ 0))) = false := by simpa using c44))
                                (try (have c44b2 : (t619 == (decide (x9_1 ≥ 0))) = false := by simpa using c44))
                                (try (have c44b3 : ¬ (t619 = (decide (x9_1 ≥ 0))) := by simpa using c44))
                                clear c44
                                obtain rfl := Option.some.inj H
                                go_wp2_with (first | ((with_reducible refine gate_callee (f := 28) rfl ?_); refine goesL_ (some 83) rfl rfl Tryd.func28 (by kernel_rfl) rfl #[.slice Ao29 x8_1.length co29] rfl hL_ ?_; (with_reducible refine (back_Last.calls k3 _ _ x8_1 t618 t619 t620 _ ?side1 ?side2 A41.out hG_).mono ?_); (case side1 => repeat (first | exact (Kd.N_reads' HO_8.out).2.2 | (with_reducible refine Kd.C_alloc ?_ _) | (with_reducible refine Kd.C_drewN ?_ _) | (with_reducible refine Kd.C_drew ?_))); (case side2 => exact (Kd.N_reads' HO_8.out).2.1); rintro e w57 ⟨rfl, hb⟩; refine ⟨_, rfl, ?_⟩; have n0_ := Aside0.mk (Kd.N_below (hN_ HO_8.out) hb); have n1_ := Aside0.mk (Kd.R_below (hR_ HO_12.out) hb); have n2_ := Aside0.mk (below_step hB_ hb); clear HO_8; clear HO_12; clear HB; have HO_8 := n0_; have HO_12 := n1_; have HB := n2_; clear n0_ n1_ n2_; (try clear hb); (try clear hb2); (try clear hk); (try clear hi)) | ((with_reducible refine gate_callee (f := 20) rfl ?_); refine goesL_ (some 88) rfl rfl Tryd.func20 (by kernel_rfl) rfl #[.int .i64 t620] rfl hL_ ?_; (with_reducible refine (sleuthlaw0_Num.calls t620 t621 _ A42.out).mono ?_); rintro e w' ⟨rfl, ⟨nd, rfl⟩⟩; refine ⟨_, rfl, ?_⟩))
                                go_ret
                                exact ⟨by first | rfl | (simp [errW_none, errW_some] <;> rfl) | (simp only [← hji6]; first | rfl | (simp [errW_none, errW_some] <;> rfl)) | (simp [*, errW_none, errW_some] <;> rfl), by repeat (first | (with_reducible first | exact HB.out | apply below_alloc | apply pw_below_drewN | apply below_drew1) | exact HB.out)⟩
                            · rw [if_neg c43] at H
                              have c43b0 : (t621 == 0) = false := beq_eq_false_iff_ne.mpr c43
                              have c43b1 : (t621 != 0) = true := bne_iff_ne.mpr c43
                              obtain rfl := Option.some.inj H
                              go_wp2_with (first | ((with_reducible refine gate_callee (f := 28) rfl ?_); refine goesL_ (some 83) rfl rfl Tryd.func28 (by kernel_rfl) rfl #[.slice Ao29 x8_1.length co29] rfl hL_ ?_; (with_reducible refine (back_Last.calls k3 _ _ x8_1 t618 t619 t620 _ ?side1 ?side2 A41.out hG_).mono ?_); (case side1 => repeat (first | exact (Kd.N_reads' HO_8.out).2.2 | (with_reducible refine Kd.C_alloc ?_ _) | (with_reducible refine Kd.C_drewN ?_ _) | (with_reducible refine Kd.C_drew ?_))); (case side2 => exact (Kd.N_reads' HO_8.out).2.1); rintro e w58 ⟨rfl, hb⟩; refine ⟨_, rfl, ?_⟩; have n0_ := Aside0.mk (Kd.N_below (hN_ HO_8.out) hb); have n1_ := Aside0.mk (Kd.R_below (hR_ HO_12.out) hb); have n2_ := Aside0.mk (below_step hB_ hb); clear HO_8; clear HO_12; clear HB; have HO_8 := n0_; have HO_12 := n1_; have HB := n2_; clear n0_ n1_ n2_; (try clear hb); (try clear hb2); (try clear hk); (try clear hi)) | ((with_reducible refine gate_callee (f := 20) rfl ?_); refine goesL_ (some 88) rfl rfl Tryd.func20 (by kernel_rfl) rfl #[.int .i64 t620] rfl hL_ ?_; (with_reducible refine (sleuthlaw0_Num.calls t620 t621 _ A42.out).mono ?_); rintro e w' ⟨rfl, ⟨nd, rfl⟩⟩; refine ⟨_, rfl, ?_⟩))
                              go_ret
                              exact ⟨by first | rfl | (simp [errW_none, errW_some] <;> rfl) | (simp only [← hji6]; first | rfl | (simp [errW_none, errW_some] <;> rfl)) | (simp [*, errW_none, errW_some] <;> rfl), by repeat (first | (with_reducible first | exact HB.out | apply below_alloc | apply pw_below_drewN | apply below_drew1) | exact HB.out)⟩
      · rw [if_neg c8] at H
        exact absurd H (by simp)
    · rw [if_neg c7] at H
      exact absurd H (by simp)
  · replace c5 := Bool.eq_false_iff.mpr c5
    subst c5
    have H1 : (some false) = some r := by rw [if_neg (show ¬ (false = true) by decide)] at H; exact H
    clear H
    have H := H1
    clear H1
    obtain rfl := Option.some.inj H
    go_enter Tryd.func13, Tryd.ntmps13
    go_wp2_with (first | ((with_reducible refine gate_callee (f := 30) rfl ?_); refine goesL_ (some 18) rfl rfl Tryd.func30 (by kernel_rfl) rfl #[] rfl hL_ ?_; (with_reducible refine (sleuthlaw24_awake.calls k  false _ A4.out hG_).mono ?_); rintro e w59 ⟨rfl, hb⟩; refine ⟨_, rfl, ?_⟩; have n0_ := Aside0.mk (below_step hB_ hb); clear HB; have HB := n0_; clear n0_; (try clear hb); (try clear hb2); (try clear hk); (try clear hi)))
    go_ret
    exact ⟨by first | rfl | (simp [errW_none, errW_some] <;> rfl) | (simp [*, errW_none, errW_some] <;> rfl), by repeat (first | (with_reducible first | exact HB.out | apply below_alloc | apply pw_below_drewN | apply below_drew1) | exact HB.out)⟩

/-- THE ONE PURE STATEMENT of sleuthlaw24_BackRow: yours. -/
def sleuthlaw24_BackRow.Pure : Prop := ∀ (a0 : Int) (a1 : Int) (a2 : Int), (Lit.int .i64 a0).wf = true → (Lit.int .i64 a1).wf = true → (Lit.int .i64 a2).wf = true → ∃ k, sleuthlaw24_BackRow.f k a0 a1 a2 = some true
theorem sleuthlaw24_BackRow.walk (P : sleuthlaw24_BackRow.Pure) (a0 : Int) (a1 : Int) (a2 : Int) (w : World) (w0 : (Lit.int .i64 a0).wf = true) (w1 : (Lit.int .i64 a1).wf = true) (w2 : (Lit.int .i64 a2).wf = true) (hG : GOK w) :
    Calls Tryd.prog 13 #[.int .i64 a0, .int .i64 a1, .int .i64 a2] w fun e w' => e = .returned (.bool true) ∧ Below w.heap.size w w' := by
  obtain ⟨k, h⟩ := P a0 a1 a2 w0 w1 w2
  refine (sleuthlaw24_BackRow.calls k a0 a1 a2 true w h hG).mono ?_
  rintro e w' ⟨rfl, hd⟩
  exact ⟨rfl, hd⟩

end Go.Proofs.YtgcdbpnflchobaaDoor.G
