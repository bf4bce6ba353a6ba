-- Laid by the session's own driver gp.py over the kit's printer. Not trusted: Lean checks it.
import Derived.Test.YtgcdbpnflchobaaDoorBase
import Derived.Test.YtgcdbpnflchobaaDoorGS
import Derived.Test.YtgcdbpnflchobaaDoorGN
import Derived.Test.YtgcdbpnflchobaaDoorG40
import Derived.Test.YtgcdbpnflchobaaDoorG42
namespace Go.Proofs.YtgcdbpnflchobaaDoor.G
open Go.RowKit Go.Proofs.YtgcdbpnflchobaaDoorW.PrintWords Go.Proofs.YtgcdbpnflchobaaDoorW.PrintLast Go.Proofs.YtgcdbpnflchobaaDoorW.PrintMore
attribute [local go_sem] max2_int min2_int max_two min_two max_three min_three max_four min_four   -- for this text's walks alone
set_option linter.unusedVariables false
set_option linter.unusedSimpArgs false

/-! ### sleuthlaw24_BackLast: function 12 -/
mutual
def sleuthlaw24_BackLast.j0 : Nat → List (S44) → Int → Bool → Bool → Option (Bool)
  | 0, _, _, _, _ => none
  | k + 1, x0, x3, x4, x55 => if x55 = true then (some false) else (sleuthlaw24_BackLast.l0 k x0 x3 x4 0)
def sleuthlaw24_BackLast.l0 : Nat → List (S44) → Int → Bool → Int → Option (Bool)
  | 0, _, _, _, _ => none
  | k + 1, x0, x3, x4, x6 => if x6 < (x0.length : Int) then (if 0 ≤ x6 then (if ((rd_T44 x0 x6).f3).toList = ([33] : List UInt8) then (if x4 = true then (if x6 > x3 then (some false) else (sleuthlaw24_BackLast.l0 k x0 x3 x4 (wrap64 (x6 + 1)))) else (some false)) else (sleuthlaw24_BackLast.l0 k x0 x3 x4 (wrap64 (x6 + 1)))) else (none)) else (some true)
end
def sleuthlaw24_BackLast.f (k : Nat) (l0 : List (S44)) : Option (Bool) := (sleuthlaw24_awake.f k).bind fun t598 => (if t598 = true then ((back_Last.f k l0).bind fun bt599 => ((sleuthlaw0_Num.f bt599.2.2).bind fun t602 => (if t602 = 0 then (if bt599.2.1 = true then (if bt599.1 < 0 then (sleuthlaw24_BackLast.j0 k l0 bt599.1 bt599.2.1 true) else (if bt599.1 ≥ (l0.length : Int) then (sleuthlaw24_BackLast.j0 k l0 bt599.1 bt599.2.1 true) else (if 0 ≤ bt599.1 then (if bt599.1 < (l0.length : Int) then (if ((rd_T44 l0 bt599.1).f3).toList = ([33] : List UInt8) then (sleuthlaw24_BackLast.j0 k l0 bt599.1 bt599.2.1 false) else (sleuthlaw24_BackLast.j0 k l0 bt599.1 bt599.2.1 true)) else (none)) else (none)))) else (sleuthlaw24_BackLast.j0 k l0 bt599.1 bt599.2.1 (bt599.1 != 0))) else (if bt599.2.1 = true then (some false) else (if bt599.1 = 0 then ((sleuthref12_TrailMay.f k l0).bind fun t603 => (some (!t603))) else (some false)))))) else (some false))
theorem sleuthlaw24_BackLast.mono_l : ∀ k, (∀ y0 y1 y2 y3, LeO (sleuthlaw24_BackLast.j0 k y0 y1 y2 y3) (sleuthlaw24_BackLast.j0 (k + 1) y0 y1 y2 y3)) ∧ (∀ y0 y1 y2 y3, LeO (sleuthlaw24_BackLast.l0 k y0 y1 y2 y3) (sleuthlaw24_BackLast.l0 (k + 1) y0 y1 y2 y3))
  | 0 => ⟨fun _ _ _ _ r h => by simp [sleuthlaw24_BackLast.j0] at h, fun _ _ _ _ r h => by simp [sleuthlaw24_BackLast.l0] at h⟩
  | k + 1 => by
    obtain ⟨ih0, ih1⟩ := sleuthlaw24_BackLast.mono_l k
    refine ⟨?_, ?_⟩
    · intro y0 y1 y2 y3
      unfold sleuthlaw24_BackLast.j0
      repeat' first
      | (with_reducible exact ih0 _ _ _ _)
      | (with_reducible exact ih1 _ _ _ _)
      | (with_reducible exact back_Last.mono _ _)
      | (with_reducible exact sleuthlaw24_awake.mono _)
      | (with_reducible exact sleuthref12_TrailMay.mono _ _)
      | (with_reducible exact LeO.refl _)
      | (with_reducible exact LeO.none _)
      | (with_reducible refine LeO.ite ?_ ?_)
      | (with_reducible refine LeO.bind ?_ (fun _ => ?_))
      | exact ih0 _ _ _ _
      | exact ih1 _ _ _ _
      | exact back_Last.mono _ _
      | exact sleuthlaw24_awake.mono _
      | exact sleuthref12_TrailMay.mono _ _
      | exact LeO.none _
      | refine LeO.ite ?_ ?_
      | refine LeO.bind ?_ (fun _ => ?_)
    · intro y0 y1 y2 y3
      unfold sleuthlaw24_BackLast.l0
      repeat' first
      | (with_reducible exact ih0 _ _ _ _)
      | (with_reducible exact ih1 _ _ _ _)
      | (with_reducible exact back_Last.mono _ _)
      | (with_reducible exact sleuthlaw24_awake.mono _)
      | (with_reducible exact sleuthref12_TrailMay.mono _ _)
      | (with_reducible exact LeO.refl _)
      | (with_reducible exact LeO.none _)
      | (with_reducible refine LeO.ite ?_ ?_)
      | (with_reducible refine LeO.bind ?_ (fun _ => ?_))
      | exact ih0 _ _ _ _
      | exact ih1 _ _ _ _
      | exact back_Last.mono _ _
      | exact sleuthlaw24_awake.mono _
      | exact sleuthref12_TrailMay.mono _ _
      | exact LeO.none _
      | refine LeO.ite ?_ ?_
      | refine LeO.bind ?_ (fun _ => ?_)
theorem sleuthlaw24_BackLast.mono : ∀ a0 k, LeO (sleuthlaw24_BackLast.f k a0) (sleuthlaw24_BackLast.f (k + 1) a0) := by
  intro a0 k
  obtain ⟨ih0, ih1⟩ := sleuthlaw24_BackLast.mono_l k
  unfold sleuthlaw24_BackLast.f
  repeat' first
      | (with_reducible exact ih0 _ _ _ _)
      | (with_reducible exact ih1 _ _ _ _)
      | (with_reducible exact back_Last.mono _ _)
      | (with_reducible exact sleuthlaw24_awake.mono _)
      | (with_reducible exact sleuthref12_TrailMay.mono _ _)
      | (with_reducible exact LeO.refl _)
      | (with_reducible exact LeO.none _)
      | (with_reducible refine LeO.ite ?_ ?_)
      | (with_reducible refine LeO.bind ?_ (fun _ => ?_))
      | exact ih0 _ _ _ _
      | exact ih1 _ _ _ _
      | exact back_Last.mono _ _
      | exact sleuthlaw24_awake.mono _
      | exact sleuthref12_TrailMay.mono _ _
      | exact LeO.none _
      | refine LeO.ite ?_ ?_
      | refine LeO.bind ?_ (fun _ => ?_)
set_option maxHeartbeats 8000000 in
set_option maxRecDepth 100000 in
theorem sleuthlaw24_BackLast.calls (k : Nat) (A0 : Option Addr) (c0 : Nat) (l0 : List (S44)) (r : Bool) (w : World) (hr0 : Kd.C k44 w A0 l0.length l0) (hc0 : l0.length ≤ c0) (h : sleuthlaw24_BackLast.f k l0 = some r) (hG : GOK w) :
    Calls Tryd.prog 12 #[.slice A0 l0.length c0] w fun e w' => e = .returned (.bool r) ∧ Below w.heap.size w w' := by
  have HR0 := Aside0.mk hr0
  have HC0 := Aside0.mk hc0
  clear hr0 hc0
  have HB := Aside0.mk (Below.refl w.heap.size w)
  have H : ((sleuthlaw24_awake.f k).bind fun t598 => (if t598 = true then ((back_Last.f k l0).bind fun bt599 => ((sleuthlaw0_Num.f bt599.2.2).bind fun t602 => (if t602 = 0 then (if bt599.2.1 = true then (if bt599.1 < 0 then (sleuthlaw24_BackLast.j0 k l0 bt599.1 bt599.2.1 true) else (if bt599.1 ≥ (l0.length : Int) then (sleuthlaw24_BackLast.j0 k l0 bt599.1 bt599.2.1 true) else (if 0 ≤ bt599.1 then (if bt599.1 < (l0.length : Int) then (if ((rd_T44 l0 bt599.1).f3).toList = ([33] : List UInt8) then (sleuthlaw24_BackLast.j0 k l0 bt599.1 bt599.2.1 false) else (sleuthlaw24_BackLast.j0 k l0 bt599.1 bt599.2.1 true)) else (none)) else (none)))) else (sleuthlaw24_BackLast.j0 k l0 bt599.1 bt599.2.1 (bt599.1 != 0))) else (if bt599.2.1 = true then (some false) else (if bt599.1 = 0 then ((sleuthref12_TrailMay.f k l0).bind fun t603 => (some (!t603))) else (some false)))))) else (some false))) = some r := h
  clear h
  replace H := Option.bind_eq_some_iff.mp H
  obtain ⟨t598, A20, H⟩ := H
  replace H : (if t598 = true then ((back_Last.f k l0).bind fun bt599 => ((sleuthlaw0_Num.f bt599.2.2).bind fun t602 => (if t602 = 0 then (if bt599.2.1 = true then (if bt599.1 < 0 then (sleuthlaw24_BackLast.j0 k l0 bt599.1 bt599.2.1 true) else (if bt599.1 ≥ (l0.length : Int) then (sleuthlaw24_BackLast.j0 k l0 bt599.1 bt599.2.1 true) else (if 0 ≤ bt599.1 then (if bt599.1 < (l0.length : Int) then (if ((rd_T44 l0 bt599.1).f3).toList = ([33] : List UInt8) then (sleuthlaw24_BackLast.j0 k l0 bt599.1 bt599.2.1 false) else (sleuthlaw24_BackLast.j0 k l0 bt599.1 bt599.2.1 true)) else (none)) else (none)))) else (sleuthlaw24_BackLast.j0 k l0 bt599.1 bt599.2.1 (bt599.1 != 0))) else (if bt599.2.1 = true then (some false) else (if bt599.1 = 0 then ((sleuthref12_TrailMay.f k l0).bind fun t603 => (some (!t603))) else (some false)))))) else (some false)) = some r := H
  have A2 := Aside0.mk A20
  clear A20
  by_cases c3 : t598 = true
  · subst c3
    have H1 : ((back_Last.f k l0).bind fun bt599 => ((sleuthlaw0_Num.f bt599.2.2).bind fun t602 => (if t602 = 0 then (if bt599.2.1 = true then (if bt599.1 < 0 then (sleuthlaw24_BackLast.j0 k l0 bt599.1 bt599.2.1 true) else (if bt599.1 ≥ (l0.length : Int) then (sleuthlaw24_BackLast.j0 k l0 bt599.1 bt599.2.1 true) else (if 0 ≤ bt599.1 then (if bt599.1 < (l0.length : Int) then (if ((rd_T44 l0 bt599.1).f3).toList = ([33] : List UInt8) then (sleuthlaw24_BackLast.j0 k l0 bt599.1 bt599.2.1 false) else (sleuthlaw24_BackLast.j0 k l0 bt599.1 bt599.2.1 true)) else (none)) else (none)))) else (sleuthlaw24_BackLast.j0 k l0 bt599.1 bt599.2.1 (bt599.1 != 0))) else (if bt599.2.1 = true then (some false) else (if bt599.1 = 0 then ((sleuthref12_TrailMay.f k l0).bind fun t603 => (some (!t603))) else (some false)))))) = some r := by rw [if_pos rfl] at H; exact H
    clear H
    have H := H1
    clear H1
    replace H := Option.bind_eq_some_iff.mp H
    obtain ⟨⟨t599, t600, t601⟩, A40, H⟩ := H
    replace H : ((sleuthlaw0_Num.f t601).bind fun t602 => (if t602 = 0 then (if t600 = true then (if t599 < 0 then (sleuthlaw24_BackLast.j0 k l0 t599 t600 true) else (if t599 ≥ (l0.length : Int) then (sleuthlaw24_BackLast.j0 k l0 t599 t600 true) else (if 0 ≤ t599 then (if t599 < (l0.length : Int) then (if ((rd_T44 l0 t599).f3).toList = ([33] : List UInt8) then (sleuthlaw24_BackLast.j0 k l0 t599 t600 false) else (sleuthlaw24_BackLast.j0 k l0 t599 t600 true)) else (none)) else (none)))) else (sleuthlaw24_BackLast.j0 k l0 t599 t600 (t599 != 0))) else (if t600 = true then (some false) else (if t599 = 0 then ((sleuthref12_TrailMay.f k l0).bind fun t603 => (some (!t603))) else (some false))))) = some r := H
    have A4 := Aside0.mk A40
    clear A40
    replace H := Option.bind_eq_some_iff.mp H
    obtain ⟨t602, A50, H⟩ := H
    replace H : (if t602 = 0 then (if t600 = true then (if t599 < 0 then (sleuthlaw24_BackLast.j0 k l0 t599 t600 true) else (if t599 ≥ (l0.length : Int) then (sleuthlaw24_BackLast.j0 k l0 t599 t600 true) else (if 0 ≤ t599 then (if t599 < (l0.length : Int) then (if ((rd_T44 l0 t599).f3).toList = ([33] : List UInt8) then (sleuthlaw24_BackLast.j0 k l0 t599 t600 false) else (sleuthlaw24_BackLast.j0 k l0 t599 t600 true)) else (none)) else (none)))) else (sleuthlaw24_BackLast.j0 k l0 t599 t600 (t599 != 0))) else (if t600 = true then (some false) else (if t599 = 0 then ((sleuthref12_TrailMay.f k l0).bind fun t603 => (some (!t603))) else (some false)))) = some r := H
    have A5 := Aside0.mk A50
    clear A50
    by_cases c6 : t602 = 0
    · rw [if_pos c6] at H
      have c6b0 : (t602 == 0) = true := beq_iff_eq.mpr c6
      have c6b1 : (t602 != 0) = false := bne_eq_false_iff_eq.mpr c6
      clear c6
      have HC7 := Aside0.mk H
      clear H
      go_enter Tryd.func12, Tryd.ntmps12
      go_upto_region 6 with (first | ((with_reducible refine gate_callee (f := 30) rfl ?_); refine goesL_ (some 7) rfl rfl Tryd.func30 (by kernel_rfl) rfl #[] rfl hL_ ?_; (with_reducible refine (sleuthlaw24_awake.calls k  true _ A2.out hG_).mono ?_); rintro e w8 ⟨rfl, hb⟩; refine ⟨_, rfl, ?_⟩; have n0_ := Aside0.mk (below_step hB_ hb); clear HB; have HB := n0_; clear n0_; (try clear hb); (try clear hb2); (try clear hk); (try clear hi)) | ((with_reducible refine gate_callee (f := 28) rfl ?_); refine goesL_ (some 11) rfl rfl Tryd.func28 (by kernel_rfl) rfl #[.slice A0 l0.length c0] rfl hL_ ?_; (with_reducible refine (back_Last.calls k _ _ l0 t599 t600 t601 _ ?side1 ?side2 A4.out hG_).mono ?_); (case side1 => repeat (first | exact (Kd.C_below HR0.out HB.out) | (with_reducible refine Kd.C_alloc ?_ _) | (with_reducible refine Kd.C_drewN ?_ _) | (with_reducible refine Kd.C_drew ?_))); (case side2 => exact HC0.out); rintro e w9 ⟨rfl, hb⟩; refine ⟨_, rfl, ?_⟩; have n0_ := Aside0.mk (below_step hB_ hb); clear HB; have HB := n0_; clear n0_; (try clear hb); (try clear hb2); (try clear hk); (try clear hi)) | ((with_reducible refine gate_callee (f := 20) rfl ?_); refine goesL_ (some 16) rfl rfl Tryd.func20 (by kernel_rfl) rfl #[.int .i64 t601] rfl hL_ ?_; (with_reducible refine (sleuthlaw0_Num.calls t601 t602 _ A5.out).mono ?_); rintro e w' ⟨rfl, ⟨nd, rfl⟩⟩; refine ⟨_, rfl, ?_⟩))
      (try simp only [Act.put, List.setIfInBounds_toArray, List.set_cons_zero, List.set_cons_succ])
      go_cut [55] (fun v55 wc => ∃ (kq : Nat) (x55_6 : Bool), v55 = .bool x55_6 ∧ Aside0 (sleuthlaw24_BackLast.j0 kq l0 t599 t600 x55_6 = some r) ∧ Aside0 (kq ≤ k) ∧ Aside0 (Below w.heap.size w wc))
      case first =>
        have H := HC7.out
        clear HC7
        by_cases c10 : t600 = true
        · subst c10
          have H1 : (if t599 < 0 then (sleuthlaw24_BackLast.j0 k l0 t599 true true) else (if t599 ≥ (l0.length : Int) then (sleuthlaw24_BackLast.j0 k l0 t599 true true) else (if 0 ≤ t599 then (if t599 < (l0.length : Int) then (if ((rd_T44 l0 t599).f3).toList = ([33] : List UInt8) then (sleuthlaw24_BackLast.j0 k l0 t599 true false) else (sleuthlaw24_BackLast.j0 k l0 t599 true true)) else (none)) else (none)))) = some r := by rw [if_pos rfl] at H; exact H
          clear H
          have H := H1
          clear H1
          by_cases c11 : t599 < 0
          · rw [if_pos c11] at H
            have c11b0 : decide (t599 < 0) = true := decide_eq_true c11
            clear c11
            (first | rw [c11b0] | (simp only [i64_w, i32_w]; rw [c11b0]) | skip)
            have H' := Aside0.mk H
            clear H
            go_wp2
            go_meet
            case rel => exact ⟨_, (true), (by first | rfl | (simp; done) | (simp [*]; done)), H', ⟨by first | omega | exact Nat.le_refl _⟩, ⟨by repeat (first | (with_reducible first | exact HB.out | apply below_alloc | apply pw_below_drewN | apply below_drew1) | exact HB.out)⟩⟩
          · rw [if_neg c11] at H
            have c11b0 : decide (t599 < 0) = false := decide_eq_false c11
            clear c11
            (first | rw [c11b0] | (simp only [i64_w, i32_w]; rw [c11b0]) | skip)
            by_cases c12 : t599 ≥ (l0.length : Int)
            · rw [if_pos c12] at H
              have c12b0 : decide ((l0.length : Int) ≤ t599) = true := decide_eq_true c12
              clear c12
              have H' := Aside0.mk H
              clear H
              go_wp2
              go_meet
              case rel => exact ⟨_, (true), (by first | rfl | (simp; done) | (simp [*]; done)), H', ⟨by first | omega | exact Nat.le_refl _⟩, ⟨by repeat (first | (with_reducible first | exact HB.out | apply below_alloc | apply pw_below_drewN | apply below_drew1) | exact HB.out)⟩⟩
            · rw [if_neg c12] at H
              have c12b0 : decide ((l0.length : Int) ≤ t599) = false := decide_eq_false c12
              clear c12
              by_cases c13 : 0 ≤ t599
              · rw [if_pos c13] at H
                have c13b0 : decide (0 ≤ t599) = true := decide_eq_true c13
                clear c13
                by_cases c14 : t599 < (l0.length : Int)
                · rw [if_pos c14] at H
                  have c14b0 : decide (t599 < (l0.length : Int)) = true := decide_eq_true c14
                  clear c14
                  by_cases c15 : ((rd_T44 l0 t599).f3).toList = ([33] : List UInt8)
                  · rw [if_pos c15] at H
                    have c15b0 : (((rd_T44 l0 t599).f3).toList == ([33] : List UInt8)) = true := beq_iff_eq.mpr c15
                    have c15b1 : (((rd_T44 l0 t599).f3).toList != ([33] : List UInt8)) = false := bne_eq_false_iff_eq.mpr c15
                    clear c15
                    have H' := Aside0.mk H
                    clear H
                    have p604 : 0 ≤ (t599 : Int) := of_decide_eq_true hA_
                    have q604 : t599 < (l0.length : Int) := of_decide_eq_true hA_
                    obtain ⟨ad604, A604_2, c604_2, e604, hx604_0, hx604_1, hx604_2, hx604_3, hl604_2, hi604_2⟩ := at_T44 HR0.out t599 p604 q604
                    cases e604
                    replace hx604_0 := (HB.out.cell (World.block_lt_of_cell? w _ hx604_0)).trans hx604_0
                    replace hx604_1 := (HB.out.cell (World.block_lt_of_cell? w _ hx604_1)).trans hx604_1
                    replace hx604_2 := (HB.out.cell (World.block_lt_of_cell? w _ hx604_2)).trans hx604_2
                    replace hx604_3 := (HB.out.cell (World.block_lt_of_cell? w _ hx604_3)).trans hx604_3
                    have HR604_2 := Aside0.mk hi604_2
                    have HC604_2 := Aside0.mk hl604_2
                    clear hi604_2 hl604_2
                    replace p604 := eq_true p604
                    replace q604 := eq_true q604
                    go_wp2
                    go_meet
                    case rel => exact ⟨_, (false), (by first | rfl | (simp; done) | (simp [*]; done)), H', ⟨by first | omega | exact Nat.le_refl _⟩, ⟨by repeat (first | (with_reducible first | exact HB.out | apply below_alloc | apply pw_below_drewN | apply below_drew1) | exact HB.out)⟩⟩
                  · rw [if_neg c15] at H
                    have c15b0 : (((rd_T44 l0 t599).f3).toList == ([33] : List UInt8)) = false := beq_eq_false_iff_ne.mpr c15
                    have c15b1 : (((rd_T44 l0 t599).f3).toList != ([33] : List UInt8)) = true := bne_iff_ne.mpr c15
                    have H' := Aside0.mk H
                    clear H
                    have p604 : 0 ≤ (t599 : Int) := of_decide_eq_true hA_
                    have q604 : t599 < (l0.length : Int) := of_decide_eq_true hA_
                    obtain ⟨ad604, A604_2, c604_2, e604, hx604_0, hx604_1, hx604_2, hx604_3, hl604_2, hi604_2⟩ := at_T44 HR0.out t599 p604 q604
                    cases e604
                    replace hx604_0 := (HB.out.cell (World.block_lt_of_cell? w _ hx604_0)).trans hx604_0
                    replace hx604_1 := (HB.out.cell (World.block_lt_of_cell? w _ hx604_1)).trans hx604_1
                    replace hx604_2 := (HB.out.cell (World.block_lt_of_cell? w _ hx604_2)).trans hx604_2
                    replace hx604_3 := (HB.out.cell (World.block_lt_of_cell? w _ hx604_3)).trans hx604_3
                    have HR604_2 := Aside0.mk hi604_2
                    have HC604_2 := Aside0.mk hl604_2
                    clear hi604_2 hl604_2
                    replace p604 := eq_true p604
                    replace q604 := eq_true q604
                    go_wp2
                    go_meet
                    case rel => exact ⟨_, (true), (by first | rfl | (simp; done) | (simp [*]; done)), H', ⟨by first | omega | exact Nat.le_refl _⟩, ⟨by repeat (first | (with_reducible first | exact HB.out | apply below_alloc | apply pw_below_drewN | apply below_drew1) | exact HB.out)⟩⟩
                · rw [if_neg c14] at H
                  exact absurd H (by simp)
              · rw [if_neg c13] at H
                exact absurd H (by simp)
        · replace c10 := Bool.eq_false_iff.mpr c10
          subst c10
          have H1 : (sleuthlaw24_BackLast.j0 k l0 t599 false (t599 != 0)) = some r := by rw [if_neg (show ¬ (false = true) by decide)] at H; exact H
          clear H
          have H := H1
          clear H1
          have H' := Aside0.mk H
          clear H
          go_wp2
          go_meet
          case rel => exact ⟨_, ((t599 != 0)), (by first | rfl | (simp; done) | (simp [*]; done)), H', ⟨by first | omega | exact Nat.le_refl _⟩, ⟨by repeat (first | (with_reducible first | exact HB.out | apply below_alloc | apply pw_below_drewN | apply below_drew1) | exact HB.out)⟩⟩
      case rest =>
        clear HC7
        try clear c1
        try clear c2
        try clear p2
        try clear c3
        try clear c6
        try clear c6b0
        try clear c6b1
        try clear p6
        try clear q6
        try clear hx6
        try clear c10
        try clear c11
        try clear c11b0
        try clear c12
        try clear c12b0
        try clear c13
        try clear c13b0
        try clear c14
        try clear c14b0
        try clear c15
        try clear c15b0
        try clear c15b1
        try clear hx604_0
        try clear hx604_1
        try clear hx604_2
        try clear hx604_3
        try clear p604
        try clear q604
        obtain ⟨kq, x55_6, rfl, HA, HJ6, HB⟩ := hcut
        cases kq with
        | zero => exact absurd HA.out (by simp [sleuthlaw24_BackLast.j0])
        | succ kj6 =>
          have H := HA.out
          clear HA
          simp only [sleuthlaw24_BackLast.j0] at H
          by_cases c16 : x55_6 = true
          · subst c16
            have H1 : (some false) = some r := by rw [if_pos rfl] at H; exact H
            clear H
            have H := H1
            clear H1
            obtain rfl := Option.some.inj H
            go_wp2
            go_ret
            exact ⟨by first | rfl | (simp [errW_none, errW_some] <;> rfl) | (simp [*, errW_none, errW_some] <;> rfl), by repeat (first | (with_reducible first | exact HB.out | apply below_alloc | apply pw_below_drewN | apply below_drew1) | exact HB.out)⟩
          · replace c16 := Bool.eq_false_iff.mpr c16
            subst c16
            have H1 : (sleuthlaw24_BackLast.l0 kj6 l0 t599 t600 0) = some r := by rw [if_neg (show ¬ (false = true) by decide)] at H; exact H
            clear H
            have H := H1
            clear H1
            have H' := Aside0.mk H
            clear H
            go_wp2
            go_loopg [6] kj6 (fun kq v6 w' => ∃ (x6_2 : Int), v6 = .int .i64 x6_2 ∧ Aside0 (sleuthlaw24_BackLast.l0 kq l0 t599 t600 x6_2 = some r) ∧ Aside0 (kq ≤ kj6) ∧ Aside0 (Below w.heap.size w w'))
            case atStart => exact ⟨(0), (by first | rfl | (simp; done) | (simp [*]; done)), H', ⟨Nat.le_refl _⟩, ⟨by repeat (first | (with_reducible first | exact HB.out | apply below_alloc | apply pw_below_drewN | apply below_drew1) | exact HB.out)⟩⟩
            case round =>
              clear H'
              try clear c1
              try clear c2
              try clear p2
              try clear c3
              try clear c6
              try clear c6b0
              try clear c6b1
              try clear p6
              try clear q6
              try clear hx6
              try clear c10
              try clear c11
              try clear c11b0
              try clear c12
              try clear c12b0
              try clear c13
              try clear c13b0
              try clear c14
              try clear c14b0
              try clear c15
              try clear c15b0
              try clear c15b1
              try clear c16
              try clear hx604_0
              try clear hx604_1
              try clear hx604_2
              try clear hx604_3
              try clear p2
              try clear p6
              try clear p604
              try clear q6
              try clear q604
              obtain ⟨x6_2, rfl, HA, HK2, HB⟩ := hrel
              cases gk with
              | zero => exact absurd HA.out (by simp [sleuthlaw24_BackLast.l0])
              | succ k2 =>
                have H := HA.out
                clear HA
                simp only [sleuthlaw24_BackLast.l0] at H
                by_cases c17 : x6_2 < (l0.length : Int)
                · rw [if_pos c17] at H
                  have c17b0 : decide (x6_2 < (l0.length : Int)) = true := decide_eq_true c17
                  clear c17
                  by_cases c18 : 0 ≤ x6_2
                  · rw [if_pos c18] at H
                    have c18b0 : decide (0 ≤ x6_2) = true := decide_eq_true c18
                    clear c18
                    by_cases c19 : ((rd_T44 l0 x6_2).f3).toList = ([33] : List UInt8)
                    · rw [if_pos c19] at H
                      have c19b0 : (((rd_T44 l0 x6_2).f3).toList == ([33] : List UInt8)) = true := beq_iff_eq.mpr c19
                      have c19b1 : (((rd_T44 l0 x6_2).f3).toList != ([33] : List UInt8)) = false := bne_eq_false_iff_eq.mpr c19
                      clear c19
                      by_cases c20 : t600 = true
                      · subst c20
                        have H1 : (if x6_2 > t599 then (some false) else (sleuthlaw24_BackLast.l0 k2 l0 t599 true (wrap64 (x6_2 + 1)))) = some r := by rw [if_pos rfl] at H; exact H
                        clear H
                        have H := H1
                        clear H1
                        by_cases c21 : x6_2 > t599
                        · rw [if_pos c21] at H
                          have c21b0 : decide (t599 < x6_2) = true := decide_eq_true c21
                          clear c21
                          obtain rfl := Option.some.inj H
                          have p605 : 0 ≤ (x6_2 : Int) := of_decide_eq_true hA_
                          have q605 : x6_2 < (l0.length : Int) := of_decide_eq_true hA_
                          obtain ⟨ad605, A605_2, c605_2, e605, hx605_0, hx605_1, hx605_2, hx605_3, hl605_2, hi605_2⟩ := at_T44 HR0.out x6_2 p605 q605
                          cases e605
                          replace hx605_0 := (HB.out.cell (World.block_lt_of_cell? w _ hx605_0)).trans hx605_0
                          replace hx605_1 := (HB.out.cell (World.block_lt_of_cell? w _ hx605_1)).trans hx605_1
                          replace hx605_2 := (HB.out.cell (World.block_lt_of_cell? w _ hx605_2)).trans hx605_2
                          replace hx605_3 := (HB.out.cell (World.block_lt_of_cell? w _ hx605_3)).trans hx605_3
                          have HR605_2 := Aside0.mk hi605_2
                          have HC605_2 := Aside0.mk hl605_2
                          clear hi605_2 hl605_2
                          replace p605 := eq_true p605
                          replace q605 := eq_true q605
                          go_wp2
                          go_ret
                          exact ⟨by first | rfl | (simp [errW_none, errW_some] <;> rfl) | (simp [*, errW_none, errW_some] <;> rfl), by repeat (first | (with_reducible first | exact HB.out | apply below_alloc | apply pw_below_drewN | apply below_drew1) | exact HB.out)⟩
                        · rw [if_neg c21] at H
                          have c21b0 : decide (t599 < x6_2) = false := decide_eq_false c21
                          clear c21
                          have H' := Aside0.mk H
                          clear H
                          have p605 : 0 ≤ (x6_2 : Int) := of_decide_eq_true hA_
                          have q605 : x6_2 < (l0.length : Int) := of_decide_eq_true hA_
                          obtain ⟨ad605, A605_2, c605_2, e605, hx605_0, hx605_1, hx605_2, hx605_3, hl605_2, hi605_2⟩ := at_T44 HR0.out x6_2 p605 q605
                          cases e605
                          replace hx605_0 := (HB.out.cell (World.block_lt_of_cell? w _ hx605_0)).trans hx605_0
                          replace hx605_1 := (HB.out.cell (World.block_lt_of_cell? w _ hx605_1)).trans hx605_1
                          replace hx605_2 := (HB.out.cell (World.block_lt_of_cell? w _ hx605_2)).trans hx605_2
                          replace hx605_3 := (HB.out.cell (World.block_lt_of_cell? w _ hx605_3)).trans hx605_3
                          have HR605_2 := Aside0.mk hi605_2
                          have HC605_2 := Aside0.mk hl605_2
                          clear hi605_2 hl605_2
                          replace p605 := eq_true p605
                          replace q605 := eq_true q605
                          go_wp2
                          go_roundg k2
                          case measure => have := HJ6.out; have := HK2.out; omega
                          case rel => exact ⟨(wrap64 (x6_2 + 1)), (by first | rfl | (simp; done) | (simp [*]; done)), H', ⟨by have := HJ6.out; have := HK2.out; omega⟩, ⟨by repeat (first | (with_reducible first | exact HB.out | apply below_alloc | apply pw_below_drewN | apply below_drew1) | exact HB.out)⟩⟩
                      · replace c20 := Bool.eq_false_iff.mpr c20
                        subst c20
                        have H1 : (some false) = some r := by rw [if_neg (show ¬ (false = true) by decide)] at H; exact H
                        clear H
                        have H := H1
                        clear H1
                        obtain rfl := Option.some.inj H
                        have p605 : 0 ≤ (x6_2 : Int) := of_decide_eq_true hA_
                        have q605 : x6_2 < (l0.length : Int) := of_decide_eq_true hA_
                        obtain ⟨ad605, A605_2, c605_2, e605, hx605_0, hx605_1, hx605_2, hx605_3, hl605_2, hi605_2⟩ := at_T44 HR0.out x6_2 p605 q605
                        cases e605
                        replace hx605_0 := (HB.out.cell (World.block_lt_of_cell? w _ hx605_0)).trans hx605_0
                        replace hx605_1 := (HB.out.cell (World.block_lt_of_cell? w _ hx605_1)).trans hx605_1
                        replace hx605_2 := (HB.out.cell (World.block_lt_of_cell? w _ hx605_2)).trans hx605_2
                        replace hx605_3 := (HB.out.cell (World.block_lt_of_cell? w _ hx605_3)).trans hx605_3
                        have HR605_2 := Aside0.mk hi605_2
                        have HC605_2 := Aside0.mk hl605_2
                        clear hi605_2 hl605_2
                        replace p605 := eq_true p605
                        replace q605 := eq_true q605
                        go_wp2
                        go_ret
                        exact ⟨by first | rfl | (simp [errW_none, errW_some] <;> rfl) | (simp [*, errW_none, errW_some] <;> rfl), by repeat (first | (with_reducible first | exact HB.out | apply below_alloc | apply pw_below_drewN | apply below_drew1) | exact HB.out)⟩
                    · rw [if_neg c19] at H
                      have c19b0 : (((rd_T44 l0 x6_2).f3).toList == ([33] : List UInt8)) = false := beq_eq_false_iff_ne.mpr c19
                      have c19b1 : (((rd_T44 l0 x6_2).f3).toList != ([33] : List UInt8)) = true := bne_iff_ne.mpr c19
                      have H' := Aside0.mk H
                      clear H
                      have p605 : 0 ≤ (x6_2 : Int) := of_decide_eq_true hA_
                      have q605 : x6_2 < (l0.length : Int) := of_decide_eq_true hA_
                      obtain ⟨ad605, A605_2, c605_2, e605, hx605_0, hx605_1, hx605_2, hx605_3, hl605_2, hi605_2⟩ := at_T44 HR0.out x6_2 p605 q605
                      cases e605
                      replace hx605_0 := (HB.out.cell (World.block_lt_of_cell? w _ hx605_0)).trans hx605_0
                      replace hx605_1 := (HB.out.cell (World.block_lt_of_cell? w _ hx605_1)).trans hx605_1
                      replace hx605_2 := (HB.out.cell (World.block_lt_of_cell? w _ hx605_2)).trans hx605_2
                      replace hx605_3 := (HB.out.cell (World.block_lt_of_cell? w _ hx605_3)).trans hx605_3
                      have HR605_2 := Aside0.mk hi605_2
                      have HC605_2 := Aside0.mk hl605_2
                      clear hi605_2 hl605_2
                      replace p605 := eq_true p605
                      replace q605 := eq_true q605
                      go_wp2
                      go_roundg k2
                      case measure => have := HJ6.out; have := HK2.out; omega
                      case rel => exact ⟨(wrap64 (x6_2 + 1)), (by first | rfl | (simp; done) | (simp [*]; done)), H', ⟨by have := HJ6.out; have := HK2.out; omega⟩, ⟨by repeat (first | (with_reducible first | exact HB.out | apply below_alloc | apply pw_below_drewN | apply below_drew1) | exact HB.out)⟩⟩
                  · rw [if_neg c18] at H
                    exact absurd H (by simp)
                · rw [if_neg c17] at H
                  have c17b0 : decide (x6_2 < (l0.length : Int)) = false := decide_eq_false c17
                  clear c17
                  obtain rfl := Option.some.inj H
                  go_wp2
                  go_ret
                  exact ⟨by first | rfl | (simp [errW_none, errW_some] <;> rfl) | (simp [*, errW_none, errW_some] <;> rfl), by repeat (first | (with_reducible first | exact HB.out | apply below_alloc | apply pw_below_drewN | apply below_drew1) | exact HB.out)⟩
    · rw [if_neg c6] at H
      have c6b0 : (t602 == 0) = false := beq_eq_false_iff_ne.mpr c6
      have c6b1 : (t602 != 0) = true := bne_iff_ne.mpr c6
      by_cases c22 : t600 = true
      · subst c22
        have H1 : (some false) = some r := by rw [if_pos rfl] at H; exact H
        clear H
        have H := H1
        clear H1
        obtain rfl := Option.some.inj H
        go_enter Tryd.func12, Tryd.ntmps12
        go_wp2_with (first | ((with_reducible refine gate_callee (f := 30) rfl ?_); refine goesL_ (some 7) rfl rfl Tryd.func30 (by kernel_rfl) rfl #[] rfl hL_ ?_; (with_reducible refine (sleuthlaw24_awake.calls k  true _ A2.out hG_).mono ?_); rintro e w23 ⟨rfl, hb⟩; refine ⟨_, rfl, ?_⟩; have n0_ := Aside0.mk (below_step hB_ hb); clear HB; have HB := n0_; clear n0_; (try clear hb); (try clear hb2); (try clear hk); (try clear hi)) | ((with_reducible refine gate_callee (f := 28) rfl ?_); refine goesL_ (some 11) rfl rfl Tryd.func28 (by kernel_rfl) rfl #[.slice A0 l0.length c0] rfl hL_ ?_; (with_reducible refine (back_Last.calls k _ _ l0 t599 true t601 _ ?side1 ?side2 A4.out hG_).mono ?_); (case side1 => repeat (first | exact (Kd.C_below HR0.out HB.out) | (with_reducible refine Kd.C_alloc ?_ _) | (with_reducible refine Kd.C_drewN ?_ _) | (with_reducible refine Kd.C_drew ?_))); (case side2 => exact HC0.out); rintro e w24 ⟨rfl, hb⟩; refine ⟨_, rfl, ?_⟩; have n0_ := Aside0.mk (below_step hB_ hb); clear HB; have HB := n0_; clear n0_; (try clear hb); (try clear hb2); (try clear hk); (try clear hi)) | ((with_reducible refine gate_callee (f := 20) rfl ?_); refine goesL_ (some 16) rfl rfl Tryd.func20 (by kernel_rfl) rfl #[.int .i64 t601] rfl hL_ ?_; (with_reducible refine (sleuthlaw0_Num.calls t601 t602 _ A5.out).mono ?_); rintro e w' ⟨rfl, ⟨nd, rfl⟩⟩; refine ⟨_, rfl, ?_⟩))
        go_ret
        exact ⟨by first | rfl | (simp [errW_none, errW_some] <;> rfl) | (simp [*, errW_none, errW_some] <;> rfl), by repeat (first | (with_reducible first | exact HB.out | apply below_alloc | apply pw_below_drewN | apply below_drew1) | exact HB.out)⟩
      · replace c22 := Bool.eq_false_iff.mpr c22
        subst c22
        have H1 : (if t599 = 0 then ((sleuthref12_TrailMay.f k l0).bind fun t603 => (some (!t603))) else (some false)) = some r := by rw [if_neg (show ¬ (false = true) by decide)] at H; exact H
        clear H
        have H := H1
        clear H1
        by_cases c25 : t599 = 0
        · rw [if_pos c25] at H
          have c25b0 : (t599 == 0) = true := beq_iff_eq.mpr c25
          have c25b1 : (t599 != 0) = false := bne_eq_false_iff_eq.mpr c25
          clear c25
          replace H := Option.bind_eq_some_iff.mp H
          obtain ⟨t603, A260, H⟩ := H
          replace H : (some (!t603)) = some r := H
          have A26 := Aside0.mk A260
          clear A260
          obtain rfl := Option.some.inj H
          go_enter Tryd.func12, Tryd.ntmps12
          go_wp2_with (first | ((with_reducible refine gate_callee (f := 30) rfl ?_); refine goesL_ (some 7) rfl rfl Tryd.func30 (by kernel_rfl) rfl #[] rfl hL_ ?_; (with_reducible refine (sleuthlaw24_awake.calls k  true _ A2.out hG_).mono ?_); rintro e w27 ⟨rfl, hb⟩; refine ⟨_, rfl, ?_⟩; have n0_ := Aside0.mk (below_step hB_ hb); clear HB; have HB := n0_; clear n0_; (try clear hb); (try clear hb2); (try clear hk); (try clear hi)) | ((with_reducible refine gate_callee (f := 28) rfl ?_); refine goesL_ (some 11) rfl rfl Tryd.func28 (by kernel_rfl) rfl #[.slice A0 l0.length c0] rfl hL_ ?_; (with_reducible refine (back_Last.calls k _ _ l0 t599 false t601 _ ?side1 ?side2 A4.out hG_).mono ?_); (case side1 => repeat (first | exact (Kd.C_below HR0.out HB.out) | (with_reducible refine Kd.C_alloc ?_ _) | (with_reducible refine Kd.C_drewN ?_ _) | (with_reducible refine Kd.C_drew ?_))); (case side2 => exact HC0.out); rintro e w28 ⟨rfl, hb⟩; refine ⟨_, rfl, ?_⟩; have n0_ := Aside0.mk (below_step hB_ hb); clear HB; have HB := n0_; clear n0_; (try clear hb); (try clear hb2); (try clear hk); (try clear hi)) | ((with_reducible refine gate_callee (f := 20) rfl ?_); refine goesL_ (some 16) rfl rfl Tryd.func20 (by kernel_rfl) rfl #[.int .i64 t601] rfl hL_ ?_; (with_reducible refine (sleuthlaw0_Num.calls t601 t602 _ A5.out).mono ?_); rintro e w' ⟨rfl, ⟨nd, rfl⟩⟩; refine ⟨_, rfl, ?_⟩) | (go_at_call 24; (with_reducible refine (sleuthref12_TrailMay.calls k _ _ l0 t603 _ ?side1 ?side2 A26.out).mono ?_); (case side1 => repeat (first | exact (Kd.C_below HR0.out hB_) | (with_reducible refine Kd.C_alloc ?_ _) | (with_reducible refine Kd.C_drewN ?_ _) | (with_reducible refine Kd.C_drew ?_))); (case side2 => exact HC0.out); rintro e w29 ⟨rfl, hb⟩; have n0_ := Aside0.mk (below_step hB_ hb); clear HB; have HB := n0_; clear n0_; (try clear hb); (try clear hb2); (try clear hk); (try clear hi)))
          go_ret
          exact ⟨by first | rfl | (simp [errW_none, errW_some] <;> rfl) | (simp [*, errW_none, errW_some] <;> rfl), by repeat (first | (with_reducible first | exact HB.out | apply below_alloc | apply pw_below_drewN | apply below_drew1) | exact HB.out)⟩
        · rw [if_neg c25] at H
          have c25b0 : (t599 == 0) = false := beq_eq_false_iff_ne.mpr c25
          have c25b1 : (t599 != 0) = true := bne_iff_ne.mpr c25
          obtain rfl := Option.some.inj H
          go_enter Tryd.func12, Tryd.ntmps12
          go_wp2_with (first | ((with_reducible refine gate_callee (f := 30) rfl ?_); refine goesL_ (some 7) rfl rfl Tryd.func30 (by kernel_rfl) rfl #[] rfl hL_ ?_; (with_reducible refine (sleuthlaw24_awake.calls k  true _ A2.out hG_).mono ?_); rintro e w30 ⟨rfl, hb⟩; refine ⟨_, rfl, ?_⟩; have n0_ := Aside0.mk (below_step hB_ hb); clear HB; have HB := n0_; clear n0_; (try clear hb); (try clear hb2); (try clear hk); (try clear hi)) | ((with_reducible refine gate_callee (f := 28) rfl ?_); refine goesL_ (some 11) rfl rfl Tryd.func28 (by kernel_rfl) rfl #[.slice A0 l0.length c0] rfl hL_ ?_; (with_reducible refine (back_Last.calls k _ _ l0 t599 false t601 _ ?side1 ?side2 A4.out hG_).mono ?_); (case side1 => repeat (first | exact (Kd.C_below HR0.out HB.out) | (with_reducible refine Kd.C_alloc ?_ _) | (with_reducible refine Kd.C_drewN ?_ _) | (with_reducible refine Kd.C_drew ?_))); (case side2 => exact HC0.out); rintro e w31 ⟨rfl, hb⟩; refine ⟨_, rfl, ?_⟩; have n0_ := Aside0.mk (below_step hB_ hb); clear HB; have HB := n0_; clear n0_; (try clear hb); (try clear hb2); (try clear hk); (try clear hi)) | ((with_reducible refine gate_callee (f := 20) rfl ?_); refine goesL_ (some 16) rfl rfl Tryd.func20 (by kernel_rfl) rfl #[.int .i64 t601] rfl hL_ ?_; (with_reducible refine (sleuthlaw0_Num.calls t601 t602 _ A5.out).mono ?_); rintro e w' ⟨rfl, ⟨nd, rfl⟩⟩; refine ⟨_, rfl, ?_⟩))
          go_ret
          exact ⟨by first | rfl | (simp [errW_none, errW_some] <;> rfl) | (simp [*, errW_none, errW_some] <;> rfl), by repeat (first | (with_reducible first | exact HB.out | apply below_alloc | apply pw_below_drewN | apply below_drew1) | exact HB.out)⟩
  · replace c3 := Bool.eq_false_iff.mpr c3
    subst c3
    have H1 : (some false) = some r := by rw [if_neg (show ¬ (false = true) by decide)] at H; exact H
    clear H
    have H := H1
    clear H1
    obtain rfl := Option.some.inj H
    go_enter Tryd.func12, Tryd.ntmps12
    go_wp2_with (first | ((with_reducible refine gate_callee (f := 30) rfl ?_); refine goesL_ (some 7) rfl rfl Tryd.func30 (by kernel_rfl) rfl #[] rfl hL_ ?_; (with_reducible refine (sleuthlaw24_awake.calls k  false _ A2.out hG_).mono ?_); rintro e w32 ⟨rfl, hb⟩; refine ⟨_, rfl, ?_⟩; have n0_ := Aside0.mk (below_step hB_ hb); clear HB; have HB := n0_; clear n0_; (try clear hb); (try clear hb2); (try clear hk); (try clear hi)))
    go_ret
    exact ⟨by first | rfl | (simp [errW_none, errW_some] <;> rfl) | (simp [*, errW_none, errW_some] <;> rfl), by repeat (first | (with_reducible first | exact HB.out | apply below_alloc | apply pw_below_drewN | apply below_drew1) | exact HB.out)⟩

end Go.Proofs.YtgcdbpnflchobaaDoor.G
