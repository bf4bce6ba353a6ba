-- Laid by the session's own driver gp.py over the kit's printer. Not trusted: Lean checks it.
import Derived.Test.YtpbobdgenjhjoaaDoorG0
namespace Go.Proofs.YtpbobdgenjhjoaaDoor.G
open Go.RowKit Go.Proofs.YtpbobdgenjhjoaaDoorW.PrintWords Go.Proofs.YtpbobdgenjhjoaaDoorW.PrintLast Go.Proofs.YtpbobdgenjhjoaaDoorW.PrintMore
attribute [local go_sem] max2_int min2_int max_two min_two max_three min_three max_four min_four   -- for this text's walks alone
set_option linter.unusedVariables false
set_option linter.unusedSimpArgs false

/-! ### sleuthlaw19_doubts: function 26 -/
mutual
def sleuthlaw19_doubts.l0 : Nat → List (S41) → List Int → Int → Int → Option (Int)
  | 0, _, _, _, _ => none
  | k + 1, x0, x1, x5, x6 => if x6 < (x0.length : Int) then (if 0 ≤ x6 then (if x6 < (x1.length : Int) then (if (rd x1 x6) = 2 then (sleuthlaw19_doubts.l0 k x0 x1 x6 (wrap64 (x6 + 1))) else (sleuthlaw19_doubts.l0 k x0 x1 x5 (wrap64 (x6 + 1)))) else (none)) else (none)) else (if 0 ≤ (x0.length : Int) then (if ((x0.length : Int) : Int).toNat ≤ 281474976710656 then (sleuthlaw19_doubts.l1 k x0 x1 x5 (List.replicate ((x0.length : Int) : Int).toNat false) 0 (wrap64 (x5 + 1))) else (none)) else (none))
def sleuthlaw19_doubts.l1 : Nat → List (S41) → List Int → Int → List Bool → Int → Int → Option (Int)
  | 0, _, _, _, _, _, _ => none
  | k + 1, x0, x1, x5, x7, x8, x9 => if x9 < (x0.length : Int) then (if 0 ≤ x9 then (if ((rd_T41 x0 x9).f1) = x5 then (if x9 < (x1.length : Int) then (if x9 < (x7.length : Int) then ((some (x7.set (x9 : Int).toNat ((rd x1 x9) != 1) : List Bool)).bind fun y486 => (if rdOf false y486 x9 = true then (if (rd x1 x9) = 0 then (sleuthlaw19_doubts.l1 k x0 x1 x5 y486 (wrap64 (x8 + 1)) (wrap64 (x9 + 1))) else (sleuthlaw19_doubts.l1 k x0 x1 x5 y486 x8 (wrap64 (x9 + 1)))) else (sleuthlaw19_doubts.l1 k x0 x1 x5 y486 x8 (wrap64 (x9 + 1))))) else (none)) else (none)) else (if 0 ≤ ((rd_T41 x0 x9).f1) then (if ((rd_T41 x0 x9).f1) < (x7.length : Int) then (if rdOf false x7 ((rd_T41 x0 x9).f1) = true then (if x9 < (x1.length : Int) then (if x9 < (x7.length : Int) then ((some (x7.set (x9 : Int).toNat ((rd x1 x9) != 1) : List Bool)).bind fun y492 => (if rdOf false y492 x9 = true then (if (rd x1 x9) = 0 then (sleuthlaw19_doubts.l1 k x0 x1 x5 y492 (wrap64 (x8 + 1)) (wrap64 (x9 + 1))) else (sleuthlaw19_doubts.l1 k x0 x1 x5 y492 x8 (wrap64 (x9 + 1)))) else (sleuthlaw19_doubts.l1 k x0 x1 x5 y492 x8 (wrap64 (x9 + 1))))) else (none)) else (none)) else (if x9 < (x7.length : Int) then ((some (x7.set (x9 : Int).toNat false : List Bool)).bind fun y495 => (if rdOf false y495 x9 = true then (if x9 < (x1.length : Int) then (if (rd x1 x9) = 0 then (sleuthlaw19_doubts.l1 k x0 x1 x5 y495 (wrap64 (x8 + 1)) (wrap64 (x9 + 1))) else (sleuthlaw19_doubts.l1 k x0 x1 x5 y495 x8 (wrap64 (x9 + 1)))) else (none)) else (sleuthlaw19_doubts.l1 k x0 x1 x5 y495 x8 (wrap64 (x9 + 1))))) else (none))) else (none)) else (none))) else (none)) else (some x8)
end
def sleuthlaw19_doubts.f (k : Nat) (l0 : List (S41)) (l1 : List Int) : Option (Int) := sleuthlaw19_doubts.l0 k l0 l1 0 0
theorem sleuthlaw19_doubts.mono_l : ∀ k, (∀ y0 y1 y2 y3, LeO (sleuthlaw19_doubts.l0 k y0 y1 y2 y3) (sleuthlaw19_doubts.l0 (k + 1) y0 y1 y2 y3)) ∧ (∀ y0 y1 y2 y3 y4 y5, LeO (sleuthlaw19_doubts.l1 k y0 y1 y2 y3 y4 y5) (sleuthlaw19_doubts.l1 (k + 1) y0 y1 y2 y3 y4 y5))
  | 0 => ⟨fun _ _ _ _ r h => by simp [sleuthlaw19_doubts.l0] at h, fun _ _ _ _ _ _ r h => by simp [sleuthlaw19_doubts.l1] at h⟩
  | k + 1 => by
    obtain ⟨ih0, ih1⟩ := sleuthlaw19_doubts.mono_l k
    refine ⟨?_, ?_⟩
    · intro y0 y1 y2 y3
      unfold sleuthlaw19_doubts.l0
      repeat' first
      | (with_reducible exact ih0 _ _ _ _)
      | (with_reducible exact ih1 _ _ _ _ _ _)
      | (with_reducible exact LeO.refl _)
      | (with_reducible exact LeO.none _)
      | (with_reducible refine LeO.ite ?_ ?_)
      | (with_reducible refine LeO.bind ?_ (fun _ => ?_))
      | exact ih0 _ _ _ _
      | exact ih1 _ _ _ _ _ _
      | exact LeO.none _
      | refine LeO.ite ?_ ?_
      | refine LeO.bind ?_ (fun _ => ?_)
    · intro y0 y1 y2 y3 y4 y5
      unfold sleuthlaw19_doubts.l1
      repeat' first
      | (with_reducible exact ih0 _ _ _ _)
      | (with_reducible exact ih1 _ _ _ _ _ _)
      | (with_reducible exact LeO.refl _)
      | (with_reducible exact LeO.none _)
      | (with_reducible refine LeO.ite ?_ ?_)
      | (with_reducible refine LeO.bind ?_ (fun _ => ?_))
      | exact ih0 _ _ _ _
      | exact ih1 _ _ _ _ _ _
      | exact LeO.none _
      | refine LeO.ite ?_ ?_
      | refine LeO.bind ?_ (fun _ => ?_)
theorem sleuthlaw19_doubts.mono : ∀ a0 a1 k, LeO (sleuthlaw19_doubts.f k a0 a1) (sleuthlaw19_doubts.f (k + 1) a0 a1) := by
  intro a0 a1 k
  obtain ⟨ih0, ih1⟩ := sleuthlaw19_doubts.mono_l k
  unfold sleuthlaw19_doubts.f
  repeat' first
      | (with_reducible exact ih0 _ _ _ _)
      | (with_reducible exact ih1 _ _ _ _ _ _)
      | (with_reducible exact LeO.refl _)
      | (with_reducible exact LeO.none _)
      | (with_reducible refine LeO.ite ?_ ?_)
      | (with_reducible refine LeO.bind ?_ (fun _ => ?_))
      | exact ih0 _ _ _ _
      | exact ih1 _ _ _ _ _ _
      | exact LeO.none _
      | refine LeO.ite ?_ ?_
      | refine LeO.bind ?_ (fun _ => ?_)
set_option maxHeartbeats 8000000 in
set_option maxRecDepth 100000 in
theorem sleuthlaw19_doubts.calls (k : Nat) (A0 : Option Addr) (c0 : Nat) (l0 : List (S41)) (A1 : Option Addr) (c1 : Nat) (l1 : List Int) (r : Int) (w : World) (hr0 : Kd.C k41 w A0 l0.length l0) (hc0 : l0.length ≤ c0) (hr1 : Kd.C (Kd.int .i64) w A1 l1.length l1) (hc1 : l1.length ≤ c1) (h : sleuthlaw19_doubts.f k l0 l1 = some r) :
    Calls Tryd.prog 26 #[.slice A0 l0.length c0, .slice A1 l1.length c1] w fun e w' => e = .returned (.int .i64 r) ∧ Below w.heap.size w w' := by
  have HR0 := Aside0.mk hr0
  have HC0 := Aside0.mk hc0
  clear hr0 hc0
  have HR1 := Aside0.mk hr1
  have HC1 := Aside0.mk hc1
  clear hr1 hc1
  have HB := Aside0.mk (Below.refl w.heap.size w)
  have H : (sleuthlaw19_doubts.l0 k l0 l1 0 0) = some r := h
  clear h
  have H' := Aside0.mk H
  clear H
  go_enter Tryd.func26, Tryd.ntmps26
  go_wp2
  go_loopg [5, 6] k (fun kq v5 v6 w' => ∃ (x5_1 : Int) (x6_1 : Int), v5 = .int .i64 x5_1 ∧ v6 = .int .i64 x6_1 ∧ Aside0 (sleuthlaw19_doubts.l0 kq l0 l1 x5_1 x6_1 = some r) ∧ Aside0 (kq ≤ k) ∧ Aside0 (Below w.heap.size w w'))
  case atStart => exact ⟨(0), (0), (by first | rfl | (simp; done) | (simp [*]; done)), (by first | rfl | (simp; done) | (simp [*]; done)), H', ⟨Nat.le_refl _⟩, ⟨by repeat (first | (with_reducible first | exact HB.out | apply below_alloc | apply pw_below_drewN | apply below_drew1) | exact HB.out)⟩⟩
  case round =>
    clear H'
    try clear c1
    try clear c2
    try clear p2
    obtain ⟨x5_1, x6_1, rfl, rfl, HA, HK1, HB⟩ := hrel
    cases gk with
    | zero => exact absurd HA.out (by simp [sleuthlaw19_doubts.l0])
    | succ k1 =>
      have H := HA.out
      clear HA
      simp only [sleuthlaw19_doubts.l0] at H
      by_cases c3 : x6_1 < (l0.length : Int)
      · rw [if_pos c3] at H
        have c3b0 : decide (x6_1 < (l0.length : Int)) = true := decide_eq_true c3
        clear c3
        by_cases c4 : 0 ≤ x6_1
        · rw [if_pos c4] at H
          have c4b0 : decide (0 ≤ x6_1) = true := decide_eq_true c4
          clear c4
          by_cases c5 : x6_1 < (l1.length : Int)
          · rw [if_pos c5] at H
            have c5b0 : decide (x6_1 < (l1.length : Int)) = true := decide_eq_true c5
            clear c5
            by_cases c6 : (rd l1 x6_1) = 2
            · rw [if_pos c6] at H
              have c6b0 : ((rd l1 x6_1) == 2) = true := beq_iff_eq.mpr c6
              have c6b1 : ((rd l1 x6_1) != 2) = false := bne_eq_false_iff_eq.mpr c6
              clear c6
              have H' := Aside0.mk H
              clear H
              have p480 : 0 ≤ (x6_1 : Int) := of_decide_eq_true hA_
              have q480 : x6_1 < (l1.length : Int) := of_decide_eq_true hA_
              obtain ⟨ad480, e480, hx480_0⟩ := Kd.at_int HR1.out x6_1 p480 q480
              cases e480
              replace hx480_0 := (HB.out.cell (World.block_lt_of_cell? w _ hx480_0)).trans hx480_0
              replace p480 := eq_true p480
              replace q480 := eq_true q480
              go_wp2
              go_roundg k1
              case measure => have := HK1.out; omega
              case rel => exact ⟨(x6_1), (wrap64 (x6_1 + 1)), (by first | rfl | (simp; done) | (simp [*]; done)), (by first | rfl | (simp; done) | (simp [*]; done)), H', ⟨by have := HK1.out; omega⟩, ⟨by repeat (first | (with_reducible first | exact HB.out | apply below_alloc | apply pw_below_drewN | apply below_drew1) | exact HB.out)⟩⟩
            · rw [if_neg c6] at H
              have c6b0 : ((rd l1 x6_1) == 2) = false := beq_eq_false_iff_ne.mpr c6
              have c6b1 : ((rd l1 x6_1) != 2) = true := bne_iff_ne.mpr c6
              have H' := Aside0.mk H
              clear H
              have p480 : 0 ≤ (x6_1 : Int) := of_decide_eq_true hA_
              have q480 : x6_1 < (l1.length : Int) := of_decide_eq_true hA_
              obtain ⟨ad480, e480, hx480_0⟩ := Kd.at_int HR1.out x6_1 p480 q480
              cases e480
              replace hx480_0 := (HB.out.cell (World.block_lt_of_cell? w _ hx480_0)).trans hx480_0
              replace p480 := eq_true p480
              replace q480 := eq_true q480
              go_wp2
              go_roundg k1
              case measure => have := HK1.out; omega
              case rel => exact ⟨(x5_1), (wrap64 (x6_1 + 1)), (by first | rfl | (simp; done) | (simp [*]; done)), (by first | rfl | (simp; done) | (simp [*]; done)), H', ⟨by have := HK1.out; omega⟩, ⟨by repeat (first | (with_reducible first | exact HB.out | apply below_alloc | apply pw_below_drewN | apply below_drew1) | exact HB.out)⟩⟩
          · rw [if_neg c5] at H
            exact absurd H (by simp)
        · rw [if_neg c4] at H
          exact absurd H (by simp)
      · rw [if_neg c3] at H
        have c3b0 : decide (x6_1 < (l0.length : Int)) = false := decide_eq_false c3
        clear c3
        by_cases c7 : 0 ≤ (l0.length : Int)
        · rw [if_pos c7] at H
          have c7b0 := eq_true c7
          have c7b1 : decide (0 ≤ (l0.length : Int)) = true := decide_eq_true c7
          clear c7
          by_cases c8 : ((l0.length : Int) : Int).toNat ≤ 281474976710656
          · rw [if_pos c8] at H
            have c8b0 := eq_true c8
            have c8b1 : decide (((l0.length : Int) : Int).toNat ≤ 281474976710656) = true := decide_eq_true c8
            clear c8
            obtain ⟨y481, hy481⟩ : ∃ y_ : List Bool, y_ = (List.replicate ((l0.length : Int) : Int).toNat false) := ⟨_, rfl⟩
            replace H : (sleuthlaw19_doubts.l1 k1 l0 l1 x5_1 y481 0 (wrap64 (x5_1 + 1))) = some r := by first | (rw [hy481]; with_reducible exact H) | (have H2_ := (Option.bind_some _ _).symm.trans H; rw [hy481]; with_reducible exact H2_) | (have H2_ := (Option.bind_some _ _).symm.trans H; with_reducible exact H2_) | with_reducible exact H | (rw [hy481]; exact H) | exact H
            have Ny481 := Aside0.mk hy481
            clear hy481
            have H' := Aside0.mk H
            clear H
            go_wp2_with (first | ((with_reducible refine gate_dst (N := 24) rfl ?_); refine Kd.R_make Kd.bool _ 4 rfl (N := 24) rfl 54 _ _ rfl (l0.length : Int) rfl rfl Tryd.underlying54 (.bool false) 1 info4 rfl (by decide) (by omega) false (ok := fun _ => True) (okp := fun _ => True) rfl (fun _ hk => hk) trivial (of_decide_eq_true hA_) (Nat.le_trans (Nat.mul_le_mul_right _ (of_decide_eq_true hA_ : (l0.length : Int).toNat ≤ 281474976710656)) (by omega)) (Below.refl _ _) (Nat.le_refl _) ?_; intro v482 w9 ho10 hb hg_ hnew_; clear hg_ hnew_; (first | rw [← Ny481.out] at ho10 | (simp only [Int.reduceToNat] at ho10; rw [← Ny481.out] at ho10)); have n0_ := Aside0.mk (Kd.R_lower ho10 hS_); have n1_ := Aside0.mk (below_step hB_ hb); clear HB; have HO483 := n0_; have HB := n1_; clear n0_ n1_; clear hb ho10))
            go_loopg [8, 9] k1 (fun kq v8 v9 w' => ∃ (x7_2 : List Bool) (x8_2 : Int) (x9_2 : Int), v8 = .int .i64 x8_2 ∧ v9 = .int .i64 x9_2 ∧ Aside0 (sleuthlaw19_doubts.l1 kq l0 l1 x5_1 x7_2 x8_2 x9_2 = some r) ∧ Aside0 (kq ≤ k1) ∧ Aside0 (Kd.R Kd.bool 4 w' w.heap.size (fun _ => True) v482 x7_2) ∧ Aside0 (Below w.heap.size w w'))
            case atStart => exact ⟨(y481), (0), (wrap64 (x5_1 + 1)), (by first | rfl | (simp; done) | (simp [*]; done)), (by first | rfl | (simp; done) | (simp [*]; done)), H', ⟨Nat.le_refl _⟩, ⟨by (with_reducible repeat (first | apply Kd.R_alloc | apply Kd.R_drewN | apply Kd.R_drew)); exact HO483.out⟩, ⟨by repeat (first | (with_reducible first | exact HB.out | apply below_alloc | apply pw_below_drewN | apply below_drew1) | exact HB.out)⟩⟩
            case round =>
              clear H'
              try clear c1
              try clear c2
              try clear p2
              try clear c3
              try clear c3b0
              try clear c4
              try clear c4b0
              try clear p4
              try clear q4
              try clear hx4
              try clear c5
              try clear c5b0
              try clear c6
              try clear c6b0
              try clear c6b1
              try clear p6
              try clear c7
              try clear c7b0
              try clear c7b1
              try clear c8
              try clear c8b0
              try clear c8b1
              try clear hx480_0
              try clear p2
              try clear p480
              try clear q480
              obtain ⟨x7_2, x8_2, x9_2, rfl, rfl, HA, HK2, HO_7, HB⟩ := hrel
              cases gk with
              | zero => exact absurd HA.out (by simp [sleuthlaw19_doubts.l1])
              | succ k2 =>
                have H := HA.out
                clear HA
                simp only [sleuthlaw19_doubts.l1] at H
                by_cases c11 : x9_2 < (l0.length : Int)
                · rw [if_pos c11] at H
                  have c11b0 : decide (x9_2 < (l0.length : Int)) = true := decide_eq_true c11
                  clear c11
                  by_cases c12 : 0 ≤ x9_2
                  · rw [if_pos c12] at H
                    have c12b0 : decide (0 ≤ x9_2) = true := decide_eq_true c12
                    clear c12
                    by_cases c13 : ((rd_T41 l0 x9_2).f1) = x5_1
                    · rw [if_pos c13] at H
                      have c13b0 : (((rd_T41 l0 x9_2).f1) == x5_1) = true := beq_iff_eq.mpr c13
                      have c13b1 : (((rd_T41 l0 x9_2).f1) != x5_1) = false := bne_eq_false_iff_eq.mpr c13
                      clear c13
                      by_cases c14 : x9_2 < (l1.length : Int)
                      · rw [if_pos c14] at H
                        have c14b0 : decide (x9_2 < (l1.length : Int)) = true := decide_eq_true c14
                        clear c14
                        by_cases c15 : x9_2 < (x7_2.length : Int)
                        · rw [if_pos c15] at H
                          have c15b0 : decide (x9_2 < (x7_2.length : Int)) = true := decide_eq_true c15
                          clear c15
                          obtain ⟨y486, hy486⟩ : ∃ y_ : List Bool, y_ = (x7_2.set (x9_2 : Int).toNat ((rd l1 x9_2) != 1)) := ⟨_, rfl⟩
                          replace H : (if rdOf false y486 x9_2 = true then (if (rd l1 x9_2) = 0 then (sleuthlaw19_doubts.l1 k2 l0 l1 x5_1 y486 (wrap64 (x8_2 + 1)) (wrap64 (x9_2 + 1))) else (sleuthlaw19_doubts.l1 k2 l0 l1 x5_1 y486 x8_2 (wrap64 (x9_2 + 1)))) else (sleuthlaw19_doubts.l1 k2 l0 l1 x5_1 y486 x8_2 (wrap64 (x9_2 + 1)))) = some r := by first | (rw [hy486]; with_reducible exact H) | (have H2_ := (Option.bind_some _ _).symm.trans H; rw [hy486]; with_reducible exact H2_) | (have H2_ := (Option.bind_some _ _).symm.trans H; with_reducible exact H2_) | with_reducible exact H | (rw [hy486]; exact H) | exact H
                          have Ny486 := Aside0.mk hy486
                          clear hy486
                          obtain ⟨bq17, hbq17⟩ : ∃ b_ : Bool, b_ = (rdOf false y486 x9_2) := ⟨_, rfl⟩
                          replace H : (if bq17 = true then (if (rd l1 x9_2) = 0 then (sleuthlaw19_doubts.l1 k2 l0 l1 x5_1 y486 (wrap64 (x8_2 + 1)) (wrap64 (x9_2 + 1))) else (sleuthlaw19_doubts.l1 k2 l0 l1 x5_1 y486 x8_2 (wrap64 (x9_2 + 1)))) else (sleuthlaw19_doubts.l1 k2 l0 l1 x5_1 y486 x8_2 (wrap64 (x9_2 + 1)))) = some r := by rw [← hbq17] at H; exact H
                          have Nbq17 := Aside0.mk hbq17
                          clear hbq17
                          by_cases c18 : bq17 = true
                          · subst c18
                            have H1 : (if (rd l1 x9_2) = 0 then (sleuthlaw19_doubts.l1 k2 l0 l1 x5_1 y486 (wrap64 (x8_2 + 1)) (wrap64 (x9_2 + 1))) else (sleuthlaw19_doubts.l1 k2 l0 l1 x5_1 y486 x8_2 (wrap64 (x9_2 + 1)))) = some r := by rw [if_pos rfl] at H; exact H
                            clear H
                            have H := H1
                            clear H1
                            by_cases c19 : (rd l1 x9_2) = 0
                            · rw [if_pos c19] at H
                              have c19b0 : ((rd l1 x9_2) == 0) = true := beq_iff_eq.mpr c19
                              have c19b1 : ((rd l1 x9_2) != 0) = false := bne_eq_false_iff_eq.mpr c19
                              clear c19
                              have H' := Aside0.mk H
                              clear H
                              have p484 : 0 ≤ (x9_2 : Int) := of_decide_eq_true hA_
                              have q484 : x9_2 < (l0.length : Int) := of_decide_eq_true hA_
                              obtain ⟨ad484, A484_2, c484_2, e484, hx484_0, hx484_1, hx484_2, hx484_3, hl484_2, hi484_2⟩ := at_T41 HR0.out x9_2 p484 q484
                              cases e484
                              replace hx484_0 := (HB.out.cell (World.block_lt_of_cell? w _ hx484_0)).trans hx484_0
                              replace hx484_1 := (HB.out.cell (World.block_lt_of_cell? w _ hx484_1)).trans hx484_1
                              replace hx484_2 := (HB.out.cell (World.block_lt_of_cell? w _ hx484_2)).trans hx484_2
                              replace hx484_3 := (HB.out.cell (World.block_lt_of_cell? w _ hx484_3)).trans hx484_3
                              have HR484_2 := Aside0.mk hi484_2
                              have HC484_2 := Aside0.mk hl484_2
                              clear hi484_2 hl484_2
                              replace p484 := eq_true p484
                              replace q484 := eq_true q484
                              have p485 : 0 ≤ (x9_2 : Int) := of_decide_eq_true hA_
                              have q485 : x9_2 < (l1.length : Int) := of_decide_eq_true hA_
                              obtain ⟨ad485, e485, hx485_0⟩ := Kd.at_int HR1.out x9_2 p485 q485
                              cases e485
                              replace hx485_0 := (HB.out.cell (World.block_lt_of_cell? w _ hx485_0)).trans hx485_0
                              replace p485 := eq_true p485
                              replace q485 := eq_true q485
                              have p16 : 0 ≤ (x9_2 : Int) := of_decide_eq_true hA_
                              have q16 : (x9_2 : Int) < ((x7_2.length : Int) : Int) := of_decide_eq_true hA_
                              obtain ⟨go16, co16, eo16, gb16, gl16, cl16, HG16⟩ := Kd.R_form HO_7.out (by omega)
                              (first | cases eo16 | (injection eo16 with ea_ en_ ec_; (first | subst ea_ | (injection ea_ with ea_; subst ea_)); subst ec_; clear en_))
                              have GB16 := Aside0.mk gb16
                              have GG16 := Aside0.mk HG16
                              clear gb16 gl16 HG16
                              obtain ⟨hx16_0, hf16_0⟩ := Kd.R_celln false HO_7.out (x9_2 : Int) p16 q16
                              replace p16 := eq_true p16
                              replace q16 := eq_true q16
                              have HP20 := Kd.R_putg HO_7.out (x9_2 : Int) ((rd l1 x9_2) != 1)
                              go_wp2_with (first | ((with_reducible refine gate_store (t := 4) (p := 59) rfl ?_); refine store_event (t := 4) (p := 59) (v := ?vo_w21) (w1 := (wr.setCell ⟨go16, (x9_2 : Int).toNat, none⟩ (.bool ((rd l1 x9_2) != 1)))) ?hg ?ho ?hn ?hr ?_; (case ho => rfl); (case hg => rfl); (case hn => rfl); (case hr => first | (go_simp; done) | (go_simp; rfl)); intro w21 hw; have hg : wr.grownBy w21 (some go16) := (by rw [hw]; exact HP20.2); have hp_ : Kd.R Kd.bool 4 w21 w.heap.size (fun _ => True) (.slice (some ⟨go16, 0, none⟩) x7_2.length co16) y486 := (by rw [hw, Ny486.out]; exact HP20.1); clear HP20; have n0_ := Aside0.mk (hp_); have n1_ := Aside0.mk ((by rw [hw]; exact below_set (HB.out) GB16.out : Below w.heap.size w w21)); clear HO_7; clear HB; have HO_7 := n0_; have HB := n1_; clear n0_ n1_; clear hg hw hp_; have p487 : 0 ≤ (x9_2 : Int) := of_decide_eq_true hA_; have q487 : x9_2 < (y486.length : Int) := (by have h_ : (x9_2 : Int) < ((x7_2.length : Int) : Int) := of_decide_eq_true hA_; first | (have e_ := (Kd.R_reads' HO_7.out).1; omega) | simpa only [Ny486.out, List.length_set] using h_); have ql487 : ((x9_2 : Int) < ((x7_2.length : Int) : Int)) = True := eq_true (of_decide_eq_true hA_); obtain ⟨ad487, e487, hx487_0⟩ := Kd.at_bool (Kd.R_reads' HO_7.out).2.2 x9_2 p487 q487; (try rw [← Nbq17.out] at hx487_0); obtain rfl : (⟨go16, 0, none⟩ : Addr) = ad487 := (by injection e487); (first | simp only [add_plain] at hx487_0 | simp only [add_at] at hx487_0 | simp only [Addr.add, Nat.zero_add] at hx487_0 | skip); replace p487 := eq_true p487; replace q487 := eq_true q487; have p488 : 0 ≤ (x9_2 : Int) := of_decide_eq_true hA_; have q488 : x9_2 < (l1.length : Int) := of_decide_eq_true hA_; obtain ⟨ad488, e488, hx488_0⟩ := Kd.at_int HR1.out x9_2 p488 q488; obtain rfl : ad485 = ad488 := (by injection e488); replace hx488_0 := (HB.out.cell (World.block_lt_of_cell? w _ hx488_0)).trans hx488_0; replace p488 := eq_true p488; replace q488 := eq_true q488))
                              go_roundg k2
                              case measure => have := HK1.out; have := HK2.out; omega
                              case rel => exact ⟨(y486), (wrap64 (x8_2 + 1)), (wrap64 (x9_2 + 1)), (by first | rfl | (simp; done) | (simp [*]; done)), (by first | rfl | (simp; done) | (simp [*]; done)), H', ⟨by have := HK1.out; have := HK2.out; omega⟩, ⟨by (with_reducible repeat (first | apply Kd.R_alloc | apply Kd.R_drewN | apply Kd.R_drew)); exact HO_7.out⟩, ⟨by repeat (first | (with_reducible first | exact HB.out | apply below_alloc | apply pw_below_drewN | apply below_drew1) | exact HB.out)⟩⟩
                            · rw [if_neg c19] at H
                              have c19b0 : ((rd l1 x9_2) == 0) = false := beq_eq_false_iff_ne.mpr c19
                              have c19b1 : ((rd l1 x9_2) != 0) = true := bne_iff_ne.mpr c19
                              have H' := Aside0.mk H
                              clear H
                              have p484 : 0 ≤ (x9_2 : Int) := of_decide_eq_true hA_
                              have q484 : x9_2 < (l0.length : Int) := of_decide_eq_true hA_
                              obtain ⟨ad484, A484_2, c484_2, e484, hx484_0, hx484_1, hx484_2, hx484_3, hl484_2, hi484_2⟩ := at_T41 HR0.out x9_2 p484 q484
                              cases e484
                              replace hx484_0 := (HB.out.cell (World.block_lt_of_cell? w _ hx484_0)).trans hx484_0
                              replace hx484_1 := (HB.out.cell (World.block_lt_of_cell? w _ hx484_1)).trans hx484_1
                              replace hx484_2 := (HB.out.cell (World.block_lt_of_cell? w _ hx484_2)).trans hx484_2
                              replace hx484_3 := (HB.out.cell (World.block_lt_of_cell? w _ hx484_3)).trans hx484_3
                              have HR484_2 := Aside0.mk hi484_2
                              have HC484_2 := Aside0.mk hl484_2
                              clear hi484_2 hl484_2
                              replace p484 := eq_true p484
                              replace q484 := eq_true q484
                              have p485 : 0 ≤ (x9_2 : Int) := of_decide_eq_true hA_
                              have q485 : x9_2 < (l1.length : Int) := of_decide_eq_true hA_
                              obtain ⟨ad485, e485, hx485_0⟩ := Kd.at_int HR1.out x9_2 p485 q485
                              cases e485
                              replace hx485_0 := (HB.out.cell (World.block_lt_of_cell? w _ hx485_0)).trans hx485_0
                              replace p485 := eq_true p485
                              replace q485 := eq_true q485
                              have p16 : 0 ≤ (x9_2 : Int) := of_decide_eq_true hA_
                              have q16 : (x9_2 : Int) < ((x7_2.length : Int) : Int) := of_decide_eq_true hA_
                              obtain ⟨go16, co16, eo16, gb16, gl16, cl16, HG16⟩ := Kd.R_form HO_7.out (by omega)
                              (first | cases eo16 | (injection eo16 with ea_ en_ ec_; (first | subst ea_ | (injection ea_ with ea_; subst ea_)); subst ec_; clear en_))
                              have GB16 := Aside0.mk gb16
                              have GG16 := Aside0.mk HG16
                              clear gb16 gl16 HG16
                              obtain ⟨hx16_0, hf16_0⟩ := Kd.R_celln false HO_7.out (x9_2 : Int) p16 q16
                              replace p16 := eq_true p16
                              replace q16 := eq_true q16
                              have HP22 := Kd.R_putg HO_7.out (x9_2 : Int) ((rd l1 x9_2) != 1)
                              go_wp2_with (first | ((with_reducible refine gate_store (t := 4) (p := 59) rfl ?_); refine store_event (t := 4) (p := 59) (v := ?vo_w23) (w1 := (wr.setCell ⟨go16, (x9_2 : Int).toNat, none⟩ (.bool ((rd l1 x9_2) != 1)))) ?hg ?ho ?hn ?hr ?_; (case ho => rfl); (case hg => rfl); (case hn => rfl); (case hr => first | (go_simp; done) | (go_simp; rfl)); intro w23 hw; have hg : wr.grownBy w23 (some go16) := (by rw [hw]; exact HP22.2); have hp_ : Kd.R Kd.bool 4 w23 w.heap.size (fun _ => True) (.slice (some ⟨go16, 0, none⟩) x7_2.length co16) y486 := (by rw [hw, Ny486.out]; exact HP22.1); clear HP22; have n0_ := Aside0.mk (hp_); have n1_ := Aside0.mk ((by rw [hw]; exact below_set (HB.out) GB16.out : Below w.heap.size w w23)); clear HO_7; clear HB; have HO_7 := n0_; have HB := n1_; clear n0_ n1_; clear hg hw hp_; have p487 : 0 ≤ (x9_2 : Int) := of_decide_eq_true hA_; have q487 : x9_2 < (y486.length : Int) := (by have h_ : (x9_2 : Int) < ((x7_2.length : Int) : Int) := of_decide_eq_true hA_; first | (have e_ := (Kd.R_reads' HO_7.out).1; omega) | simpa only [Ny486.out, List.length_set] using h_); have ql487 : ((x9_2 : Int) < ((x7_2.length : Int) : Int)) = True := eq_true (of_decide_eq_true hA_); obtain ⟨ad487, e487, hx487_0⟩ := Kd.at_bool (Kd.R_reads' HO_7.out).2.2 x9_2 p487 q487; (try rw [← Nbq17.out] at hx487_0); obtain rfl : (⟨go16, 0, none⟩ : Addr) = ad487 := (by injection e487); (first | simp only [add_plain] at hx487_0 | simp only [add_at] at hx487_0 | simp only [Addr.add, Nat.zero_add] at hx487_0 | skip); replace p487 := eq_true p487; replace q487 := eq_true q487; have p488 : 0 ≤ (x9_2 : Int) := of_decide_eq_true hA_; have q488 : x9_2 < (l1.length : Int) := of_decide_eq_true hA_; obtain ⟨ad488, e488, hx488_0⟩ := Kd.at_int HR1.out x9_2 p488 q488; obtain rfl : ad485 = ad488 := (by injection e488); replace hx488_0 := (HB.out.cell (World.block_lt_of_cell? w _ hx488_0)).trans hx488_0; replace p488 := eq_true p488; replace q488 := eq_true q488))
                              go_roundg k2
                              case measure => have := HK1.out; have := HK2.out; omega
                              case rel => exact ⟨(y486), (x8_2), (wrap64 (x9_2 + 1)), (by first | rfl | (simp; done) | (simp [*]; done)), (by first | rfl | (simp; done) | (simp [*]; done)), H', ⟨by have := HK1.out; have := HK2.out; omega⟩, ⟨by (with_reducible repeat (first | apply Kd.R_alloc | apply Kd.R_drewN | apply Kd.R_drew)); exact HO_7.out⟩, ⟨by repeat (first | (with_reducible first | exact HB.out | apply below_alloc | apply pw_below_drewN | apply below_drew1) | exact HB.out)⟩⟩
                          · replace c18 := Bool.eq_false_iff.mpr c18
                            subst c18
                            have H1 : (sleuthlaw19_doubts.l1 k2 l0 l1 x5_1 y486 x8_2 (wrap64 (x9_2 + 1))) = some r := by rw [if_neg (show ¬ (false = true) by decide)] at H; exact H
                            clear H
                            have H := H1
                            clear H1
                            have H' := Aside0.mk H
                            clear H
                            have p484 : 0 ≤ (x9_2 : Int) := of_decide_eq_true hA_
                            have q484 : x9_2 < (l0.length : Int) := of_decide_eq_true hA_
                            obtain ⟨ad484, A484_2, c484_2, e484, hx484_0, hx484_1, hx484_2, hx484_3, hl484_2, hi484_2⟩ := at_T41 HR0.out x9_2 p484 q484
                            cases e484
                            replace hx484_0 := (HB.out.cell (World.block_lt_of_cell? w _ hx484_0)).trans hx484_0
                            replace hx484_1 := (HB.out.cell (World.block_lt_of_cell? w _ hx484_1)).trans hx484_1
                            replace hx484_2 := (HB.out.cell (World.block_lt_of_cell? w _ hx484_2)).trans hx484_2
                            replace hx484_3 := (HB.out.cell (World.block_lt_of_cell? w _ hx484_3)).trans hx484_3
                            have HR484_2 := Aside0.mk hi484_2
                            have HC484_2 := Aside0.mk hl484_2
                            clear hi484_2 hl484_2
                            replace p484 := eq_true p484
                            replace q484 := eq_true q484
                            have p485 : 0 ≤ (x9_2 : Int) := of_decide_eq_true hA_
                            have q485 : x9_2 < (l1.length : Int) := of_decide_eq_true hA_
                            obtain ⟨ad485, e485, hx485_0⟩ := Kd.at_int HR1.out x9_2 p485 q485
                            cases e485
                            replace hx485_0 := (HB.out.cell (World.block_lt_of_cell? w _ hx485_0)).trans hx485_0
                            replace p485 := eq_true p485
                            replace q485 := eq_true q485
                            have p16 : 0 ≤ (x9_2 : Int) := of_decide_eq_true hA_
                            have q16 : (x9_2 : Int) < ((x7_2.length : Int) : Int) := of_decide_eq_true hA_
                            obtain ⟨go16, co16, eo16, gb16, gl16, cl16, HG16⟩ := Kd.R_form HO_7.out (by omega)
                            (first | cases eo16 | (injection eo16 with ea_ en_ ec_; (first | subst ea_ | (injection ea_ with ea_; subst ea_)); subst ec_; clear en_))
                            have GB16 := Aside0.mk gb16
                            have GG16 := Aside0.mk HG16
                            clear gb16 gl16 HG16
                            obtain ⟨hx16_0, hf16_0⟩ := Kd.R_celln false HO_7.out (x9_2 : Int) p16 q16
                            replace p16 := eq_true p16
                            replace q16 := eq_true q16
                            have HP24 := Kd.R_putg HO_7.out (x9_2 : Int) ((rd l1 x9_2) != 1)
                            go_wp2_with (first | ((with_reducible refine gate_store (t := 4) (p := 59) rfl ?_); refine store_event (t := 4) (p := 59) (v := ?vo_w25) (w1 := (wr.setCell ⟨go16, (x9_2 : Int).toNat, none⟩ (.bool ((rd l1 x9_2) != 1)))) ?hg ?ho ?hn ?hr ?_; (case ho => rfl); (case hg => rfl); (case hn => rfl); (case hr => first | (go_simp; done) | (go_simp; rfl)); intro w25 hw; have hg : wr.grownBy w25 (some go16) := (by rw [hw]; exact HP24.2); have hp_ : Kd.R Kd.bool 4 w25 w.heap.size (fun _ => True) (.slice (some ⟨go16, 0, none⟩) x7_2.length co16) y486 := (by rw [hw, Ny486.out]; exact HP24.1); clear HP24; have n0_ := Aside0.mk (hp_); have n1_ := Aside0.mk ((by rw [hw]; exact below_set (HB.out) GB16.out : Below w.heap.size w w25)); clear HO_7; clear HB; have HO_7 := n0_; have HB := n1_; clear n0_ n1_; clear hg hw hp_; have p487 : 0 ≤ (x9_2 : Int) := of_decide_eq_true hA_; have q487 : x9_2 < (y486.length : Int) := (by have h_ : (x9_2 : Int) < ((x7_2.length : Int) : Int) := of_decide_eq_true hA_; first | (have e_ := (Kd.R_reads' HO_7.out).1; omega) | simpa only [Ny486.out, List.length_set] using h_); have ql487 : ((x9_2 : Int) < ((x7_2.length : Int) : Int)) = True := eq_true (of_decide_eq_true hA_); obtain ⟨ad487, e487, hx487_0⟩ := Kd.at_bool (Kd.R_reads' HO_7.out).2.2 x9_2 p487 q487; (try rw [← Nbq17.out] at hx487_0); obtain rfl : (⟨go16, 0, none⟩ : Addr) = ad487 := (by injection e487); (first | simp only [add_plain] at hx487_0 | simp only [add_at] at hx487_0 | simp only [Addr.add, Nat.zero_add] at hx487_0 | skip); replace p487 := eq_true p487; replace q487 := eq_true q487))
                            go_roundg k2
                            case measure => have := HK1.out; have := HK2.out; omega
                            case rel => exact ⟨(y486), (x8_2), (wrap64 (x9_2 + 1)), (by first | rfl | (simp; done) | (simp [*]; done)), (by first | rfl | (simp; done) | (simp [*]; done)), H', ⟨by have := HK1.out; have := HK2.out; omega⟩, ⟨by (with_reducible repeat (first | apply Kd.R_alloc | apply Kd.R_drewN | apply Kd.R_drew)); exact HO_7.out⟩, ⟨by repeat (first | (with_reducible first | exact HB.out | apply below_alloc | apply pw_below_drewN | apply below_drew1) | exact HB.out)⟩⟩
                        · rw [if_neg c15] at H
                          exact absurd H (by simp)
                      · rw [if_neg c14] at H
                        exact absurd H (by simp)
                    · rw [if_neg c13] at H
                      have c13b0 : (((rd_T41 l0 x9_2).f1) == x5_1) = false := beq_eq_false_iff_ne.mpr c13
                      have c13b1 : (((rd_T41 l0 x9_2).f1) != x5_1) = true := bne_iff_ne.mpr c13
                      by_cases c26 : 0 ≤ ((rd_T41 l0 x9_2).f1)
                      · rw [if_pos c26] at H
                        have c26b0 : decide (0 ≤ ((rd_T41 l0 x9_2).f1)) = true := decide_eq_true c26
                        clear c26
                        by_cases c27 : ((rd_T41 l0 x9_2).f1) < (x7_2.length : Int)
                        · rw [if_pos c27] at H
                          have c27b0 : decide (((rd_T41 l0 x9_2).f1) < (x7_2.length : Int)) = true := decide_eq_true c27
                          clear c27
                          obtain ⟨bq28, hbq28⟩ : ∃ b_ : Bool, b_ = (rdOf false x7_2 ((rd_T41 l0 x9_2).f1)) := ⟨_, rfl⟩
                          replace H : (if bq28 = true then (if x9_2 < (l1.length : Int) then (if x9_2 < (x7_2.length : Int) then ((some (x7_2.set (x9_2 : Int).toNat ((rd l1 x9_2) != 1) : List Bool)).bind fun y492 => (if rdOf false y492 x9_2 = true then (if (rd l1 x9_2) = 0 then (sleuthlaw19_doubts.l1 k2 l0 l1 x5_1 y492 (wrap64 (x8_2 + 1)) (wrap64 (x9_2 + 1))) else (sleuthlaw19_doubts.l1 k2 l0 l1 x5_1 y492 x8_2 (wrap64 (x9_2 + 1)))) else (sleuthlaw19_doubts.l1 k2 l0 l1 x5_1 y492 x8_2 (wrap64 (x9_2 + 1))))) else (none)) else (none)) else (if x9_2 < (x7_2.length : Int) then ((some (x7_2.set (x9_2 : Int).toNat false : List Bool)).bind fun y495 => (if rdOf false y495 x9_2 = true then (if x9_2 < (l1.length : Int) then (if (rd l1 x9_2) = 0 then (sleuthlaw19_doubts.l1 k2 l0 l1 x5_1 y495 (wrap64 (x8_2 + 1)) (wrap64 (x9_2 + 1))) else (sleuthlaw19_doubts.l1 k2 l0 l1 x5_1 y495 x8_2 (wrap64 (x9_2 + 1)))) else (none)) else (sleuthlaw19_doubts.l1 k2 l0 l1 x5_1 y495 x8_2 (wrap64 (x9_2 + 1))))) else (none))) = some r := by rw [← hbq28] at H; exact H
                          have Nbq28 := Aside0.mk hbq28
                          clear hbq28
                          by_cases c29 : bq28 = true
                          · subst c29
                            have H1 : (if x9_2 < (l1.length : Int) then (if x9_2 < (x7_2.length : Int) then ((some (x7_2.set (x9_2 : Int).toNat ((rd l1 x9_2) != 1) : List Bool)).bind fun y492 => (if rdOf false y492 x9_2 = true then (if (rd l1 x9_2) = 0 then (sleuthlaw19_doubts.l1 k2 l0 l1 x5_1 y492 (wrap64 (x8_2 + 1)) (wrap64 (x9_2 + 1))) else (sleuthlaw19_doubts.l1 k2 l0 l1 x5_1 y492 x8_2 (wrap64 (x9_2 + 1)))) else (sleuthlaw19_doubts.l1 k2 l0 l1 x5_1 y492 x8_2 (wrap64 (x9_2 + 1))))) else (none)) else (none)) = some r := by rw [if_pos rfl] at H; exact H
                            clear H
                            have H := H1
                            clear H1
                            by_cases c30 : x9_2 < (l1.length : Int)
                            · rw [if_pos c30] at H
                              have c30b0 : decide (x9_2 < (l1.length : Int)) = true := decide_eq_true c30
                              clear c30
                              by_cases c31 : x9_2 < (x7_2.length : Int)
                              · rw [if_pos c31] at H
                                have c31b0 : decide (x9_2 < (x7_2.length : Int)) = true := decide_eq_true c31
                                clear c31
                                obtain ⟨y492, hy492⟩ : ∃ y_ : List Bool, y_ = (x7_2.set (x9_2 : Int).toNat ((rd l1 x9_2) != 1)) := ⟨_, rfl⟩
                                replace H : (if rdOf false y492 x9_2 = true then (if (rd l1 x9_2) = 0 then (sleuthlaw19_doubts.l1 k2 l0 l1 x5_1 y492 (wrap64 (x8_2 + 1)) (wrap64 (x9_2 + 1))) else (sleuthlaw19_doubts.l1 k2 l0 l1 x5_1 y492 x8_2 (wrap64 (x9_2 + 1)))) else (sleuthlaw19_doubts.l1 k2 l0 l1 x5_1 y492 x8_2 (wrap64 (x9_2 + 1)))) = some r := by first | (rw [hy492]; with_reducible exact H) | (have H2_ := (Option.bind_some _ _).symm.trans H; rw [hy492]; with_reducible exact H2_) | (have H2_ := (Option.bind_some _ _).symm.trans H; with_reducible exact H2_) | with_reducible exact H | (rw [hy492]; exact H) | exact H
                                have Ny492 := Aside0.mk hy492
                                clear hy492
                                obtain ⟨bq33, hbq33⟩ : ∃ b_ : Bool, b_ = (rdOf false y492 x9_2) := ⟨_, rfl⟩
                                replace H : (if bq33 = true then (if (rd l1 x9_2) = 0 then (sleuthlaw19_doubts.l1 k2 l0 l1 x5_1 y492 (wrap64 (x8_2 + 1)) (wrap64 (x9_2 + 1))) else (sleuthlaw19_doubts.l1 k2 l0 l1 x5_1 y492 x8_2 (wrap64 (x9_2 + 1)))) else (sleuthlaw19_doubts.l1 k2 l0 l1 x5_1 y492 x8_2 (wrap64 (x9_2 + 1)))) = some r := by rw [← hbq33] at H; exact H
                                have Nbq33 := Aside0.mk hbq33
                                clear hbq33
                                by_cases c34 : bq33 = true
                                · subst c34
                                  have H1 : (if (rd l1 x9_2) = 0 then (sleuthlaw19_doubts.l1 k2 l0 l1 x5_1 y492 (wrap64 (x8_2 + 1)) (wrap64 (x9_2 + 1))) else (sleuthlaw19_doubts.l1 k2 l0 l1 x5_1 y492 x8_2 (wrap64 (x9_2 + 1)))) = some r := by rw [if_pos rfl] at H; exact H
                                  clear H
                                  have H := H1
                                  clear H1
                                  by_cases c35 : (rd l1 x9_2) = 0
                                  · rw [if_pos c35] at H
                                    have c35b0 : ((rd l1 x9_2) == 0) = true := beq_iff_eq.mpr c35
                                    have c35b1 : ((rd l1 x9_2) != 0) = false := bne_eq_false_iff_eq.mpr c35
                                    clear c35
                                    have H' := Aside0.mk H
                                    clear H
                                    have p484 : 0 ≤ (x9_2 : Int) := of_decide_eq_true hA_
                                    have q484 : x9_2 < (l0.length : Int) := of_decide_eq_true hA_
                                    obtain ⟨ad484, A484_2, c484_2, e484, hx484_0, hx484_1, hx484_2, hx484_3, hl484_2, hi484_2⟩ := at_T41 HR0.out x9_2 p484 q484
                                    cases e484
                                    replace hx484_0 := (HB.out.cell (World.block_lt_of_cell? w _ hx484_0)).trans hx484_0
                                    replace hx484_1 := (HB.out.cell (World.block_lt_of_cell? w _ hx484_1)).trans hx484_1
                                    replace hx484_2 := (HB.out.cell (World.block_lt_of_cell? w _ hx484_2)).trans hx484_2
                                    replace hx484_3 := (HB.out.cell (World.block_lt_of_cell? w _ hx484_3)).trans hx484_3
                                    have HR484_2 := Aside0.mk hi484_2
                                    have HC484_2 := Aside0.mk hl484_2
                                    clear hi484_2 hl484_2
                                    replace p484 := eq_true p484
                                    replace q484 := eq_true q484
                                    have p489 : 0 ≤ (x9_2 : Int) := of_decide_eq_true hA_
                                    have q489 : x9_2 < (l0.length : Int) := of_decide_eq_true hA_
                                    obtain ⟨ad489, A489_2, c489_2, e489, hx489_0, hx489_1, hx489_2, hx489_3, hl489_2, hi489_2⟩ := at_T41 HR0.out x9_2 p489 q489
                                    obtain rfl : ad484 = ad489 := (by injection e489)
                                    replace hx489_0 := (HB.out.cell (World.block_lt_of_cell? w _ hx489_0)).trans hx489_0
                                    replace hx489_1 := (HB.out.cell (World.block_lt_of_cell? w _ hx489_1)).trans hx489_1
                                    replace hx489_2 := (HB.out.cell (World.block_lt_of_cell? w _ hx489_2)).trans hx489_2
                                    replace hx489_3 := (HB.out.cell (World.block_lt_of_cell? w _ hx489_3)).trans hx489_3
                                    have HR489_2 := Aside0.mk hi489_2
                                    have HC489_2 := Aside0.mk hl489_2
                                    clear hi489_2 hl489_2
                                    replace p489 := eq_true p489
                                    replace q489 := eq_true q489
                                    have ea_ := Option.some.inj (hx484_2.symm.trans hx489_2)
                                    injection ea_ with ea_ en_ ec_
                                    subst ea_
                                    subst ec_
                                    clear en_
                                    obtain ⟨Ao36, co36, eo36⟩ := Kd.R_slice HO_7.out
                                    subst eo36
                                    have p490 : 0 ≤ (((rd_T41 l0 x9_2).f1) : Int) := of_decide_eq_true hA_
                                    have q490 : ((rd_T41 l0 x9_2).f1) < (x7_2.length : Int) := of_decide_eq_true hA_
                                    obtain ⟨ad490, e490, hx490_0⟩ := Kd.at_bool (Kd.R_reads' HO_7.out).2.2 ((rd_T41 l0 x9_2).f1) p490 q490
                                    (try rw [← Nbq28.out] at hx490_0)
                                    (try rw [← Nbq33.out] at hx490_0)
                                    cases e490
                                    replace p490 := eq_true p490
                                    replace q490 := eq_true q490
                                    have p491 : 0 ≤ (x9_2 : Int) := of_decide_eq_true hA_
                                    have q491 : x9_2 < (l1.length : Int) := of_decide_eq_true hA_
                                    obtain ⟨ad491, e491, hx491_0⟩ := Kd.at_int HR1.out x9_2 p491 q491
                                    cases e491
                                    replace hx491_0 := (HB.out.cell (World.block_lt_of_cell? w _ hx491_0)).trans hx491_0
                                    replace p491 := eq_true p491
                                    replace q491 := eq_true q491
                                    have p32 : 0 ≤ (x9_2 : Int) := of_decide_eq_true hA_
                                    have q32 : (x9_2 : Int) < ((x7_2.length : Int) : Int) := of_decide_eq_true hA_
                                    obtain ⟨go32, co32, eo32, gb32, gl32, cl32, HG32⟩ := Kd.R_form HO_7.out (by omega)
                                    (first | cases eo32 | (injection eo32 with ea_ en_ ec_; (first | subst ea_ | (injection ea_ with ea_; subst ea_)); subst ec_; clear en_))
                                    have GB32 := Aside0.mk gb32
                                    have GG32 := Aside0.mk HG32
                                    clear gb32 gl32 HG32
                                    (first | simp only [add_plain] at hx490_0 | skip)
                                    obtain ⟨hx32_0, hf32_0⟩ := Kd.R_celln false HO_7.out (x9_2 : Int) p32 q32
                                    replace p32 := eq_true p32
                                    replace q32 := eq_true q32
                                    have HP37 := Kd.R_putg HO_7.out (x9_2 : Int) ((rd l1 x9_2) != 1)
                                    go_wp2_with (first | ((with_reducible refine gate_store (t := 4) (p := 59) rfl ?_); refine store_event (t := 4) (p := 59) (v := ?vo_w38) (w1 := (wr.setCell ⟨go32, (x9_2 : Int).toNat, none⟩ (.bool ((rd l1 x9_2) != 1)))) ?hg ?ho ?hn ?hr ?_; (case ho => rfl); (case hg => rfl); (case hn => rfl); (case hr => first | (go_simp; done) | (go_simp; rfl)); intro w38 hw; have hg : wr.grownBy w38 (some go32) := (by rw [hw]; exact HP37.2); have hp_ : Kd.R Kd.bool 4 w38 w.heap.size (fun _ => True) (.slice (some ⟨go32, 0, none⟩) x7_2.length co36) y492 := (by rw [hw, Ny492.out]; exact HP37.1); clear HP37; have n0_ := Aside0.mk (hp_); have n1_ := Aside0.mk ((by rw [hw]; exact below_set (HB.out) GB32.out : Below w.heap.size w w38)); clear HO_7; clear HB; have HO_7 := n0_; have HB := n1_; clear n0_ n1_; clear hg hw hp_; have p493 : 0 ≤ (x9_2 : Int) := of_decide_eq_true hA_; have q493 : x9_2 < (y492.length : Int) := (by have h_ : (x9_2 : Int) < ((x7_2.length : Int) : Int) := of_decide_eq_true hA_; first | (have e_ := (Kd.R_reads' HO_7.out).1; omega) | simpa only [Ny492.out, List.length_set] using h_); have ql493 : ((x9_2 : Int) < ((x7_2.length : Int) : Int)) = True := eq_true (of_decide_eq_true hA_); obtain ⟨ad493, e493, hx493_0⟩ := Kd.at_bool (Kd.R_reads' HO_7.out).2.2 x9_2 p493 q493; (try rw [← Nbq28.out] at hx493_0); (try rw [← Nbq33.out] at hx493_0); obtain rfl : (⟨go32, 0, none⟩ : Addr) = ad493 := (by injection e493); (first | simp only [add_plain] at hx493_0 | simp only [add_at] at hx493_0 | simp only [Addr.add, Nat.zero_add] at hx493_0 | skip); replace p493 := eq_true p493; replace q493 := eq_true q493; have p494 : 0 ≤ (x9_2 : Int) := of_decide_eq_true hA_; have q494 : x9_2 < (l1.length : Int) := of_decide_eq_true hA_; obtain ⟨ad494, e494, hx494_0⟩ := Kd.at_int HR1.out x9_2 p494 q494; obtain rfl : ad491 = ad494 := (by injection e494); replace hx494_0 := (HB.out.cell (World.block_lt_of_cell? w _ hx494_0)).trans hx494_0; replace p494 := eq_true p494; replace q494 := eq_true q494))
                                    go_roundg k2
                                    case measure => have := HK1.out; have := HK2.out; omega
                                    case rel => exact ⟨(y492), (wrap64 (x8_2 + 1)), (wrap64 (x9_2 + 1)), (by first | rfl | (simp; done) | (simp [*]; done)), (by first | rfl | (simp; done) | (simp [*]; done)), H', ⟨by have := HK1.out; have := HK2.out; omega⟩, ⟨by (with_reducible repeat (first | apply Kd.R_alloc | apply Kd.R_drewN | apply Kd.R_drew)); exact HO_7.out⟩, ⟨by repeat (first | (with_reducible first | exact HB.out | apply below_alloc | apply pw_below_drewN | apply below_drew1) | exact HB.out)⟩⟩
                                  · rw [if_neg c35] at H
                                    have c35b0 : ((rd l1 x9_2) == 0) = false := beq_eq_false_iff_ne.mpr c35
                                    have c35b1 : ((rd l1 x9_2) != 0) = true := bne_iff_ne.mpr c35
                                    have H' := Aside0.mk H
                                    clear H
                                    have p484 : 0 ≤ (x9_2 : Int) := of_decide_eq_true hA_
                                    have q484 : x9_2 < (l0.length : Int) := of_decide_eq_true hA_
                                    obtain ⟨ad484, A484_2, c484_2, e484, hx484_0, hx484_1, hx484_2, hx484_3, hl484_2, hi484_2⟩ := at_T41 HR0.out x9_2 p484 q484
                                    cases e484
                                    replace hx484_0 := (HB.out.cell (World.block_lt_of_cell? w _ hx484_0)).trans hx484_0
                                    replace hx484_1 := (HB.out.cell (World.block_lt_of_cell? w _ hx484_1)).trans hx484_1
                                    replace hx484_2 := (HB.out.cell (World.block_lt_of_cell? w _ hx484_2)).trans hx484_2
                                    replace hx484_3 := (HB.out.cell (World.block_lt_of_cell? w _ hx484_3)).trans hx484_3
                                    have HR484_2 := Aside0.mk hi484_2
                                    have HC484_2 := Aside0.mk hl484_2
                                    clear hi484_2 hl484_2
                                    replace p484 := eq_true p484
                                    replace q484 := eq_true q484
                                    have p489 : 0 ≤ (x9_2 : Int) := of_decide_eq_true hA_
                                    have q489 : x9_2 < (l0.length : Int) := of_decide_eq_true hA_
                                    obtain ⟨ad489, A489_2, c489_2, e489, hx489_0, hx489_1, hx489_2, hx489_3, hl489_2, hi489_2⟩ := at_T41 HR0.out x9_2 p489 q489
                                    obtain rfl : ad484 = ad489 := (by injection e489)
                                    replace hx489_0 := (HB.out.cell (World.block_lt_of_cell? w _ hx489_0)).trans hx489_0
                                    replace hx489_1 := (HB.out.cell (World.block_lt_of_cell? w _ hx489_1)).trans hx489_1
                                    replace hx489_2 := (HB.out.cell (World.block_lt_of_cell? w _ hx489_2)).trans hx489_2
                                    replace hx489_3 := (HB.out.cell (World.block_lt_of_cell? w _ hx489_3)).trans hx489_3
                                    have HR489_2 := Aside0.mk hi489_2
                                    have HC489_2 := Aside0.mk hl489_2
                                    clear hi489_2 hl489_2
                                    replace p489 := eq_true p489
                                    replace q489 := eq_true q489
                                    have ea_ := Option.some.inj (hx484_2.symm.trans hx489_2)
                                    injection ea_ with ea_ en_ ec_
                                    subst ea_
                                    subst ec_
                                    clear en_
                                    obtain ⟨Ao39, co39, eo39⟩ := Kd.R_slice HO_7.out
                                    subst eo39
                                    have p490 : 0 ≤ (((rd_T41 l0 x9_2).f1) : Int) := of_decide_eq_true hA_
                                    have q490 : ((rd_T41 l0 x9_2).f1) < (x7_2.length : Int) := of_decide_eq_true hA_
                                    obtain ⟨ad490, e490, hx490_0⟩ := Kd.at_bool (Kd.R_reads' HO_7.out).2.2 ((rd_T41 l0 x9_2).f1) p490 q490
                                    (try rw [← Nbq28.out] at hx490_0)
                                    (try rw [← Nbq33.out] at hx490_0)
                                    cases e490
                                    replace p490 := eq_true p490
                                    replace q490 := eq_true q490
                                    have p491 : 0 ≤ (x9_2 : Int) := of_decide_eq_true hA_
                                    have q491 : x9_2 < (l1.length : Int) := of_decide_eq_true hA_
                                    obtain ⟨ad491, e491, hx491_0⟩ := Kd.at_int HR1.out x9_2 p491 q491
                                    cases e491
                                    replace hx491_0 := (HB.out.cell (World.block_lt_of_cell? w _ hx491_0)).trans hx491_0
                                    replace p491 := eq_true p491
                                    replace q491 := eq_true q491
                                    have p32 : 0 ≤ (x9_2 : Int) := of_decide_eq_true hA_
                                    have q32 : (x9_2 : Int) < ((x7_2.length : Int) : Int) := of_decide_eq_true hA_
                                    obtain ⟨go32, co32, eo32, gb32, gl32, cl32, HG32⟩ := Kd.R_form HO_7.out (by omega)
                                    (first | cases eo32 | (injection eo32 with ea_ en_ ec_; (first | subst ea_ | (injection ea_ with ea_; subst ea_)); subst ec_; clear en_))
                                    have GB32 := Aside0.mk gb32
                                    have GG32 := Aside0.mk HG32
                                    clear gb32 gl32 HG32
                                    (first | simp only [add_plain] at hx490_0 | skip)
                                    obtain ⟨hx32_0, hf32_0⟩ := Kd.R_celln false HO_7.out (x9_2 : Int) p32 q32
                                    replace p32 := eq_true p32
                                    replace q32 := eq_true q32
                                    have HP40 := Kd.R_putg HO_7.out (x9_2 : Int) ((rd l1 x9_2) != 1)
                                    go_wp2_with (first | ((with_reducible refine gate_store (t := 4) (p := 59) rfl ?_); refine store_event (t := 4) (p := 59) (v := ?vo_w41) (w1 := (wr.setCell ⟨go32, (x9_2 : Int).toNat, none⟩ (.bool ((rd l1 x9_2) != 1)))) ?hg ?ho ?hn ?hr ?_; (case ho => rfl); (case hg => rfl); (case hn => rfl); (case hr => first | (go_simp; done) | (go_simp; rfl)); intro w41 hw; have hg : wr.grownBy w41 (some go32) := (by rw [hw]; exact HP40.2); have hp_ : Kd.R Kd.bool 4 w41 w.heap.size (fun _ => True) (.slice (some ⟨go32, 0, none⟩) x7_2.length co39) y492 := (by rw [hw, Ny492.out]; exact HP40.1); clear HP40; have n0_ := Aside0.mk (hp_); have n1_ := Aside0.mk ((by rw [hw]; exact below_set (HB.out) GB32.out : Below w.heap.size w w41)); clear HO_7; clear HB; have HO_7 := n0_; have HB := n1_; clear n0_ n1_; clear hg hw hp_; have p493 : 0 ≤ (x9_2 : Int) := of_decide_eq_true hA_; have q493 : x9_2 < (y492.length : Int) := (by have h_ : (x9_2 : Int) < ((x7_2.length : Int) : Int) := of_decide_eq_true hA_; first | (have e_ := (Kd.R_reads' HO_7.out).1; omega) | simpa only [Ny492.out, List.length_set] using h_); have ql493 : ((x9_2 : Int) < ((x7_2.length : Int) : Int)) = True := eq_true (of_decide_eq_true hA_); obtain ⟨ad493, e493, hx493_0⟩ := Kd.at_bool (Kd.R_reads' HO_7.out).2.2 x9_2 p493 q493; (try rw [← Nbq28.out] at hx493_0); (try rw [← Nbq33.out] at hx493_0); obtain rfl : (⟨go32, 0, none⟩ : Addr) = ad493 := (by injection e493); (first | simp only [add_plain] at hx493_0 | simp only [add_at] at hx493_0 | simp only [Addr.add, Nat.zero_add] at hx493_0 | skip); replace p493 := eq_true p493; replace q493 := eq_true q493; have p494 : 0 ≤ (x9_2 : Int) := of_decide_eq_true hA_; have q494 : x9_2 < (l1.length : Int) := of_decide_eq_true hA_; obtain ⟨ad494, e494, hx494_0⟩ := Kd.at_int HR1.out x9_2 p494 q494; obtain rfl : ad491 = ad494 := (by injection e494); replace hx494_0 := (HB.out.cell (World.block_lt_of_cell? w _ hx494_0)).trans hx494_0; replace p494 := eq_true p494; replace q494 := eq_true q494))
                                    go_roundg k2
                                    case measure => have := HK1.out; have := HK2.out; omega
                                    case rel => exact ⟨(y492), (x8_2), (wrap64 (x9_2 + 1)), (by first | rfl | (simp; done) | (simp [*]; done)), (by first | rfl | (simp; done) | (simp [*]; done)), H', ⟨by have := HK1.out; have := HK2.out; omega⟩, ⟨by (with_reducible repeat (first | apply Kd.R_alloc | apply Kd.R_drewN | apply Kd.R_drew)); exact HO_7.out⟩, ⟨by repeat (first | (with_reducible first | exact HB.out | apply below_alloc | apply pw_below_drewN | apply below_drew1) | exact HB.out)⟩⟩
                                · replace c34 := Bool.eq_false_iff.mpr c34
                                  subst c34
                                  have H1 : (sleuthlaw19_doubts.l1 k2 l0 l1 x5_1 y492 x8_2 (wrap64 (x9_2 + 1))) = some r := by rw [if_neg (show ¬ (false = true) by decide)] at H; exact H
                                  clear H
                                  have H := H1
                                  clear H1
                                  have H' := Aside0.mk H
                                  clear H
                                  have p484 : 0 ≤ (x9_2 : Int) := of_decide_eq_true hA_
                                  have q484 : x9_2 < (l0.length : Int) := of_decide_eq_true hA_
                                  obtain ⟨ad484, A484_2, c484_2, e484, hx484_0, hx484_1, hx484_2, hx484_3, hl484_2, hi484_2⟩ := at_T41 HR0.out x9_2 p484 q484
                                  cases e484
                                  replace hx484_0 := (HB.out.cell (World.block_lt_of_cell? w _ hx484_0)).trans hx484_0
                                  replace hx484_1 := (HB.out.cell (World.block_lt_of_cell? w _ hx484_1)).trans hx484_1
                                  replace hx484_2 := (HB.out.cell (World.block_lt_of_cell? w _ hx484_2)).trans hx484_2
                                  replace hx484_3 := (HB.out.cell (World.block_lt_of_cell? w _ hx484_3)).trans hx484_3
                                  have HR484_2 := Aside0.mk hi484_2
                                  have HC484_2 := Aside0.mk hl484_2
                                  clear hi484_2 hl484_2
                                  replace p484 := eq_true p484
                                  replace q484 := eq_true q484
                                  have p489 : 0 ≤ (x9_2 : Int) := of_decide_eq_true hA_
                                  have q489 : x9_2 < (l0.length : Int) := of_decide_eq_true hA_
                                  obtain ⟨ad489, A489_2, c489_2, e489, hx489_0, hx489_1, hx489_2, hx489_3, hl489_2, hi489_2⟩ := at_T41 HR0.out x9_2 p489 q489
                                  obtain rfl : ad484 = ad489 := (by injection e489)
                                  replace hx489_0 := (HB.out.cell (World.block_lt_of_cell? w _ hx489_0)).trans hx489_0
                                  replace hx489_1 := (HB.out.cell (World.block_lt_of_cell? w _ hx489_1)).trans hx489_1
                                  replace hx489_2 := (HB.out.cell (World.block_lt_of_cell? w _ hx489_2)).trans hx489_2
                                  replace hx489_3 := (HB.out.cell (World.block_lt_of_cell? w _ hx489_3)).trans hx489_3
                                  have HR489_2 := Aside0.mk hi489_2
                                  have HC489_2 := Aside0.mk hl489_2
                                  clear hi489_2 hl489_2
                                  replace p489 := eq_true p489
                                  replace q489 := eq_true q489
                                  have ea_ := Option.some.inj (hx484_2.symm.trans hx489_2)
                                  injection ea_ with ea_ en_ ec_
                                  subst ea_
                                  subst ec_
                                  clear en_
                                  obtain ⟨Ao42, co42, eo42⟩ := Kd.R_slice HO_7.out
                                  subst eo42
                                  have p490 : 0 ≤ (((rd_T41 l0 x9_2).f1) : Int) := of_decide_eq_true hA_
                                  have q490 : ((rd_T41 l0 x9_2).f1) < (x7_2.length : Int) := of_decide_eq_true hA_
                                  obtain ⟨ad490, e490, hx490_0⟩ := Kd.at_bool (Kd.R_reads' HO_7.out).2.2 ((rd_T41 l0 x9_2).f1) p490 q490
                                  (try rw [← Nbq28.out] at hx490_0)
                                  (try rw [← Nbq33.out] at hx490_0)
                                  cases e490
                                  replace p490 := eq_true p490
                                  replace q490 := eq_true q490
                                  have p491 : 0 ≤ (x9_2 : Int) := of_decide_eq_true hA_
                                  have q491 : x9_2 < (l1.length : Int) := of_decide_eq_true hA_
                                  obtain ⟨ad491, e491, hx491_0⟩ := Kd.at_int HR1.out x9_2 p491 q491
                                  cases e491
                                  replace hx491_0 := (HB.out.cell (World.block_lt_of_cell? w _ hx491_0)).trans hx491_0
                                  replace p491 := eq_true p491
                                  replace q491 := eq_true q491
                                  have p32 : 0 ≤ (x9_2 : Int) := of_decide_eq_true hA_
                                  have q32 : (x9_2 : Int) < ((x7_2.length : Int) : Int) := of_decide_eq_true hA_
                                  obtain ⟨go32, co32, eo32, gb32, gl32, cl32, HG32⟩ := Kd.R_form HO_7.out (by omega)
                                  (first | cases eo32 | (injection eo32 with ea_ en_ ec_; (first | subst ea_ | (injection ea_ with ea_; subst ea_)); subst ec_; clear en_))
                                  have GB32 := Aside0.mk gb32
                                  have GG32 := Aside0.mk HG32
                                  clear gb32 gl32 HG32
                                  (first | simp only [add_plain] at hx490_0 | skip)
                                  obtain ⟨hx32_0, hf32_0⟩ := Kd.R_celln false HO_7.out (x9_2 : Int) p32 q32
                                  replace p32 := eq_true p32
                                  replace q32 := eq_true q32
                                  have HP43 := Kd.R_putg HO_7.out (x9_2 : Int) ((rd l1 x9_2) != 1)
                                  go_wp2_with (first | ((with_reducible refine gate_store (t := 4) (p := 59) rfl ?_); refine store_event (t := 4) (p := 59) (v := ?vo_w44) (w1 := (wr.setCell ⟨go32, (x9_2 : Int).toNat, none⟩ (.bool ((rd l1 x9_2) != 1)))) ?hg ?ho ?hn ?hr ?_; (case ho => rfl); (case hg => rfl); (case hn => rfl); (case hr => first | (go_simp; done) | (go_simp; rfl)); intro w44 hw; have hg : wr.grownBy w44 (some go32) := (by rw [hw]; exact HP43.2); have hp_ : Kd.R Kd.bool 4 w44 w.heap.size (fun _ => True) (.slice (some ⟨go32, 0, none⟩) x7_2.length co42) y492 := (by rw [hw, Ny492.out]; exact HP43.1); clear HP43; have n0_ := Aside0.mk (hp_); have n1_ := Aside0.mk ((by rw [hw]; exact below_set (HB.out) GB32.out : Below w.heap.size w w44)); clear HO_7; clear HB; have HO_7 := n0_; have HB := n1_; clear n0_ n1_; clear hg hw hp_; have p493 : 0 ≤ (x9_2 : Int) := of_decide_eq_true hA_; have q493 : x9_2 < (y492.length : Int) := (by have h_ : (x9_2 : Int) < ((x7_2.length : Int) : Int) := of_decide_eq_true hA_; first | (have e_ := (Kd.R_reads' HO_7.out).1; omega) | simpa only [Ny492.out, List.length_set] using h_); have ql493 : ((x9_2 : Int) < ((x7_2.length : Int) : Int)) = True := eq_true (of_decide_eq_true hA_); obtain ⟨ad493, e493, hx493_0⟩ := Kd.at_bool (Kd.R_reads' HO_7.out).2.2 x9_2 p493 q493; (try rw [← Nbq28.out] at hx493_0); (try rw [← Nbq33.out] at hx493_0); obtain rfl : (⟨go32, 0, none⟩ : Addr) = ad493 := (by injection e493); (first | simp only [add_plain] at hx493_0 | simp only [add_at] at hx493_0 | simp only [Addr.add, Nat.zero_add] at hx493_0 | skip); replace p493 := eq_true p493; replace q493 := eq_true q493))
                                  go_roundg k2
                                  case measure => have := HK1.out; have := HK2.out; omega
                                  case rel => exact ⟨(y492), (x8_2), (wrap64 (x9_2 + 1)), (by first | rfl | (simp; done) | (simp [*]; done)), (by first | rfl | (simp; done) | (simp [*]; done)), H', ⟨by have := HK1.out; have := HK2.out; omega⟩, ⟨by (with_reducible repeat (first | apply Kd.R_alloc | apply Kd.R_drewN | apply Kd.R_drew)); exact HO_7.out⟩, ⟨by repeat (first | (with_reducible first | exact HB.out | apply below_alloc | apply pw_below_drewN | apply below_drew1) | exact HB.out)⟩⟩
                              · rw [if_neg c31] at H
                                exact absurd H (by simp)
                            · rw [if_neg c30] at H
                              exact absurd H (by simp)
                          · replace c29 := Bool.eq_false_iff.mpr c29
                            subst c29
                            have H1 : (if x9_2 < (x7_2.length : Int) then ((some (x7_2.set (x9_2 : Int).toNat false : List Bool)).bind fun y495 => (if rdOf false y495 x9_2 = true then (if x9_2 < (l1.length : Int) then (if (rd l1 x9_2) = 0 then (sleuthlaw19_doubts.l1 k2 l0 l1 x5_1 y495 (wrap64 (x8_2 + 1)) (wrap64 (x9_2 + 1))) else (sleuthlaw19_doubts.l1 k2 l0 l1 x5_1 y495 x8_2 (wrap64 (x9_2 + 1)))) else (none)) else (sleuthlaw19_doubts.l1 k2 l0 l1 x5_1 y495 x8_2 (wrap64 (x9_2 + 1))))) else (none)) = some r := by rw [if_neg (show ¬ (false = true) by decide)] at H; exact H
                            clear H
                            have H := H1
                            clear H1
                            by_cases c45 : x9_2 < (x7_2.length : Int)
                            · rw [if_pos c45] at H
                              have c45b0 : decide (x9_2 < (x7_2.length : Int)) = true := decide_eq_true c45
                              clear c45
                              obtain ⟨y495, hy495⟩ : ∃ y_ : List Bool, y_ = (x7_2.set (x9_2 : Int).toNat false) := ⟨_, rfl⟩
                              replace H : (if rdOf false y495 x9_2 = true then (if x9_2 < (l1.length : Int) then (if (rd l1 x9_2) = 0 then (sleuthlaw19_doubts.l1 k2 l0 l1 x5_1 y495 (wrap64 (x8_2 + 1)) (wrap64 (x9_2 + 1))) else (sleuthlaw19_doubts.l1 k2 l0 l1 x5_1 y495 x8_2 (wrap64 (x9_2 + 1)))) else (none)) else (sleuthlaw19_doubts.l1 k2 l0 l1 x5_1 y495 x8_2 (wrap64 (x9_2 + 1)))) = some r := by first | (rw [hy495]; with_reducible exact H) | (have H2_ := (Option.bind_some _ _).symm.trans H; rw [hy495]; with_reducible exact H2_) | (have H2_ := (Option.bind_some _ _).symm.trans H; with_reducible exact H2_) | with_reducible exact H | (rw [hy495]; exact H) | exact H
                              have Ny495 := Aside0.mk hy495
                              clear hy495
                              obtain ⟨bq47, hbq47⟩ : ∃ b_ : Bool, b_ = (rdOf false y495 x9_2) := ⟨_, rfl⟩
                              replace H : (if bq47 = true then (if x9_2 < (l1.length : Int) then (if (rd l1 x9_2) = 0 then (sleuthlaw19_doubts.l1 k2 l0 l1 x5_1 y495 (wrap64 (x8_2 + 1)) (wrap64 (x9_2 + 1))) else (sleuthlaw19_doubts.l1 k2 l0 l1 x5_1 y495 x8_2 (wrap64 (x9_2 + 1)))) else (none)) else (sleuthlaw19_doubts.l1 k2 l0 l1 x5_1 y495 x8_2 (wrap64 (x9_2 + 1)))) = some r := by rw [← hbq47] at H; exact H
                              have Nbq47 := Aside0.mk hbq47
                              clear hbq47
                              by_cases c48 : bq47 = true
                              · subst c48
                                have H1 : (if x9_2 < (l1.length : Int) then (if (rd l1 x9_2) = 0 then (sleuthlaw19_doubts.l1 k2 l0 l1 x5_1 y495 (wrap64 (x8_2 + 1)) (wrap64 (x9_2 + 1))) else (sleuthlaw19_doubts.l1 k2 l0 l1 x5_1 y495 x8_2 (wrap64 (x9_2 + 1)))) else (none)) = some r := by rw [if_pos rfl] at H; exact H
                                clear H
                                have H := H1
                                clear H1
                                by_cases c49 : x9_2 < (l1.length : Int)
                                · rw [if_pos c49] at H
                                  have c49b0 : decide (x9_2 < (l1.length : Int)) = true := decide_eq_true c49
                                  clear c49
                                  by_cases c50 : (rd l1 x9_2) = 0
                                  · rw [if_pos c50] at H
                                    have c50b0 : ((rd l1 x9_2) == 0) = true := beq_iff_eq.mpr c50
                                    have c50b1 : ((rd l1 x9_2) != 0) = false := bne_eq_false_iff_eq.mpr c50
                                    clear c50
                                    have H' := Aside0.mk H
                                    clear H
                                    have p484 : 0 ≤ (x9_2 : Int) := of_decide_eq_true hA_
                                    have q484 : x9_2 < (l0.length : Int) := of_decide_eq_true hA_
                                    obtain ⟨ad484, A484_2, c484_2, e484, hx484_0, hx484_1, hx484_2, hx484_3, hl484_2, hi484_2⟩ := at_T41 HR0.out x9_2 p484 q484
                                    cases e484
                                    replace hx484_0 := (HB.out.cell (World.block_lt_of_cell? w _ hx484_0)).trans hx484_0
                                    replace hx484_1 := (HB.out.cell (World.block_lt_of_cell? w _ hx484_1)).trans hx484_1
                                    replace hx484_2 := (HB.out.cell (World.block_lt_of_cell? w _ hx484_2)).trans hx484_2
                                    replace hx484_3 := (HB.out.cell (World.block_lt_of_cell? w _ hx484_3)).trans hx484_3
                                    have HR484_2 := Aside0.mk hi484_2
                                    have HC484_2 := Aside0.mk hl484_2
                                    clear hi484_2 hl484_2
                                    replace p484 := eq_true p484
                                    replace q484 := eq_true q484
                                    have p489 : 0 ≤ (x9_2 : Int) := of_decide_eq_true hA_
                                    have q489 : x9_2 < (l0.length : Int) := of_decide_eq_true hA_
                                    obtain ⟨ad489, A489_2, c489_2, e489, hx489_0, hx489_1, hx489_2, hx489_3, hl489_2, hi489_2⟩ := at_T41 HR0.out x9_2 p489 q489
                                    obtain rfl : ad484 = ad489 := (by injection e489)
                                    replace hx489_0 := (HB.out.cell (World.block_lt_of_cell? w _ hx489_0)).trans hx489_0
                                    replace hx489_1 := (HB.out.cell (World.block_lt_of_cell? w _ hx489_1)).trans hx489_1
                                    replace hx489_2 := (HB.out.cell (World.block_lt_of_cell? w _ hx489_2)).trans hx489_2
                                    replace hx489_3 := (HB.out.cell (World.block_lt_of_cell? w _ hx489_3)).trans hx489_3
                                    have HR489_2 := Aside0.mk hi489_2
                                    have HC489_2 := Aside0.mk hl489_2
                                    clear hi489_2 hl489_2
                                    replace p489 := eq_true p489
                                    replace q489 := eq_true q489
                                    have ea_ := Option.some.inj (hx484_2.symm.trans hx489_2)
                                    injection ea_ with ea_ en_ ec_
                                    subst ea_
                                    subst ec_
                                    clear en_
                                    obtain ⟨Ao51, co51, eo51⟩ := Kd.R_slice HO_7.out
                                    subst eo51
                                    have p490 : 0 ≤ (((rd_T41 l0 x9_2).f1) : Int) := of_decide_eq_true hA_
                                    have q490 : ((rd_T41 l0 x9_2).f1) < (x7_2.length : Int) := of_decide_eq_true hA_
                                    obtain ⟨ad490, e490, hx490_0⟩ := Kd.at_bool (Kd.R_reads' HO_7.out).2.2 ((rd_T41 l0 x9_2).f1) p490 q490
                                    (try rw [← Nbq28.out] at hx490_0)
                                    (try rw [← Nbq47.out] at hx490_0)
                                    cases e490
                                    replace p490 := eq_true p490
                                    replace q490 := eq_true q490
                                    have p46 : 0 ≤ (x9_2 : Int) := of_decide_eq_true hA_
                                    have q46 : (x9_2 : Int) < ((x7_2.length : Int) : Int) := of_decide_eq_true hA_
                                    obtain ⟨go46, co46, eo46, gb46, gl46, cl46, HG46⟩ := Kd.R_form HO_7.out (by omega)
                                    (first | cases eo46 | (injection eo46 with ea_ en_ ec_; (first | subst ea_ | (injection ea_ with ea_; subst ea_)); subst ec_; clear en_))
                                    have GB46 := Aside0.mk gb46
                                    have GG46 := Aside0.mk HG46
                                    clear gb46 gl46 HG46
                                    (first | simp only [add_plain] at hx490_0 | skip)
                                    obtain ⟨hx46_0, hf46_0⟩ := Kd.R_celln false HO_7.out (x9_2 : Int) p46 q46
                                    replace p46 := eq_true p46
                                    replace q46 := eq_true q46
                                    have HP52 := Kd.R_putg HO_7.out (x9_2 : Int) false
                                    go_wp2_with (first | ((with_reducible refine gate_store (t := 4) (p := 59) rfl ?_); refine store_event (t := 4) (p := 59) (v := ?vo_w53) (w1 := (wr.setCell ⟨go46, (x9_2 : Int).toNat, none⟩ (.bool false))) ?hg ?ho ?hn ?hr ?_; (case ho => rfl); (case hg => rfl); (case hn => rfl); (case hr => first | (go_simp; done) | (go_simp; rfl)); intro w53 hw; have hg : wr.grownBy w53 (some go46) := (by rw [hw]; exact HP52.2); have hp_ : Kd.R Kd.bool 4 w53 w.heap.size (fun _ => True) (.slice (some ⟨go46, 0, none⟩) x7_2.length co51) y495 := (by rw [hw, Ny495.out]; exact HP52.1); clear HP52; have n0_ := Aside0.mk (hp_); have n1_ := Aside0.mk ((by rw [hw]; exact below_set (HB.out) GB46.out : Below w.heap.size w w53)); clear HO_7; clear HB; have HO_7 := n0_; have HB := n1_; clear n0_ n1_; clear hg hw hp_; have p496 : 0 ≤ (x9_2 : Int) := of_decide_eq_true hA_; have q496 : x9_2 < (y495.length : Int) := (by have h_ : (x9_2 : Int) < ((x7_2.length : Int) : Int) := of_decide_eq_true hA_; first | (have e_ := (Kd.R_reads' HO_7.out).1; omega) | simpa only [Ny495.out, List.length_set] using h_); have ql496 : ((x9_2 : Int) < ((x7_2.length : Int) : Int)) = True := eq_true (of_decide_eq_true hA_); obtain ⟨ad496, e496, hx496_0⟩ := Kd.at_bool (Kd.R_reads' HO_7.out).2.2 x9_2 p496 q496; (try rw [← Nbq28.out] at hx496_0); (try rw [← Nbq47.out] at hx496_0); obtain rfl : (⟨go46, 0, none⟩ : Addr) = ad496 := (by injection e496); (first | simp only [add_plain] at hx496_0 | simp only [add_at] at hx496_0 | simp only [Addr.add, Nat.zero_add] at hx496_0 | skip); replace p496 := eq_true p496; replace q496 := eq_true q496; have p497 : 0 ≤ (x9_2 : Int) := of_decide_eq_true hA_; have q497 : x9_2 < (l1.length : Int) := of_decide_eq_true hA_; obtain ⟨ad497, e497, hx497_0⟩ := Kd.at_int HR1.out x9_2 p497 q497; cases e497; replace hx497_0 := (HB.out.cell (World.block_lt_of_cell? w _ hx497_0)).trans hx497_0; replace p497 := eq_true p497; replace q497 := eq_true q497))
                                    go_roundg k2
                                    case measure => have := HK1.out; have := HK2.out; omega
                                    case rel => exact ⟨(y495), (wrap64 (x8_2 + 1)), (wrap64 (x9_2 + 1)), (by first | rfl | (simp; done) | (simp [*]; done)), (by first | rfl | (simp; done) | (simp [*]; done)), H', ⟨by have := HK1.out; have := HK2.out; omega⟩, ⟨by (with_reducible repeat (first | apply Kd.R_alloc | apply Kd.R_drewN | apply Kd.R_drew)); exact HO_7.out⟩, ⟨by repeat (first | (with_reducible first | exact HB.out | apply below_alloc | apply pw_below_drewN | apply below_drew1) | exact HB.out)⟩⟩
                                  · rw [if_neg c50] at H
                                    have c50b0 : ((rd l1 x9_2) == 0) = false := beq_eq_false_iff_ne.mpr c50
                                    have c50b1 : ((rd l1 x9_2) != 0) = true := bne_iff_ne.mpr c50
                                    have H' := Aside0.mk H
                                    clear H
                                    have p484 : 0 ≤ (x9_2 : Int) := of_decide_eq_true hA_
                                    have q484 : x9_2 < (l0.length : Int) := of_decide_eq_true hA_
                                    obtain ⟨ad484, A484_2, c484_2, e484, hx484_0, hx484_1, hx484_2, hx484_3, hl484_2, hi484_2⟩ := at_T41 HR0.out x9_2 p484 q484
                                    cases e484
                                    replace hx484_0 := (HB.out.cell (World.block_lt_of_cell? w _ hx484_0)).trans hx484_0
                                    replace hx484_1 := (HB.out.cell (World.block_lt_of_cell? w _ hx484_1)).trans hx484_1
                                    replace hx484_2 := (HB.out.cell (World.block_lt_of_cell? w _ hx484_2)).trans hx484_2
                                    replace hx484_3 := (HB.out.cell (World.block_lt_of_cell? w _ hx484_3)).trans hx484_3
                                    have HR484_2 := Aside0.mk hi484_2
                                    have HC484_2 := Aside0.mk hl484_2
                                    clear hi484_2 hl484_2
                                    replace p484 := eq_true p484
                                    replace q484 := eq_true q484
                                    have p489 : 0 ≤ (x9_2 : Int) := of_decide_eq_true hA_
                                    have q489 : x9_2 < (l0.length : Int) := of_decide_eq_true hA_
                                    obtain ⟨ad489, A489_2, c489_2, e489, hx489_0, hx489_1, hx489_2, hx489_3, hl489_2, hi489_2⟩ := at_T41 HR0.out x9_2 p489 q489
                                    obtain rfl : ad484 = ad489 := (by injection e489)
                                    replace hx489_0 := (HB.out.cell (World.block_lt_of_cell? w _ hx489_0)).trans hx489_0
                                    replace hx489_1 := (HB.out.cell (World.block_lt_of_cell? w _ hx489_1)).trans hx489_1
                                    replace hx489_2 := (HB.out.cell (World.block_lt_of_cell? w _ hx489_2)).trans hx489_2
                                    replace hx489_3 := (HB.out.cell (World.block_lt_of_cell? w _ hx489_3)).trans hx489_3
                                    have HR489_2 := Aside0.mk hi489_2
                                    have HC489_2 := Aside0.mk hl489_2
                                    clear hi489_2 hl489_2
                                    replace p489 := eq_true p489
                                    replace q489 := eq_true q489
                                    have ea_ := Option.some.inj (hx484_2.symm.trans hx489_2)
                                    injection ea_ with ea_ en_ ec_
                                    subst ea_
                                    subst ec_
                                    clear en_
                                    obtain ⟨Ao54, co54, eo54⟩ := Kd.R_slice HO_7.out
                                    subst eo54
                                    have p490 : 0 ≤ (((rd_T41 l0 x9_2).f1) : Int) := of_decide_eq_true hA_
                                    have q490 : ((rd_T41 l0 x9_2).f1) < (x7_2.length : Int) := of_decide_eq_true hA_
                                    obtain ⟨ad490, e490, hx490_0⟩ := Kd.at_bool (Kd.R_reads' HO_7.out).2.2 ((rd_T41 l0 x9_2).f1) p490 q490
                                    (try rw [← Nbq28.out] at hx490_0)
                                    (try rw [← Nbq47.out] at hx490_0)
                                    cases e490
                                    replace p490 := eq_true p490
                                    replace q490 := eq_true q490
                                    have p46 : 0 ≤ (x9_2 : Int) := of_decide_eq_true hA_
                                    have q46 : (x9_2 : Int) < ((x7_2.length : Int) : Int) := of_decide_eq_true hA_
                                    obtain ⟨go46, co46, eo46, gb46, gl46, cl46, HG46⟩ := Kd.R_form HO_7.out (by omega)
                                    (first | cases eo46 | (injection eo46 with ea_ en_ ec_; (first | subst ea_ | (injection ea_ with ea_; subst ea_)); subst ec_; clear en_))
                                    have GB46 := Aside0.mk gb46
                                    have GG46 := Aside0.mk HG46
                                    clear gb46 gl46 HG46
                                    (first | simp only [add_plain] at hx490_0 | skip)
                                    obtain ⟨hx46_0, hf46_0⟩ := Kd.R_celln false HO_7.out (x9_2 : Int) p46 q46
                                    replace p46 := eq_true p46
                                    replace q46 := eq_true q46
                                    have HP55 := Kd.R_putg HO_7.out (x9_2 : Int) false
                                    go_wp2_with (first | ((with_reducible refine gate_store (t := 4) (p := 59) rfl ?_); refine store_event (t := 4) (p := 59) (v := ?vo_w56) (w1 := (wr.setCell ⟨go46, (x9_2 : Int).toNat, none⟩ (.bool false))) ?hg ?ho ?hn ?hr ?_; (case ho => rfl); (case hg => rfl); (case hn => rfl); (case hr => first | (go_simp; done) | (go_simp; rfl)); intro w56 hw; have hg : wr.grownBy w56 (some go46) := (by rw [hw]; exact HP55.2); have hp_ : Kd.R Kd.bool 4 w56 w.heap.size (fun _ => True) (.slice (some ⟨go46, 0, none⟩) x7_2.length co54) y495 := (by rw [hw, Ny495.out]; exact HP55.1); clear HP55; have n0_ := Aside0.mk (hp_); have n1_ := Aside0.mk ((by rw [hw]; exact below_set (HB.out) GB46.out : Below w.heap.size w w56)); clear HO_7; clear HB; have HO_7 := n0_; have HB := n1_; clear n0_ n1_; clear hg hw hp_; have p496 : 0 ≤ (x9_2 : Int) := of_decide_eq_true hA_; have q496 : x9_2 < (y495.length : Int) := (by have h_ : (x9_2 : Int) < ((x7_2.length : Int) : Int) := of_decide_eq_true hA_; first | (have e_ := (Kd.R_reads' HO_7.out).1; omega) | simpa only [Ny495.out, List.length_set] using h_); have ql496 : ((x9_2 : Int) < ((x7_2.length : Int) : Int)) = True := eq_true (of_decide_eq_true hA_); obtain ⟨ad496, e496, hx496_0⟩ := Kd.at_bool (Kd.R_reads' HO_7.out).2.2 x9_2 p496 q496; (try rw [← Nbq28.out] at hx496_0); (try rw [← Nbq47.out] at hx496_0); obtain rfl : (⟨go46, 0, none⟩ : Addr) = ad496 := (by injection e496); (first | simp only [add_plain] at hx496_0 | simp only [add_at] at hx496_0 | simp only [Addr.add, Nat.zero_add] at hx496_0 | skip); replace p496 := eq_true p496; replace q496 := eq_true q496; have p497 : 0 ≤ (x9_2 : Int) := of_decide_eq_true hA_; have q497 : x9_2 < (l1.length : Int) := of_decide_eq_true hA_; obtain ⟨ad497, e497, hx497_0⟩ := Kd.at_int HR1.out x9_2 p497 q497; cases e497; replace hx497_0 := (HB.out.cell (World.block_lt_of_cell? w _ hx497_0)).trans hx497_0; replace p497 := eq_true p497; replace q497 := eq_true q497))
                                    go_roundg k2
                                    case measure => have := HK1.out; have := HK2.out; omega
                                    case rel => exact ⟨(y495), (x8_2), (wrap64 (x9_2 + 1)), (by first | rfl | (simp; done) | (simp [*]; done)), (by first | rfl | (simp; done) | (simp [*]; done)), H', ⟨by have := HK1.out; have := HK2.out; omega⟩, ⟨by (with_reducible repeat (first | apply Kd.R_alloc | apply Kd.R_drewN | apply Kd.R_drew)); exact HO_7.out⟩, ⟨by repeat (first | (with_reducible first | exact HB.out | apply below_alloc | apply pw_below_drewN | apply below_drew1) | exact HB.out)⟩⟩
                                · rw [if_neg c49] at H
                                  exact absurd H (by simp)
                              · replace c48 := Bool.eq_false_iff.mpr c48
                                subst c48
                                have H1 : (sleuthlaw19_doubts.l1 k2 l0 l1 x5_1 y495 x8_2 (wrap64 (x9_2 + 1))) = some r := by rw [if_neg (show ¬ (false = true) by decide)] at H; exact H
                                clear H
                                have H := H1
                                clear H1
                                have H' := Aside0.mk H
                                clear H
                                have p484 : 0 ≤ (x9_2 : Int) := of_decide_eq_true hA_
                                have q484 : x9_2 < (l0.length : Int) := of_decide_eq_true hA_
                                obtain ⟨ad484, A484_2, c484_2, e484, hx484_0, hx484_1, hx484_2, hx484_3, hl484_2, hi484_2⟩ := at_T41 HR0.out x9_2 p484 q484
                                cases e484
                                replace hx484_0 := (HB.out.cell (World.block_lt_of_cell? w _ hx484_0)).trans hx484_0
                                replace hx484_1 := (HB.out.cell (World.block_lt_of_cell? w _ hx484_1)).trans hx484_1
                                replace hx484_2 := (HB.out.cell (World.block_lt_of_cell? w _ hx484_2)).trans hx484_2
                                replace hx484_3 := (HB.out.cell (World.block_lt_of_cell? w _ hx484_3)).trans hx484_3
                                have HR484_2 := Aside0.mk hi484_2
                                have HC484_2 := Aside0.mk hl484_2
                                clear hi484_2 hl484_2
                                replace p484 := eq_true p484
                                replace q484 := eq_true q484
                                have p489 : 0 ≤ (x9_2 : Int) := of_decide_eq_true hA_
                                have q489 : x9_2 < (l0.length : Int) := of_decide_eq_true hA_
                                obtain ⟨ad489, A489_2, c489_2, e489, hx489_0, hx489_1, hx489_2, hx489_3, hl489_2, hi489_2⟩ := at_T41 HR0.out x9_2 p489 q489
                                obtain rfl : ad484 = ad489 := (by injection e489)
                                replace hx489_0 := (HB.out.cell (World.block_lt_of_cell? w _ hx489_0)).trans hx489_0
                                replace hx489_1 := (HB.out.cell (World.block_lt_of_cell? w _ hx489_1)).trans hx489_1
                                replace hx489_2 := (HB.out.cell (World.block_lt_of_cell? w _ hx489_2)).trans hx489_2
                                replace hx489_3 := (HB.out.cell (World.block_lt_of_cell? w _ hx489_3)).trans hx489_3
                                have HR489_2 := Aside0.mk hi489_2
                                have HC489_2 := Aside0.mk hl489_2
                                clear hi489_2 hl489_2
                                replace p489 := eq_true p489
                                replace q489 := eq_true q489
                                have ea_ := Option.some.inj (hx484_2.symm.trans hx489_2)
                                injection ea_ with ea_ en_ ec_
                                subst ea_
                                subst ec_
                                clear en_
                                obtain ⟨Ao57, co57, eo57⟩ := Kd.R_slice HO_7.out
                                subst eo57
                                have p490 : 0 ≤ (((rd_T41 l0 x9_2).f1) : Int) := of_decide_eq_true hA_
                                have q490 : ((rd_T41 l0 x9_2).f1) < (x7_2.length : Int) := of_decide_eq_true hA_
                                obtain ⟨ad490, e490, hx490_0⟩ := Kd.at_bool (Kd.R_reads' HO_7.out).2.2 ((rd_T41 l0 x9_2).f1) p490 q490
                                (try rw [← Nbq28.out] at hx490_0)
                                (try rw [← Nbq47.out] at hx490_0)
                                cases e490
                                replace p490 := eq_true p490
                                replace q490 := eq_true q490
                                have p46 : 0 ≤ (x9_2 : Int) := of_decide_eq_true hA_
                                have q46 : (x9_2 : Int) < ((x7_2.length : Int) : Int) := of_decide_eq_true hA_
                                obtain ⟨go46, co46, eo46, gb46, gl46, cl46, HG46⟩ := Kd.R_form HO_7.out (by omega)
                                (first | cases eo46 | (injection eo46 with ea_ en_ ec_; (first | subst ea_ | (injection ea_ with ea_; subst ea_)); subst ec_; clear en_))
                                have GB46 := Aside0.mk gb46
                                have GG46 := Aside0.mk HG46
                                clear gb46 gl46 HG46
                                (first | simp only [add_plain] at hx490_0 | skip)
                                obtain ⟨hx46_0, hf46_0⟩ := Kd.R_celln false HO_7.out (x9_2 : Int) p46 q46
                                replace p46 := eq_true p46
                                replace q46 := eq_true q46
                                have HP58 := Kd.R_putg HO_7.out (x9_2 : Int) false
                                go_wp2_with (first | ((with_reducible refine gate_store (t := 4) (p := 59) rfl ?_); refine store_event (t := 4) (p := 59) (v := ?vo_w59) (w1 := (wr.setCell ⟨go46, (x9_2 : Int).toNat, none⟩ (.bool false))) ?hg ?ho ?hn ?hr ?_; (case ho => rfl); (case hg => rfl); (case hn => rfl); (case hr => first | (go_simp; done) | (go_simp; rfl)); intro w59 hw; have hg : wr.grownBy w59 (some go46) := (by rw [hw]; exact HP58.2); have hp_ : Kd.R Kd.bool 4 w59 w.heap.size (fun _ => True) (.slice (some ⟨go46, 0, none⟩) x7_2.length co57) y495 := (by rw [hw, Ny495.out]; exact HP58.1); clear HP58; have n0_ := Aside0.mk (hp_); have n1_ := Aside0.mk ((by rw [hw]; exact below_set (HB.out) GB46.out : Below w.heap.size w w59)); clear HO_7; clear HB; have HO_7 := n0_; have HB := n1_; clear n0_ n1_; clear hg hw hp_; have p496 : 0 ≤ (x9_2 : Int) := of_decide_eq_true hA_; have q496 : x9_2 < (y495.length : Int) := (by have h_ : (x9_2 : Int) < ((x7_2.length : Int) : Int) := of_decide_eq_true hA_; first | (have e_ := (Kd.R_reads' HO_7.out).1; omega) | simpa only [Ny495.out, List.length_set] using h_); have ql496 : ((x9_2 : Int) < ((x7_2.length : Int) : Int)) = True := eq_true (of_decide_eq_true hA_); obtain ⟨ad496, e496, hx496_0⟩ := Kd.at_bool (Kd.R_reads' HO_7.out).2.2 x9_2 p496 q496; (try rw [← Nbq28.out] at hx496_0); (try rw [← Nbq47.out] at hx496_0); obtain rfl : (⟨go46, 0, none⟩ : Addr) = ad496 := (by injection e496); (first | simp only [add_plain] at hx496_0 | simp only [add_at] at hx496_0 | simp only [Addr.add, Nat.zero_add] at hx496_0 | skip); replace p496 := eq_true p496; replace q496 := eq_true q496))
                                go_roundg k2
                                case measure => have := HK1.out; have := HK2.out; omega
                                case rel => exact ⟨(y495), (x8_2), (wrap64 (x9_2 + 1)), (by first | rfl | (simp; done) | (simp [*]; done)), (by first | rfl | (simp; done) | (simp [*]; done)), H', ⟨by have := HK1.out; have := HK2.out; omega⟩, ⟨by (with_reducible repeat (first | apply Kd.R_alloc | apply Kd.R_drewN | apply Kd.R_drew)); exact HO_7.out⟩, ⟨by repeat (first | (with_reducible first | exact HB.out | apply below_alloc | apply pw_below_drewN | apply below_drew1) | exact HB.out)⟩⟩
                            · rw [if_neg c45] at H
                              exact absurd H (by simp)
                        · rw [if_neg c27] at H
                          exact absurd H (by simp)
                      · rw [if_neg c26] at H
                        exact absurd H (by simp)
                  · rw [if_neg c12] at H
                    exact absurd H (by simp)
                · rw [if_neg c11] at H
                  have c11b0 : decide (x9_2 < (l0.length : Int)) = false := decide_eq_false c11
                  clear c11
                  obtain rfl := Option.some.inj H
                  go_wp2
                  go_ret
                  exact ⟨by first | rfl | (simp [errW_none, errW_some] <;> rfl) | (simp [*, errW_none, errW_some] <;> rfl), by repeat (first | (with_reducible first | exact HB.out | apply below_alloc | apply pw_below_drewN | apply below_drew1) | exact HB.out)⟩
          · rw [if_neg c8] at H
            exact absurd H (by simp)
        · rw [if_neg c7] at H
          exact absurd H (by simp)

end Go.Proofs.YtpbobdgenjhjoaaDoor.G
