-- Laid by the session's own driver gp.py over the kit's printer. Not trusted: Lean checks it.
import Derived.Test.YtpbobdgenjhjoaaDoorG0
import Derived.Test.YtpbobdgenjhjoaaDoorG2
import Derived.Test.YtpbobdgenjhjoaaDoorG25
import Derived.Test.YtpbobdgenjhjoaaDoorU8
import Derived.Test.YtpbobdgenjhjoaaDoorG37
namespace Go.Proofs.YtpbobdgenjhjoaaDoor.G
open Go.RowKit Go.Proofs.YtpbobdgenjhjoaaDoorW.PrintWords Go.Proofs.YtpbobdgenjhjoaaDoorW.PrintLast Go.Proofs.YtpbobdgenjhjoaaDoorW.PrintMore
attribute [local go_sem] max2_int min2_int max_two min_two max_three min_three max_four min_four   -- for this text's walks alone
set_option linter.unusedVariables false
set_option linter.unusedSimpArgs false

/-! ### sleuthlaw19_HalfFewer: function 12 -/
mutual
def sleuthlaw19_HalfFewer.j0 : Nat → List (S41) → List Int → Bool → Int → Bool → Int → Int → Option (Bool)
  | 0, _, _, _, _, _, _, _ => none
  | k + 1, x0, x1, x2, x8, x45, x503000, x503001 => if x45 = true then ((sleuthlaw0_Num.f x8).bind fun t505 => (if t505 = 0 then (some (x503000 != 0)) else (some true))) else ((some (([] : List Int) : List Int)).bind fun y506 => (if y506.length + x1.length < 17592186044416 then ((some (y506 ++ x1 : List Int)).bind fun y509 => (if 0 ≤ x503001 then (if x503001 < (y509.length : Int) then ((some (y509.set (x503001 : Int).toNat 2 : List Int)).bind fun y512 => (if x2 = true then (sleuthlaw19_HalfFewer.j1 k x0 x1 (y512.set (x503001 : Int).toNat 1) x503000 x503001) else (sleuthlaw19_HalfFewer.j1 k x0 x1 y512 x503000 x503001))) else (none)) else (none))) else (none)))
def sleuthlaw19_HalfFewer.j1 : Nat → List (S41) → List Int → List Int → Int → Int → Option (Bool)
  | 0, _, _, _, _, _ => none
  | k + 1, x0, x1, x9, x503000, x503001 => (half_Next.f k x0 x9).bind fun bt514 => ((sleuthlaw0_Num.f bt514.2.2).bind fun t518 => (if t518 = 0 then (if bt514.1 = 0 then (if bt514.2.1 = x503001 then (none) else (if x503001 = 0 then (some true) else ((sleuthlaw19_doubts.f k x0 x9).bind fun t519 => ((sleuthlaw19_doubts.f k x0 x1).bind fun t520 => (some (decide (t519 < t520))))))) else (if x503001 = 0 then (some true) else ((sleuthlaw19_doubts.f k x0 x9).bind fun t521 => ((sleuthlaw19_doubts.f k x0 x1).bind fun t522 => (some (decide (t521 < t522))))))) else (none)))
end
def sleuthlaw19_HalfFewer.f (k : Nat) (l0 : List (S41)) (l1 : List Int) (a2 : Bool) : Option (Bool) := (sleuthlaw19_awake.f k).bind fun t498 => (if t498 = true then ((half_Next.f k l0 l1).bind fun bt499 => ((sleuthlaw0_Num.f bt499.2.2).bind fun t503 => (if t503 = 0 then (if bt499.1 = 0 then ((sleuthref12_MarksMay.f k l0 l1).bind fun t504 => (if t504 = true then (if bt499.2.1 < 0 then (sleuthlaw19_HalfFewer.j0 k l0 l1 a2 bt499.2.2 true bt499.1 bt499.2.1) else (sleuthlaw19_HalfFewer.j0 k l0 l1 a2 bt499.2.2 (decide (bt499.2.1 ≥ (l0.length : Int))) bt499.1 bt499.2.1)) else (sleuthlaw19_HalfFewer.j0 k l0 l1 a2 bt499.2.2 true bt499.1 bt499.2.1))) else (sleuthlaw19_HalfFewer.j0 k l0 l1 a2 bt499.2.2 true bt499.1 bt499.2.1)) else (sleuthlaw19_HalfFewer.j0 k l0 l1 a2 bt499.2.2 true bt499.1 bt499.2.1)))) else (none))
theorem sleuthlaw19_HalfFewer.mono_l : ∀ k, (∀ y0 y1 y2 y3 y4 y5 y6, LeO (sleuthlaw19_HalfFewer.j0 k y0 y1 y2 y3 y4 y5 y6) (sleuthlaw19_HalfFewer.j0 (k + 1) y0 y1 y2 y3 y4 y5 y6)) ∧ (∀ y0 y1 y2 y3 y4, LeO (sleuthlaw19_HalfFewer.j1 k y0 y1 y2 y3 y4) (sleuthlaw19_HalfFewer.j1 (k + 1) y0 y1 y2 y3 y4))
  | 0 => ⟨fun _ _ _ _ _ _ _ r h => by simp [sleuthlaw19_HalfFewer.j0] at h, fun _ _ _ _ _ r h => by simp [sleuthlaw19_HalfFewer.j1] at h⟩
  | k + 1 => by
    obtain ⟨ih0, ih1⟩ := sleuthlaw19_HalfFewer.mono_l k
    refine ⟨?_, ?_⟩
    · intro y0 y1 y2 y3 y4 y5 y6
      unfold sleuthlaw19_HalfFewer.j0
      repeat' first
      | (with_reducible exact ih0 _ _ _ _ _ _ _)
      | (with_reducible exact ih1 _ _ _ _ _)
      | (with_reducible exact half_Next.mono _ _ _)
      | (with_reducible exact sleuthlaw19_awake.mono _)
      | (with_reducible exact sleuthlaw19_doubts.mono _ _ _)
      | (with_reducible exact sleuthref12_MarksMay.mono _ _ _)
      | (with_reducible exact LeO.refl _)
      | (with_reducible exact LeO.none _)
      | (with_reducible refine LeO.ite ?_ ?_)
      | (with_reducible refine LeO.bind ?_ (fun _ => ?_))
      | exact ih0 _ _ _ _ _ _ _
      | exact ih1 _ _ _ _ _
      | exact half_Next.mono _ _ _
      | exact sleuthlaw19_awake.mono _
      | exact sleuthlaw19_doubts.mono _ _ _
      | exact sleuthref12_MarksMay.mono _ _ _
      | exact LeO.none _
      | refine LeO.ite ?_ ?_
      | refine LeO.bind ?_ (fun _ => ?_)
    · intro y0 y1 y2 y3 y4
      unfold sleuthlaw19_HalfFewer.j1
      repeat' first
      | (with_reducible exact ih0 _ _ _ _ _ _ _)
      | (with_reducible exact ih1 _ _ _ _ _)
      | (with_reducible exact half_Next.mono _ _ _)
      | (with_reducible exact sleuthlaw19_awake.mono _)
      | (with_reducible exact sleuthlaw19_doubts.mono _ _ _)
      | (with_reducible exact sleuthref12_MarksMay.mono _ _ _)
      | (with_reducible exact LeO.refl _)
      | (with_reducible exact LeO.none _)
      | (with_reducible refine LeO.ite ?_ ?_)
      | (with_reducible refine LeO.bind ?_ (fun _ => ?_))
      | exact ih0 _ _ _ _ _ _ _
      | exact ih1 _ _ _ _ _
      | exact half_Next.mono _ _ _
      | exact sleuthlaw19_awake.mono _
      | exact sleuthlaw19_doubts.mono _ _ _
      | exact sleuthref12_MarksMay.mono _ _ _
      | exact LeO.none _
      | refine LeO.ite ?_ ?_
      | refine LeO.bind ?_ (fun _ => ?_)
theorem sleuthlaw19_HalfFewer.mono : ∀ a0 a1 a2 k, LeO (sleuthlaw19_HalfFewer.f k a0 a1 a2) (sleuthlaw19_HalfFewer.f (k + 1) a0 a1 a2) := by
  intro a0 a1 a2 k
  obtain ⟨ih0, ih1⟩ := sleuthlaw19_HalfFewer.mono_l k
  unfold sleuthlaw19_HalfFewer.f
  repeat' first
      | (with_reducible exact ih0 _ _ _ _ _ _ _)
      | (with_reducible exact ih1 _ _ _ _ _)
      | (with_reducible exact half_Next.mono _ _ _)
      | (with_reducible exact sleuthlaw19_awake.mono _)
      | (with_reducible exact sleuthlaw19_doubts.mono _ _ _)
      | (with_reducible exact sleuthref12_MarksMay.mono _ _ _)
      | (with_reducible exact LeO.refl _)
      | (with_reducible exact LeO.none _)
      | (with_reducible refine LeO.ite ?_ ?_)
      | (with_reducible refine LeO.bind ?_ (fun _ => ?_))
      | exact ih0 _ _ _ _ _ _ _
      | exact ih1 _ _ _ _ _
      | exact half_Next.mono _ _ _
      | exact sleuthlaw19_awake.mono _
      | exact sleuthlaw19_doubts.mono _ _ _
      | exact sleuthref12_MarksMay.mono _ _ _
      | exact LeO.none _
      | refine LeO.ite ?_ ?_
      | refine LeO.bind ?_ (fun _ => ?_)
set_option maxHeartbeats 8000000 in
set_option maxRecDepth 100000 in
theorem sleuthlaw19_HalfFewer.calls (k : Nat) (A0 : Option Addr) (c0 : Nat) (l0 : List (S41)) (A1 : Option Addr) (c1 : Nat) (l1 : List Int) (a2 : Bool) (r : Bool) (w : World) (hr0 : Kd.C k41 w A0 l0.length l0) (hc0 : l0.length ≤ c0) (hr1 : Kd.C (Kd.int .i64) w A1 l1.length l1) (hc1 : l1.length ≤ c1) (h : sleuthlaw19_HalfFewer.f k l0 l1 a2 = some r) (hG : GOK w) :
    Calls Tryd.prog 12 #[.slice A0 l0.length c0, .slice A1 l1.length c1, .bool a2] w fun e w' => e = .returned (.bool r) ∧ Below w.heap.size w w' := by
  have hu27 := Tryd.underlying27
  have HR0 := Aside0.mk hr0
  have HC0 := Aside0.mk hc0
  clear hr0 hc0
  have HR1 := Aside0.mk hr1
  have HC1 := Aside0.mk hc1
  clear hr1 hc1
  have HB := Aside0.mk (Below.refl w.heap.size w)
  have H : ((sleuthlaw19_awake.f k).bind fun t498 => (if t498 = true then ((half_Next.f k l0 l1).bind fun bt499 => ((sleuthlaw0_Num.f bt499.2.2).bind fun t503 => (if t503 = 0 then (if bt499.1 = 0 then ((sleuthref12_MarksMay.f k l0 l1).bind fun t504 => (if t504 = true then (if bt499.2.1 < 0 then (sleuthlaw19_HalfFewer.j0 k l0 l1 a2 bt499.2.2 true bt499.1 bt499.2.1) else (sleuthlaw19_HalfFewer.j0 k l0 l1 a2 bt499.2.2 (decide (bt499.2.1 ≥ (l0.length : Int))) bt499.1 bt499.2.1)) else (sleuthlaw19_HalfFewer.j0 k l0 l1 a2 bt499.2.2 true bt499.1 bt499.2.1))) else (sleuthlaw19_HalfFewer.j0 k l0 l1 a2 bt499.2.2 true bt499.1 bt499.2.1)) else (sleuthlaw19_HalfFewer.j0 k l0 l1 a2 bt499.2.2 true bt499.1 bt499.2.1)))) else (none))) = some r := h
  clear h
  replace H := Option.bind_eq_some_iff.mp H
  obtain ⟨t498, A40, H⟩ := H
  replace H : (if t498 = true then ((half_Next.f k l0 l1).bind fun bt499 => ((sleuthlaw0_Num.f bt499.2.2).bind fun t503 => (if t503 = 0 then (if bt499.1 = 0 then ((sleuthref12_MarksMay.f k l0 l1).bind fun t504 => (if t504 = true then (if bt499.2.1 < 0 then (sleuthlaw19_HalfFewer.j0 k l0 l1 a2 bt499.2.2 true bt499.1 bt499.2.1) else (sleuthlaw19_HalfFewer.j0 k l0 l1 a2 bt499.2.2 (decide (bt499.2.1 ≥ (l0.length : Int))) bt499.1 bt499.2.1)) else (sleuthlaw19_HalfFewer.j0 k l0 l1 a2 bt499.2.2 true bt499.1 bt499.2.1))) else (sleuthlaw19_HalfFewer.j0 k l0 l1 a2 bt499.2.2 true bt499.1 bt499.2.1)) else (sleuthlaw19_HalfFewer.j0 k l0 l1 a2 bt499.2.2 true bt499.1 bt499.2.1)))) else (none)) = some r := H
  have A4 := Aside0.mk A40
  clear A40
  by_cases c5 : t498 = true
  · subst c5
    have H1 : ((half_Next.f k l0 l1).bind fun bt499 => ((sleuthlaw0_Num.f bt499.2.2).bind fun t503 => (if t503 = 0 then (if bt499.1 = 0 then ((sleuthref12_MarksMay.f k l0 l1).bind fun t504 => (if t504 = true then (if bt499.2.1 < 0 then (sleuthlaw19_HalfFewer.j0 k l0 l1 a2 bt499.2.2 true bt499.1 bt499.2.1) else (sleuthlaw19_HalfFewer.j0 k l0 l1 a2 bt499.2.2 (decide (bt499.2.1 ≥ (l0.length : Int))) bt499.1 bt499.2.1)) else (sleuthlaw19_HalfFewer.j0 k l0 l1 a2 bt499.2.2 true bt499.1 bt499.2.1))) else (sleuthlaw19_HalfFewer.j0 k l0 l1 a2 bt499.2.2 true bt499.1 bt499.2.1)) else (sleuthlaw19_HalfFewer.j0 k l0 l1 a2 bt499.2.2 true bt499.1 bt499.2.1)))) = some r := by rw [if_pos rfl] at H; exact H
    clear H
    have H := H1
    clear H1
    replace H := Option.bind_eq_some_iff.mp H
    obtain ⟨⟨t499, t500, t501⟩, A60, H⟩ := H
    replace H : ((sleuthlaw0_Num.f t501).bind fun t503 => (if t503 = 0 then (if t499 = 0 then ((sleuthref12_MarksMay.f k l0 l1).bind fun t504 => (if t504 = true then (if t500 < 0 then (sleuthlaw19_HalfFewer.j0 k l0 l1 a2 t501 true t499 t500) else (sleuthlaw19_HalfFewer.j0 k l0 l1 a2 t501 (decide (t500 ≥ (l0.length : Int))) t499 t500)) else (sleuthlaw19_HalfFewer.j0 k l0 l1 a2 t501 true t499 t500))) else (sleuthlaw19_HalfFewer.j0 k l0 l1 a2 t501 true t499 t500)) else (sleuthlaw19_HalfFewer.j0 k l0 l1 a2 t501 true t499 t500))) = some r := H
    have A6 := Aside0.mk A60
    clear A60
    have HC7 := Aside0.mk H
    clear H
    go_enter Tryd.func12, Tryd.ntmps12
    go_upto_region 4 with (first | ((with_reducible refine gate_callee (f := 23) rfl ?_); refine goesL_ (some 12) rfl rfl Tryd.func23 (by kernel_rfl) rfl #[] rfl hL_ ?_; (with_reducible refine (sleuthlaw19_awake.calls k  true _ A4.out hG_).mono ?_); rintro e w8 ⟨rfl, hb⟩; refine ⟨_, rfl, ?_⟩; have n0_ := Aside0.mk (below_step hB_ hb); clear HB; have HB := n0_; clear n0_; (try clear hb); (try clear hb2); (try clear hk); (try clear hi)) | ((with_reducible refine gate_callee (f := 25) rfl ?_); refine goesL_ (some 17) rfl rfl Tryd.func25 (by kernel_rfl) rfl #[.slice A0 l0.length c0, .slice A1 l1.length c1] rfl hL_ ?_; (with_reducible refine (half_Next.calls k _ _ l0 _ _ l1 t499 t500 t501 _ ?side1 ?side2 ?side3 ?side4 A6.out hG_).mono ?_); (case side1 => repeat (first | exact (Kd.C_below HR0.out HB.out) | (with_reducible refine Kd.C_alloc ?_ _) | (with_reducible refine Kd.C_drewN ?_ _) | (with_reducible refine Kd.C_drew ?_))); (case side2 => exact HC0.out); (case side3 => repeat (first | exact (Kd.C_below HR1.out HB.out) | (with_reducible refine Kd.C_alloc ?_ _) | (with_reducible refine Kd.C_drewN ?_ _) | (with_reducible refine Kd.C_drew ?_))); (case side4 => exact HC1.out); rintro e w9 ⟨rfl, hb⟩; refine ⟨_, rfl, ?_⟩; have n0_ := Aside0.mk (below_step hB_ hb); clear HB; have HB := n0_; clear n0_; (try clear hb); (try clear hb2); (try clear hk); (try clear hi)) | ((with_reducible refine gate_dst (N := 7) rfl ?_); (try (refine gate_guard (by rfl) ?_; dsimp only)); refine box_event ?hg (N := 7) ?hd (cs := #[.int .i64 0, .int .i64 0]) (t := 27) ?hr ?_; (case hd => rfl); (case hg => rfl); (case hr => first | (go_simp; done) | (go_simp; rfl)); intro gb502 hg w10 hbox hb; have n0_ := Aside0.mk (below_step hB_ hb); have n1_ := Aside0.mk (hbox); have n2_ := Aside0.mk ((by rw [hg]; exact hS_ : w.heap.size ≤ gb502)); have n3_ := Aside0.mk ((by rw [hg]; exact hS_ : w.heap.size ≤ gb502)); clear HB; have HB := n0_; have BK502 := n1_; have GW502 := n2_; have GE502 := n3_; clear n0_ n1_ n2_ n3_; clear hb hbox hg; have hcz11_0 : w10.cell? ⟨gb502, 0, none⟩ = some (.int .i64 0) := (blk_cell BK502.out 0).trans rfl; have hcz11_1 : w10.cell? ⟨gb502, 1, none⟩ = some (.int .i64 0) := (blk_cell BK502.out 1).trans rfl; have hfz11_0 := blk_frozen BK502.out 0; have hfz11_1 := blk_frozen BK502.out 1))
    (try simp only [Act.put, List.setIfInBounds_toArray, List.set_cons_zero, List.set_cons_succ])
    go_cut [45] (fun v45 wc => ∃ (kq : Nat) (x45_6 : Bool), v45 = .bool x45_6 ∧ Aside0 (sleuthlaw19_HalfFewer.j0 kq l0 l1 a2 t501 x45_6 t499 t500 = some r) ∧ Aside0 (kq ≤ k) ∧ Aside0 (wc.heap[gb502]? = some (.cells #[.int .i64 t499, .int .i64 t500] 27 (0, 0))) ∧ Aside0 (Below w.heap.size w wc))
    case first =>
      have H := HC7.out
      clear HC7
      replace H := Option.bind_eq_some_iff.mp H
      obtain ⟨t503, A120, H⟩ := H
      replace H : (if t503 = 0 then (if t499 = 0 then ((sleuthref12_MarksMay.f k l0 l1).bind fun t504 => (if t504 = true then (if t500 < 0 then (sleuthlaw19_HalfFewer.j0 k l0 l1 a2 t501 true t499 t500) else (sleuthlaw19_HalfFewer.j0 k l0 l1 a2 t501 (decide (t500 ≥ (l0.length : Int))) t499 t500)) else (sleuthlaw19_HalfFewer.j0 k l0 l1 a2 t501 true t499 t500))) else (sleuthlaw19_HalfFewer.j0 k l0 l1 a2 t501 true t499 t500)) else (sleuthlaw19_HalfFewer.j0 k l0 l1 a2 t501 true t499 t500)) = some r := H
      have A12 := Aside0.mk A120
      clear A120
      by_cases c13 : t503 = 0
      · rw [if_pos c13] at H
        have c13b0 : (t503 == 0) = true := beq_iff_eq.mpr c13
        have c13b1 : (t503 != 0) = false := bne_eq_false_iff_eq.mpr c13
        clear c13
        (first | rw [c13b0] | (simp only [i64_w, i32_w]; rw [c13b0]) | skip)
        by_cases c14 : t499 = 0
        · rw [if_pos c14] at H
          have c14b0 : (t499 == 0) = true := beq_iff_eq.mpr c14
          have c14b1 : (t499 != 0) = false := bne_eq_false_iff_eq.mpr c14
          clear c14
          replace H := Option.bind_eq_some_iff.mp H
          obtain ⟨t504, A150, H⟩ := H
          replace H : (if t504 = true then (if t500 < 0 then (sleuthlaw19_HalfFewer.j0 k l0 l1 a2 t501 true t499 t500) else (sleuthlaw19_HalfFewer.j0 k l0 l1 a2 t501 (decide (t500 ≥ (l0.length : Int))) t499 t500)) else (sleuthlaw19_HalfFewer.j0 k l0 l1 a2 t501 true t499 t500)) = some r := H
          have A15 := Aside0.mk A150
          clear A150
          by_cases c16 : t504 = true
          · subst c16
            have H1 : (if t500 < 0 then (sleuthlaw19_HalfFewer.j0 k l0 l1 a2 t501 true t499 t500) else (sleuthlaw19_HalfFewer.j0 k l0 l1 a2 t501 (decide (t500 ≥ (l0.length : Int))) t499 t500)) = some r := by rw [if_pos rfl] at H; exact H
            clear H
            have H := H1
            clear H1
            by_cases c17 : t500 < 0
            · rw [if_pos c17] at H
              have c17b0 : decide (t500 < 0) = true := decide_eq_true c17
              clear c17
              have H' := Aside0.mk H
              clear H
              go_wp2_with (first | ((with_reducible refine gate_callee (f := 17) rfl ?_); refine goesL_ (some 21) rfl rfl Tryd.func17 (by kernel_rfl) rfl #[.int .i64 t501] rfl hL_ ?_; (with_reducible refine (sleuthlaw0_Num.calls t501 t503 _ A12.out).mono ?_); rintro e w' ⟨rfl, ⟨nd, rfl⟩⟩; refine ⟨_, rfl, ?_⟩; have hcz18_0 : w10.cell? ⟨gb502, 0, none⟩ = some (.int .i64 0) := (blk_cell BK502.out 0).trans rfl; have hcz18_1 : w10.cell? ⟨gb502, 1, none⟩ = some (.int .i64 0) := (blk_cell BK502.out 1).trans rfl; have hfz18_0 := blk_frozen BK502.out 0; have hfz18_1 := blk_frozen BK502.out 1) | (go_at_call 22; (with_reducible refine (sleuthref12_MarksMay.calls k _ _ l0 _ _ l1 true _ ?side1 ?side2 ?side3 ?side4 A15.out).mono ?_); (case side1 => exact Kd.C_below HR0.out (by repeat (first | (with_reducible first | exact HB.out | apply below_alloc | apply pw_below_drewN | apply below_drew1 | refine below_set ?_ GE502.out) | exact HB.out))); (case side2 => exact HC0.out); (case side3 => exact Kd.C_below HR1.out (by repeat (first | (with_reducible first | exact HB.out | apply below_alloc | apply pw_below_drewN | apply below_drew1 | refine below_set ?_ GE502.out) | exact HB.out))); (case side4 => exact HC1.out); rintro e w19 ⟨rfl, hb⟩; have n0_ := Aside0.mk (blk_below (g := gb502) (o := .cells #[.int .i64 t499, .int .i64 t500] 27 (0, 0)) (by (with_reducible repeat (first | refine blk_drewN ?_ _ | refine blk_drew ?_ | refine blk_alloc ?_ _)); refine blk_put (cs := #[.int .i64 t499, .int .i64 0]) ?_ 1 _ rfl; (with_reducible repeat (first | refine blk_drewN ?_ _ | refine blk_drew ?_ | refine blk_alloc ?_ _)); refine blk_put (cs := #[.int .i64 0, .int .i64 0]) ?_ 0 _ rfl; (with_reducible repeat (first | refine blk_drewN ?_ _ | refine blk_drew ?_ | refine blk_alloc ?_ _)); exact BK502.out) hb); have n1_ := Aside0.mk (below_step (by repeat (first | (with_reducible first | exact HB.out | apply below_alloc | apply pw_below_drewN | apply below_drew1 | refine below_set ?_ GE502.out) | exact HB.out)) hb); clear BK502; clear HB; have BK502 := n0_; have HB := n1_; clear n0_ n1_; (try clear hb); (try clear hb2); (try clear hk); (try clear hi); have hcz20_0 : w19.cell? ⟨gb502, 0, none⟩ = some (.int .i64 t499) := (blk_cell BK502.out 0).trans rfl; have hcz20_1 : w19.cell? ⟨gb502, 1, none⟩ = some (.int .i64 t500) := (blk_cell BK502.out 1).trans rfl; have hfz20_0 := blk_frozen BK502.out 0; have hfz20_1 := blk_frozen BK502.out 1))
              go_meet
              case rel => exact ⟨_, (true), (by first | rfl | (simp; done) | (simp [*]; done)), H', ⟨by first | omega | exact Nat.le_refl _⟩, ⟨by (with_reducible repeat (first | refine blk_drewN ?_ _ | refine blk_drew ?_ | refine blk_alloc ?_ _)); exact BK502.out⟩, ⟨by repeat (first | (with_reducible first | exact HB.out | apply below_alloc | apply pw_below_drewN | apply below_drew1 | refine below_set ?_ GE502.out) | exact HB.out)⟩⟩
            · rw [if_neg c17] at H
              have c17b0 : decide (t500 < 0) = false := decide_eq_false c17
              clear c17
              have H' := Aside0.mk H
              clear H
              go_wp2_with (first | ((with_reducible refine gate_callee (f := 17) rfl ?_); refine goesL_ (some 21) rfl rfl Tryd.func17 (by kernel_rfl) rfl #[.int .i64 t501] rfl hL_ ?_; (with_reducible refine (sleuthlaw0_Num.calls t501 t503 _ A12.out).mono ?_); rintro e w' ⟨rfl, ⟨nd, rfl⟩⟩; refine ⟨_, rfl, ?_⟩; have hcz21_0 : w10.cell? ⟨gb502, 0, none⟩ = some (.int .i64 0) := (blk_cell BK502.out 0).trans rfl; have hcz21_1 : w10.cell? ⟨gb502, 1, none⟩ = some (.int .i64 0) := (blk_cell BK502.out 1).trans rfl; have hfz21_0 := blk_frozen BK502.out 0; have hfz21_1 := blk_frozen BK502.out 1) | (go_at_call 22; (with_reducible refine (sleuthref12_MarksMay.calls k _ _ l0 _ _ l1 true _ ?side1 ?side2 ?side3 ?side4 A15.out).mono ?_); (case side1 => exact Kd.C_below HR0.out (by repeat (first | (with_reducible first | exact HB.out | apply below_alloc | apply pw_below_drewN | apply below_drew1 | refine below_set ?_ GE502.out) | exact HB.out))); (case side2 => exact HC0.out); (case side3 => exact Kd.C_below HR1.out (by repeat (first | (with_reducible first | exact HB.out | apply below_alloc | apply pw_below_drewN | apply below_drew1 | refine below_set ?_ GE502.out) | exact HB.out))); (case side4 => exact HC1.out); rintro e w22 ⟨rfl, hb⟩; have n0_ := Aside0.mk (blk_below (g := gb502) (o := .cells #[.int .i64 t499, .int .i64 t500] 27 (0, 0)) (by (with_reducible repeat (first | refine blk_drewN ?_ _ | refine blk_drew ?_ | refine blk_alloc ?_ _)); refine blk_put (cs := #[.int .i64 t499, .int .i64 0]) ?_ 1 _ rfl; (with_reducible repeat (first | refine blk_drewN ?_ _ | refine blk_drew ?_ | refine blk_alloc ?_ _)); refine blk_put (cs := #[.int .i64 0, .int .i64 0]) ?_ 0 _ rfl; (with_reducible repeat (first | refine blk_drewN ?_ _ | refine blk_drew ?_ | refine blk_alloc ?_ _)); exact BK502.out) hb); have n1_ := Aside0.mk (below_step (by repeat (first | (with_reducible first | exact HB.out | apply below_alloc | apply pw_below_drewN | apply below_drew1 | refine below_set ?_ GE502.out) | exact HB.out)) hb); clear BK502; clear HB; have BK502 := n0_; have HB := n1_; clear n0_ n1_; (try clear hb); (try clear hb2); (try clear hk); (try clear hi); have hcz23_0 : w22.cell? ⟨gb502, 0, none⟩ = some (.int .i64 t499) := (blk_cell BK502.out 0).trans rfl; have hcz23_1 : w22.cell? ⟨gb502, 1, none⟩ = some (.int .i64 t500) := (blk_cell BK502.out 1).trans rfl; have hfz23_0 := blk_frozen BK502.out 0; have hfz23_1 := blk_frozen BK502.out 1))
              go_meet
              case rel => exact ⟨_, (decide (t500 ≥ (l0.length : Int))), (by first | rfl | (simp; done) | (simp [*]; done)), H', ⟨by first | omega | exact Nat.le_refl _⟩, ⟨by (with_reducible repeat (first | refine blk_drewN ?_ _ | refine blk_drew ?_ | refine blk_alloc ?_ _)); exact BK502.out⟩, ⟨by repeat (first | (with_reducible first | exact HB.out | apply below_alloc | apply pw_below_drewN | apply below_drew1 | refine below_set ?_ GE502.out) | exact HB.out)⟩⟩
          · replace c16 := Bool.eq_false_iff.mpr c16
            subst c16
            have H1 : (sleuthlaw19_HalfFewer.j0 k l0 l1 a2 t501 true t499 t500) = some r := by rw [if_neg (show ¬ (false = true) by decide)] at H; exact H
            clear H
            have H := H1
            clear H1
            have H' := Aside0.mk H
            clear H
            go_wp2_with (first | ((with_reducible refine gate_callee (f := 17) rfl ?_); refine goesL_ (some 21) rfl rfl Tryd.func17 (by kernel_rfl) rfl #[.int .i64 t501] rfl hL_ ?_; (with_reducible refine (sleuthlaw0_Num.calls t501 t503 _ A12.out).mono ?_); rintro e w' ⟨rfl, ⟨nd, rfl⟩⟩; refine ⟨_, rfl, ?_⟩; have hcz24_0 : w10.cell? ⟨gb502, 0, none⟩ = some (.int .i64 0) := (blk_cell BK502.out 0).trans rfl; have hcz24_1 : w10.cell? ⟨gb502, 1, none⟩ = some (.int .i64 0) := (blk_cell BK502.out 1).trans rfl; have hfz24_0 := blk_frozen BK502.out 0; have hfz24_1 := blk_frozen BK502.out 1) | (go_at_call 22; (with_reducible refine (sleuthref12_MarksMay.calls k _ _ l0 _ _ l1 false _ ?side1 ?side2 ?side3 ?side4 A15.out).mono ?_); (case side1 => exact Kd.C_below HR0.out (by repeat (first | (with_reducible first | exact HB.out | apply below_alloc | apply pw_below_drewN | apply below_drew1 | refine below_set ?_ GE502.out) | exact HB.out))); (case side2 => exact HC0.out); (case side3 => exact Kd.C_below HR1.out (by repeat (first | (with_reducible first | exact HB.out | apply below_alloc | apply pw_below_drewN | apply below_drew1 | refine below_set ?_ GE502.out) | exact HB.out))); (case side4 => exact HC1.out); rintro e w25 ⟨rfl, hb⟩; have n0_ := Aside0.mk (blk_below (g := gb502) (o := .cells #[.int .i64 t499, .int .i64 t500] 27 (0, 0)) (by (with_reducible repeat (first | refine blk_drewN ?_ _ | refine blk_drew ?_ | refine blk_alloc ?_ _)); refine blk_put (cs := #[.int .i64 t499, .int .i64 0]) ?_ 1 _ rfl; (with_reducible repeat (first | refine blk_drewN ?_ _ | refine blk_drew ?_ | refine blk_alloc ?_ _)); refine blk_put (cs := #[.int .i64 0, .int .i64 0]) ?_ 0 _ rfl; (with_reducible repeat (first | refine blk_drewN ?_ _ | refine blk_drew ?_ | refine blk_alloc ?_ _)); exact BK502.out) hb); have n1_ := Aside0.mk (below_step (by repeat (first | (with_reducible first | exact HB.out | apply below_alloc | apply pw_below_drewN | apply below_drew1 | refine below_set ?_ GE502.out) | exact HB.out)) hb); clear BK502; clear HB; have BK502 := n0_; have HB := n1_; clear n0_ n1_; (try clear hb); (try clear hb2); (try clear hk); (try clear hi)))
            go_meet
            case rel => exact ⟨_, (true), (by first | rfl | (simp; done) | (simp [*]; done)), H', ⟨by first | omega | exact Nat.le_refl _⟩, ⟨by (with_reducible repeat (first | refine blk_drewN ?_ _ | refine blk_drew ?_ | refine blk_alloc ?_ _)); exact BK502.out⟩, ⟨by repeat (first | (with_reducible first | exact HB.out | apply below_alloc | apply pw_below_drewN | apply below_drew1 | refine below_set ?_ GE502.out) | exact HB.out)⟩⟩
        · rw [if_neg c14] at H
          have c14b0 : (t499 == 0) = false := beq_eq_false_iff_ne.mpr c14
          have c14b1 : (t499 != 0) = true := bne_iff_ne.mpr c14
          have H' := Aside0.mk H
          clear H
          go_wp2_with (first | ((with_reducible refine gate_callee (f := 17) rfl ?_); refine goesL_ (some 21) rfl rfl Tryd.func17 (by kernel_rfl) rfl #[.int .i64 t501] rfl hL_ ?_; (with_reducible refine (sleuthlaw0_Num.calls t501 t503 _ A12.out).mono ?_); rintro e w' ⟨rfl, ⟨nd, rfl⟩⟩; refine ⟨_, rfl, ?_⟩; have hcz26_0 : w10.cell? ⟨gb502, 0, none⟩ = some (.int .i64 0) := (blk_cell BK502.out 0).trans rfl; have hcz26_1 : w10.cell? ⟨gb502, 1, none⟩ = some (.int .i64 0) := (blk_cell BK502.out 1).trans rfl; have hfz26_0 := blk_frozen BK502.out 0; have hfz26_1 := blk_frozen BK502.out 1))
          go_meet
          case rel => exact ⟨_, (true), (by first | rfl | (simp; done) | (simp [*]; done)), H', ⟨by first | omega | exact Nat.le_refl _⟩, ⟨by (with_reducible repeat (first | refine blk_drewN ?_ _ | refine blk_drew ?_ | refine blk_alloc ?_ _)); refine blk_put (cs := #[.int .i64 t499, .int .i64 0]) ?_ 1 _ rfl; (with_reducible repeat (first | refine blk_drewN ?_ _ | refine blk_drew ?_ | refine blk_alloc ?_ _)); refine blk_put (cs := #[.int .i64 0, .int .i64 0]) ?_ 0 _ rfl; (with_reducible repeat (first | refine blk_drewN ?_ _ | refine blk_drew ?_ | refine blk_alloc ?_ _)); exact BK502.out⟩, ⟨by repeat (first | (with_reducible first | exact HB.out | apply below_alloc | apply pw_below_drewN | apply below_drew1 | refine below_set ?_ GE502.out) | exact HB.out)⟩⟩
      · rw [if_neg c13] at H
        have c13b0 : (t503 == 0) = false := beq_eq_false_iff_ne.mpr c13
        have c13b1 : (t503 != 0) = true := bne_iff_ne.mpr c13
        (first | rw [c13b0] | (simp only [i64_w, i32_w]; rw [c13b0]) | skip)
        have H' := Aside0.mk H
        clear H
        go_wp2_with (first | ((with_reducible refine gate_callee (f := 17) rfl ?_); refine goesL_ (some 21) rfl rfl Tryd.func17 (by kernel_rfl) rfl #[.int .i64 t501] rfl hL_ ?_; (with_reducible refine (sleuthlaw0_Num.calls t501 t503 _ A12.out).mono ?_); rintro e w' ⟨rfl, ⟨nd, rfl⟩⟩; refine ⟨_, rfl, ?_⟩))
        go_meet
        case rel => exact ⟨_, (true), (by first | rfl | (simp; done) | (simp [*]; done)), H', ⟨by first | omega | exact Nat.le_refl _⟩, ⟨by (with_reducible repeat (first | refine blk_drewN ?_ _ | refine blk_drew ?_ | refine blk_alloc ?_ _)); refine blk_put (cs := #[.int .i64 t499, .int .i64 0]) ?_ 1 _ rfl; (with_reducible repeat (first | refine blk_drewN ?_ _ | refine blk_drew ?_ | refine blk_alloc ?_ _)); refine blk_put (cs := #[.int .i64 0, .int .i64 0]) ?_ 0 _ rfl; (with_reducible repeat (first | refine blk_drewN ?_ _ | refine blk_drew ?_ | refine blk_alloc ?_ _)); exact BK502.out⟩, ⟨by repeat (first | (with_reducible first | exact HB.out | apply below_alloc | apply pw_below_drewN | apply below_drew1 | refine below_set ?_ GE502.out) | exact HB.out)⟩⟩
    case rest =>
      clear HC7
      try clear c1
      try clear c2
      try clear p2
      try clear c5
      try clear c12
      try clear c13
      try clear c13b0
      try clear c13b1
      try clear c14
      try clear c14b0
      try clear c14b1
      try clear c16
      try clear c17
      try clear c17b0
      try clear c23
      try clear c25
      try clear hcz11_0
      try clear hcz11_1
      try clear hcz18_0
      try clear hcz18_1
      try clear hcz20_0
      try clear hcz20_1
      try clear hcz21_0
      try clear hcz21_1
      try clear hcz23_0
      try clear hcz23_1
      try clear hcz24_0
      try clear hcz24_1
      try clear hcz26_0
      try clear hcz26_1
      try clear hfz11_0
      try clear hfz11_1
      try clear hfz18_0
      try clear hfz18_1
      try clear hfz20_0
      try clear hfz20_1
      try clear hfz21_0
      try clear hfz21_1
      try clear hfz23_0
      try clear hfz23_1
      try clear hfz24_0
      try clear hfz24_1
      try clear hfz26_0
      try clear hfz26_1
      obtain ⟨kq, x45_6, rfl, HA, HJ6, BK502, HB⟩ := hcut
      cases kq with
      | zero => exact absurd HA.out (by simp [sleuthlaw19_HalfFewer.j0])
      | succ kj6 =>
        have H := HA.out
        clear HA
        simp only [sleuthlaw19_HalfFewer.j0] at H
        by_cases c27 : x45_6 = true
        · subst c27
          have H1 : ((sleuthlaw0_Num.f t501).bind fun t505 => (if t505 = 0 then (some (t499 != 0)) else (some true))) = some r := by rw [if_pos rfl] at H; exact H
          clear H
          have H := H1
          clear H1
          replace H := Option.bind_eq_some_iff.mp H
          obtain ⟨t505, A280, H⟩ := H
          replace H : (if t505 = 0 then (some (t499 != 0)) else (some true)) = some r := H
          have A28 := Aside0.mk A280
          clear A280
          by_cases c29 : t505 = 0
          · rw [if_pos c29] at H
            have c29b0 : (t505 == 0) = true := beq_iff_eq.mpr c29
            have c29b1 : (t505 != 0) = false := bne_eq_false_iff_eq.mpr c29
            clear c29
            obtain rfl := Option.some.inj H
            go_wp2_with (first | ((with_reducible refine gate_callee (f := 17) rfl ?_); refine goesL_ (some 47) rfl rfl Tryd.func17 (by kernel_rfl) rfl #[.int .i64 t501] rfl hL_ ?_; (with_reducible refine (sleuthlaw0_Num.calls t501 t505 _ A28.out).mono ?_); rintro e w' ⟨rfl, ⟨nd, rfl⟩⟩; refine ⟨_, rfl, ?_⟩; have hcz30_0 : wc.cell? ⟨gb502, 0, none⟩ = some (.int .i64 t499) := (blk_cell BK502.out 0).trans rfl; have hcz30_1 : wc.cell? ⟨gb502, 1, none⟩ = some (.int .i64 t500) := (blk_cell BK502.out 1).trans rfl; have hfz30_0 := blk_frozen BK502.out 0; have hfz30_1 := blk_frozen BK502.out 1))
            go_ret
            exact ⟨by first | rfl | (simp [errW_none, errW_some] <;> rfl) | (simp [*, errW_none, errW_some] <;> rfl), by repeat (first | (with_reducible first | exact HB.out | apply below_alloc | apply pw_below_drewN | apply below_drew1 | refine below_set ?_ GE502.out) | exact HB.out)⟩
          · rw [if_neg c29] at H
            have c29b0 : (t505 == 0) = false := beq_eq_false_iff_ne.mpr c29
            have c29b1 : (t505 != 0) = true := bne_iff_ne.mpr c29
            obtain rfl := Option.some.inj H
            go_wp2_with (first | ((with_reducible refine gate_callee (f := 17) rfl ?_); refine goesL_ (some 47) rfl rfl Tryd.func17 (by kernel_rfl) rfl #[.int .i64 t501] rfl hL_ ?_; (with_reducible refine (sleuthlaw0_Num.calls t501 t505 _ A28.out).mono ?_); rintro e w' ⟨rfl, ⟨nd, rfl⟩⟩; refine ⟨_, rfl, ?_⟩))
            go_ret
            exact ⟨by first | rfl | (simp [errW_none, errW_some] <;> rfl) | (simp [*, errW_none, errW_some] <;> rfl), by repeat (first | (with_reducible first | exact HB.out | apply below_alloc | apply pw_below_drewN | apply below_drew1 | refine below_set ?_ GE502.out) | exact HB.out)⟩
        · replace c27 := Bool.eq_false_iff.mpr c27
          subst c27
          have H1 : ((some (([] : List Int) : List Int)).bind fun y506 => (if y506.length + l1.length < 17592186044416 then ((some (y506 ++ l1 : List Int)).bind fun y509 => (if 0 ≤ t500 then (if t500 < (y509.length : Int) then ((some (y509.set (t500 : Int).toNat 2 : List Int)).bind fun y512 => (if a2 = true then (sleuthlaw19_HalfFewer.j1 kj6 l0 l1 (y512.set (t500 : Int).toNat 1) t499 t500) else (sleuthlaw19_HalfFewer.j1 kj6 l0 l1 y512 t499 t500))) else (none)) else (none))) else (none))) = some r := by rw [if_neg (show ¬ (false = true) by decide)] at H; exact H
          clear H
          have H := H1
          clear H1
          obtain ⟨y506, hy506⟩ : ∃ y_ : List Int, y_ = (([] : List Int)) := ⟨_, rfl⟩
          replace H : (if y506.length + l1.length < 17592186044416 then ((some (y506 ++ l1 : List Int)).bind fun y509 => (if 0 ≤ t500 then (if t500 < (y509.length : Int) then ((some (y509.set (t500 : Int).toNat 2 : List Int)).bind fun y512 => (if a2 = true then (sleuthlaw19_HalfFewer.j1 kj6 l0 l1 (y512.set (t500 : Int).toNat 1) t499 t500) else (sleuthlaw19_HalfFewer.j1 kj6 l0 l1 y512 t499 t500))) else (none)) else (none))) else (none)) = some r := by first | (rw [hy506]; with_reducible exact H) | (have H2_ := (Option.bind_some _ _).symm.trans H; rw [hy506]; with_reducible exact H2_) | (have H2_ := (Option.bind_some _ _).symm.trans H; with_reducible exact H2_) | with_reducible exact H | (rw [hy506]; exact H) | exact H
          have Ny506 := Aside0.mk hy506
          clear hy506
          by_cases c31 : y506.length + l1.length < 17592186044416
          · rw [if_pos c31] at H
            have LMc31 := Aside0.mk c31
            clear c31
            obtain ⟨y509, hy509⟩ : ∃ y_ : List Int, y_ = (y506 ++ l1) := ⟨_, rfl⟩
            replace H : (if 0 ≤ t500 then (if t500 < (y509.length : Int) then ((some (y509.set (t500 : Int).toNat 2 : List Int)).bind fun y512 => (if a2 = true then (sleuthlaw19_HalfFewer.j1 kj6 l0 l1 (y512.set (t500 : Int).toNat 1) t499 t500) else (sleuthlaw19_HalfFewer.j1 kj6 l0 l1 y512 t499 t500))) else (none)) else (none)) = some r := by first | (rw [hy509]; with_reducible exact H) | (have H2_ := (Option.bind_some _ _).symm.trans H; rw [hy509]; with_reducible exact H2_) | (have H2_ := (Option.bind_some _ _).symm.trans H; with_reducible exact H2_) | with_reducible exact H | (rw [hy509]; exact H) | exact H
            have Ny509 := Aside0.mk hy509
            clear hy509
            by_cases c32 : 0 ≤ t500
            · rw [if_pos c32] at H
              have c32b0 : decide (0 ≤ t500) = true := decide_eq_true c32
              clear c32
              by_cases c33 : t500 < (y509.length : Int)
              · rw [if_pos c33] at H
                have c33b0 : decide (t500 < (y509.length : Int)) = true := decide_eq_true c33
                clear c33
                obtain ⟨y512, hy512⟩ : ∃ y_ : List Int, y_ = (y509.set (t500 : Int).toNat 2) := ⟨_, rfl⟩
                replace H : (if a2 = true then (sleuthlaw19_HalfFewer.j1 kj6 l0 l1 (y512.set (t500 : Int).toNat 1) t499 t500) else (sleuthlaw19_HalfFewer.j1 kj6 l0 l1 y512 t499 t500)) = some r := by first | (rw [hy512]; with_reducible exact H) | (have H2_ := (Option.bind_some _ _).symm.trans H; rw [hy512]; with_reducible exact H2_) | (have H2_ := (Option.bind_some _ _).symm.trans H; with_reducible exact H2_) | with_reducible exact H | (rw [hy512]; exact H) | exact H
                have Ny512 := Aside0.mk hy512
                clear hy512
                have HC35 := Aside0.mk H
                clear H
                go_upto_if 61 with (first | ((with_reducible refine gate_dst (N := 54) rfl ?_); (try (refine gate_guard (by rfl) ?_; dsimp only)); refine Kd.R_lit (Kd.int .i64) _ 3 ?hg (N := 54) ?hd (xs := ([] : List Int)) (inner := []) (ok := fun _ => True) (okp := fun _ => True) ?hr ?hp (fun _ hk => hk) trivial (Below.refl _ _) (Nat.le_refl _) (by simp) ?_; (case hd => rfl); (case hg => rfl); (case hr => first | (go_simp; done) | (go_simp; rfl)); (case hp => exact (Reps.none _ _)); intro v507 w36 ho37 hb hg_ hnew_; clear hg_ hnew_; (first | rw [← Ny506.out] at ho37 | (simp only [Int.reduceToNat] at ho37; rw [← Ny506.out] at ho37)); have n0_ := Aside0.mk (Kd.R_lower ho37 (below_size (by repeat (first | (with_reducible first | exact HB.out | apply below_alloc | apply pw_below_drewN | apply below_drew1 | refine below_set ?_ GE502.out) | exact HB.out)))); have n1_ := Aside0.mk (blk_below (g := gb502) (o := .cells #[.int .i64 t499, .int .i64 t500] 27 (0, 0)) (by (with_reducible repeat (first | refine blk_drewN ?_ _ | refine blk_drew ?_ | refine blk_alloc ?_ _)); exact BK502.out) hb); have n2_ := Aside0.mk (below_step (by repeat (first | (with_reducible first | exact HB.out | apply below_alloc | apply pw_below_drewN | apply below_drew1 | refine below_set ?_ GE502.out) | exact HB.out)) hb); clear BK502; clear HB; have HO508 := n0_; have BK502 := n1_; have HB := n2_; clear n0_ n1_ n2_; clear hb ho37) | ((with_reducible refine gate_builtin (b := .append) (xs := #[.tmp 54, .tmp 55]) rfl ?_); (try (refine gate_guard (by rfl) ?_; dsimp only)); at_builtin; refine Kd.R_append_rows (Kd.int .i64) (w0 := w) w.heap.size rfl (.tmp 54) (.tmp 55) 23 3 (.int .i64 0) 8 rfl Tryd.underlying23 info3 rfl (by decide) (by omega) v507 y506 l1 _ _ _ (fun _ => True) (fun _ => False) rfl rfl ?aO ?aR (fun _ _ h => h) (fun _ h => h.elim) ?aF ?aB ?aS ?aL ?_; (case aR => repeat (first | exact (Kd.C_below HR1.out HB.out) | (with_reducible refine Kd.C_alloc ?_ _) | (with_reducible refine Kd.C_drewN ?_ _) | (with_reducible refine Kd.C_drew ?_))); (case aB => exact (by repeat (first | (with_reducible first | exact HB.out | apply below_alloc | apply pw_below_drewN | apply below_drew1 | refine below_set ?_ GE502.out) | exact HB.out))); (case aF => exact (fun _ _ => trivial)); (case aO => exact (hR_ HO508.out)); (case aS => exact (below_size (by repeat (first | (with_reducible first | exact HB.out | apply below_alloc | apply pw_below_drewN | apply below_drew1 | refine below_set ?_ GE502.out) | exact HB.out)))); (case aL => have := LMc31.out; omega); intro v510 w38 ho hb hg hat; rw [← Ny509.out] at ho; have n0_ := Aside0.mk (blk_grown (g := gb502) (o := .cells #[.int .i64 t499, .int .i64 t500] 27 (0, 0)) (by (with_reducible repeat (first | refine blk_drewN ?_ _ | refine blk_drew ?_ | refine blk_alloc ?_ _)); exact BK502.out) hg (Kd.R_ne HO508.out BK502.out (by decide))); have n1_ := Aside0.mk (hb); have n2_ := Aside0.mk (ho); clear BK502; clear HB; clear HO508; have BK502 := n0_; have HB := n1_; have HO511 := n2_; clear n0_ n1_ n2_; clear ho hb hg hat; have hcz39_0 : w38.cell? ⟨gb502, 0, none⟩ = some (.int .i64 t499) := (blk_cell BK502.out 0).trans rfl; have hcz39_1 : w38.cell? ⟨gb502, 1, none⟩ = some (.int .i64 t500) := (blk_cell BK502.out 1).trans rfl; have hfz39_0 := blk_frozen BK502.out 0; have hfz39_1 := blk_frozen BK502.out 1; have p34 : 0 ≤ (t500 : Int) := of_decide_eq_true hA_; have q34 : (t500 : Int) < ((y509.length : Int) : Int) := of_decide_eq_true hA_; obtain ⟨go34, co34, eo34, gb34, gl34, cl34, HG34⟩ := Kd.R_form HO511.out (by omega); (first | cases eo34 | (injection eo34 with ea_ en_ ec_; (first | subst ea_ | (injection ea_ with ea_; subst ea_)); subst ec_; clear en_)); have GB34 := Aside0.mk gb34; have GG34 := Aside0.mk HG34; clear gb34 gl34 HG34; obtain ⟨hx34_0, hf34_0⟩ := Kd.R_celln 0 HO511.out (t500 : Int) p34 q34; replace p34 := eq_true p34; replace q34 := eq_true q34; obtain ⟨hy40_, hz40_⟩ := Kd.R_celln 0 HO511.out (t500 : Int) (of_decide_eq_true hA_) (of_decide_eq_true hA_); have HP40 := Kd.R_putg HO511.out (t500 : Int) 2) | ((with_reducible refine gate_store (t := 3) (p := 60) rfl ?_); refine store_event (t := 3) (p := 60) (v := ?vo_w41) (w1 := (w38.setCell ⟨go34, (t500 : Int).toNat, none⟩ (.int .i64 2))) ?hg ?ho ?hn ?hr ?_; (case ho => rfl); (case hg => rfl); (case hn => rfl); (case hr => first | (go_simp; done) | (go_simp; rfl)); intro w41 hw; have hg : w38.grownBy w41 (some go34) := (by rw [hw]; exact HP40.2); have hp_ : Kd.R (Kd.int .i64) 3 w41 w.heap.size (fun _ => True) (.slice (some ⟨go34, 0, none⟩) y509.length co34) y512 := (by rw [hw, Ny512.out]; exact HP40.1); clear HP40; have n0_ := Aside0.mk (blk_grown (g := gb502) (o := .cells #[.int .i64 t499, .int .i64 t500] 27 (0, 0)) (by (with_reducible repeat (first | refine blk_drewN ?_ _ | refine blk_drew ?_ | refine blk_alloc ?_ _)); exact BK502.out) hg (Kd.R_ne HO511.out BK502.out (by decide))); have n1_ := Aside0.mk (hp_); have n2_ := Aside0.mk ((by rw [hw]; exact below_set (HB.out) GB34.out : Below w.heap.size w w41)); clear BK502; clear HO511; clear HB; have BK502 := n0_; have HO511 := n1_; have HB := n2_; clear n0_ n1_ n2_; clear hg hw hp_))
                (try simp only [Act.put, List.setIfInBounds_toArray, List.set_cons_zero, List.set_cons_succ])
                go_cut [] (fun wc => ∃ (kq : Nat) (x9_34 : List Int), Aside0 (sleuthlaw19_HalfFewer.j1 kq l0 l1 x9_34 t499 t500 = some r) ∧ Aside0 (kq ≤ kj6) ∧ Aside0 (Kd.R (Kd.int .i64) 3 wc w.heap.size (fun _ => True) (.slice (some ⟨go34, 0, none⟩) y509.length co34) x9_34) ∧ Aside0 (wc.heap[gb502]? = some (.cells #[.int .i64 t499, .int .i64 t500] 27 (0, 0))) ∧ Aside0 (Below w.heap.size w wc))
                case first =>
                  have H := HC35.out
                  clear HC35
                  by_cases c42 : a2 = true
                  · subst c42
                    have H1 : (sleuthlaw19_HalfFewer.j1 kj6 l0 l1 (y512.set (t500 : Int).toNat 1) t499 t500) = some r := by rw [if_pos rfl] at H; exact H
                    clear H
                    have H := H1
                    clear H1
                    obtain ⟨y513, hy513⟩ : ∃ y_ : List Int, y_ = (y512.set (t500 : Int).toNat 1) := ⟨_, rfl⟩
                    replace H : (sleuthlaw19_HalfFewer.j1 kj6 l0 l1 y513 t499 t500) = some r := by first | (rw [hy513]; with_reducible exact H) | (have H2_ := (Option.bind_some _ _).symm.trans H; rw [hy513]; with_reducible exact H2_) | (have H2_ := (Option.bind_some _ _).symm.trans H; with_reducible exact H2_) | with_reducible exact H | (rw [hy513]; exact H) | exact H
                    have Ny513 := Aside0.mk hy513
                    clear hy513
                    have H' := Aside0.mk H
                    clear H
                    have hcz44_0 : w41.cell? ⟨gb502, 0, none⟩ = some (.int .i64 t499) := (blk_cell BK502.out 0).trans rfl
                    have hcz44_1 : w41.cell? ⟨gb502, 1, none⟩ = some (.int .i64 t500) := (blk_cell BK502.out 1).trans rfl
                    have hfz44_0 := blk_frozen BK502.out 0
                    have hfz44_1 := blk_frozen BK502.out 1
                    have p43 : 0 ≤ (t500 : Int) := of_decide_eq_true hA_
                    have q43 : (t500 : Int) < ((y509.length : Int) : Int) := of_decide_eq_true hA_
                    obtain ⟨hx43_0, hf43_0⟩ := Kd.R_celln 0 HO511.out (t500 : Int) p43 q43
                    replace p43 := eq_true p43
                    replace q43 := eq_true q43
                    have HP45 := Kd.R_putg HO511.out (t500 : Int) 1
                    go_wp2_with (first | ((with_reducible refine gate_store (t := 3) (p := 65) rfl ?_); refine store_event (t := 3) (p := 65) (v := ?vo_w46) (w1 := (w41.setCell ⟨go34, (t500 : Int).toNat, none⟩ (.int .i64 1))) ?hg ?ho ?hn ?hr ?_; (case ho => rfl); (case hg => rfl); (case hn => rfl); (case hr => first | (go_simp; done) | (go_simp; rfl)); intro w46 hw; have hg : w41.grownBy w46 (some go34) := (by rw [hw]; exact HP45.2); have hp_ : Kd.R (Kd.int .i64) 3 w46 w.heap.size (fun _ => True) (.slice (some ⟨go34, 0, none⟩) y509.length co34) y513 := (by rw [hw, Ny513.out]; exact HP45.1); clear HP45; have n0_ := Aside0.mk (blk_grown (g := gb502) (o := .cells #[.int .i64 t499, .int .i64 t500] 27 (0, 0)) (by (with_reducible repeat (first | refine blk_drewN ?_ _ | refine blk_drew ?_ | refine blk_alloc ?_ _)); exact BK502.out) hg (Kd.R_ne HO511.out BK502.out (by decide))); have n1_ := Aside0.mk (hp_); have n2_ := Aside0.mk ((by rw [hw]; exact below_set (HB.out) GB34.out : Below w.heap.size w w46)); clear BK502; clear HO511; clear HB; have BK502 := n0_; have HO511 := n1_; have HB := n2_; clear n0_ n1_ n2_; clear hg hw hp_))
                    go_meet
                    case rel => exact ⟨_, (y513), H', ⟨by have := HJ6.out; first | omega | exact Nat.le_refl _⟩, ⟨by (with_reducible repeat (first | apply Kd.R_alloc | apply Kd.R_drewN | apply Kd.R_drew)); exact HO511.out⟩, ⟨by (with_reducible repeat (first | refine blk_drewN ?_ _ | refine blk_drew ?_ | refine blk_alloc ?_ _)); exact BK502.out⟩, ⟨by repeat (first | (with_reducible first | exact HB.out | apply below_alloc | apply pw_below_drewN | apply below_drew1 | refine below_set ?_ GE502.out) | exact HB.out)⟩⟩
                  · replace c42 := Bool.eq_false_iff.mpr c42
                    subst c42
                    have H1 : (sleuthlaw19_HalfFewer.j1 kj6 l0 l1 y512 t499 t500) = some r := by rw [if_neg (show ¬ (false = true) by decide)] at H; exact H
                    clear H
                    have H := H1
                    clear H1
                    have H' := Aside0.mk H
                    clear H
                    go_wp2
                    go_meet
                    case rel => exact ⟨_, (y512), H', ⟨by have := HJ6.out; first | omega | exact Nat.le_refl _⟩, ⟨by (with_reducible repeat (first | apply Kd.R_alloc | apply Kd.R_drewN | apply Kd.R_drew)); exact HO511.out⟩, ⟨by (with_reducible repeat (first | refine blk_drewN ?_ _ | refine blk_drew ?_ | refine blk_alloc ?_ _)); exact BK502.out⟩, ⟨by repeat (first | (with_reducible first | exact HB.out | apply below_alloc | apply pw_below_drewN | apply below_drew1 | refine below_set ?_ GE502.out) | exact HB.out)⟩⟩
                case rest =>
                  clear HC35
                  try clear c1
                  try clear c2
                  try clear p2
                  try clear c3
                  try clear p3
                  try clear q3
                  try clear hx3
                  try clear hf3
                  try clear c4
                  try clear p4
                  try clear q4
                  try clear hx4
                  try clear hf4
                  try clear c5
                  try clear c12
                  try clear c13
                  try clear c13b0
                  try clear c13b1
                  try clear c14
                  try clear c14b0
                  try clear c14b1
                  try clear c16
                  try clear c17
                  try clear c17b0
                  try clear c23
                  try clear c25
                  try clear c27
                  try clear c29
                  try clear c29b0
                  try clear c29b1
                  try clear c31
                  try clear c32
                  try clear c32b0
                  try clear c33
                  try clear c33b0
                  try clear p34
                  try clear q34
                  try clear hx34
                  try clear hf34
                  try clear c42
                  try clear p43
                  try clear q43
                  try clear hx43
                  try clear hf43
                  try clear hcz11_0
                  try clear hcz11_1
                  try clear hcz18_0
                  try clear hcz18_1
                  try clear hcz20_0
                  try clear hcz20_1
                  try clear hcz21_0
                  try clear hcz21_1
                  try clear hcz23_0
                  try clear hcz23_1
                  try clear hcz24_0
                  try clear hcz24_1
                  try clear hcz26_0
                  try clear hcz26_1
                  try clear hcz30_0
                  try clear hcz30_1
                  try clear hcz39_0
                  try clear hcz39_1
                  try clear hcz44_0
                  try clear hcz44_1
                  try clear hfz11_0
                  try clear hfz11_1
                  try clear hfz18_0
                  try clear hfz18_1
                  try clear hfz20_0
                  try clear hfz20_1
                  try clear hfz21_0
                  try clear hfz21_1
                  try clear hfz23_0
                  try clear hfz23_1
                  try clear hfz24_0
                  try clear hfz24_1
                  try clear hfz26_0
                  try clear hfz26_1
                  try clear hfz30_0
                  try clear hfz30_1
                  try clear hfz39_0
                  try clear hfz39_1
                  try clear hfz44_0
                  try clear hfz44_1
                  try clear hx34_0
                  try clear hx43_0
                  try clear p2
                  try clear p34
                  try clear p43
                  try clear q34
                  try clear q43
                  obtain ⟨kq, x9_34, HA, HJ34, HO_9, BK502, HB⟩ := hcut
                  have hl9_34 := (Kd.R_reads' HO_9.out).1
                  rw [hl9_34] at HO_9
                  (try simp only [hl9_34])
                  (try simp only [hl9_34] at BK502)
                  cases kq with
                  | zero => exact absurd HA.out (by simp [sleuthlaw19_HalfFewer.j1])
                  | succ kj34 =>
                    have H := HA.out
                    clear HA
                    simp only [sleuthlaw19_HalfFewer.j1] at H
                    replace H := Option.bind_eq_some_iff.mp H
                    obtain ⟨⟨t514, t515, t516⟩, A470, H⟩ := H
                    replace H : ((sleuthlaw0_Num.f t516).bind fun t518 => (if t518 = 0 then (if t514 = 0 then (if t515 = t500 then (none) else (if t500 = 0 then (some true) else ((sleuthlaw19_doubts.f kj34 l0 x9_34).bind fun t519 => ((sleuthlaw19_doubts.f kj34 l0 l1).bind fun t520 => (some (decide (t519 < t520))))))) else (if t500 = 0 then (some true) else ((sleuthlaw19_doubts.f kj34 l0 x9_34).bind fun t521 => ((sleuthlaw19_doubts.f kj34 l0 l1).bind fun t522 => (some (decide (t521 < t522))))))) else (none))) = some r := H
                    have A47 := Aside0.mk A470
                    clear A470
                    replace H := Option.bind_eq_some_iff.mp H
                    obtain ⟨t518, A480, H⟩ := H
                    replace H : (if t518 = 0 then (if t514 = 0 then (if t515 = t500 then (none) else (if t500 = 0 then (some true) else ((sleuthlaw19_doubts.f kj34 l0 x9_34).bind fun t519 => ((sleuthlaw19_doubts.f kj34 l0 l1).bind fun t520 => (some (decide (t519 < t520))))))) else (if t500 = 0 then (some true) else ((sleuthlaw19_doubts.f kj34 l0 x9_34).bind fun t521 => ((sleuthlaw19_doubts.f kj34 l0 l1).bind fun t522 => (some (decide (t521 < t522))))))) else (none)) = some r := H
                    have A48 := Aside0.mk A480
                    clear A480
                    by_cases c49 : t518 = 0
                    · rw [if_pos c49] at H
                      have c49b0 : (t518 == 0) = true := beq_iff_eq.mpr c49
                      have c49b1 : (t518 != 0) = false := bne_eq_false_iff_eq.mpr c49
                      clear c49
                      by_cases c50 : t514 = 0
                      · rw [if_pos c50] at H
                        have c50b0 : (t514 == 0) = true := beq_iff_eq.mpr c50
                        have c50b1 : (t514 != 0) = false := bne_eq_false_iff_eq.mpr c50
                        clear c50
                        by_cases c51 : t515 = t500
                        · rw [if_pos c51] at H
                          have c51b0 : (t515 == t500) = true := beq_iff_eq.mpr c51
                          have c51b1 : (t515 != t500) = false := bne_eq_false_iff_eq.mpr c51
                          clear c51
                          cases H
                        · rw [if_neg c51] at H
                          have c51b0 : (t515 == t500) = false := beq_eq_false_iff_ne.mpr c51
                          have c51b1 : (t515 != t500) = true := bne_iff_ne.mpr c51
                          by_cases c57 : t500 = 0
                          · rw [if_pos c57] at H
                            have c57b0 : (t500 == 0) = true := beq_iff_eq.mpr c57
                            have c57b1 : (t500 != 0) = false := bne_eq_false_iff_eq.mpr c57
                            clear c57
                            obtain rfl := Option.some.inj H
                            go_wp2_with (first | ((with_reducible refine gate_callee (f := 25) rfl ?_); refine goesL_ (some 69) rfl rfl Tryd.func25 (by kernel_rfl) rfl #[.slice A0 l0.length c0, .slice (some ⟨go34, 0, none⟩) x9_34.length co34] rfl hL_ ?_; (with_reducible refine (half_Next.calls kj34 _ _ l0 _ _ x9_34 t514 t515 t516 _ ?side1 ?side2 ?side3 ?side4 A47.out (by first | exact hG | exact GOK.below hG (by repeat (first | (with_reducible first | exact HB.out | apply below_alloc | apply pw_below_drewN | apply below_drew1 | refine below_set ?_ GE502.out) | exact HB.out)))).mono ?_); (case side1 => repeat (first | exact (Kd.C_below HR0.out HB.out) | (with_reducible refine Kd.C_alloc ?_ _) | (with_reducible refine Kd.C_drewN ?_ _) | (with_reducible refine Kd.C_drew ?_))); (case side2 => exact HC0.out); (case side3 => repeat (first | exact (Kd.R_reads' HO_9.out).2.2 | (with_reducible refine Kd.C_alloc ?_ _) | (with_reducible refine Kd.C_drewN ?_ _) | (with_reducible refine Kd.C_drew ?_))); (case side4 => exact (Kd.R_reads' HO_9.out).2.1); rintro e w58 ⟨rfl, hb⟩; refine ⟨_, rfl, ?_⟩; have n0_ := Aside0.mk (Kd.R_below (hR_ HO_9.out) hb); have n1_ := Aside0.mk (blk_below (g := gb502) (o := .cells #[.int .i64 t499, .int .i64 t500] 27 (0, 0)) (by (with_reducible repeat (first | refine blk_drewN ?_ _ | refine blk_drew ?_ | refine blk_alloc ?_ _)); exact BK502.out) hb); have n2_ := Aside0.mk (below_step (by repeat (first | (with_reducible first | exact HB.out | apply below_alloc | apply pw_below_drewN | apply below_drew1 | refine below_set ?_ GE502.out) | exact HB.out)) hb); clear HO_9; clear BK502; clear HB; have HO_9 := n0_; have BK502 := n1_; have HB := n2_; clear n0_ n1_ n2_; (try clear hb); (try clear hb2); (try clear hk); (try clear hi)) | ((with_reducible refine gate_dst (N := 10) rfl ?_); (try (refine gate_guard (by rfl) ?_; dsimp only)); refine box_event ?hg (N := 10) ?hd (cs := #[.int .i64 0, .int .i64 0]) (t := 27) ?hr ?_; (case hd => rfl); (case hg => rfl); (case hr => first | (go_simp; done) | (go_simp; rfl)); intro gb517 hg w59 hbox hb; have n0_ := Aside0.mk (Kd.R_below (hR_ HO_9.out) hb); have n1_ := Aside0.mk (blk_below (g := gb502) (o := .cells #[.int .i64 t499, .int .i64 t500] 27 (0, 0)) (by (with_reducible repeat (first | refine blk_drewN ?_ _ | refine blk_drew ?_ | refine blk_alloc ?_ _)); exact BK502.out) hb); have n2_ := Aside0.mk (below_step (by repeat (first | (with_reducible first | exact HB.out | apply below_alloc | apply pw_below_drewN | apply below_drew1 | refine below_set ?_ GE502.out) | exact HB.out)) hb); have n3_ := Aside0.mk (hbox); have n4_ := Aside0.mk ((by rw [hg]; exact (below_size (by repeat (first | (with_reducible first | exact HB.out | apply below_alloc | apply pw_below_drewN | apply below_drew1 | refine below_set ?_ GE502.out) | exact HB.out))) : w.heap.size ≤ gb517)); have n5_ := Aside0.mk ((by rw [hg]; exact (below_size (by repeat (first | (with_reducible first | exact HB.out | apply below_alloc | apply pw_below_drewN | apply below_drew1 | refine below_set ?_ GE502.out) | exact HB.out))) : w.heap.size ≤ gb517)); have n6_ := Aside0.mk ((by rw [hg]; exact Nat.ne_of_lt (blk_lt (g := gb502) (o := .cells #[.int .i64 t499, .int .i64 t500] 27 (0, 0)) (by (with_reducible repeat (first | refine blk_drewN ?_ _ | refine blk_drew ?_ | refine blk_alloc ?_ _)); exact BK502.out)) : gb502 ≠ gb517)); have n7_ := Aside0.mk ((by rw [hg]; exact Nat.ne_of_gt (blk_lt (g := gb502) (o := .cells #[.int .i64 t499, .int .i64 t500] 27 (0, 0)) (by (with_reducible repeat (first | refine blk_drewN ?_ _ | refine blk_drew ?_ | refine blk_alloc ?_ _)); exact BK502.out)) : gb517 ≠ gb502)); clear HO_9; clear BK502; clear HB; have HO_9 := n0_; have BK502 := n1_; have HB := n2_; have BK517 := n3_; have GW517 := n4_; have GE517 := n5_; have NB502_517 := n6_; have NB517_502 := n7_; clear n0_ n1_ n2_ n3_ n4_ n5_ n6_ n7_; clear hb hbox hg; have hnb60 := NB517_502.out; have hnc60 := NB502_517.out; have hcz61_0 : w59.cell? ⟨gb517, 0, none⟩ = some (.int .i64 0) := (blk_cell BK517.out 0).trans rfl; have hcz61_1 : w59.cell? ⟨gb517, 1, none⟩ = some (.int .i64 0) := (blk_cell BK517.out 1).trans rfl; have hfz61_0 := blk_frozen BK517.out 0; have hfz61_1 := blk_frozen BK517.out 1) | ((with_reducible refine gate_callee (f := 17) rfl ?_); refine goesL_ (some 73) rfl rfl Tryd.func17 (by kernel_rfl) rfl #[.int .i64 t516] rfl hL_ ?_; (with_reducible refine (sleuthlaw0_Num.calls t516 t518 _ A48.out).mono ?_); rintro e w' ⟨rfl, ⟨nd, rfl⟩⟩; refine ⟨_, rfl, ?_⟩; have hcz62_0 : w59.cell? ⟨gb502, 0, none⟩ = some (.int .i64 t499) := (blk_cell BK502.out 0).trans rfl; have hcz62_1 : w59.cell? ⟨gb502, 1, none⟩ = some (.int .i64 t500) := (blk_cell BK502.out 1).trans rfl; have hfz62_0 := blk_frozen BK502.out 0; have hfz62_1 := blk_frozen BK502.out 1))
                            go_ret
                            exact ⟨by first | rfl | (simp [errW_none, errW_some] <;> rfl) | (simp [*, errW_none, errW_some] <;> rfl), by repeat (first | (with_reducible first | exact HB.out | apply below_alloc | apply pw_below_drewN | apply below_drew1 | refine below_set ?_ GE502.out | refine below_set ?_ GE517.out) | exact HB.out)⟩
                          · rw [if_neg c57] at H
                            have c57b0 : (t500 == 0) = false := beq_eq_false_iff_ne.mpr c57
                            have c57b1 : (t500 != 0) = true := bne_iff_ne.mpr c57
                            replace H := Option.bind_eq_some_iff.mp H
                            obtain ⟨t519, A630, H⟩ := H
                            replace H : ((sleuthlaw19_doubts.f kj34 l0 l1).bind fun t520 => (some (decide (t519 < t520)))) = some r := H
                            have A63 := Aside0.mk A630
                            clear A630
                            replace H := Option.bind_eq_some_iff.mp H
                            obtain ⟨t520, A640, H⟩ := H
                            replace H : (some (decide (t519 < t520))) = some r := H
                            have A64 := Aside0.mk A640
                            clear A640
                            obtain rfl := Option.some.inj H
                            go_wp2_with (first | ((with_reducible refine gate_callee (f := 25) rfl ?_); refine goesL_ (some 69) rfl rfl Tryd.func25 (by kernel_rfl) rfl #[.slice A0 l0.length c0, .slice (some ⟨go34, 0, none⟩) x9_34.length co34] rfl hL_ ?_; (with_reducible refine (half_Next.calls kj34 _ _ l0 _ _ x9_34 t514 t515 t516 _ ?side1 ?side2 ?side3 ?side4 A47.out (by first | exact hG | exact GOK.below hG (by repeat (first | (with_reducible first | exact HB.out | apply below_alloc | apply pw_below_drewN | apply below_drew1 | refine below_set ?_ GE502.out) | exact HB.out)))).mono ?_); (case side1 => repeat (first | exact (Kd.C_below HR0.out HB.out) | (with_reducible refine Kd.C_alloc ?_ _) | (with_reducible refine Kd.C_drewN ?_ _) | (with_reducible refine Kd.C_drew ?_))); (case side2 => exact HC0.out); (case side3 => repeat (first | exact (Kd.R_reads' HO_9.out).2.2 | (with_reducible refine Kd.C_alloc ?_ _) | (with_reducible refine Kd.C_drewN ?_ _) | (with_reducible refine Kd.C_drew ?_))); (case side4 => exact (Kd.R_reads' HO_9.out).2.1); rintro e w65 ⟨rfl, hb⟩; refine ⟨_, rfl, ?_⟩; have n0_ := Aside0.mk (Kd.R_below (hR_ HO_9.out) hb); have n1_ := Aside0.mk (blk_below (g := gb502) (o := .cells #[.int .i64 t499, .int .i64 t500] 27 (0, 0)) (by (with_reducible repeat (first | refine blk_drewN ?_ _ | refine blk_drew ?_ | refine blk_alloc ?_ _)); exact BK502.out) hb); have n2_ := Aside0.mk (below_step (by repeat (first | (with_reducible first | exact HB.out | apply below_alloc | apply pw_below_drewN | apply below_drew1 | refine below_set ?_ GE502.out) | exact HB.out)) hb); clear HO_9; clear BK502; clear HB; have HO_9 := n0_; have BK502 := n1_; have HB := n2_; clear n0_ n1_ n2_; (try clear hb); (try clear hb2); (try clear hk); (try clear hi)) | ((with_reducible refine gate_dst (N := 10) rfl ?_); (try (refine gate_guard (by rfl) ?_; dsimp only)); refine box_event ?hg (N := 10) ?hd (cs := #[.int .i64 0, .int .i64 0]) (t := 27) ?hr ?_; (case hd => rfl); (case hg => rfl); (case hr => first | (go_simp; done) | (go_simp; rfl)); intro gb517 hg w66 hbox hb; have n0_ := Aside0.mk (Kd.R_below (hR_ HO_9.out) hb); have n1_ := Aside0.mk (blk_below (g := gb502) (o := .cells #[.int .i64 t499, .int .i64 t500] 27 (0, 0)) (by (with_reducible repeat (first | refine blk_drewN ?_ _ | refine blk_drew ?_ | refine blk_alloc ?_ _)); exact BK502.out) hb); have n2_ := Aside0.mk (below_step (by repeat (first | (with_reducible first | exact HB.out | apply below_alloc | apply pw_below_drewN | apply below_drew1 | refine below_set ?_ GE502.out) | exact HB.out)) hb); have n3_ := Aside0.mk (hbox); have n4_ := Aside0.mk ((by rw [hg]; exact (below_size (by repeat (first | (with_reducible first | exact HB.out | apply below_alloc | apply pw_below_drewN | apply below_drew1 | refine below_set ?_ GE502.out) | exact HB.out))) : w.heap.size ≤ gb517)); have n5_ := Aside0.mk ((by rw [hg]; exact (below_size (by repeat (first | (with_reducible first | exact HB.out | apply below_alloc | apply pw_below_drewN | apply below_drew1 | refine below_set ?_ GE502.out) | exact HB.out))) : w.heap.size ≤ gb517)); have n6_ := Aside0.mk ((by rw [hg]; exact Nat.ne_of_lt (blk_lt (g := gb502) (o := .cells #[.int .i64 t499, .int .i64 t500] 27 (0, 0)) (by (with_reducible repeat (first | refine blk_drewN ?_ _ | refine blk_drew ?_ | refine blk_alloc ?_ _)); exact BK502.out)) : gb502 ≠ gb517)); have n7_ := Aside0.mk ((by rw [hg]; exact Nat.ne_of_gt (blk_lt (g := gb502) (o := .cells #[.int .i64 t499, .int .i64 t500] 27 (0, 0)) (by (with_reducible repeat (first | refine blk_drewN ?_ _ | refine blk_drew ?_ | refine blk_alloc ?_ _)); exact BK502.out)) : gb517 ≠ gb502)); clear HO_9; clear BK502; clear HB; have HO_9 := n0_; have BK502 := n1_; have HB := n2_; have BK517 := n3_; have GW517 := n4_; have GE517 := n5_; have NB502_517 := n6_; have NB517_502 := n7_; clear n0_ n1_ n2_ n3_ n4_ n5_ n6_ n7_; clear hb hbox hg; have hnb67 := NB517_502.out; have hnc67 := NB502_517.out; have hcz68_0 : w66.cell? ⟨gb517, 0, none⟩ = some (.int .i64 0) := (blk_cell BK517.out 0).trans rfl; have hcz68_1 : w66.cell? ⟨gb517, 1, none⟩ = some (.int .i64 0) := (blk_cell BK517.out 1).trans rfl; have hfz68_0 := blk_frozen BK517.out 0; have hfz68_1 := blk_frozen BK517.out 1) | ((with_reducible refine gate_callee (f := 17) rfl ?_); refine goesL_ (some 73) rfl rfl Tryd.func17 (by kernel_rfl) rfl #[.int .i64 t516] rfl hL_ ?_; (with_reducible refine (sleuthlaw0_Num.calls t516 t518 _ A48.out).mono ?_); rintro e w' ⟨rfl, ⟨nd, rfl⟩⟩; refine ⟨_, rfl, ?_⟩; have hcz69_0 : w66.cell? ⟨gb502, 0, none⟩ = some (.int .i64 t499) := (blk_cell BK502.out 0).trans rfl; have hcz69_1 : w66.cell? ⟨gb502, 1, none⟩ = some (.int .i64 t500) := (blk_cell BK502.out 1).trans rfl; have hfz69_0 := blk_frozen BK502.out 0; have hfz69_1 := blk_frozen BK502.out 1) | (go_at_call 26; (with_reducible refine (sleuthlaw19_doubts.calls kj34 _ _ l0 _ _ x9_34 t519 _ ?side1 ?side2 ?side3 ?side4 A63.out).mono ?_); (case side1 => exact Kd.C_below HR0.out (by repeat (first | (with_reducible first | exact HB.out | apply below_alloc | apply pw_below_drewN | apply below_drew1 | refine below_set ?_ GE502.out | refine below_set ?_ GE517.out) | exact HB.out))); (case side2 => exact HC0.out); (case side3 => refine (Kd.R_reads' (e := 3) (base := w.heap.size) (ok := fun k_ => True) (n := x9_34.length) (c := co34) ?_).2.2; exact (by (with_reducible repeat (first | apply Kd.R_alloc | apply Kd.R_drewN | apply Kd.R_drew)); exact (Kd.R_mono (Kd.R_far (p := ⟨gb517, 1, none⟩) (Kd.R_far (p := ⟨gb517, 0, none⟩) (Kd.R_types HO_9.out BK517.out (by decide)) (fun _ hk => hk.2) (.int .i64 t514)) (fun _ hk => hk.2) (.int .i64 t515)) (fun _ h_ => h_.1)))); (case side4 => exact (Kd.R_reads' HO_9.out).2.1); rintro e w70 ⟨rfl, hb⟩; have n0_ := Aside0.mk (Kd.R_below (by (with_reducible repeat (first | apply Kd.R_alloc | apply Kd.R_drewN | apply Kd.R_drew)); exact (Kd.R_mono (Kd.R_far (p := ⟨gb517, 1, none⟩) (Kd.R_far (p := ⟨gb517, 0, none⟩) (Kd.R_types HO_9.out BK517.out (by decide)) (fun _ hk => hk.2) (.int .i64 t514)) (fun _ hk => hk.2) (.int .i64 t515)) (fun _ h_ => h_.1))) hb); have n1_ := Aside0.mk (blk_below (g := gb502) (o := .cells #[.int .i64 t499, .int .i64 t500] 27 (0, 0)) (by (with_reducible repeat (first | refine blk_drewN ?_ _ | refine blk_drew ?_ | refine blk_alloc ?_ _)); refine blk_far ?_ NB502_517.out _; (with_reducible repeat (first | refine blk_drewN ?_ _ | refine blk_drew ?_ | refine blk_alloc ?_ _)); refine blk_far ?_ NB502_517.out _; (with_reducible repeat (first | refine blk_drewN ?_ _ | refine blk_drew ?_ | refine blk_alloc ?_ _)); exact BK502.out) hb); have n2_ := Aside0.mk (blk_below (g := gb517) (o := .cells #[.int .i64 t514, .int .i64 t515] 27 (0, 0)) (by (with_reducible repeat (first | refine blk_drewN ?_ _ | refine blk_drew ?_ | refine blk_alloc ?_ _)); refine blk_put (cs := #[.int .i64 t514, .int .i64 0]) ?_ 1 _ rfl; (with_reducible repeat (first | refine blk_drewN ?_ _ | refine blk_drew ?_ | refine blk_alloc ?_ _)); refine blk_put (cs := #[.int .i64 0, .int .i64 0]) ?_ 0 _ rfl; (with_reducible repeat (first | refine blk_drewN ?_ _ | refine blk_drew ?_ | refine blk_alloc ?_ _)); exact BK517.out) hb); have n3_ := Aside0.mk (below_step (by repeat (first | (with_reducible first | exact HB.out | apply below_alloc | apply pw_below_drewN | apply below_drew1 | refine below_set ?_ GE502.out | refine below_set ?_ GE517.out) | exact HB.out)) hb); clear HO_9; clear BK502; clear BK517; clear HB; have HO_9 := n0_; have BK502 := n1_; have BK517 := n2_; have HB := n3_; clear n0_ n1_ n2_ n3_; (try clear hb); (try clear hb2); (try clear hk); (try clear hi)) | (go_at_call 26; (with_reducible refine (sleuthlaw19_doubts.calls kj34 _ _ l0 _ _ l1 t520 _ ?side1 ?side2 ?side3 ?side4 A64.out).mono ?_); (case side1 => repeat (first | exact (Kd.C_below HR0.out HB.out) | (with_reducible refine Kd.C_alloc ?_ _) | (with_reducible refine Kd.C_drewN ?_ _) | (with_reducible refine Kd.C_drew ?_))); (case side2 => exact HC0.out); (case side3 => repeat (first | exact (Kd.C_below HR1.out HB.out) | (with_reducible refine Kd.C_alloc ?_ _) | (with_reducible refine Kd.C_drewN ?_ _) | (with_reducible refine Kd.C_drew ?_))); (case side4 => exact HC1.out); rintro e w71 ⟨rfl, hb⟩; have n0_ := Aside0.mk (Kd.R_below (hR_ HO_9.out) hb); have n1_ := Aside0.mk (blk_below (g := gb502) (o := .cells #[.int .i64 t499, .int .i64 t500] 27 (0, 0)) (by (with_reducible repeat (first | refine blk_drewN ?_ _ | refine blk_drew ?_ | refine blk_alloc ?_ _)); exact BK502.out) hb); have n2_ := Aside0.mk (blk_below (g := gb517) (o := .cells #[.int .i64 t514, .int .i64 t515] 27 (0, 0)) (by (with_reducible repeat (first | refine blk_drewN ?_ _ | refine blk_drew ?_ | refine blk_alloc ?_ _)); exact BK517.out) hb); have n3_ := Aside0.mk (below_step (by repeat (first | (with_reducible first | exact HB.out | apply below_alloc | apply pw_below_drewN | apply below_drew1 | refine below_set ?_ GE502.out | refine below_set ?_ GE517.out) | exact HB.out)) hb); clear HO_9; clear BK502; clear BK517; clear HB; have HO_9 := n0_; have BK502 := n1_; have BK517 := n2_; have HB := n3_; clear n0_ n1_ n2_ n3_; (try clear hb); (try clear hb2); (try clear hk); (try clear hi)))
                            go_ret
                            exact ⟨by first | rfl | (simp [errW_none, errW_some] <;> rfl) | (simp [*, errW_none, errW_some] <;> rfl), by repeat (first | (with_reducible first | exact HB.out | apply below_alloc | apply pw_below_drewN | apply below_drew1 | refine below_set ?_ GE502.out | refine below_set ?_ GE517.out) | exact HB.out)⟩
                      · rw [if_neg c50] at H
                        have c50b0 : (t514 == 0) = false := beq_eq_false_iff_ne.mpr c50
                        have c50b1 : (t514 != 0) = true := bne_iff_ne.mpr c50
                        by_cases c72 : t500 = 0
                        · rw [if_pos c72] at H
                          have c72b0 : (t500 == 0) = true := beq_iff_eq.mpr c72
                          have c72b1 : (t500 != 0) = false := bne_eq_false_iff_eq.mpr c72
                          clear c72
                          obtain rfl := Option.some.inj H
                          go_wp2_with (first | ((with_reducible refine gate_callee (f := 25) rfl ?_); refine goesL_ (some 69) rfl rfl Tryd.func25 (by kernel_rfl) rfl #[.slice A0 l0.length c0, .slice (some ⟨go34, 0, none⟩) x9_34.length co34] rfl hL_ ?_; (with_reducible refine (half_Next.calls kj34 _ _ l0 _ _ x9_34 t514 t515 t516 _ ?side1 ?side2 ?side3 ?side4 A47.out (by first | exact hG | exact GOK.below hG (by repeat (first | (with_reducible first | exact HB.out | apply below_alloc | apply pw_below_drewN | apply below_drew1 | refine below_set ?_ GE502.out) | exact HB.out)))).mono ?_); (case side1 => repeat (first | exact (Kd.C_below HR0.out HB.out) | (with_reducible refine Kd.C_alloc ?_ _) | (with_reducible refine Kd.C_drewN ?_ _) | (with_reducible refine Kd.C_drew ?_))); (case side2 => exact HC0.out); (case side3 => repeat (first | exact (Kd.R_reads' HO_9.out).2.2 | (with_reducible refine Kd.C_alloc ?_ _) | (with_reducible refine Kd.C_drewN ?_ _) | (with_reducible refine Kd.C_drew ?_))); (case side4 => exact (Kd.R_reads' HO_9.out).2.1); rintro e w73 ⟨rfl, hb⟩; refine ⟨_, rfl, ?_⟩; have n0_ := Aside0.mk (Kd.R_below (hR_ HO_9.out) hb); have n1_ := Aside0.mk (blk_below (g := gb502) (o := .cells #[.int .i64 t499, .int .i64 t500] 27 (0, 0)) (by (with_reducible repeat (first | refine blk_drewN ?_ _ | refine blk_drew ?_ | refine blk_alloc ?_ _)); exact BK502.out) hb); have n2_ := Aside0.mk (below_step (by repeat (first | (with_reducible first | exact HB.out | apply below_alloc | apply pw_below_drewN | apply below_drew1 | refine below_set ?_ GE502.out) | exact HB.out)) hb); clear HO_9; clear BK502; clear HB; have HO_9 := n0_; have BK502 := n1_; have HB := n2_; clear n0_ n1_ n2_; (try clear hb); (try clear hb2); (try clear hk); (try clear hi)) | ((with_reducible refine gate_dst (N := 10) rfl ?_); (try (refine gate_guard (by rfl) ?_; dsimp only)); refine box_event ?hg (N := 10) ?hd (cs := #[.int .i64 0, .int .i64 0]) (t := 27) ?hr ?_; (case hd => rfl); (case hg => rfl); (case hr => first | (go_simp; done) | (go_simp; rfl)); intro gb517 hg w74 hbox hb; have n0_ := Aside0.mk (Kd.R_below (hR_ HO_9.out) hb); have n1_ := Aside0.mk (blk_below (g := gb502) (o := .cells #[.int .i64 t499, .int .i64 t500] 27 (0, 0)) (by (with_reducible repeat (first | refine blk_drewN ?_ _ | refine blk_drew ?_ | refine blk_alloc ?_ _)); exact BK502.out) hb); have n2_ := Aside0.mk (below_step (by repeat (first | (with_reducible first | exact HB.out | apply below_alloc | apply pw_below_drewN | apply below_drew1 | refine below_set ?_ GE502.out) | exact HB.out)) hb); have n3_ := Aside0.mk (hbox); have n4_ := Aside0.mk ((by rw [hg]; exact (below_size (by repeat (first | (with_reducible first | exact HB.out | apply below_alloc | apply pw_below_drewN | apply below_drew1 | refine below_set ?_ GE502.out) | exact HB.out))) : w.heap.size ≤ gb517)); have n5_ := Aside0.mk ((by rw [hg]; exact (below_size (by repeat (first | (with_reducible first | exact HB.out | apply below_alloc | apply pw_below_drewN | apply below_drew1 | refine below_set ?_ GE502.out) | exact HB.out))) : w.heap.size ≤ gb517)); have n6_ := Aside0.mk ((by rw [hg]; exact Nat.ne_of_lt (blk_lt (g := gb502) (o := .cells #[.int .i64 t499, .int .i64 t500] 27 (0, 0)) (by (with_reducible repeat (first | refine blk_drewN ?_ _ | refine blk_drew ?_ | refine blk_alloc ?_ _)); exact BK502.out)) : gb502 ≠ gb517)); have n7_ := Aside0.mk ((by rw [hg]; exact Nat.ne_of_gt (blk_lt (g := gb502) (o := .cells #[.int .i64 t499, .int .i64 t500] 27 (0, 0)) (by (with_reducible repeat (first | refine blk_drewN ?_ _ | refine blk_drew ?_ | refine blk_alloc ?_ _)); exact BK502.out)) : gb517 ≠ gb502)); clear HO_9; clear BK502; clear HB; have HO_9 := n0_; have BK502 := n1_; have HB := n2_; have BK517 := n3_; have GW517 := n4_; have GE517 := n5_; have NB502_517 := n6_; have NB517_502 := n7_; clear n0_ n1_ n2_ n3_ n4_ n5_ n6_ n7_; clear hb hbox hg; have hnb75 := NB517_502.out; have hnc75 := NB502_517.out; have hcz76_0 : w74.cell? ⟨gb517, 0, none⟩ = some (.int .i64 0) := (blk_cell BK517.out 0).trans rfl; have hcz76_1 : w74.cell? ⟨gb517, 1, none⟩ = some (.int .i64 0) := (blk_cell BK517.out 1).trans rfl; have hfz76_0 := blk_frozen BK517.out 0; have hfz76_1 := blk_frozen BK517.out 1) | ((with_reducible refine gate_callee (f := 17) rfl ?_); refine goesL_ (some 73) rfl rfl Tryd.func17 (by kernel_rfl) rfl #[.int .i64 t516] rfl hL_ ?_; (with_reducible refine (sleuthlaw0_Num.calls t516 t518 _ A48.out).mono ?_); rintro e w' ⟨rfl, ⟨nd, rfl⟩⟩; refine ⟨_, rfl, ?_⟩; have hcz77_0 : w74.cell? ⟨gb502, 0, none⟩ = some (.int .i64 t499) := (blk_cell BK502.out 0).trans rfl; have hcz77_1 : w74.cell? ⟨gb502, 1, none⟩ = some (.int .i64 t500) := (blk_cell BK502.out 1).trans rfl; have hfz77_0 := blk_frozen BK502.out 0; have hfz77_1 := blk_frozen BK502.out 1))
                          go_ret
                          exact ⟨by first | rfl | (simp [errW_none, errW_some] <;> rfl) | (simp [*, errW_none, errW_some] <;> rfl), by repeat (first | (with_reducible first | exact HB.out | apply below_alloc | apply pw_below_drewN | apply below_drew1 | refine below_set ?_ GE502.out | refine below_set ?_ GE517.out) | exact HB.out)⟩
                        · rw [if_neg c72] at H
                          have c72b0 : (t500 == 0) = false := beq_eq_false_iff_ne.mpr c72
                          have c72b1 : (t500 != 0) = true := bne_iff_ne.mpr c72
                          replace H := Option.bind_eq_some_iff.mp H
                          obtain ⟨t521, A780, H⟩ := H
                          replace H : ((sleuthlaw19_doubts.f kj34 l0 l1).bind fun t522 => (some (decide (t521 < t522)))) = some r := H
                          have A78 := Aside0.mk A780
                          clear A780
                          replace H := Option.bind_eq_some_iff.mp H
                          obtain ⟨t522, A790, H⟩ := H
                          replace H : (some (decide (t521 < t522))) = some r := H
                          have A79 := Aside0.mk A790
                          clear A790
                          obtain rfl := Option.some.inj H
                          go_wp2_with (first | ((with_reducible refine gate_callee (f := 25) rfl ?_); refine goesL_ (some 69) rfl rfl Tryd.func25 (by kernel_rfl) rfl #[.slice A0 l0.length c0, .slice (some ⟨go34, 0, none⟩) x9_34.length co34] rfl hL_ ?_; (with_reducible refine (half_Next.calls kj34 _ _ l0 _ _ x9_34 t514 t515 t516 _ ?side1 ?side2 ?side3 ?side4 A47.out (by first | exact hG | exact GOK.below hG (by repeat (first | (with_reducible first | exact HB.out | apply below_alloc | apply pw_below_drewN | apply below_drew1 | refine below_set ?_ GE502.out) | exact HB.out)))).mono ?_); (case side1 => repeat (first | exact (Kd.C_below HR0.out HB.out) | (with_reducible refine Kd.C_alloc ?_ _) | (with_reducible refine Kd.C_drewN ?_ _) | (with_reducible refine Kd.C_drew ?_))); (case side2 => exact HC0.out); (case side3 => repeat (first | exact (Kd.R_reads' HO_9.out).2.2 | (with_reducible refine Kd.C_alloc ?_ _) | (with_reducible refine Kd.C_drewN ?_ _) | (with_reducible refine Kd.C_drew ?_))); (case side4 => exact (Kd.R_reads' HO_9.out).2.1); rintro e w80 ⟨rfl, hb⟩; refine ⟨_, rfl, ?_⟩; have n0_ := Aside0.mk (Kd.R_below (hR_ HO_9.out) hb); have n1_ := Aside0.mk (blk_below (g := gb502) (o := .cells #[.int .i64 t499, .int .i64 t500] 27 (0, 0)) (by (with_reducible repeat (first | refine blk_drewN ?_ _ | refine blk_drew ?_ | refine blk_alloc ?_ _)); exact BK502.out) hb); have n2_ := Aside0.mk (below_step (by repeat (first | (with_reducible first | exact HB.out | apply below_alloc | apply pw_below_drewN | apply below_drew1 | refine below_set ?_ GE502.out) | exact HB.out)) hb); clear HO_9; clear BK502; clear HB; have HO_9 := n0_; have BK502 := n1_; have HB := n2_; clear n0_ n1_ n2_; (try clear hb); (try clear hb2); (try clear hk); (try clear hi)) | ((with_reducible refine gate_dst (N := 10) rfl ?_); (try (refine gate_guard (by rfl) ?_; dsimp only)); refine box_event ?hg (N := 10) ?hd (cs := #[.int .i64 0, .int .i64 0]) (t := 27) ?hr ?_; (case hd => rfl); (case hg => rfl); (case hr => first | (go_simp; done) | (go_simp; rfl)); intro gb517 hg w81 hbox hb; have n0_ := Aside0.mk (Kd.R_below (hR_ HO_9.out) hb); have n1_ := Aside0.mk (blk_below (g := gb502) (o := .cells #[.int .i64 t499, .int .i64 t500] 27 (0, 0)) (by (with_reducible repeat (first | refine blk_drewN ?_ _ | refine blk_drew ?_ | refine blk_alloc ?_ _)); exact BK502.out) hb); have n2_ := Aside0.mk (below_step (by repeat (first | (with_reducible first | exact HB.out | apply below_alloc | apply pw_below_drewN | apply below_drew1 | refine below_set ?_ GE502.out) | exact HB.out)) hb); have n3_ := Aside0.mk (hbox); have n4_ := Aside0.mk ((by rw [hg]; exact (below_size (by repeat (first | (with_reducible first | exact HB.out | apply below_alloc | apply pw_below_drewN | apply below_drew1 | refine below_set ?_ GE502.out) | exact HB.out))) : w.heap.size ≤ gb517)); have n5_ := Aside0.mk ((by rw [hg]; exact (below_size (by repeat (first | (with_reducible first | exact HB.out | apply below_alloc | apply pw_below_drewN | apply below_drew1 | refine below_set ?_ GE502.out) | exact HB.out))) : w.heap.size ≤ gb517)); have n6_ := Aside0.mk ((by rw [hg]; exact Nat.ne_of_lt (blk_lt (g := gb502) (o := .cells #[.int .i64 t499, .int .i64 t500] 27 (0, 0)) (by (with_reducible repeat (first | refine blk_drewN ?_ _ | refine blk_drew ?_ | refine blk_alloc ?_ _)); exact BK502.out)) : gb502 ≠ gb517)); have n7_ := Aside0.mk ((by rw [hg]; exact Nat.ne_of_gt (blk_lt (g := gb502) (o := .cells #[.int .i64 t499, .int .i64 t500] 27 (0, 0)) (by (with_reducible repeat (first | refine blk_drewN ?_ _ | refine blk_drew ?_ | refine blk_alloc ?_ _)); exact BK502.out)) : gb517 ≠ gb502)); clear HO_9; clear BK502; clear HB; have HO_9 := n0_; have BK502 := n1_; have HB := n2_; have BK517 := n3_; have GW517 := n4_; have GE517 := n5_; have NB502_517 := n6_; have NB517_502 := n7_; clear n0_ n1_ n2_ n3_ n4_ n5_ n6_ n7_; clear hb hbox hg; have hnb82 := NB517_502.out; have hnc82 := NB502_517.out; have hcz83_0 : w81.cell? ⟨gb517, 0, none⟩ = some (.int .i64 0) := (blk_cell BK517.out 0).trans rfl; have hcz83_1 : w81.cell? ⟨gb517, 1, none⟩ = some (.int .i64 0) := (blk_cell BK517.out 1).trans rfl; have hfz83_0 := blk_frozen BK517.out 0; have hfz83_1 := blk_frozen BK517.out 1) | ((with_reducible refine gate_callee (f := 17) rfl ?_); refine goesL_ (some 73) rfl rfl Tryd.func17 (by kernel_rfl) rfl #[.int .i64 t516] rfl hL_ ?_; (with_reducible refine (sleuthlaw0_Num.calls t516 t518 _ A48.out).mono ?_); rintro e w' ⟨rfl, ⟨nd, rfl⟩⟩; refine ⟨_, rfl, ?_⟩; have hcz84_0 : w81.cell? ⟨gb502, 0, none⟩ = some (.int .i64 t499) := (blk_cell BK502.out 0).trans rfl; have hcz84_1 : w81.cell? ⟨gb502, 1, none⟩ = some (.int .i64 t500) := (blk_cell BK502.out 1).trans rfl; have hfz84_0 := blk_frozen BK502.out 0; have hfz84_1 := blk_frozen BK502.out 1) | (go_at_call 26; (with_reducible refine (sleuthlaw19_doubts.calls kj34 _ _ l0 _ _ x9_34 t521 _ ?side1 ?side2 ?side3 ?side4 A78.out).mono ?_); (case side1 => exact Kd.C_below HR0.out (by repeat (first | (with_reducible first | exact HB.out | apply below_alloc | apply pw_below_drewN | apply below_drew1 | refine below_set ?_ GE502.out | refine below_set ?_ GE517.out) | exact HB.out))); (case side2 => exact HC0.out); (case side3 => refine (Kd.R_reads' (e := 3) (base := w.heap.size) (ok := fun k_ => True) (n := x9_34.length) (c := co34) ?_).2.2; exact (by (with_reducible repeat (first | apply Kd.R_alloc | apply Kd.R_drewN | apply Kd.R_drew)); exact (Kd.R_mono (Kd.R_far (p := ⟨gb517, 1, none⟩) (Kd.R_far (p := ⟨gb517, 0, none⟩) (Kd.R_types HO_9.out BK517.out (by decide)) (fun _ hk => hk.2) (.int .i64 t514)) (fun _ hk => hk.2) (.int .i64 t515)) (fun _ h_ => h_.1)))); (case side4 => exact (Kd.R_reads' HO_9.out).2.1); rintro e w85 ⟨rfl, hb⟩; have n0_ := Aside0.mk (Kd.R_below (by (with_reducible repeat (first | apply Kd.R_alloc | apply Kd.R_drewN | apply Kd.R_drew)); exact (Kd.R_mono (Kd.R_far (p := ⟨gb517, 1, none⟩) (Kd.R_far (p := ⟨gb517, 0, none⟩) (Kd.R_types HO_9.out BK517.out (by decide)) (fun _ hk => hk.2) (.int .i64 t514)) (fun _ hk => hk.2) (.int .i64 t515)) (fun _ h_ => h_.1))) hb); have n1_ := Aside0.mk (blk_below (g := gb502) (o := .cells #[.int .i64 t499, .int .i64 t500] 27 (0, 0)) (by (with_reducible repeat (first | refine blk_drewN ?_ _ | refine blk_drew ?_ | refine blk_alloc ?_ _)); refine blk_far ?_ NB502_517.out _; (with_reducible repeat (first | refine blk_drewN ?_ _ | refine blk_drew ?_ | refine blk_alloc ?_ _)); refine blk_far ?_ NB502_517.out _; (with_reducible repeat (first | refine blk_drewN ?_ _ | refine blk_drew ?_ | refine blk_alloc ?_ _)); exact BK502.out) hb); have n2_ := Aside0.mk (blk_below (g := gb517) (o := .cells #[.int .i64 t514, .int .i64 t515] 27 (0, 0)) (by (with_reducible repeat (first | refine blk_drewN ?_ _ | refine blk_drew ?_ | refine blk_alloc ?_ _)); refine blk_put (cs := #[.int .i64 t514, .int .i64 0]) ?_ 1 _ rfl; (with_reducible repeat (first | refine blk_drewN ?_ _ | refine blk_drew ?_ | refine blk_alloc ?_ _)); refine blk_put (cs := #[.int .i64 0, .int .i64 0]) ?_ 0 _ rfl; (with_reducible repeat (first | refine blk_drewN ?_ _ | refine blk_drew ?_ | refine blk_alloc ?_ _)); exact BK517.out) hb); have n3_ := Aside0.mk (below_step (by repeat (first | (with_reducible first | exact HB.out | apply below_alloc | apply pw_below_drewN | apply below_drew1 | refine below_set ?_ GE502.out | refine below_set ?_ GE517.out) | exact HB.out)) hb); clear HO_9; clear BK502; clear BK517; clear HB; have HO_9 := n0_; have BK502 := n1_; have BK517 := n2_; have HB := n3_; clear n0_ n1_ n2_ n3_; (try clear hb); (try clear hb2); (try clear hk); (try clear hi)) | (go_at_call 26; (with_reducible refine (sleuthlaw19_doubts.calls kj34 _ _ l0 _ _ l1 t522 _ ?side1 ?side2 ?side3 ?side4 A79.out).mono ?_); (case side1 => repeat (first | exact (Kd.C_below HR0.out HB.out) | (with_reducible refine Kd.C_alloc ?_ _) | (with_reducible refine Kd.C_drewN ?_ _) | (with_reducible refine Kd.C_drew ?_))); (case side2 => exact HC0.out); (case side3 => repeat (first | exact (Kd.C_below HR1.out HB.out) | (with_reducible refine Kd.C_alloc ?_ _) | (with_reducible refine Kd.C_drewN ?_ _) | (with_reducible refine Kd.C_drew ?_))); (case side4 => exact HC1.out); rintro e w86 ⟨rfl, hb⟩; have n0_ := Aside0.mk (Kd.R_below (hR_ HO_9.out) hb); have n1_ := Aside0.mk (blk_below (g := gb502) (o := .cells #[.int .i64 t499, .int .i64 t500] 27 (0, 0)) (by (with_reducible repeat (first | refine blk_drewN ?_ _ | refine blk_drew ?_ | refine blk_alloc ?_ _)); exact BK502.out) hb); have n2_ := Aside0.mk (blk_below (g := gb517) (o := .cells #[.int .i64 t514, .int .i64 t515] 27 (0, 0)) (by (with_reducible repeat (first | refine blk_drewN ?_ _ | refine blk_drew ?_ | refine blk_alloc ?_ _)); exact BK517.out) hb); have n3_ := Aside0.mk (below_step (by repeat (first | (with_reducible first | exact HB.out | apply below_alloc | apply pw_below_drewN | apply below_drew1 | refine below_set ?_ GE502.out | refine below_set ?_ GE517.out) | exact HB.out)) hb); clear HO_9; clear BK502; clear BK517; clear HB; have HO_9 := n0_; have BK502 := n1_; have BK517 := n2_; have HB := n3_; clear n0_ n1_ n2_ n3_; (try clear hb); (try clear hb2); (try clear hk); (try clear hi)))
                          go_ret
                          exact ⟨by first | rfl | (simp [errW_none, errW_some] <;> rfl) | (simp [*, errW_none, errW_some] <;> rfl), by repeat (first | (with_reducible first | exact HB.out | apply below_alloc | apply pw_below_drewN | apply below_drew1 | refine below_set ?_ GE502.out | refine below_set ?_ GE517.out) | exact HB.out)⟩
                    · rw [if_neg c49] at H
                      have c49b0 : (t518 == 0) = false := beq_eq_false_iff_ne.mpr c49
                      have c49b1 : (t518 != 0) = true := bne_iff_ne.mpr c49
                      cases H
              · rw [if_neg c33] at H
                exact absurd H (by simp)
            · rw [if_neg c32] at H
              exact absurd H (by simp)
          · rw [if_neg c31] at H
            exact absurd H (by simp)
  · replace c5 := Bool.eq_false_iff.mpr c5
    subst c5
    have H1 : (none) = some r := by rw [if_neg (show ¬ (false = true) by decide)] at H; exact H
    clear H
    have H := H1
    clear H1
    cases H
end Go.Proofs.YtpbobdgenjhjoaaDoor.G
