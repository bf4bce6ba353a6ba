-- Laid by the session's own driver gp.py over the kit's printer. Not trusted: Lean checks it.
import Derived.Test.YtpbobdgenjhjoaaDoorG0
import Derived.Test.YtpbobdgenjhjoaaDoorG1
import Derived.Test.YtpbobdgenjhjoaaDoorG2
import Derived.Test.YtpbobdgenjhjoaaDoorG25
import Derived.Test.YtpbobdgenjhjoaaDoorU8
namespace Go.Proofs.YtpbobdgenjhjoaaDoor.G
open Go.RowKit Go.Proofs.YtpbobdgenjhjoaaDoorW.PrintWords Go.Proofs.YtpbobdgenjhjoaaDoorW.PrintLast Go.Proofs.YtpbobdgenjhjoaaDoorW.PrintMore
attribute [local go_sem] max2_int min2_int max_two min_two max_three min_three max_four min_four   -- for this text's walks alone
set_option linter.unusedVariables false
set_option linter.unusedSimpArgs false

attribute [local go_sem high] eqA27
/-! ### sleuthlaw19_HalfAsks: function 9 -/
mutual
def sleuthlaw19_HalfAsks.j0 : Nat → List (S41) → List Int → Int → Bool → Int → Int → Option (Bool)
  | 0, _, _, _, _, _, _ => none
  | k + 1, x0, x1, x6, x25, x405000, x405001 => if x25 = true then ((sleuthlaw0_Num.f x6).bind fun t407 => (if t407 = 0 then (none) else (if (x405000 == 0 && (x405001 == 0)) = true then ((sleuthref12_MarksMay.f k x0 x1).bind fun t408 => (some (!t408))) else (none)))) else (if x405001 < 0 then (sleuthlaw19_HalfAsks.j1 k x0 x1 true x405000 x405001) else (sleuthlaw19_HalfAsks.j1 k x0 x1 (decide (x405001 ≥ (x0.length : Int))) x405000 x405001))
def sleuthlaw19_HalfAsks.j1 : Nat → List (S41) → List Int → Bool → Int → Int → Option (Bool)
  | 0, _, _, _, _, _ => none
  | k + 1, x0, x1, x49, x405000, x405001 => if x49 = true then (none) else (if x405000 = 2 then (if 0 < (x1.length : Int) then (if (rd x1 0) = 1 then (some (x405001 == 0)) else (none)) else (none)) else (if x405000 = 3 then (some (x405001 == 0)) else (if x405000 = 1 then (sleuthlaw19_HalfAsks.l0 k x0 x1 0 x405000 x405001) else (if 0 ≤ x405001 then (if x405001 < (x1.length : Int) then (if (rd x1 x405001) = 0 then (if x405001 < (x0.length : Int) then (sleuthlaw19_HalfAsks.l1 k x0 x1 ((rd_T41 x0 x405001).f1) x405000 x405001) else (none)) else (none)) else (none)) else (none)))))
def sleuthlaw19_HalfAsks.l0 : Nat → List (S41) → List Int → Int → Int → Int → Option (Bool)
  | 0, _, _, _, _, _ => none
  | k + 1, x0, x1, x7, x405000, x405001 => if x7 < (x0.length : Int) then (if 0 ≤ x7 then (if ((rd_T41 x0 x7).f1) = x405001 then (if x7 < (x1.length : Int) then (if (rd x1 x7) = 1 then (if x7 > x405001 then (if (rd x1 x7) = 2 then (none) else (sleuthlaw19_HalfAsks.l0 k x0 x1 (wrap64 (x7 + 1)) x405000 x405001)) else (sleuthlaw19_HalfAsks.l0 k x0 x1 (wrap64 (x7 + 1)) x405000 x405001)) else (none)) else (none)) else (if x7 > x405001 then (if x7 < (x1.length : Int) then (if (rd x1 x7) = 2 then (none) else (sleuthlaw19_HalfAsks.l0 k x0 x1 (wrap64 (x7 + 1)) x405000 x405001)) else (none)) else (sleuthlaw19_HalfAsks.l0 k x0 x1 (wrap64 (x7 + 1)) x405000 x405001))) else (none)) else (if 0 ≤ x405001 then (if x405001 < (x1.length : Int) then (some ((rd x1 x405001) == 2)) else (none)) else (none))
def sleuthlaw19_HalfAsks.l1 : Nat → List (S41) → List Int → Int → Int → Int → Option (Bool)
  | 0, _, _, _, _, _ => none
  | k + 1, x0, x1, x8, x405000, x405001 => if x8 ≥ 0 then (if 0 ≤ x8 then (if x8 < (x1.length : Int) then (if (rd x1 x8) = 1 then (none) else (if (rd x1 x8) = 2 then (some (x405000 == 0)) else (if x8 < (x0.length : Int) then (sleuthlaw19_HalfAsks.l1 k x0 x1 ((rd_T41 x0 x8).f1) x405000 x405001) else (none)))) else (none)) else (none)) else (if x405000 = 0 then (some (x405001 == 0)) else (none))
end
def sleuthlaw19_HalfAsks.f (k : Nat) (l0 : List (S41)) (l1 : List Int) : Option (Bool) := (sleuthlaw19_awake.f k).bind fun t400 => (if t400 = true then ((half_Next.f k l0 l1).bind fun bt401 => ((sleuthlaw0_Num.f bt401.2.2).bind fun t405 => (if t405 = 0 then ((sleuthref12_MarksMay.f k l0 l1).bind fun t406 => (sleuthlaw19_HalfAsks.j0 k l0 l1 bt401.2.2 (!t406) bt401.1 bt401.2.1)) else (sleuthlaw19_HalfAsks.j0 k l0 l1 bt401.2.2 true bt401.1 bt401.2.1)))) else (none))
theorem sleuthlaw19_HalfAsks.mono_l : ∀ k, (∀ y0 y1 y2 y3 y4 y5, LeO (sleuthlaw19_HalfAsks.j0 k y0 y1 y2 y3 y4 y5) (sleuthlaw19_HalfAsks.j0 (k + 1) y0 y1 y2 y3 y4 y5)) ∧ (∀ y0 y1 y2 y3 y4, LeO (sleuthlaw19_HalfAsks.j1 k y0 y1 y2 y3 y4) (sleuthlaw19_HalfAsks.j1 (k + 1) y0 y1 y2 y3 y4)) ∧ (∀ y0 y1 y2 y3 y4, LeO (sleuthlaw19_HalfAsks.l0 k y0 y1 y2 y3 y4) (sleuthlaw19_HalfAsks.l0 (k + 1) y0 y1 y2 y3 y4)) ∧ (∀ y0 y1 y2 y3 y4, LeO (sleuthlaw19_HalfAsks.l1 k y0 y1 y2 y3 y4) (sleuthlaw19_HalfAsks.l1 (k + 1) y0 y1 y2 y3 y4))
  | 0 => ⟨fun _ _ _ _ _ _ r h => by simp [sleuthlaw19_HalfAsks.j0] at h, fun _ _ _ _ _ r h => by simp [sleuthlaw19_HalfAsks.j1] at h, fun _ _ _ _ _ r h => by simp [sleuthlaw19_HalfAsks.l0] at h, fun _ _ _ _ _ r h => by simp [sleuthlaw19_HalfAsks.l1] at h⟩
  | k + 1 => by
    obtain ⟨ih0, ih1, ih2, ih3⟩ := sleuthlaw19_HalfAsks.mono_l k
    refine ⟨?_, ?_, ?_, ?_⟩
    · intro y0 y1 y2 y3 y4 y5
      unfold sleuthlaw19_HalfAsks.j0
      repeat' first
      | (with_reducible exact ih0 _ _ _ _ _ _)
      | (with_reducible exact ih1 _ _ _ _ _)
      | (with_reducible exact ih2 _ _ _ _ _)
      | (with_reducible exact ih3 _ _ _ _ _)
      | (with_reducible exact half_Next.mono _ _ _)
      | (with_reducible exact sleuthlaw19_awake.mono _)
      | (with_reducible exact sleuthref12_MarksMay.mono _ _ _)
      | (with_reducible exact LeO.refl _)
      | (with_reducible exact LeO.none _)
      | (with_reducible refine LeO.ite ?_ ?_)
      | (with_reducible refine LeO.bind ?_ (fun _ => ?_))
      | exact ih0 _ _ _ _ _ _
      | exact ih1 _ _ _ _ _
      | exact ih2 _ _ _ _ _
      | exact ih3 _ _ _ _ _
      | exact half_Next.mono _ _ _
      | exact sleuthlaw19_awake.mono _
      | exact sleuthref12_MarksMay.mono _ _ _
      | exact LeO.none _
      | refine LeO.ite ?_ ?_
      | refine LeO.bind ?_ (fun _ => ?_)
    · intro y0 y1 y2 y3 y4
      unfold sleuthlaw19_HalfAsks.j1
      repeat' first
      | (with_reducible exact ih0 _ _ _ _ _ _)
      | (with_reducible exact ih1 _ _ _ _ _)
      | (with_reducible exact ih2 _ _ _ _ _)
      | (with_reducible exact ih3 _ _ _ _ _)
      | (with_reducible exact half_Next.mono _ _ _)
      | (with_reducible exact sleuthlaw19_awake.mono _)
      | (with_reducible exact sleuthref12_MarksMay.mono _ _ _)
      | (with_reducible exact LeO.refl _)
      | (with_reducible exact LeO.none _)
      | (with_reducible refine LeO.ite ?_ ?_)
      | (with_reducible refine LeO.bind ?_ (fun _ => ?_))
      | exact ih0 _ _ _ _ _ _
      | exact ih1 _ _ _ _ _
      | exact ih2 _ _ _ _ _
      | exact ih3 _ _ _ _ _
      | exact half_Next.mono _ _ _
      | exact sleuthlaw19_awake.mono _
      | exact sleuthref12_MarksMay.mono _ _ _
      | exact LeO.none _
      | refine LeO.ite ?_ ?_
      | refine LeO.bind ?_ (fun _ => ?_)
    · intro y0 y1 y2 y3 y4
      unfold sleuthlaw19_HalfAsks.l0
      repeat' first
      | (with_reducible exact ih0 _ _ _ _ _ _)
      | (with_reducible exact ih1 _ _ _ _ _)
      | (with_reducible exact ih2 _ _ _ _ _)
      | (with_reducible exact ih3 _ _ _ _ _)
      | (with_reducible exact half_Next.mono _ _ _)
      | (with_reducible exact sleuthlaw19_awake.mono _)
      | (with_reducible exact sleuthref12_MarksMay.mono _ _ _)
      | (with_reducible exact LeO.refl _)
      | (with_reducible exact LeO.none _)
      | (with_reducible refine LeO.ite ?_ ?_)
      | (with_reducible refine LeO.bind ?_ (fun _ => ?_))
      | exact ih0 _ _ _ _ _ _
      | exact ih1 _ _ _ _ _
      | exact ih2 _ _ _ _ _
      | exact ih3 _ _ _ _ _
      | exact half_Next.mono _ _ _
      | exact sleuthlaw19_awake.mono _
      | exact sleuthref12_MarksMay.mono _ _ _
      | exact LeO.none _
      | refine LeO.ite ?_ ?_
      | refine LeO.bind ?_ (fun _ => ?_)
    · intro y0 y1 y2 y3 y4
      unfold sleuthlaw19_HalfAsks.l1
      repeat' first
      | (with_reducible exact ih0 _ _ _ _ _ _)
      | (with_reducible exact ih1 _ _ _ _ _)
      | (with_reducible exact ih2 _ _ _ _ _)
      | (with_reducible exact ih3 _ _ _ _ _)
      | (with_reducible exact half_Next.mono _ _ _)
      | (with_reducible exact sleuthlaw19_awake.mono _)
      | (with_reducible exact sleuthref12_MarksMay.mono _ _ _)
      | (with_reducible exact LeO.refl _)
      | (with_reducible exact LeO.none _)
      | (with_reducible refine LeO.ite ?_ ?_)
      | (with_reducible refine LeO.bind ?_ (fun _ => ?_))
      | exact ih0 _ _ _ _ _ _
      | exact ih1 _ _ _ _ _
      | exact ih2 _ _ _ _ _
      | exact ih3 _ _ _ _ _
      | exact half_Next.mono _ _ _
      | exact sleuthlaw19_awake.mono _
      | exact sleuthref12_MarksMay.mono _ _ _
      | exact LeO.none _
      | refine LeO.ite ?_ ?_
      | refine LeO.bind ?_ (fun _ => ?_)
theorem sleuthlaw19_HalfAsks.mono : ∀ a0 a1 k, LeO (sleuthlaw19_HalfAsks.f k a0 a1) (sleuthlaw19_HalfAsks.f (k + 1) a0 a1) := by
  intro a0 a1 k
  obtain ⟨ih0, ih1, ih2, ih3⟩ := sleuthlaw19_HalfAsks.mono_l k
  unfold sleuthlaw19_HalfAsks.f
  repeat' first
      | (with_reducible exact ih0 _ _ _ _ _ _)
      | (with_reducible exact ih1 _ _ _ _ _)
      | (with_reducible exact ih2 _ _ _ _ _)
      | (with_reducible exact ih3 _ _ _ _ _)
      | (with_reducible exact half_Next.mono _ _ _)
      | (with_reducible exact sleuthlaw19_awake.mono _)
      | (with_reducible exact sleuthref12_MarksMay.mono _ _ _)
      | (with_reducible exact LeO.refl _)
      | (with_reducible exact LeO.none _)
      | (with_reducible refine LeO.ite ?_ ?_)
      | (with_reducible refine LeO.bind ?_ (fun _ => ?_))
      | exact ih0 _ _ _ _ _ _
      | exact ih1 _ _ _ _ _
      | exact ih2 _ _ _ _ _
      | exact ih3 _ _ _ _ _
      | exact half_Next.mono _ _ _
      | exact sleuthlaw19_awake.mono _
      | exact sleuthref12_MarksMay.mono _ _ _
      | exact LeO.none _
      | refine LeO.ite ?_ ?_
      | refine LeO.bind ?_ (fun _ => ?_)
set_option maxHeartbeats 8000000 in
set_option maxRecDepth 100000 in
theorem sleuthlaw19_HalfAsks.calls (k : Nat) (A0 : Option Addr) (c0 : Nat) (l0 : List (S41)) (A1 : Option Addr) (c1 : Nat) (l1 : List Int) (r : Bool) (w : World) (hr0 : Kd.C k41 w A0 l0.length l0) (hc0 : l0.length ≤ c0) (hr1 : Kd.C (Kd.int .i64) w A1 l1.length l1) (hc1 : l1.length ≤ c1) (h : sleuthlaw19_HalfAsks.f k l0 l1 = some r) (hG : GOK w) :
    Calls Tryd.prog 9 #[.slice A0 l0.length c0, .slice A1 l1.length c1] w fun e w' => e = .returned (.bool r) ∧ Below w.heap.size w w' := by
  have hu27 := Tryd.underlying27
  have HR0 := Aside0.mk hr0
  have HC0 := Aside0.mk hc0
  clear hr0 hc0
  have HR1 := Aside0.mk hr1
  have HC1 := Aside0.mk hc1
  clear hr1 hc1
  have HB := Aside0.mk (Below.refl w.heap.size w)
  have H : ((sleuthlaw19_awake.f k).bind fun t400 => (if t400 = true then ((half_Next.f k l0 l1).bind fun bt401 => ((sleuthlaw0_Num.f bt401.2.2).bind fun t405 => (if t405 = 0 then ((sleuthref12_MarksMay.f k l0 l1).bind fun t406 => (sleuthlaw19_HalfAsks.j0 k l0 l1 bt401.2.2 (!t406) bt401.1 bt401.2.1)) else (sleuthlaw19_HalfAsks.j0 k l0 l1 bt401.2.2 true bt401.1 bt401.2.1)))) else (none))) = some r := h
  clear h
  replace H := Option.bind_eq_some_iff.mp H
  obtain ⟨t400, A30, H⟩ := H
  replace H : (if t400 = true then ((half_Next.f k l0 l1).bind fun bt401 => ((sleuthlaw0_Num.f bt401.2.2).bind fun t405 => (if t405 = 0 then ((sleuthref12_MarksMay.f k l0 l1).bind fun t406 => (sleuthlaw19_HalfAsks.j0 k l0 l1 bt401.2.2 (!t406) bt401.1 bt401.2.1)) else (sleuthlaw19_HalfAsks.j0 k l0 l1 bt401.2.2 true bt401.1 bt401.2.1)))) else (none)) = some r := H
  have A3 := Aside0.mk A30
  clear A30
  by_cases c4 : t400 = true
  · subst c4
    have H1 : ((half_Next.f k l0 l1).bind fun bt401 => ((sleuthlaw0_Num.f bt401.2.2).bind fun t405 => (if t405 = 0 then ((sleuthref12_MarksMay.f k l0 l1).bind fun t406 => (sleuthlaw19_HalfAsks.j0 k l0 l1 bt401.2.2 (!t406) bt401.1 bt401.2.1)) else (sleuthlaw19_HalfAsks.j0 k l0 l1 bt401.2.2 true bt401.1 bt401.2.1)))) = some r := by rw [if_pos rfl] at H; exact H
    clear H
    have H := H1
    clear H1
    replace H := Option.bind_eq_some_iff.mp H
    obtain ⟨⟨t401, t402, t403⟩, A50, H⟩ := H
    replace H : ((sleuthlaw0_Num.f t403).bind fun t405 => (if t405 = 0 then ((sleuthref12_MarksMay.f k l0 l1).bind fun t406 => (sleuthlaw19_HalfAsks.j0 k l0 l1 t403 (!t406) t401 t402)) else (sleuthlaw19_HalfAsks.j0 k l0 l1 t403 true t401 t402))) = some r := H
    have A5 := Aside0.mk A50
    clear A50
    have HC6 := Aside0.mk H
    clear H
    go_enter Tryd.func9, Tryd.ntmps9
    go_upto_region 4 with (first | (go_at_call 23; (with_reducible refine (sleuthlaw19_awake.calls k  true _ A3.out hG_).mono ?_); rintro e w7 ⟨rfl, hb⟩; have n0_ := Aside0.mk (below_step hB_ hb); clear HB; have HB := n0_; clear n0_; (try clear hb); (try clear hb2); (try clear hk); (try clear hi)) | (go_at_call 25; (with_reducible refine (half_Next.calls k _ _ l0 _ _ l1 t401 t402 t403 _ ?side1 ?side2 ?side3 ?side4 A5.out hG_).mono ?_); (case side1 => repeat (first | exact (Kd.C_below HR0.out HB.out) | (with_reducible refine Kd.C_alloc ?_ _) | (with_reducible refine Kd.C_drewN ?_ _) | (with_reducible refine Kd.C_drew ?_))); (case side2 => exact HC0.out); (case side3 => repeat (first | exact (Kd.C_below HR1.out HB.out) | (with_reducible refine Kd.C_alloc ?_ _) | (with_reducible refine Kd.C_drewN ?_ _) | (with_reducible refine Kd.C_drew ?_))); (case side4 => exact HC1.out); rintro e w8 ⟨rfl, hb⟩; have n0_ := Aside0.mk (below_step hB_ hb); clear HB; have HB := n0_; clear n0_; (try clear hb); (try clear hb2); (try clear hk); (try clear hi)) | ((with_reducible refine gate_dst (N := 5) rfl ?_); (try (refine gate_guard (by rfl) ?_; dsimp only)); refine box_event ?hg (N := 5) ?hd (cs := #[.int .i64 0, .int .i64 0]) (t := 27) ?hr ?_; (case hd => rfl); (case hg => rfl); (case hr => first | (go_simp; done) | (go_simp; rfl)); intro gb404 hg w9 hbox hb; have n0_ := Aside0.mk (below_step hB_ hb); have n1_ := Aside0.mk (hbox); have n2_ := Aside0.mk ((by rw [hg]; exact hS_ : w.heap.size ≤ gb404)); have n3_ := Aside0.mk ((by rw [hg]; exact hS_ : w.heap.size ≤ gb404)); clear HB; have HB := n0_; have BK404 := n1_; have GW404 := n2_; have GE404 := n3_; clear n0_ n1_ n2_ n3_; clear hb hbox hg; have hcz10_0 : w9.cell? ⟨gb404, 0, none⟩ = some (.int .i64 0) := (blk_cell BK404.out 0).trans rfl; have hcz10_1 : w9.cell? ⟨gb404, 1, none⟩ = some (.int .i64 0) := (blk_cell BK404.out 1).trans rfl; have hfz10_0 := blk_frozen BK404.out 0; have hfz10_1 := blk_frozen BK404.out 1))
    repeat (go_quiet (first | (go_at_call 23; (with_reducible refine (sleuthlaw19_awake.calls k  true _ A3.out hG_).mono ?_); rintro e w7 ⟨rfl, hb⟩; have n0_ := Aside0.mk (below_step hB_ hb); clear HB; have HB := n0_; clear n0_; (try clear hb); (try clear hb2); (try clear hk); (try clear hi)) | (go_at_call 25; (with_reducible refine (half_Next.calls k _ _ l0 _ _ l1 t401 t402 t403 _ ?side1 ?side2 ?side3 ?side4 A5.out hG_).mono ?_); (case side1 => repeat (first | exact (Kd.C_below HR0.out HB.out) | (with_reducible refine Kd.C_alloc ?_ _) | (with_reducible refine Kd.C_drewN ?_ _) | (with_reducible refine Kd.C_drew ?_))); (case side2 => exact HC0.out); (case side3 => repeat (first | exact (Kd.C_below HR1.out HB.out) | (with_reducible refine Kd.C_alloc ?_ _) | (with_reducible refine Kd.C_drewN ?_ _) | (with_reducible refine Kd.C_drew ?_))); (case side4 => exact HC1.out); rintro e w8 ⟨rfl, hb⟩; have n0_ := Aside0.mk (below_step hB_ hb); clear HB; have HB := n0_; clear n0_; (try clear hb); (try clear hb2); (try clear hk); (try clear hi)) | ((with_reducible refine gate_dst (N := 5) rfl ?_); (try (refine gate_guard (by rfl) ?_; dsimp only)); refine box_event ?hg (N := 5) ?hd (cs := #[.int .i64 0, .int .i64 0]) (t := 27) ?hr ?_; (case hd => rfl); (case hg => rfl); (case hr => first | (go_simp; done) | (go_simp; rfl)); intro gb404 hg w9 hbox hb; have n0_ := Aside0.mk (below_step hB_ hb); have n1_ := Aside0.mk (hbox); have n2_ := Aside0.mk ((by rw [hg]; exact hS_ : w.heap.size ≤ gb404)); have n3_ := Aside0.mk ((by rw [hg]; exact hS_ : w.heap.size ≤ gb404)); clear HB; have HB := n0_; have BK404 := n1_; have GW404 := n2_; have GE404 := n3_; clear n0_ n1_ n2_ n3_; clear hb hbox hg; have hcz10_0 : w9.cell? ⟨gb404, 0, none⟩ = some (.int .i64 0) := (blk_cell BK404.out 0).trans rfl; have hcz10_1 : w9.cell? ⟨gb404, 1, none⟩ = some (.int .i64 0) := (blk_cell BK404.out 1).trans rfl; have hfz10_0 := blk_frozen BK404.out 0; have hfz10_1 := blk_frozen BK404.out 1)); go_upto_region 4 with (first | (go_at_call 23; (with_reducible refine (sleuthlaw19_awake.calls k  true _ A3.out hG_).mono ?_); rintro e w7 ⟨rfl, hb⟩; have n0_ := Aside0.mk (below_step hB_ hb); clear HB; have HB := n0_; clear n0_; (try clear hb); (try clear hb2); (try clear hk); (try clear hi)) | (go_at_call 25; (with_reducible refine (half_Next.calls k _ _ l0 _ _ l1 t401 t402 t403 _ ?side1 ?side2 ?side3 ?side4 A5.out hG_).mono ?_); (case side1 => repeat (first | exact (Kd.C_below HR0.out HB.out) | (with_reducible refine Kd.C_alloc ?_ _) | (with_reducible refine Kd.C_drewN ?_ _) | (with_reducible refine Kd.C_drew ?_))); (case side2 => exact HC0.out); (case side3 => repeat (first | exact (Kd.C_below HR1.out HB.out) | (with_reducible refine Kd.C_alloc ?_ _) | (with_reducible refine Kd.C_drewN ?_ _) | (with_reducible refine Kd.C_drew ?_))); (case side4 => exact HC1.out); rintro e w8 ⟨rfl, hb⟩; have n0_ := Aside0.mk (below_step hB_ hb); clear HB; have HB := n0_; clear n0_; (try clear hb); (try clear hb2); (try clear hk); (try clear hi)) | ((with_reducible refine gate_dst (N := 5) rfl ?_); (try (refine gate_guard (by rfl) ?_; dsimp only)); refine box_event ?hg (N := 5) ?hd (cs := #[.int .i64 0, .int .i64 0]) (t := 27) ?hr ?_; (case hd => rfl); (case hg => rfl); (case hr => first | (go_simp; done) | (go_simp; rfl)); intro gb404 hg w9 hbox hb; have n0_ := Aside0.mk (below_step hB_ hb); have n1_ := Aside0.mk (hbox); have n2_ := Aside0.mk ((by rw [hg]; exact hS_ : w.heap.size ≤ gb404)); have n3_ := Aside0.mk ((by rw [hg]; exact hS_ : w.heap.size ≤ gb404)); clear HB; have HB := n0_; have BK404 := n1_; have GW404 := n2_; have GE404 := n3_; clear n0_ n1_ n2_ n3_; clear hb hbox hg; have hcz10_0 : w9.cell? ⟨gb404, 0, none⟩ = some (.int .i64 0) := (blk_cell BK404.out 0).trans rfl; have hcz10_1 : w9.cell? ⟨gb404, 1, none⟩ = some (.int .i64 0) := (blk_cell BK404.out 1).trans rfl; have hfz10_0 := blk_frozen BK404.out 0; have hfz10_1 := blk_frozen BK404.out 1)))
    (try simp only [Act.put, List.setIfInBounds_toArray, List.set_cons_zero, List.set_cons_succ])
    go_cut [25] (fun v25 wc => ∃ (kq : Nat) (x25_5 : Bool), v25 = .bool x25_5 ∧ Aside0 (sleuthlaw19_HalfAsks.j0 kq l0 l1 t403 x25_5 t401 t402 = some r) ∧ Aside0 (kq ≤ k) ∧ Aside0 (wc.heap[gb404]? = some (.cells #[.int .i64 t401, .int .i64 t402] 27 (0, 0))) ∧ Aside0 (Below w.heap.size w wc))
    case first =>
      have H := HC6.out
      clear HC6
      replace H := Option.bind_eq_some_iff.mp H
      obtain ⟨t405, A110, H⟩ := H
      replace H : (if t405 = 0 then ((sleuthref12_MarksMay.f k l0 l1).bind fun t406 => (sleuthlaw19_HalfAsks.j0 k l0 l1 t403 (!t406) t401 t402)) else (sleuthlaw19_HalfAsks.j0 k l0 l1 t403 true t401 t402)) = some r := H
      have A11 := Aside0.mk A110
      clear A110
      by_cases c12 : t405 = 0
      · rw [if_pos c12] at H
        have c12b0 : (t405 == 0) = true := beq_iff_eq.mpr c12
        have c12b1 : (t405 != 0) = false := bne_eq_false_iff_eq.mpr c12
        clear c12
        (first | rw [c12b0] | (simp only [i64_w, i32_w]; rw [c12b0]) | skip)
        replace H := Option.bind_eq_some_iff.mp H
        obtain ⟨t406, A130, H⟩ := H
        replace H : (sleuthlaw19_HalfAsks.j0 k l0 l1 t403 (!t406) t401 t402) = some r := H
        have A13 := Aside0.mk A130
        clear A130
        have H' := Aside0.mk H
        clear H
        go_wp2_with (first | (go_at_call 17; (with_reducible refine (sleuthlaw0_Num.calls t403 t405 _ A11.out).mono ?_); rintro e w' ⟨rfl, ⟨nd, rfl⟩⟩; (try first | exact ⟨rfl, _, World.drewN_drewN _ _ _⟩ | exact ⟨rfl, _, Eq.trans (World.drewN_drewN _ _ _) (congrArg (World.drewN _) (Nat.add_assoc _ _ _))⟩)) | (go_at_call 22; (with_reducible refine (sleuthref12_MarksMay.calls k _ _ l0 _ _ l1 t406 _ ?side1 ?side2 ?side3 ?side4 A13.out).mono ?_); (case side1 => exact Kd.C_below HR0.out (by repeat (first | (with_reducible first | exact HB.out | apply below_alloc | apply pw_below_drewN | apply below_drew1 | refine below_set ?_ GE404.out) | exact HB.out))); (case side2 => exact HC0.out); (case side3 => exact Kd.C_below HR1.out (by repeat (first | (with_reducible first | exact HB.out | apply below_alloc | apply pw_below_drewN | apply below_drew1 | refine below_set ?_ GE404.out) | exact HB.out))); (case side4 => exact HC1.out); rintro e w14 ⟨rfl, hb⟩; have n0_ := Aside0.mk (blk_below (g := gb404) (o := .cells #[.int .i64 t401, .int .i64 t402] 27 (0, 0)) (by (with_reducible repeat (first | refine blk_drewN ?_ _ | refine blk_drew ?_ | refine blk_alloc ?_ _)); refine blk_put (cs := #[.int .i64 t401, .int .i64 0]) ?_ 1 _ rfl; (with_reducible repeat (first | refine blk_drewN ?_ _ | refine blk_drew ?_ | refine blk_alloc ?_ _)); refine blk_put (cs := #[.int .i64 0, .int .i64 0]) ?_ 0 _ rfl; (with_reducible repeat (first | refine blk_drewN ?_ _ | refine blk_drew ?_ | refine blk_alloc ?_ _)); exact BK404.out) hb); have n1_ := Aside0.mk (below_step (by repeat (first | (with_reducible first | exact HB.out | apply below_alloc | apply pw_below_drewN | apply below_drew1 | refine below_set ?_ GE404.out) | exact HB.out)) hb); clear BK404; clear HB; have BK404 := n0_; have HB := n1_; clear n0_ n1_; (try clear hb); (try clear hb2); (try clear hk); (try clear hi)))
        repeat (go_quiet (first | (go_at_call 17; (with_reducible refine (sleuthlaw0_Num.calls t403 t405 _ A11.out).mono ?_); rintro e w' ⟨rfl, ⟨nd, rfl⟩⟩; (try first | exact ⟨rfl, _, World.drewN_drewN _ _ _⟩ | exact ⟨rfl, _, Eq.trans (World.drewN_drewN _ _ _) (congrArg (World.drewN _) (Nat.add_assoc _ _ _))⟩)) | (go_at_call 22; (with_reducible refine (sleuthref12_MarksMay.calls k _ _ l0 _ _ l1 t406 _ ?side1 ?side2 ?side3 ?side4 A13.out).mono ?_); (case side1 => exact Kd.C_below HR0.out (by repeat (first | (with_reducible first | exact HB.out | apply below_alloc | apply pw_below_drewN | apply below_drew1 | refine below_set ?_ GE404.out) | exact HB.out))); (case side2 => exact HC0.out); (case side3 => exact Kd.C_below HR1.out (by repeat (first | (with_reducible first | exact HB.out | apply below_alloc | apply pw_below_drewN | apply below_drew1 | refine below_set ?_ GE404.out) | exact HB.out))); (case side4 => exact HC1.out); rintro e w14 ⟨rfl, hb⟩; have n0_ := Aside0.mk (blk_below (g := gb404) (o := .cells #[.int .i64 t401, .int .i64 t402] 27 (0, 0)) (by (with_reducible repeat (first | refine blk_drewN ?_ _ | refine blk_drew ?_ | refine blk_alloc ?_ _)); refine blk_put (cs := #[.int .i64 t401, .int .i64 0]) ?_ 1 _ rfl; (with_reducible repeat (first | refine blk_drewN ?_ _ | refine blk_drew ?_ | refine blk_alloc ?_ _)); refine blk_put (cs := #[.int .i64 0, .int .i64 0]) ?_ 0 _ rfl; (with_reducible repeat (first | refine blk_drewN ?_ _ | refine blk_drew ?_ | refine blk_alloc ?_ _)); exact BK404.out) hb); have n1_ := Aside0.mk (below_step (by repeat (first | (with_reducible first | exact HB.out | apply below_alloc | apply pw_below_drewN | apply below_drew1 | refine below_set ?_ GE404.out) | exact HB.out)) hb); clear BK404; clear HB; have BK404 := n0_; have HB := n1_; clear n0_ n1_; (try clear hb); (try clear hb2); (try clear hk); (try clear hi))); try go_wp2_with (first | (go_at_call 17; (with_reducible refine (sleuthlaw0_Num.calls t403 t405 _ A11.out).mono ?_); rintro e w' ⟨rfl, ⟨nd, rfl⟩⟩; (try first | exact ⟨rfl, _, World.drewN_drewN _ _ _⟩ | exact ⟨rfl, _, Eq.trans (World.drewN_drewN _ _ _) (congrArg (World.drewN _) (Nat.add_assoc _ _ _))⟩)) | (go_at_call 22; (with_reducible refine (sleuthref12_MarksMay.calls k _ _ l0 _ _ l1 t406 _ ?side1 ?side2 ?side3 ?side4 A13.out).mono ?_); (case side1 => exact Kd.C_below HR0.out (by repeat (first | (with_reducible first | exact HB.out | apply below_alloc | apply pw_below_drewN | apply below_drew1 | refine below_set ?_ GE404.out) | exact HB.out))); (case side2 => exact HC0.out); (case side3 => exact Kd.C_below HR1.out (by repeat (first | (with_reducible first | exact HB.out | apply below_alloc | apply pw_below_drewN | apply below_drew1 | refine below_set ?_ GE404.out) | exact HB.out))); (case side4 => exact HC1.out); rintro e w14 ⟨rfl, hb⟩; have n0_ := Aside0.mk (blk_below (g := gb404) (o := .cells #[.int .i64 t401, .int .i64 t402] 27 (0, 0)) (by (with_reducible repeat (first | refine blk_drewN ?_ _ | refine blk_drew ?_ | refine blk_alloc ?_ _)); refine blk_put (cs := #[.int .i64 t401, .int .i64 0]) ?_ 1 _ rfl; (with_reducible repeat (first | refine blk_drewN ?_ _ | refine blk_drew ?_ | refine blk_alloc ?_ _)); refine blk_put (cs := #[.int .i64 0, .int .i64 0]) ?_ 0 _ rfl; (with_reducible repeat (first | refine blk_drewN ?_ _ | refine blk_drew ?_ | refine blk_alloc ?_ _)); exact BK404.out) hb); have n1_ := Aside0.mk (below_step (by repeat (first | (with_reducible first | exact HB.out | apply below_alloc | apply pw_below_drewN | apply below_drew1 | refine below_set ?_ GE404.out) | exact HB.out)) hb); clear BK404; clear HB; have BK404 := n0_; have HB := n1_; clear n0_ n1_; (try clear hb); (try clear hb2); (try clear hk); (try clear hi))))
        go_meet
        case rel => exact ⟨_, (!t406), (by first | rfl | (simp; done) | (simp [*]; done)), H', ⟨by first | omega | exact Nat.le_refl _⟩, ⟨by (with_reducible repeat (first | refine blk_drewN ?_ _ | refine blk_drew ?_ | refine blk_alloc ?_ _)); exact BK404.out⟩, ⟨by repeat (first | (with_reducible first | exact HB.out | apply below_alloc | apply pw_below_drewN | apply below_drew1 | refine below_set ?_ GE404.out) | exact HB.out)⟩⟩
      · rw [if_neg c12] at H
        have c12b0 : (t405 == 0) = false := beq_eq_false_iff_ne.mpr c12
        have c12b1 : (t405 != 0) = true := bne_iff_ne.mpr c12
        (first | rw [c12b0] | (simp only [i64_w, i32_w]; rw [c12b0]) | skip)
        have H' := Aside0.mk H
        clear H
        go_wp2_with (first | (go_at_call 17; (with_reducible refine (sleuthlaw0_Num.calls t403 t405 _ A11.out).mono ?_); rintro e w' ⟨rfl, ⟨nd, rfl⟩⟩; (try first | exact ⟨rfl, _, World.drewN_drewN _ _ _⟩ | exact ⟨rfl, _, Eq.trans (World.drewN_drewN _ _ _) (congrArg (World.drewN _) (Nat.add_assoc _ _ _))⟩)))
        repeat (go_quiet (first | (go_at_call 17; (with_reducible refine (sleuthlaw0_Num.calls t403 t405 _ A11.out).mono ?_); rintro e w' ⟨rfl, ⟨nd, rfl⟩⟩; (try first | exact ⟨rfl, _, World.drewN_drewN _ _ _⟩ | exact ⟨rfl, _, Eq.trans (World.drewN_drewN _ _ _) (congrArg (World.drewN _) (Nat.add_assoc _ _ _))⟩))); try go_wp2_with (first | (go_at_call 17; (with_reducible refine (sleuthlaw0_Num.calls t403 t405 _ A11.out).mono ?_); rintro e w' ⟨rfl, ⟨nd, rfl⟩⟩; (try first | exact ⟨rfl, _, World.drewN_drewN _ _ _⟩ | exact ⟨rfl, _, Eq.trans (World.drewN_drewN _ _ _) (congrArg (World.drewN _) (Nat.add_assoc _ _ _))⟩))))
        go_meet
        case rel => exact ⟨_, (true), (by first | rfl | (simp; done) | (simp [*]; done)), H', ⟨by first | omega | exact Nat.le_refl _⟩, ⟨by (with_reducible repeat (first | refine blk_drewN ?_ _ | refine blk_drew ?_ | refine blk_alloc ?_ _)); refine blk_put (cs := #[.int .i64 t401, .int .i64 0]) ?_ 1 _ rfl; (with_reducible repeat (first | refine blk_drewN ?_ _ | refine blk_drew ?_ | refine blk_alloc ?_ _)); refine blk_put (cs := #[.int .i64 0, .int .i64 0]) ?_ 0 _ rfl; (with_reducible repeat (first | refine blk_drewN ?_ _ | refine blk_drew ?_ | refine blk_alloc ?_ _)); exact BK404.out⟩, ⟨by repeat (first | (with_reducible first | exact HB.out | apply below_alloc | apply pw_below_drewN | apply below_drew1 | refine below_set ?_ GE404.out) | exact HB.out)⟩⟩
    case rest =>
      clear HC6
      try clear c1
      try clear p2
      try clear c4
      try clear c9
      try clear c12
      try clear c12b0
      try clear c12b1
      try clear hcz10_0
      try clear hcz10_1
      try clear hfz10_0
      try clear hfz10_1
      obtain ⟨kq, x25_5, rfl, HA, HJ5, BK404, HB⟩ := hcut
      cases kq with
      | zero => exact absurd HA.out (by simp [sleuthlaw19_HalfAsks.j0])
      | succ kj5 =>
        have H := HA.out
        clear HA
        simp only [sleuthlaw19_HalfAsks.j0] at H
        by_cases c15 : x25_5 = true
        · subst c15
          have H1 : ((sleuthlaw0_Num.f t403).bind fun t407 => (if t407 = 0 then (none) else (if (t401 == 0 && (t402 == 0)) = true then ((sleuthref12_MarksMay.f kj5 l0 l1).bind fun t408 => (some (!t408))) else (none)))) = some r := by rw [if_pos rfl] at H; exact H
          clear H
          have H := H1
          clear H1
          replace H := Option.bind_eq_some_iff.mp H
          obtain ⟨t407, A160, H⟩ := H
          replace H : (if t407 = 0 then (none) else (if (t401 == 0 && (t402 == 0)) = true then ((sleuthref12_MarksMay.f kj5 l0 l1).bind fun t408 => (some (!t408))) else (none))) = some r := H
          have A16 := Aside0.mk A160
          clear A160
          by_cases c17 : t407 = 0
          · rw [if_pos c17] at H
            have c17b0 : (t407 == 0) = true := beq_iff_eq.mpr c17
            have c17b1 : (t407 != 0) = false := bne_eq_false_iff_eq.mpr c17
            clear c17
            cases H
          · rw [if_neg c17] at H
            have c17b0 : (t407 == 0) = false := beq_eq_false_iff_ne.mpr c17
            have c17b1 : (t407 != 0) = true := bne_iff_ne.mpr c17
            by_cases c18 : (t401 == 0 && (t402 == 0)) = true
            · rw [if_pos c18] at H
              have c18b0 : (t401 == 0 && (t402 == 0)) = true := c18
              (try (have c18b1 : decide (t401 = 0 && (t402 == 0)) = true := by simpa using c18))
              (try (have c18b2 : (t401 == 0 && (t402 == 0)) = true := by simpa using c18))
              clear c18
              replace H := Option.bind_eq_some_iff.mp H
              obtain ⟨t408, A190, H⟩ := H
              replace H : (some (!t408)) = some r := H
              have A19 := Aside0.mk A190
              clear A190
              obtain rfl := Option.some.inj H
              go_wp2_with (first | (go_at_call 17; (with_reducible refine (sleuthlaw0_Num.calls t403 t407 _ A16.out).mono ?_); rintro e w' ⟨rfl, ⟨nd, rfl⟩⟩; (try first | exact ⟨rfl, _, World.drewN_drewN _ _ _⟩ | exact ⟨rfl, _, Eq.trans (World.drewN_drewN _ _ _) (congrArg (World.drewN _) (Nat.add_assoc _ _ _))⟩); have hcz20_0 : wc.cell? ⟨gb404, 0, none⟩ = some (.int .i64 t401) := (blk_cell BK404.out 0).trans rfl; have hcz20_1 : wc.cell? ⟨gb404, 1, none⟩ = some (.int .i64 t402) := (blk_cell BK404.out 1).trans rfl; have hfz20_0 := blk_frozen BK404.out 0; have hfz20_1 := blk_frozen BK404.out 1) | (go_at_call 22; (with_reducible refine (sleuthref12_MarksMay.calls kj5 _ _ l0 _ _ l1 t408 _ ?side1 ?side2 ?side3 ?side4 A19.out).mono ?_); (case side1 => repeat (first | exact (Kd.C_below HR0.out (by repeat (first | (with_reducible first | exact HB.out | apply below_alloc | apply pw_below_drewN | apply below_drew1 | refine below_set ?_ GE404.out) | exact HB.out))) | (with_reducible refine Kd.C_alloc ?_ _) | (with_reducible refine Kd.C_drewN ?_ _) | (with_reducible refine Kd.C_drew ?_))); (case side2 => exact HC0.out); (case side3 => repeat (first | exact (Kd.C_below HR1.out (by repeat (first | (with_reducible first | exact HB.out | apply below_alloc | apply pw_below_drewN | apply below_drew1 | refine below_set ?_ GE404.out) | exact HB.out))) | (with_reducible refine Kd.C_alloc ?_ _) | (with_reducible refine Kd.C_drewN ?_ _) | (with_reducible refine Kd.C_drew ?_))); (case side4 => exact HC1.out); rintro e w21 ⟨rfl, hb⟩; have n0_ := Aside0.mk (blk_below (g := gb404) (o := .cells #[.int .i64 t401, .int .i64 t402] 27 (0, 0)) (by (with_reducible repeat (first | refine blk_drewN ?_ _ | refine blk_drew ?_ | refine blk_alloc ?_ _)); exact BK404.out) hb); have n1_ := Aside0.mk (below_step (by repeat (first | (with_reducible first | exact HB.out | apply below_alloc | apply pw_below_drewN | apply below_drew1 | refine below_set ?_ GE404.out) | exact HB.out)) hb); clear BK404; clear HB; have BK404 := n0_; have HB := n1_; clear n0_ n1_; (try clear hb); (try clear hb2); (try clear hk); (try clear hi)))
              repeat (go_quiet (first | (go_at_call 17; (with_reducible refine (sleuthlaw0_Num.calls t403 t407 _ A16.out).mono ?_); rintro e w' ⟨rfl, ⟨nd, rfl⟩⟩; (try first | exact ⟨rfl, _, World.drewN_drewN _ _ _⟩ | exact ⟨rfl, _, Eq.trans (World.drewN_drewN _ _ _) (congrArg (World.drewN _) (Nat.add_assoc _ _ _))⟩); have hcz20_0 : wc.cell? ⟨gb404, 0, none⟩ = some (.int .i64 t401) := (blk_cell BK404.out 0).trans rfl; have hcz20_1 : wc.cell? ⟨gb404, 1, none⟩ = some (.int .i64 t402) := (blk_cell BK404.out 1).trans rfl; have hfz20_0 := blk_frozen BK404.out 0; have hfz20_1 := blk_frozen BK404.out 1) | (go_at_call 22; (with_reducible refine (sleuthref12_MarksMay.calls kj5 _ _ l0 _ _ l1 t408 _ ?side1 ?side2 ?side3 ?side4 A19.out).mono ?_); (case side1 => repeat (first | exact (Kd.C_below HR0.out (by repeat (first | (with_reducible first | exact HB.out | apply below_alloc | apply pw_below_drewN | apply below_drew1 | refine below_set ?_ GE404.out) | exact HB.out))) | (with_reducible refine Kd.C_alloc ?_ _) | (with_reducible refine Kd.C_drewN ?_ _) | (with_reducible refine Kd.C_drew ?_))); (case side2 => exact HC0.out); (case side3 => repeat (first | exact (Kd.C_below HR1.out (by repeat (first | (with_reducible first | exact HB.out | apply below_alloc | apply pw_below_drewN | apply below_drew1 | refine below_set ?_ GE404.out) | exact HB.out))) | (with_reducible refine Kd.C_alloc ?_ _) | (with_reducible refine Kd.C_drewN ?_ _) | (with_reducible refine Kd.C_drew ?_))); (case side4 => exact HC1.out); rintro e w21 ⟨rfl, hb⟩; have n0_ := Aside0.mk (blk_below (g := gb404) (o := .cells #[.int .i64 t401, .int .i64 t402] 27 (0, 0)) (by (with_reducible repeat (first | refine blk_drewN ?_ _ | refine blk_drew ?_ | refine blk_alloc ?_ _)); exact BK404.out) hb); have n1_ := Aside0.mk (below_step (by repeat (first | (with_reducible first | exact HB.out | apply below_alloc | apply pw_below_drewN | apply below_drew1 | refine below_set ?_ GE404.out) | exact HB.out)) hb); clear BK404; clear HB; have BK404 := n0_; have HB := n1_; clear n0_ n1_; (try clear hb); (try clear hb2); (try clear hk); (try clear hi))); try go_wp2_with (first | (go_at_call 17; (with_reducible refine (sleuthlaw0_Num.calls t403 t407 _ A16.out).mono ?_); rintro e w' ⟨rfl, ⟨nd, rfl⟩⟩; (try first | exact ⟨rfl, _, World.drewN_drewN _ _ _⟩ | exact ⟨rfl, _, Eq.trans (World.drewN_drewN _ _ _) (congrArg (World.drewN _) (Nat.add_assoc _ _ _))⟩); have hcz20_0 : wc.cell? ⟨gb404, 0, none⟩ = some (.int .i64 t401) := (blk_cell BK404.out 0).trans rfl; have hcz20_1 : wc.cell? ⟨gb404, 1, none⟩ = some (.int .i64 t402) := (blk_cell BK404.out 1).trans rfl; have hfz20_0 := blk_frozen BK404.out 0; have hfz20_1 := blk_frozen BK404.out 1) | (go_at_call 22; (with_reducible refine (sleuthref12_MarksMay.calls kj5 _ _ l0 _ _ l1 t408 _ ?side1 ?side2 ?side3 ?side4 A19.out).mono ?_); (case side1 => repeat (first | exact (Kd.C_below HR0.out (by repeat (first | (with_reducible first | exact HB.out | apply below_alloc | apply pw_below_drewN | apply below_drew1 | refine below_set ?_ GE404.out) | exact HB.out))) | (with_reducible refine Kd.C_alloc ?_ _) | (with_reducible refine Kd.C_drewN ?_ _) | (with_reducible refine Kd.C_drew ?_))); (case side2 => exact HC0.out); (case side3 => repeat (first | exact (Kd.C_below HR1.out (by repeat (first | (with_reducible first | exact HB.out | apply below_alloc | apply pw_below_drewN | apply below_drew1 | refine below_set ?_ GE404.out) | exact HB.out))) | (with_reducible refine Kd.C_alloc ?_ _) | (with_reducible refine Kd.C_drewN ?_ _) | (with_reducible refine Kd.C_drew ?_))); (case side4 => exact HC1.out); rintro e w21 ⟨rfl, hb⟩; have n0_ := Aside0.mk (blk_below (g := gb404) (o := .cells #[.int .i64 t401, .int .i64 t402] 27 (0, 0)) (by (with_reducible repeat (first | refine blk_drewN ?_ _ | refine blk_drew ?_ | refine blk_alloc ?_ _)); exact BK404.out) hb); have n1_ := Aside0.mk (below_step (by repeat (first | (with_reducible first | exact HB.out | apply below_alloc | apply pw_below_drewN | apply below_drew1 | refine below_set ?_ GE404.out) | exact HB.out)) hb); clear BK404; clear HB; have BK404 := n0_; have HB := n1_; clear n0_ n1_; (try clear hb); (try clear hb2); (try clear hk); (try clear hi))))
              go_ret
              exact ⟨by first | rfl | (simp [errW_none, errW_some] <;> rfl) | (simp [*, errW_none, errW_some] <;> rfl), by repeat (first | (with_reducible first | exact HB.out | apply below_alloc | apply pw_below_drewN | apply below_drew1 | refine below_set ?_ GE404.out) | exact HB.out)⟩
            · rw [if_neg c18] at H
              have c18b0 : (t401 == 0 && (t402 == 0)) = false := by simpa using c18
              (try (have c18b1 : decide (t401 = 0 && (t402 == 0)) = false := by simpa using c18))
              (try (have c18b2 : (t401 == 0 && (t402 == 0)) = false := by simpa using c18))
              (try (have c18b3 : ¬ (t401 = 0 && (t402 == 0)) := by simpa using c18))
              clear c18
              cases H
        · replace c15 := Bool.eq_false_iff.mpr c15
          subst c15
          have H1 : (if t402 < 0 then (sleuthlaw19_HalfAsks.j1 kj5 l0 l1 true t401 t402) else (sleuthlaw19_HalfAsks.j1 kj5 l0 l1 (decide (t402 ≥ (l0.length : Int))) t401 t402)) = some r := by rw [if_neg (show ¬ (false = true) by decide)] at H; exact H
          clear H
          have H := H1
          clear H1
          have HC23 := Aside0.mk H
          clear H
          go_upto_region 6 with (fail)
          repeat (go_quiet (fail); go_upto_region 6 with (fail))
          go_cut [49] (fun v49 wc => ∃ (kq : Nat) (x49_22 : Bool), v49 = .bool x49_22 ∧ Aside0 (sleuthlaw19_HalfAsks.j1 kq l0 l1 x49_22 t401 t402 = some r) ∧ Aside0 (kq ≤ kj5) ∧ Aside0 (wc.heap[gb404]? = some (.cells #[.int .i64 t401, .int .i64 t402] 27 (0, 0))) ∧ Aside0 (Below w.heap.size w wc))
          case first =>
            have H := HC23.out
            clear HC23
            by_cases c24 : t402 < 0
            · rw [if_pos c24] at H
              have c24b0 : decide (t402 < 0) = true := decide_eq_true c24
              clear c24
              (first | rw [c24b0] | (simp only [i64_w, i32_w]; rw [c24b0]) | skip)
              have H' := Aside0.mk H
              clear H
              have hcz25_0 : wc.cell? ⟨gb404, 0, none⟩ = some (.int .i64 t401) := (blk_cell BK404.out 0).trans rfl
              have hcz25_1 : wc.cell? ⟨gb404, 1, none⟩ = some (.int .i64 t402) := (blk_cell BK404.out 1).trans rfl
              have hfz25_0 := blk_frozen BK404.out 0
              have hfz25_1 := blk_frozen BK404.out 1
              go_wp2
              repeat (go_quiet (fail); try go_wp2)
              go_meet
              case rel => exact ⟨_, (true), (by first | rfl | (simp; done) | (simp [*]; done)), H', ⟨by have := HJ5.out; first | omega | exact Nat.le_refl _⟩, ⟨by (with_reducible repeat (first | refine blk_drewN ?_ _ | refine blk_drew ?_ | refine blk_alloc ?_ _)); exact BK404.out⟩, ⟨by repeat (first | (with_reducible first | exact HB.out | apply below_alloc | apply pw_below_drewN | apply below_drew1 | refine below_set ?_ GE404.out) | exact HB.out)⟩⟩
            · rw [if_neg c24] at H
              have c24b0 : decide (t402 < 0) = false := decide_eq_false c24
              clear c24
              (first | rw [c24b0] | (simp only [i64_w, i32_w]; rw [c24b0]) | skip)
              have H' := Aside0.mk H
              clear H
              have hcz26_0 : wc.cell? ⟨gb404, 0, none⟩ = some (.int .i64 t401) := (blk_cell BK404.out 0).trans rfl
              have hcz26_1 : wc.cell? ⟨gb404, 1, none⟩ = some (.int .i64 t402) := (blk_cell BK404.out 1).trans rfl
              have hfz26_0 := blk_frozen BK404.out 0
              have hfz26_1 := blk_frozen BK404.out 1
              go_wp2
              repeat (go_quiet (fail); try go_wp2)
              go_meet
              case rel => exact ⟨_, (decide (t402 ≥ (l0.length : Int))), (by first | rfl | (simp; done) | (simp [*]; done)), H', ⟨by have := HJ5.out; first | omega | exact Nat.le_refl _⟩, ⟨by (with_reducible repeat (first | refine blk_drewN ?_ _ | refine blk_drew ?_ | refine blk_alloc ?_ _)); exact BK404.out⟩, ⟨by repeat (first | (with_reducible first | exact HB.out | apply below_alloc | apply pw_below_drewN | apply below_drew1 | refine below_set ?_ GE404.out) | exact HB.out)⟩⟩
          case rest =>
            clear HC23
            try clear c1
            try clear c2
            try clear p2
            try clear c4
            try clear c9
            try clear c12
            try clear c12b0
            try clear c12b1
            try clear c15
            try clear c17
            try clear c17b0
            try clear c17b1
            try clear c18
            try clear c18b0
            try clear c18b1
            try clear c18b2
            try clear c24
            try clear c24b0
            try clear hcz10_0
            try clear hcz10_1
            try clear hcz20_0
            try clear hcz20_1
            try clear hcz22_0
            try clear hcz22_1
            try clear hcz25_0
            try clear hcz25_1
            try clear hcz26_0
            try clear hcz26_1
            try clear hfz10_0
            try clear hfz10_1
            try clear hfz20_0
            try clear hfz20_1
            try clear hfz22_0
            try clear hfz22_1
            try clear hfz25_0
            try clear hfz25_1
            try clear hfz26_0
            try clear hfz26_1
            try clear p2
            obtain ⟨kq, x49_22, rfl, HA, HJ22, BK404, HB⟩ := hcut
            cases kq with
            | zero => exact absurd HA.out (by simp [sleuthlaw19_HalfAsks.j1])
            | succ kj22 =>
              have H := HA.out
              clear HA
              simp only [sleuthlaw19_HalfAsks.j1] at H
              by_cases c27 : x49_22 = true
              · subst c27
                have H1 : (none) = some r := by rw [if_pos rfl] at H; exact H
                clear H
                have H := H1
                clear H1
                cases H
              · replace c27 := Bool.eq_false_iff.mpr c27
                subst c27
                have H1 : (if t401 = 2 then (if 0 < (l1.length : Int) then (if (rd l1 0) = 1 then (some (t402 == 0)) else (none)) else (none)) else (if t401 = 3 then (some (t402 == 0)) else (if t401 = 1 then (sleuthlaw19_HalfAsks.l0 kj22 l0 l1 0 t401 t402) else (if 0 ≤ t402 then (if t402 < (l1.length : Int) then (if (rd l1 t402) = 0 then (if t402 < (l0.length : Int) then (sleuthlaw19_HalfAsks.l1 kj22 l0 l1 ((rd_T41 l0 t402).f1) t401 t402) else (none)) else (none)) else (none)) else (none))))) = some r := by rw [if_neg (show ¬ (false = true) by decide)] at H; exact H
                clear H
                have H := H1
                clear H1
                by_cases c28 : t401 = 2
                · rw [if_pos c28] at H
                  have c28b0 : (t401 == 2) = true := beq_iff_eq.mpr c28
                  have c28b1 : (t401 != 2) = false := bne_eq_false_iff_eq.mpr c28
                  clear c28
                  by_cases c29 : 0 < (l1.length : Int)
                  · rw [if_pos c29] at H
                    have c29b0 : decide (0 < (l1.length : Int)) = true := decide_eq_true c29
                    have c29b1 : decide (0 < l1.length) = true := decide_eq_true (by omega)
                    clear c29
                    by_cases c30 : (rd l1 0) = 1
                    · rw [if_pos c30] at H
                      have c30b0 : ((rd l1 0) == 1) = true := beq_iff_eq.mpr c30
                      have c30b1 : ((rd l1 0) != 1) = false := bne_eq_false_iff_eq.mpr c30
                      clear c30
                      obtain rfl := Option.some.inj H
                      have hcz31_0 : wc.cell? ⟨gb404, 0, none⟩ = some (.int .i64 t401) := (blk_cell BK404.out 0).trans rfl
                      have hcz31_1 : wc.cell? ⟨gb404, 1, none⟩ = some (.int .i64 t402) := (blk_cell BK404.out 1).trans rfl
                      have hfz31_0 := blk_frozen BK404.out 0
                      have hfz31_1 := blk_frozen BK404.out 1
                      have p409 : 0 ≤ (0 : Int) := (by omega)
                      have q409 : 0 < (l1.length : Int) := of_decide_eq_true hA_
                      obtain ⟨ad409, e409, hx409_0⟩ := Kd.at_int HR1.out 0 p409 q409
                      cases e409
                      have qi409 : (0 < l1.length) = True := eq_true (by omega)
                      (try rw [show ((0 : Int)).toNat = 0 from rfl] at hx409_0)
                      (try rw [Addr.add_zero'] at hx409_0)
                      replace hx409_0 := (HB.out.cell (World.block_lt_of_cell? w _ hx409_0)).trans hx409_0
                      replace p409 := eq_true p409
                      replace q409 := eq_true q409
                      go_wp2
                      repeat (go_quiet (fail); try go_wp2)
                      go_ret
                      exact ⟨by first | rfl | (simp [errW_none, errW_some] <;> rfl) | (simp [*, errW_none, errW_some] <;> rfl), by repeat (first | (with_reducible first | exact HB.out | apply below_alloc | apply pw_below_drewN | apply below_drew1 | refine below_set ?_ GE404.out) | exact HB.out)⟩
                    · rw [if_neg c30] at H
                      have c30b0 : ((rd l1 0) == 1) = false := beq_eq_false_iff_ne.mpr c30
                      have c30b1 : ((rd l1 0) != 1) = true := bne_iff_ne.mpr c30
                      cases H
                  · rw [if_neg c29] at H
                    exact absurd H (by simp)
                · rw [if_neg c28] at H
                  have c28b0 : (t401 == 2) = false := beq_eq_false_iff_ne.mpr c28
                  have c28b1 : (t401 != 2) = true := bne_iff_ne.mpr c28
                  by_cases c33 : t401 = 3
                  · rw [if_pos c33] at H
                    have c33b0 : (t401 == 3) = true := beq_iff_eq.mpr c33
                    have c33b1 : (t401 != 3) = false := bne_eq_false_iff_eq.mpr c33
                    clear c33
                    obtain rfl := Option.some.inj H
                    have hcz34_0 : wc.cell? ⟨gb404, 0, none⟩ = some (.int .i64 t401) := (blk_cell BK404.out 0).trans rfl
                    have hcz34_1 : wc.cell? ⟨gb404, 1, none⟩ = some (.int .i64 t402) := (blk_cell BK404.out 1).trans rfl
                    have hfz34_0 := blk_frozen BK404.out 0
                    have hfz34_1 := blk_frozen BK404.out 1
                    go_wp2
                    repeat (go_quiet (fail); try go_wp2)
                    go_ret
                    exact ⟨by first | rfl | (simp [errW_none, errW_some] <;> rfl) | (simp [*, errW_none, errW_some] <;> rfl), by repeat (first | (with_reducible first | exact HB.out | apply below_alloc | apply pw_below_drewN | apply below_drew1 | refine below_set ?_ GE404.out) | exact HB.out)⟩
                  · rw [if_neg c33] at H
                    have c33b0 : (t401 == 3) = false := beq_eq_false_iff_ne.mpr c33
                    have c33b1 : (t401 != 3) = true := bne_iff_ne.mpr c33
                    by_cases c35 : t401 = 1
                    · rw [if_pos c35] at H
                      have c35b0 : (t401 == 1) = true := beq_iff_eq.mpr c35
                      have c35b1 : (t401 != 1) = false := bne_eq_false_iff_eq.mpr c35
                      clear c35
                      have H' := Aside0.mk H
                      clear H
                      have hcz36_0 : wc.cell? ⟨gb404, 0, none⟩ = some (.int .i64 t401) := (blk_cell BK404.out 0).trans rfl
                      have hcz36_1 : wc.cell? ⟨gb404, 1, none⟩ = some (.int .i64 t402) := (blk_cell BK404.out 1).trans rfl
                      have hfz36_0 := blk_frozen BK404.out 0
                      have hfz36_1 := blk_frozen BK404.out 1
                      go_wp2
                      repeat (go_quiet (fail); try go_wp2)
                      go_loopg [7] kj22 (fun kq v7 w' => ∃ (x7_3 : Int), v7 = .int .i64 x7_3 ∧ Aside0 (sleuthlaw19_HalfAsks.l0 kq l0 l1 x7_3 t401 t402 = some r) ∧ Aside0 (kq ≤ kj22) ∧ Aside0 (w'.heap[gb404]? = some (.cells #[.int .i64 t401, .int .i64 t402] 27 (0, 0))) ∧ Aside0 (Below w.heap.size w w'))
                      case atStart => exact ⟨(0), (by first | rfl | (simp; done) | (simp [*]; done)), H', ⟨Nat.le_refl _⟩, ⟨by (with_reducible repeat (first | refine blk_drewN ?_ _ | refine blk_drew ?_ | refine blk_alloc ?_ _)); exact BK404.out⟩, ⟨by repeat (first | (with_reducible first | exact HB.out | apply below_alloc | apply pw_below_drewN | apply below_drew1 | refine below_set ?_ GE404.out) | exact HB.out)⟩⟩
                      case round =>
                        clear H'
                        try clear c1
                        try clear c2
                        try clear p2
                        try clear c3
                        try clear c4
                        try clear p4
                        try clear q4
                        try clear hx4
                        try clear qi4
                        try clear c9
                        try clear c12
                        try clear c12b0
                        try clear c12b1
                        try clear c15
                        try clear c17
                        try clear c17b0
                        try clear c17b1
                        try clear c18
                        try clear c18b0
                        try clear c18b1
                        try clear c18b2
                        try clear c24
                        try clear c24b0
                        try clear c27
                        try clear c28
                        try clear c28b0
                        try clear c28b1
                        try clear c29
                        try clear c29b0
                        try clear c29b1
                        try clear c30
                        try clear c30b0
                        try clear c30b1
                        try clear c33
                        try clear c33b0
                        try clear c33b1
                        try clear c35
                        try clear c35b0
                        try clear c35b1
                        try clear hcz10_0
                        try clear hcz10_1
                        try clear hcz20_0
                        try clear hcz20_1
                        try clear hcz22_0
                        try clear hcz22_1
                        try clear hcz25_0
                        try clear hcz25_1
                        try clear hcz26_0
                        try clear hcz26_1
                        try clear hcz31_0
                        try clear hcz31_1
                        try clear hcz32_0
                        try clear hcz32_1
                        try clear hcz34_0
                        try clear hcz34_1
                        try clear hcz36_0
                        try clear hcz36_1
                        try clear hfz10_0
                        try clear hfz10_1
                        try clear hfz20_0
                        try clear hfz20_1
                        try clear hfz22_0
                        try clear hfz22_1
                        try clear hfz25_0
                        try clear hfz25_1
                        try clear hfz26_0
                        try clear hfz26_1
                        try clear hfz31_0
                        try clear hfz31_1
                        try clear hfz32_0
                        try clear hfz32_1
                        try clear hfz34_0
                        try clear hfz34_1
                        try clear hfz36_0
                        try clear hfz36_1
                        try clear hx409_0
                        try clear p2
                        try clear p409
                        try clear q409
                        obtain ⟨x7_3, rfl, HA, HK3, BK404, HB⟩ := hrel
                        cases gk with
                        | zero => exact absurd HA.out (by simp [sleuthlaw19_HalfAsks.l0])
                        | succ k3 =>
                          have H := HA.out
                          clear HA
                          simp only [sleuthlaw19_HalfAsks.l0] at H
                          by_cases c37 : x7_3 < (l0.length : Int)
                          · rw [if_pos c37] at H
                            have c37b0 : decide (x7_3 < (l0.length : Int)) = true := decide_eq_true c37
                            clear c37
                            by_cases c38 : 0 ≤ x7_3
                            · rw [if_pos c38] at H
                              have c38b0 : decide (0 ≤ x7_3) = true := decide_eq_true c38
                              clear c38
                              by_cases c39 : ((rd_T41 l0 x7_3).f1) = t402
                              · rw [if_pos c39] at H
                                have c39b0 : (((rd_T41 l0 x7_3).f1) == t402) = true := beq_iff_eq.mpr c39
                                have c39b1 : (((rd_T41 l0 x7_3).f1) != t402) = false := bne_eq_false_iff_eq.mpr c39
                                clear c39
                                by_cases c40 : x7_3 < (l1.length : Int)
                                · rw [if_pos c40] at H
                                  have c40b0 : decide (x7_3 < (l1.length : Int)) = true := decide_eq_true c40
                                  clear c40
                                  by_cases c41 : (rd l1 x7_3) = 1
                                  · rw [if_pos c41] at H
                                    have c41b0 : ((rd l1 x7_3) == 1) = true := beq_iff_eq.mpr c41
                                    have c41b1 : ((rd l1 x7_3) != 1) = false := bne_eq_false_iff_eq.mpr c41
                                    clear c41
                                    by_cases c42 : x7_3 > t402
                                    · rw [if_pos c42] at H
                                      have c42b0 : decide (t402 < x7_3) = true := decide_eq_true c42
                                      clear c42
                                      by_cases c43 : (rd l1 x7_3) = 2
                                      · rw [if_pos c43] at H
                                        have c43b0 : ((rd l1 x7_3) == 2) = true := beq_iff_eq.mpr c43
                                        have c43b1 : ((rd l1 x7_3) != 2) = false := bne_eq_false_iff_eq.mpr c43
                                        clear c43
                                        cases H
                                      · rw [if_neg c43] at H
                                        have c43b0 : ((rd l1 x7_3) == 2) = false := beq_eq_false_iff_ne.mpr c43
                                        have c43b1 : ((rd l1 x7_3) != 2) = true := bne_iff_ne.mpr c43
                                        have H' := Aside0.mk H
                                        clear H
                                        have p410 : 0 ≤ (x7_3 : Int) := of_decide_eq_true hA_
                                        have q410 : x7_3 < (l0.length : Int) := of_decide_eq_true hA_
                                        obtain ⟨ad410, A410_2, c410_2, e410, hx410_0, hx410_1, hx410_2, hx410_3, hl410_2, hi410_2⟩ := at_T41 HR0.out x7_3 p410 q410
                                        cases e410
                                        replace hx410_0 := (HB.out.cell (World.block_lt_of_cell? w _ hx410_0)).trans hx410_0
                                        replace hx410_1 := (HB.out.cell (World.block_lt_of_cell? w _ hx410_1)).trans hx410_1
                                        replace hx410_2 := (HB.out.cell (World.block_lt_of_cell? w _ hx410_2)).trans hx410_2
                                        replace hx410_3 := (HB.out.cell (World.block_lt_of_cell? w _ hx410_3)).trans hx410_3
                                        have HR410_2 := Aside0.mk hi410_2
                                        have HC410_2 := Aside0.mk hl410_2
                                        clear hi410_2 hl410_2
                                        replace p410 := eq_true p410
                                        replace q410 := eq_true q410
                                        have hcz45_0 : wr.cell? ⟨gb404, 0, none⟩ = some (.int .i64 t401) := (blk_cell BK404.out 0).trans rfl
                                        have hcz45_1 : wr.cell? ⟨gb404, 1, none⟩ = some (.int .i64 t402) := (blk_cell BK404.out 1).trans rfl
                                        have hfz45_0 := blk_frozen BK404.out 0
                                        have hfz45_1 := blk_frozen BK404.out 1
                                        have p411 : 0 ≤ (x7_3 : Int) := of_decide_eq_true hA_
                                        have q411 : x7_3 < (l1.length : Int) := of_decide_eq_true hA_
                                        obtain ⟨ad411, e411, hx411_0⟩ := Kd.at_int HR1.out x7_3 p411 q411
                                        cases e411
                                        replace hx411_0 := (HB.out.cell (World.block_lt_of_cell? w _ hx411_0)).trans hx411_0
                                        replace p411 := eq_true p411
                                        replace q411 := eq_true q411
                                        have p412 : 0 ≤ (x7_3 : Int) := of_decide_eq_true hA_
                                        have q412 : x7_3 < (l1.length : Int) := of_decide_eq_true hA_
                                        obtain ⟨ad412, e412, hx412_0⟩ := Kd.at_int HR1.out x7_3 p412 q412
                                        obtain rfl : ad411 = ad412 := (by injection e412)
                                        replace hx412_0 := (HB.out.cell (World.block_lt_of_cell? w _ hx412_0)).trans hx412_0
                                        replace p412 := eq_true p412
                                        replace q412 := eq_true q412
                                        go_wp2
                                        repeat (go_quiet (fail); try go_wp2)
                                        go_roundg k3
                                        case measure => have := HJ5.out; have := HJ22.out; have := HK3.out; omega
                                        case rel => exact ⟨(wrap64 (x7_3 + 1)), (by first | rfl | (simp; done) | (simp [*]; done)), H', ⟨by have := HJ5.out; have := HJ22.out; have := HK3.out; omega⟩, ⟨by (with_reducible repeat (first | refine blk_drewN ?_ _ | refine blk_drew ?_ | refine blk_alloc ?_ _)); exact BK404.out⟩, ⟨by repeat (first | (with_reducible first | exact HB.out | apply below_alloc | apply pw_below_drewN | apply below_drew1 | refine below_set ?_ GE404.out) | exact HB.out)⟩⟩
                                    · rw [if_neg c42] at H
                                      have c42b0 : decide (t402 < x7_3) = false := decide_eq_false c42
                                      clear c42
                                      have H' := Aside0.mk H
                                      clear H
                                      have p410 : 0 ≤ (x7_3 : Int) := of_decide_eq_true hA_
                                      have q410 : x7_3 < (l0.length : Int) := of_decide_eq_true hA_
                                      obtain ⟨ad410, A410_2, c410_2, e410, hx410_0, hx410_1, hx410_2, hx410_3, hl410_2, hi410_2⟩ := at_T41 HR0.out x7_3 p410 q410
                                      cases e410
                                      replace hx410_0 := (HB.out.cell (World.block_lt_of_cell? w _ hx410_0)).trans hx410_0
                                      replace hx410_1 := (HB.out.cell (World.block_lt_of_cell? w _ hx410_1)).trans hx410_1
                                      replace hx410_2 := (HB.out.cell (World.block_lt_of_cell? w _ hx410_2)).trans hx410_2
                                      replace hx410_3 := (HB.out.cell (World.block_lt_of_cell? w _ hx410_3)).trans hx410_3
                                      have HR410_2 := Aside0.mk hi410_2
                                      have HC410_2 := Aside0.mk hl410_2
                                      clear hi410_2 hl410_2
                                      replace p410 := eq_true p410
                                      replace q410 := eq_true q410
                                      have hcz46_0 : wr.cell? ⟨gb404, 0, none⟩ = some (.int .i64 t401) := (blk_cell BK404.out 0).trans rfl
                                      have hcz46_1 : wr.cell? ⟨gb404, 1, none⟩ = some (.int .i64 t402) := (blk_cell BK404.out 1).trans rfl
                                      have hfz46_0 := blk_frozen BK404.out 0
                                      have hfz46_1 := blk_frozen BK404.out 1
                                      have p411 : 0 ≤ (x7_3 : Int) := of_decide_eq_true hA_
                                      have q411 : x7_3 < (l1.length : Int) := of_decide_eq_true hA_
                                      obtain ⟨ad411, e411, hx411_0⟩ := Kd.at_int HR1.out x7_3 p411 q411
                                      cases e411
                                      replace hx411_0 := (HB.out.cell (World.block_lt_of_cell? w _ hx411_0)).trans hx411_0
                                      replace p411 := eq_true p411
                                      replace q411 := eq_true q411
                                      go_wp2
                                      repeat (go_quiet (fail); try go_wp2)
                                      go_roundg k3
                                      case measure => have := HJ5.out; have := HJ22.out; have := HK3.out; omega
                                      case rel => exact ⟨(wrap64 (x7_3 + 1)), (by first | rfl | (simp; done) | (simp [*]; done)), H', ⟨by have := HJ5.out; have := HJ22.out; have := HK3.out; omega⟩, ⟨by (with_reducible repeat (first | refine blk_drewN ?_ _ | refine blk_drew ?_ | refine blk_alloc ?_ _)); exact BK404.out⟩, ⟨by repeat (first | (with_reducible first | exact HB.out | apply below_alloc | apply pw_below_drewN | apply below_drew1 | refine below_set ?_ GE404.out) | exact HB.out)⟩⟩
                                  · rw [if_neg c41] at H
                                    have c41b0 : ((rd l1 x7_3) == 1) = false := beq_eq_false_iff_ne.mpr c41
                                    have c41b1 : ((rd l1 x7_3) != 1) = true := bne_iff_ne.mpr c41
                                    cases H
                                · rw [if_neg c40] at H
                                  exact absurd H (by simp)
                              · rw [if_neg c39] at H
                                have c39b0 : (((rd_T41 l0 x7_3).f1) == t402) = false := beq_eq_false_iff_ne.mpr c39
                                have c39b1 : (((rd_T41 l0 x7_3).f1) != t402) = true := bne_iff_ne.mpr c39
                                by_cases c48 : x7_3 > t402
                                · rw [if_pos c48] at H
                                  have c48b0 : decide (t402 < x7_3) = true := decide_eq_true c48
                                  clear c48
                                  by_cases c49 : x7_3 < (l1.length : Int)
                                  · rw [if_pos c49] at H
                                    have c49b0 : decide (x7_3 < (l1.length : Int)) = true := decide_eq_true c49
                                    clear c49
                                    by_cases c50 : (rd l1 x7_3) = 2
                                    · rw [if_pos c50] at H
                                      have c50b0 : ((rd l1 x7_3) == 2) = true := beq_iff_eq.mpr c50
                                      have c50b1 : ((rd l1 x7_3) != 2) = false := bne_eq_false_iff_eq.mpr c50
                                      clear c50
                                      cases H
                                    · rw [if_neg c50] at H
                                      have c50b0 : ((rd l1 x7_3) == 2) = false := beq_eq_false_iff_ne.mpr c50
                                      have c50b1 : ((rd l1 x7_3) != 2) = true := bne_iff_ne.mpr c50
                                      have H' := Aside0.mk H
                                      clear H
                                      have p410 : 0 ≤ (x7_3 : Int) := of_decide_eq_true hA_
                                      have q410 : x7_3 < (l0.length : Int) := of_decide_eq_true hA_
                                      obtain ⟨ad410, A410_2, c410_2, e410, hx410_0, hx410_1, hx410_2, hx410_3, hl410_2, hi410_2⟩ := at_T41 HR0.out x7_3 p410 q410
                                      cases e410
                                      replace hx410_0 := (HB.out.cell (World.block_lt_of_cell? w _ hx410_0)).trans hx410_0
                                      replace hx410_1 := (HB.out.cell (World.block_lt_of_cell? w _ hx410_1)).trans hx410_1
                                      replace hx410_2 := (HB.out.cell (World.block_lt_of_cell? w _ hx410_2)).trans hx410_2
                                      replace hx410_3 := (HB.out.cell (World.block_lt_of_cell? w _ hx410_3)).trans hx410_3
                                      have HR410_2 := Aside0.mk hi410_2
                                      have HC410_2 := Aside0.mk hl410_2
                                      clear hi410_2 hl410_2
                                      replace p410 := eq_true p410
                                      replace q410 := eq_true q410
                                      have hcz52_0 : wr.cell? ⟨gb404, 0, none⟩ = some (.int .i64 t401) := (blk_cell BK404.out 0).trans rfl
                                      have hcz52_1 : wr.cell? ⟨gb404, 1, none⟩ = some (.int .i64 t402) := (blk_cell BK404.out 1).trans rfl
                                      have hfz52_0 := blk_frozen BK404.out 0
                                      have hfz52_1 := blk_frozen BK404.out 1
                                      have p413 : 0 ≤ (x7_3 : Int) := of_decide_eq_true hA_
                                      have q413 : x7_3 < (l1.length : Int) := of_decide_eq_true hA_
                                      obtain ⟨ad413, e413, hx413_0⟩ := Kd.at_int HR1.out x7_3 p413 q413
                                      cases e413
                                      replace hx413_0 := (HB.out.cell (World.block_lt_of_cell? w _ hx413_0)).trans hx413_0
                                      replace p413 := eq_true p413
                                      replace q413 := eq_true q413
                                      go_wp2
                                      repeat (go_quiet (fail); try go_wp2)
                                      go_roundg k3
                                      case measure => have := HJ5.out; have := HJ22.out; have := HK3.out; omega
                                      case rel => exact ⟨(wrap64 (x7_3 + 1)), (by first | rfl | (simp; done) | (simp [*]; done)), H', ⟨by have := HJ5.out; have := HJ22.out; have := HK3.out; omega⟩, ⟨by (with_reducible repeat (first | refine blk_drewN ?_ _ | refine blk_drew ?_ | refine blk_alloc ?_ _)); exact BK404.out⟩, ⟨by repeat (first | (with_reducible first | exact HB.out | apply below_alloc | apply pw_below_drewN | apply below_drew1 | refine below_set ?_ GE404.out) | exact HB.out)⟩⟩
                                  · rw [if_neg c49] at H
                                    exact absurd H (by simp)
                                · rw [if_neg c48] at H
                                  have c48b0 : decide (t402 < x7_3) = false := decide_eq_false c48
                                  clear c48
                                  have H' := Aside0.mk H
                                  clear H
                                  have p410 : 0 ≤ (x7_3 : Int) := of_decide_eq_true hA_
                                  have q410 : x7_3 < (l0.length : Int) := of_decide_eq_true hA_
                                  obtain ⟨ad410, A410_2, c410_2, e410, hx410_0, hx410_1, hx410_2, hx410_3, hl410_2, hi410_2⟩ := at_T41 HR0.out x7_3 p410 q410
                                  cases e410
                                  replace hx410_0 := (HB.out.cell (World.block_lt_of_cell? w _ hx410_0)).trans hx410_0
                                  replace hx410_1 := (HB.out.cell (World.block_lt_of_cell? w _ hx410_1)).trans hx410_1
                                  replace hx410_2 := (HB.out.cell (World.block_lt_of_cell? w _ hx410_2)).trans hx410_2
                                  replace hx410_3 := (HB.out.cell (World.block_lt_of_cell? w _ hx410_3)).trans hx410_3
                                  have HR410_2 := Aside0.mk hi410_2
                                  have HC410_2 := Aside0.mk hl410_2
                                  clear hi410_2 hl410_2
                                  replace p410 := eq_true p410
                                  replace q410 := eq_true q410
                                  have hcz53_0 : wr.cell? ⟨gb404, 0, none⟩ = some (.int .i64 t401) := (blk_cell BK404.out 0).trans rfl
                                  have hcz53_1 : wr.cell? ⟨gb404, 1, none⟩ = some (.int .i64 t402) := (blk_cell BK404.out 1).trans rfl
                                  have hfz53_0 := blk_frozen BK404.out 0
                                  have hfz53_1 := blk_frozen BK404.out 1
                                  go_wp2
                                  repeat (go_quiet (fail); try go_wp2)
                                  go_roundg k3
                                  case measure => have := HJ5.out; have := HJ22.out; have := HK3.out; omega
                                  case rel => exact ⟨(wrap64 (x7_3 + 1)), (by first | rfl | (simp; done) | (simp [*]; done)), H', ⟨by have := HJ5.out; have := HJ22.out; have := HK3.out; omega⟩, ⟨by (with_reducible repeat (first | refine blk_drewN ?_ _ | refine blk_drew ?_ | refine blk_alloc ?_ _)); exact BK404.out⟩, ⟨by repeat (first | (with_reducible first | exact HB.out | apply below_alloc | apply pw_below_drewN | apply below_drew1 | refine below_set ?_ GE404.out) | exact HB.out)⟩⟩
                            · rw [if_neg c38] at H
                              exact absurd H (by simp)
                          · rw [if_neg c37] at H
                            have c37b0 : decide (x7_3 < (l0.length : Int)) = false := decide_eq_false c37
                            clear c37
                            by_cases c54 : 0 ≤ t402
                            · rw [if_pos c54] at H
                              have c54b0 : decide (0 ≤ t402) = true := decide_eq_true c54
                              clear c54
                              by_cases c55 : t402 < (l1.length : Int)
                              · rw [if_pos c55] at H
                                have c55b0 : decide (t402 < (l1.length : Int)) = true := decide_eq_true c55
                                clear c55
                                obtain rfl := Option.some.inj H
                                have hcz56_0 : wr.cell? ⟨gb404, 0, none⟩ = some (.int .i64 t401) := (blk_cell BK404.out 0).trans rfl
                                have hcz56_1 : wr.cell? ⟨gb404, 1, none⟩ = some (.int .i64 t402) := (blk_cell BK404.out 1).trans rfl
                                have hfz56_0 := blk_frozen BK404.out 0
                                have hfz56_1 := blk_frozen BK404.out 1
                                have p414 : 0 ≤ (t402 : Int) := of_decide_eq_true hA_
                                have q414 : t402 < (l1.length : Int) := of_decide_eq_true hA_
                                obtain ⟨ad414, e414, hx414_0⟩ := Kd.at_int HR1.out t402 p414 q414
                                cases e414
                                replace hx414_0 := (HB.out.cell (World.block_lt_of_cell? w _ hx414_0)).trans hx414_0
                                replace p414 := eq_true p414
                                replace q414 := eq_true q414
                                go_wp2
                                repeat (go_quiet (fail); try go_wp2)
                                go_ret
                                exact ⟨by first | rfl | (simp [errW_none, errW_some] <;> rfl) | (simp [*, errW_none, errW_some] <;> rfl), by repeat (first | (with_reducible first | exact HB.out | apply below_alloc | apply pw_below_drewN | apply below_drew1 | refine below_set ?_ GE404.out) | exact HB.out)⟩
                              · rw [if_neg c55] at H
                                exact absurd H (by simp)
                            · rw [if_neg c54] at H
                              exact absurd H (by simp)
                    · rw [if_neg c35] at H
                      have c35b0 : (t401 == 1) = false := beq_eq_false_iff_ne.mpr c35
                      have c35b1 : (t401 != 1) = true := bne_iff_ne.mpr c35
                      by_cases c57 : 0 ≤ t402
                      · rw [if_pos c57] at H
                        have c57b0 : decide (0 ≤ t402) = true := decide_eq_true c57
                        clear c57
                        by_cases c58 : t402 < (l1.length : Int)
                        · rw [if_pos c58] at H
                          have c58b0 : decide (t402 < (l1.length : Int)) = true := decide_eq_true c58
                          clear c58
                          by_cases c59 : (rd l1 t402) = 0
                          · rw [if_pos c59] at H
                            have c59b0 : ((rd l1 t402) == 0) = true := beq_iff_eq.mpr c59
                            have c59b1 : ((rd l1 t402) != 0) = false := bne_eq_false_iff_eq.mpr c59
                            clear c59
                            by_cases c60 : t402 < (l0.length : Int)
                            · rw [if_pos c60] at H
                              have c60b0 : decide (t402 < (l0.length : Int)) = true := decide_eq_true c60
                              clear c60
                              have H' := Aside0.mk H
                              clear H
                              have hcz61_0 : wc.cell? ⟨gb404, 0, none⟩ = some (.int .i64 t401) := (blk_cell BK404.out 0).trans rfl
                              have hcz61_1 : wc.cell? ⟨gb404, 1, none⟩ = some (.int .i64 t402) := (blk_cell BK404.out 1).trans rfl
                              have hfz61_0 := blk_frozen BK404.out 0
                              have hfz61_1 := blk_frozen BK404.out 1
                              have p415 : 0 ≤ (t402 : Int) := of_decide_eq_true hA_
                              have q415 : t402 < (l1.length : Int) := of_decide_eq_true hA_
                              obtain ⟨ad415, e415, hx415_0⟩ := Kd.at_int HR1.out t402 p415 q415
                              cases e415
                              replace hx415_0 := (HB.out.cell (World.block_lt_of_cell? w _ hx415_0)).trans hx415_0
                              replace p415 := eq_true p415
                              replace q415 := eq_true q415
                              have p416 : 0 ≤ (t402 : Int) := of_decide_eq_true hA_
                              have q416 : t402 < (l0.length : Int) := of_decide_eq_true hA_
                              obtain ⟨ad416, A416_2, c416_2, e416, hx416_0, hx416_1, hx416_2, hx416_3, hl416_2, hi416_2⟩ := at_T41 HR0.out t402 p416 q416
                              cases e416
                              replace hx416_0 := (HB.out.cell (World.block_lt_of_cell? w _ hx416_0)).trans hx416_0
                              replace hx416_1 := (HB.out.cell (World.block_lt_of_cell? w _ hx416_1)).trans hx416_1
                              replace hx416_2 := (HB.out.cell (World.block_lt_of_cell? w _ hx416_2)).trans hx416_2
                              replace hx416_3 := (HB.out.cell (World.block_lt_of_cell? w _ hx416_3)).trans hx416_3
                              have HR416_2 := Aside0.mk hi416_2
                              have HC416_2 := Aside0.mk hl416_2
                              clear hi416_2 hl416_2
                              replace p416 := eq_true p416
                              replace q416 := eq_true q416
                              go_wp2
                              repeat (go_quiet (fail); try go_wp2)
                              go_loopg [8] kj22 (fun kq v8 w' => ∃ (x8_3 : Int), v8 = .int .i64 x8_3 ∧ Aside0 (sleuthlaw19_HalfAsks.l1 kq l0 l1 x8_3 t401 t402 = some r) ∧ Aside0 (kq ≤ kj22) ∧ Aside0 (w'.heap[gb404]? = some (.cells #[.int .i64 t401, .int .i64 t402] 27 (0, 0))) ∧ Aside0 (Below w.heap.size w w'))
                              case atStart => exact ⟨((rd_T41 l0 t402).f1), (by first | rfl | (simp; done) | (simp [*]; done)), H', ⟨Nat.le_refl _⟩, ⟨by (with_reducible repeat (first | refine blk_drewN ?_ _ | refine blk_drew ?_ | refine blk_alloc ?_ _)); exact BK404.out⟩, ⟨by repeat (first | (with_reducible first | exact HB.out | apply below_alloc | apply pw_below_drewN | apply below_drew1 | refine below_set ?_ GE404.out) | exact HB.out)⟩⟩
                              case round =>
                                clear H'
                                try clear c1
                                try clear c2
                                try clear p2
                                try clear c3
                                try clear c4
                                try clear p4
                                try clear q4
                                try clear hx4
                                try clear qi4
                                try clear c5
                                try clear c6
                                try clear p6
                                try clear c9
                                try clear c12
                                try clear c12b0
                                try clear c12b1
                                try clear c15
                                try clear c17
                                try clear c17b0
                                try clear c17b1
                                try clear c18
                                try clear c18b0
                                try clear c18b1
                                try clear c18b2
                                try clear c24
                                try clear c24b0
                                try clear c27
                                try clear c28
                                try clear c28b0
                                try clear c28b1
                                try clear c29
                                try clear c29b0
                                try clear c29b1
                                try clear c30
                                try clear c30b0
                                try clear c30b1
                                try clear c33
                                try clear c33b0
                                try clear c33b1
                                try clear c35
                                try clear c35b0
                                try clear c35b1
                                try clear c37
                                try clear c37b0
                                try clear c38
                                try clear c38b0
                                try clear c39
                                try clear c39b0
                                try clear c39b1
                                try clear c40
                                try clear c40b0
                                try clear p40
                                try clear q40
                                try clear hx40
                                try clear qi40
                                try clear c41
                                try clear c41b0
                                try clear c41b1
                                try clear p41
                                try clear q41
                                try clear hx41
                                try clear c42
                                try clear c42b0
                                try clear c43
                                try clear c43b0
                                try clear c43b1
                                try clear c48
                                try clear c48b0
                                try clear c49
                                try clear c49b0
                                try clear c50
                                try clear c50b0
                                try clear c50b1
                                try clear c54
                                try clear c54b0
                                try clear c55
                                try clear c55b0
                                try clear c57
                                try clear c57b0
                                try clear c58
                                try clear c58b0
                                try clear c59
                                try clear c59b0
                                try clear c59b1
                                try clear c60
                                try clear c60b0
                                try clear hcz10_0
                                try clear hcz10_1
                                try clear hcz20_0
                                try clear hcz20_1
                                try clear hcz22_0
                                try clear hcz22_1
                                try clear hcz25_0
                                try clear hcz25_1
                                try clear hcz26_0
                                try clear hcz26_1
                                try clear hcz31_0
                                try clear hcz31_1
                                try clear hcz32_0
                                try clear hcz32_1
                                try clear hcz34_0
                                try clear hcz34_1
                                try clear hcz36_0
                                try clear hcz36_1
                                try clear hcz44_0
                                try clear hcz44_1
                                try clear hcz45_0
                                try clear hcz45_1
                                try clear hcz46_0
                                try clear hcz46_1
                                try clear hcz47_0
                                try clear hcz47_1
                                try clear hcz51_0
                                try clear hcz51_1
                                try clear hcz52_0
                                try clear hcz52_1
                                try clear hcz53_0
                                try clear hcz53_1
                                try clear hcz56_0
                                try clear hcz56_1
                                try clear hcz61_0
                                try clear hcz61_1
                                try clear hfz10_0
                                try clear hfz10_1
                                try clear hfz20_0
                                try clear hfz20_1
                                try clear hfz22_0
                                try clear hfz22_1
                                try clear hfz25_0
                                try clear hfz25_1
                                try clear hfz26_0
                                try clear hfz26_1
                                try clear hfz31_0
                                try clear hfz31_1
                                try clear hfz32_0
                                try clear hfz32_1
                                try clear hfz34_0
                                try clear hfz34_1
                                try clear hfz36_0
                                try clear hfz36_1
                                try clear hfz44_0
                                try clear hfz44_1
                                try clear hfz45_0
                                try clear hfz45_1
                                try clear hfz46_0
                                try clear hfz46_1
                                try clear hfz47_0
                                try clear hfz47_1
                                try clear hfz51_0
                                try clear hfz51_1
                                try clear hfz52_0
                                try clear hfz52_1
                                try clear hfz53_0
                                try clear hfz53_1
                                try clear hfz56_0
                                try clear hfz56_1
                                try clear hfz61_0
                                try clear hfz61_1
                                try clear hx409_0
                                try clear hx410_0
                                try clear hx410_1
                                try clear hx410_2
                                try clear hx410_3
                                try clear hx411_0
                                try clear hx412_0
                                try clear hx413_0
                                try clear hx414_0
                                try clear hx415_0
                                try clear hx416_0
                                try clear hx416_1
                                try clear hx416_2
                                try clear hx416_3
                                try clear p2
                                try clear p4
                                try clear p409
                                try clear p410
                                try clear p411
                                try clear p412
                                try clear p413
                                try clear p414
                                try clear p415
                                try clear p416
                                try clear q4
                                try clear q409
                                try clear q410
                                try clear q411
                                try clear q412
                                try clear q413
                                try clear q414
                                try clear q415
                                try clear q416
                                obtain ⟨x8_3, rfl, HA, HK3, BK404, HB⟩ := hrel
                                cases gk with
                                | zero => exact absurd HA.out (by simp [sleuthlaw19_HalfAsks.l1])
                                | succ k3 =>
                                  have H := HA.out
                                  clear HA
                                  simp only [sleuthlaw19_HalfAsks.l1] at H
                                  by_cases c62 : x8_3 ≥ 0
                                  · rw [if_pos c62] at H
                                    have c62b0 : decide (0 ≤ x8_3) = true := decide_eq_true c62
                                    clear c62
                                    by_cases c63 : 0 ≤ x8_3
                                    · rw [if_pos c63] at H
                                      have c63b0 : decide (0 ≤ x8_3) = true := decide_eq_true c63
                                      clear c63
                                      by_cases c64 : x8_3 < (l1.length : Int)
                                      · rw [if_pos c64] at H
                                        have c64b0 : decide (x8_3 < (l1.length : Int)) = true := decide_eq_true c64
                                        clear c64
                                        by_cases c65 : (rd l1 x8_3) = 1
                                        · rw [if_pos c65] at H
                                          have c65b0 : ((rd l1 x8_3) == 1) = true := beq_iff_eq.mpr c65
                                          have c65b1 : ((rd l1 x8_3) != 1) = false := bne_eq_false_iff_eq.mpr c65
                                          clear c65
                                          cases H
                                        · rw [if_neg c65] at H
                                          have c65b0 : ((rd l1 x8_3) == 1) = false := beq_eq_false_iff_ne.mpr c65
                                          have c65b1 : ((rd l1 x8_3) != 1) = true := bne_iff_ne.mpr c65
                                          by_cases c66 : (rd l1 x8_3) = 2
                                          · rw [if_pos c66] at H
                                            have c66b0 : ((rd l1 x8_3) == 2) = true := beq_iff_eq.mpr c66
                                            have c66b1 : ((rd l1 x8_3) != 2) = false := bne_eq_false_iff_eq.mpr c66
                                            clear c66
                                            obtain rfl := Option.some.inj H
                                            have p417 : 0 ≤ (x8_3 : Int) := of_decide_eq_true hA_
                                            have q417 : x8_3 < (l1.length : Int) := of_decide_eq_true hA_
                                            obtain ⟨ad417, e417, hx417_0⟩ := Kd.at_int HR1.out x8_3 p417 q417
                                            obtain rfl : ad415 = ad417 := (by injection e417)
                                            replace hx417_0 := (HB.out.cell (World.block_lt_of_cell? w _ hx417_0)).trans hx417_0
                                            replace p417 := eq_true p417
                                            replace q417 := eq_true q417
                                            have p418 : 0 ≤ (x8_3 : Int) := of_decide_eq_true hA_
                                            have q418 : x8_3 < (l1.length : Int) := of_decide_eq_true hA_
                                            obtain ⟨ad418, e418, hx418_0⟩ := Kd.at_int HR1.out x8_3 p418 q418
                                            obtain rfl : ad415 = ad418 := (by injection e418)
                                            replace hx418_0 := (HB.out.cell (World.block_lt_of_cell? w _ hx418_0)).trans hx418_0
                                            replace p418 := eq_true p418
                                            replace q418 := eq_true q418
                                            have hcz67_0 : wr.cell? ⟨gb404, 0, none⟩ = some (.int .i64 t401) := (blk_cell BK404.out 0).trans rfl
                                            have hcz67_1 : wr.cell? ⟨gb404, 1, none⟩ = some (.int .i64 t402) := (blk_cell BK404.out 1).trans rfl
                                            have hfz67_0 := blk_frozen BK404.out 0
                                            have hfz67_1 := blk_frozen BK404.out 1
                                            go_wp2
                                            repeat (go_quiet (fail); try go_wp2)
                                            go_ret
                                            exact ⟨by first | rfl | (simp [errW_none, errW_some] <;> rfl) | (simp [*, errW_none, errW_some] <;> rfl), by repeat (first | (with_reducible first | exact HB.out | apply below_alloc | apply pw_below_drewN | apply below_drew1 | refine below_set ?_ GE404.out) | exact HB.out)⟩
                                          · rw [if_neg c66] at H
                                            have c66b0 : ((rd l1 x8_3) == 2) = false := beq_eq_false_iff_ne.mpr c66
                                            have c66b1 : ((rd l1 x8_3) != 2) = true := bne_iff_ne.mpr c66
                                            by_cases c68 : x8_3 < (l0.length : Int)
                                            · rw [if_pos c68] at H
                                              have c68b0 : decide (x8_3 < (l0.length : Int)) = true := decide_eq_true c68
                                              clear c68
                                              have H' := Aside0.mk H
                                              clear H
                                              have p417 : 0 ≤ (x8_3 : Int) := of_decide_eq_true hA_
                                              have q417 : x8_3 < (l1.length : Int) := of_decide_eq_true hA_
                                              obtain ⟨ad417, e417, hx417_0⟩ := Kd.at_int HR1.out x8_3 p417 q417
                                              obtain rfl : ad415 = ad417 := (by injection e417)
                                              replace hx417_0 := (HB.out.cell (World.block_lt_of_cell? w _ hx417_0)).trans hx417_0
                                              replace p417 := eq_true p417
                                              replace q417 := eq_true q417
                                              have p418 : 0 ≤ (x8_3 : Int) := of_decide_eq_true hA_
                                              have q418 : x8_3 < (l1.length : Int) := of_decide_eq_true hA_
                                              obtain ⟨ad418, e418, hx418_0⟩ := Kd.at_int HR1.out x8_3 p418 q418
                                              obtain rfl : ad415 = ad418 := (by injection e418)
                                              replace hx418_0 := (HB.out.cell (World.block_lt_of_cell? w _ hx418_0)).trans hx418_0
                                              replace p418 := eq_true p418
                                              replace q418 := eq_true q418
                                              have p419 : 0 ≤ (x8_3 : Int) := of_decide_eq_true hA_
                                              have q419 : x8_3 < (l0.length : Int) := of_decide_eq_true hA_
                                              obtain ⟨ad419, A419_2, c419_2, e419, hx419_0, hx419_1, hx419_2, hx419_3, hl419_2, hi419_2⟩ := at_T41 HR0.out x8_3 p419 q419
                                              obtain rfl : ad416 = ad419 := (by injection e419)
                                              replace hx419_0 := (HB.out.cell (World.block_lt_of_cell? w _ hx419_0)).trans hx419_0
                                              replace hx419_1 := (HB.out.cell (World.block_lt_of_cell? w _ hx419_1)).trans hx419_1
                                              replace hx419_2 := (HB.out.cell (World.block_lt_of_cell? w _ hx419_2)).trans hx419_2
                                              replace hx419_3 := (HB.out.cell (World.block_lt_of_cell? w _ hx419_3)).trans hx419_3
                                              have HR419_2 := Aside0.mk hi419_2
                                              have HC419_2 := Aside0.mk hl419_2
                                              clear hi419_2 hl419_2
                                              replace p419 := eq_true p419
                                              replace q419 := eq_true q419
                                              go_wp2
                                              repeat (go_quiet (fail); try go_wp2)
                                              go_roundg k3
                                              case measure => have := HJ5.out; have := HJ22.out; have := HK3.out; omega
                                              case rel => exact ⟨((rd_T41 l0 x8_3).f1), (by first | rfl | (simp; done) | (simp [*]; done)), H', ⟨by have := HJ5.out; have := HJ22.out; have := HK3.out; omega⟩, ⟨by (with_reducible repeat (first | refine blk_drewN ?_ _ | refine blk_drew ?_ | refine blk_alloc ?_ _)); exact BK404.out⟩, ⟨by repeat (first | (with_reducible first | exact HB.out | apply below_alloc | apply pw_below_drewN | apply below_drew1 | refine below_set ?_ GE404.out) | exact HB.out)⟩⟩
                                            · rw [if_neg c68] at H
                                              exact absurd H (by simp)
                                      · rw [if_neg c64] at H
                                        exact absurd H (by simp)
                                    · rw [if_neg c63] at H
                                      exact absurd H (by simp)
                                  · rw [if_neg c62] at H
                                    have c62b0 : decide (0 ≤ x8_3) = false := decide_eq_false c62
                                    clear c62
                                    by_cases c69 : t401 = 0
                                    · rw [if_pos c69] at H
                                      have c69b0 : (t401 == 0) = true := beq_iff_eq.mpr c69
                                      have c69b1 : (t401 != 0) = false := bne_eq_false_iff_eq.mpr c69
                                      clear c69
                                      obtain rfl := Option.some.inj H
                                      have hcz70_0 : wr.cell? ⟨gb404, 0, none⟩ = some (.int .i64 t401) := (blk_cell BK404.out 0).trans rfl
                                      have hcz70_1 : wr.cell? ⟨gb404, 1, none⟩ = some (.int .i64 t402) := (blk_cell BK404.out 1).trans rfl
                                      have hfz70_0 := blk_frozen BK404.out 0
                                      have hfz70_1 := blk_frozen BK404.out 1
                                      go_wp2
                                      repeat (go_quiet (fail); try go_wp2)
                                      go_ret
                                      exact ⟨by first | rfl | (simp [errW_none, errW_some] <;> rfl) | (simp [*, errW_none, errW_some] <;> rfl), by repeat (first | (with_reducible first | exact HB.out | apply below_alloc | apply pw_below_drewN | apply below_drew1 | refine below_set ?_ GE404.out) | exact HB.out)⟩
                                    · rw [if_neg c69] at H
                                      have c69b0 : (t401 == 0) = false := beq_eq_false_iff_ne.mpr c69
                                      have c69b1 : (t401 != 0) = true := bne_iff_ne.mpr c69
                                      cases H
                            · rw [if_neg c60] at H
                              exact absurd H (by simp)
                          · rw [if_neg c59] at H
                            have c59b0 : ((rd l1 t402) == 0) = false := beq_eq_false_iff_ne.mpr c59
                            have c59b1 : ((rd l1 t402) != 0) = true := bne_iff_ne.mpr c59
                            cases H
                        · rw [if_neg c58] at H
                          exact absurd H (by simp)
                      · rw [if_neg c57] at H
                        exact absurd H (by simp)
  · replace c4 := Bool.eq_false_iff.mpr c4
    subst c4
    have H1 : (none) = some r := by rw [if_neg (show ¬ (false = true) by decide)] at H; exact H
    clear H
    have H := H1
    clear H1
    cases H
end Go.Proofs.YtpbobdgenjhjoaaDoor.G
