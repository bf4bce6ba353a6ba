-- Laid by the session's own driver gp.py over the kit's printer. Not trusted: Lean checks it.
import Derived.Test.YtpbobdgenjhjoaaDoorG0
import Derived.Test.YtpbobdgenjhjoaaDoorU9
import Derived.Test.YtpbobdgenjhjoaaDoorU8
namespace Go.Proofs.YtpbobdgenjhjoaaDoor.G
open Go.RowKit Go.Proofs.YtpbobdgenjhjoaaDoorW.PrintWords Go.Proofs.YtpbobdgenjhjoaaDoorW.PrintLast Go.Proofs.YtpbobdgenjhjoaaDoorW.PrintMore
attribute [local go_sem] max2_int min2_int max_two min_two max_three min_three max_four min_four   -- for this text's walks alone
set_option linter.unusedVariables false
set_option linter.unusedSimpArgs false

attribute [local go_sem high] eqA27
/-! ### sleuthlaw18_TopAsks: function 5 -/
mutual
def sleuthlaw18_TopAsks.j0 : Nat → List (S41) → List Int → Int → Bool → Int → Int → Option (Bool)
  | 0, _, _, _, _, _, _ => none
  | k + 1, x0, x1, x6, x24, x397000, x397001 => if x24 = true then ((sleuthlaw0_Num.f x6).bind fun t399 => (if t399 = 0 then (none) else (if (x397000 == 0 && (x397001 == 0)) = true then ((sleuthref12_MarksMay.f k x0 x1).bind fun t400 => (some (!t400))) else (none)))) else (if x397001 < 0 then (sleuthlaw18_TopAsks.j1 k x0 x1 true x397000 x397001) else (sleuthlaw18_TopAsks.j1 k x0 x1 (decide (x397001 ≥ (x0.length : Int))) x397000 x397001))
def sleuthlaw18_TopAsks.j1 : Nat → List (S41) → List Int → Bool → Int → Int → Option (Bool)
  | 0, _, _, _, _, _ => none
  | k + 1, x0, x1, x48, x397000, x397001 => if x48 = true then (none) else (if x397000 = 0 then (if 0 ≤ x397001 then (if x397001 < (x1.length : Int) then (if (rd x1 x397001) = 0 then (if x397001 = 0 then (some true) else (if x397001 < (x0.length : Int) then (if 0 ≤ ((rd_T41 x0 x397001).f1) then (if ((rd_T41 x0 x397001).f1) < (x1.length : Int) then (some ((rd x1 ((rd_T41 x0 x397001).f1)) == 2)) else (none)) else (none)) else (none))) else (none)) else (none)) else (none)) else (if x397000 = 1 then (sleuthlaw18_TopAsks.l0 k x0 x1 0 x397000 x397001) else (if x397000 = 2 then (if 0 < (x1.length : Int) then (if (rd x1 0) = 1 then (some (x397001 == 0)) else (none)) else (none)) else (some (x397000 == 3 && (x397001 == 0))))))
def sleuthlaw18_TopAsks.l0 : Nat → List (S41) → List Int → Int → Int → Int → Option (Bool)
  | 0, _, _, _, _, _ => none
  | k + 1, x0, x1, x7, x397000, x397001 => if x7 < (x0.length : Int) then (if 0 ≤ x7 then (if ((rd_T41 x0 x7).f1) = x397001 then (if x7 < (x1.length : Int) then (if (rd x1 x7) = 1 then (sleuthlaw18_TopAsks.l0 k x0 x1 (wrap64 (x7 + 1)) x397000 x397001) else (none)) else (none)) else (sleuthlaw18_TopAsks.l0 k x0 x1 (wrap64 (x7 + 1)) x397000 x397001)) else (none)) else (if 0 ≤ x397001 then (if x397001 < (x1.length : Int) then (some ((rd x1 x397001) == 2)) else (none)) else (none))
end
def sleuthlaw18_TopAsks.f (k : Nat) (l0 : List (S41)) (l1 : List Int) : Option (Bool) := (sleuthlaw18_awake.f k).bind fun t392 => (if t392 = true then ((top_Next.f k l0 l1).bind fun bt393 => ((sleuthlaw0_Num.f bt393.2.2).bind fun t397 => (if t397 = 0 then ((sleuthref12_MarksMay.f k l0 l1).bind fun t398 => (sleuthlaw18_TopAsks.j0 k l0 l1 bt393.2.2 (!t398) bt393.1 bt393.2.1)) else (sleuthlaw18_TopAsks.j0 k l0 l1 bt393.2.2 true bt393.1 bt393.2.1)))) else (none))
theorem sleuthlaw18_TopAsks.mono_l : ∀ k, (∀ y0 y1 y2 y3 y4 y5, LeO (sleuthlaw18_TopAsks.j0 k y0 y1 y2 y3 y4 y5) (sleuthlaw18_TopAsks.j0 (k + 1) y0 y1 y2 y3 y4 y5)) ∧ (∀ y0 y1 y2 y3 y4, LeO (sleuthlaw18_TopAsks.j1 k y0 y1 y2 y3 y4) (sleuthlaw18_TopAsks.j1 (k + 1) y0 y1 y2 y3 y4)) ∧ (∀ y0 y1 y2 y3 y4, LeO (sleuthlaw18_TopAsks.l0 k y0 y1 y2 y3 y4) (sleuthlaw18_TopAsks.l0 (k + 1) y0 y1 y2 y3 y4))
  | 0 => ⟨fun _ _ _ _ _ _ r h => by simp [sleuthlaw18_TopAsks.j0] at h, fun _ _ _ _ _ r h => by simp [sleuthlaw18_TopAsks.j1] at h, fun _ _ _ _ _ r h => by simp [sleuthlaw18_TopAsks.l0] at h⟩
  | k + 1 => by
    obtain ⟨ih0, ih1, ih2⟩ := sleuthlaw18_TopAsks.mono_l k
    refine ⟨?_, ?_, ?_⟩
    · intro y0 y1 y2 y3 y4 y5
      unfold sleuthlaw18_TopAsks.j0
      repeat' first
      | (with_reducible exact ih0 _ _ _ _ _ _)
      | (with_reducible exact ih1 _ _ _ _ _)
      | (with_reducible exact ih2 _ _ _ _ _)
      | (with_reducible exact sleuthlaw18_awake.mono _)
      | (with_reducible exact sleuthref12_MarksMay.mono _ _ _)
      | (with_reducible exact top_Next.mono _ _ _)
      | (with_reducible exact LeO.refl _)
      | (with_reducible exact LeO.none _)
      | (with_reducible refine LeO.ite ?_ ?_)
      | (with_reducible refine LeO.bind ?_ (fun _ => ?_))
      | exact ih0 _ _ _ _ _ _
      | exact ih1 _ _ _ _ _
      | exact ih2 _ _ _ _ _
      | exact sleuthlaw18_awake.mono _
      | exact sleuthref12_MarksMay.mono _ _ _
      | exact top_Next.mono _ _ _
      | exact LeO.none _
      | refine LeO.ite ?_ ?_
      | refine LeO.bind ?_ (fun _ => ?_)
    · intro y0 y1 y2 y3 y4
      unfold sleuthlaw18_TopAsks.j1
      repeat' first
      | (with_reducible exact ih0 _ _ _ _ _ _)
      | (with_reducible exact ih1 _ _ _ _ _)
      | (with_reducible exact ih2 _ _ _ _ _)
      | (with_reducible exact sleuthlaw18_awake.mono _)
      | (with_reducible exact sleuthref12_MarksMay.mono _ _ _)
      | (with_reducible exact top_Next.mono _ _ _)
      | (with_reducible exact LeO.refl _)
      | (with_reducible exact LeO.none _)
      | (with_reducible refine LeO.ite ?_ ?_)
      | (with_reducible refine LeO.bind ?_ (fun _ => ?_))
      | exact ih0 _ _ _ _ _ _
      | exact ih1 _ _ _ _ _
      | exact ih2 _ _ _ _ _
      | exact sleuthlaw18_awake.mono _
      | exact sleuthref12_MarksMay.mono _ _ _
      | exact top_Next.mono _ _ _
      | exact LeO.none _
      | refine LeO.ite ?_ ?_
      | refine LeO.bind ?_ (fun _ => ?_)
    · intro y0 y1 y2 y3 y4
      unfold sleuthlaw18_TopAsks.l0
      repeat' first
      | (with_reducible exact ih0 _ _ _ _ _ _)
      | (with_reducible exact ih1 _ _ _ _ _)
      | (with_reducible exact ih2 _ _ _ _ _)
      | (with_reducible exact sleuthlaw18_awake.mono _)
      | (with_reducible exact sleuthref12_MarksMay.mono _ _ _)
      | (with_reducible exact top_Next.mono _ _ _)
      | (with_reducible exact LeO.refl _)
      | (with_reducible exact LeO.none _)
      | (with_reducible refine LeO.ite ?_ ?_)
      | (with_reducible refine LeO.bind ?_ (fun _ => ?_))
      | exact ih0 _ _ _ _ _ _
      | exact ih1 _ _ _ _ _
      | exact ih2 _ _ _ _ _
      | exact sleuthlaw18_awake.mono _
      | exact sleuthref12_MarksMay.mono _ _ _
      | exact top_Next.mono _ _ _
      | exact LeO.none _
      | refine LeO.ite ?_ ?_
      | refine LeO.bind ?_ (fun _ => ?_)
theorem sleuthlaw18_TopAsks.mono : ∀ a0 a1 k, LeO (sleuthlaw18_TopAsks.f k a0 a1) (sleuthlaw18_TopAsks.f (k + 1) a0 a1) := by
  intro a0 a1 k
  obtain ⟨ih0, ih1, ih2⟩ := sleuthlaw18_TopAsks.mono_l k
  unfold sleuthlaw18_TopAsks.f
  repeat' first
      | (with_reducible exact ih0 _ _ _ _ _ _)
      | (with_reducible exact ih1 _ _ _ _ _)
      | (with_reducible exact ih2 _ _ _ _ _)
      | (with_reducible exact sleuthlaw18_awake.mono _)
      | (with_reducible exact sleuthref12_MarksMay.mono _ _ _)
      | (with_reducible exact top_Next.mono _ _ _)
      | (with_reducible exact LeO.refl _)
      | (with_reducible exact LeO.none _)
      | (with_reducible refine LeO.ite ?_ ?_)
      | (with_reducible refine LeO.bind ?_ (fun _ => ?_))
      | exact ih0 _ _ _ _ _ _
      | exact ih1 _ _ _ _ _
      | exact ih2 _ _ _ _ _
      | exact sleuthlaw18_awake.mono _
      | exact sleuthref12_MarksMay.mono _ _ _
      | exact top_Next.mono _ _ _
      | exact LeO.none _
      | refine LeO.ite ?_ ?_
      | refine LeO.bind ?_ (fun _ => ?_)
set_option maxHeartbeats 8000000 in
set_option maxRecDepth 100000 in
theorem sleuthlaw18_TopAsks.calls (k : Nat) (A0 : Option Addr) (c0 : Nat) (l0 : List (S41)) (A1 : Option Addr) (c1 : Nat) (l1 : List Int) (r : Bool) (w : World) (hr0 : Kd.C k41 w A0 l0.length l0) (hc0 : l0.length ≤ c0) (hr1 : Kd.C (Kd.int .i64) w A1 l1.length l1) (hc1 : l1.length ≤ c1) (h : sleuthlaw18_TopAsks.f k l0 l1 = some r) (hG : GOK w) :
    Calls Tryd.prog 5 #[.slice A0 l0.length c0, .slice A1 l1.length c1] w fun e w' => e = .returned (.bool r) ∧ Below w.heap.size w w' := by
  have hu27 := Tryd.underlying27
  have HR0 := Aside0.mk hr0
  have HC0 := Aside0.mk hc0
  clear hr0 hc0
  have HR1 := Aside0.mk hr1
  have HC1 := Aside0.mk hc1
  clear hr1 hc1
  have HB := Aside0.mk (Below.refl w.heap.size w)
  have H : ((sleuthlaw18_awake.f k).bind fun t392 => (if t392 = true then ((top_Next.f k l0 l1).bind fun bt393 => ((sleuthlaw0_Num.f bt393.2.2).bind fun t397 => (if t397 = 0 then ((sleuthref12_MarksMay.f k l0 l1).bind fun t398 => (sleuthlaw18_TopAsks.j0 k l0 l1 bt393.2.2 (!t398) bt393.1 bt393.2.1)) else (sleuthlaw18_TopAsks.j0 k l0 l1 bt393.2.2 true bt393.1 bt393.2.1)))) else (none))) = some r := h
  clear h
  replace H := Option.bind_eq_some_iff.mp H
  obtain ⟨t392, A30, H⟩ := H
  replace H : (if t392 = true then ((top_Next.f k l0 l1).bind fun bt393 => ((sleuthlaw0_Num.f bt393.2.2).bind fun t397 => (if t397 = 0 then ((sleuthref12_MarksMay.f k l0 l1).bind fun t398 => (sleuthlaw18_TopAsks.j0 k l0 l1 bt393.2.2 (!t398) bt393.1 bt393.2.1)) else (sleuthlaw18_TopAsks.j0 k l0 l1 bt393.2.2 true bt393.1 bt393.2.1)))) else (none)) = some r := H
  have A3 := Aside0.mk A30
  clear A30
  by_cases c4 : t392 = true
  · subst c4
    have H1 : ((top_Next.f k l0 l1).bind fun bt393 => ((sleuthlaw0_Num.f bt393.2.2).bind fun t397 => (if t397 = 0 then ((sleuthref12_MarksMay.f k l0 l1).bind fun t398 => (sleuthlaw18_TopAsks.j0 k l0 l1 bt393.2.2 (!t398) bt393.1 bt393.2.1)) else (sleuthlaw18_TopAsks.j0 k l0 l1 bt393.2.2 true bt393.1 bt393.2.1)))) = some r := by rw [if_pos rfl] at H; exact H
    clear H
    have H := H1
    clear H1
    replace H := Option.bind_eq_some_iff.mp H
    obtain ⟨⟨t393, t394, t395⟩, A50, H⟩ := H
    replace H : ((sleuthlaw0_Num.f t395).bind fun t397 => (if t397 = 0 then ((sleuthref12_MarksMay.f k l0 l1).bind fun t398 => (sleuthlaw18_TopAsks.j0 k l0 l1 t395 (!t398) t393 t394)) else (sleuthlaw18_TopAsks.j0 k l0 l1 t395 true t393 t394))) = some r := H
    have A5 := Aside0.mk A50
    clear A50
    have HC6 := Aside0.mk H
    clear H
    go_enter Tryd.func5, Tryd.ntmps5
    go_upto_region 4 with (first | (go_at_call 20; (with_reducible refine (sleuthlaw18_awake.calls k  true _ A3.out hG_).mono ?_); rintro e w7 ⟨rfl, hb⟩; have n0_ := Aside0.mk (below_step hB_ hb); clear HB; have HB := n0_; clear n0_; (try clear hb); (try clear hb2); (try clear hk); (try clear hi)) | (go_at_call 15; (with_reducible refine (top_Next.calls k _ _ l0 _ _ l1 t393 t394 t395 _ ?side1 ?side2 ?side3 ?side4 A5.out hG_).mono ?_); (case side1 => repeat (first | exact (Kd.C_below HR0.out HB.out) | (with_reducible refine Kd.C_alloc ?_ _) | (with_reducible refine Kd.C_drewN ?_ _) | (with_reducible refine Kd.C_drew ?_))); (case side2 => exact HC0.out); (case side3 => repeat (first | exact (Kd.C_below HR1.out HB.out) | (with_reducible refine Kd.C_alloc ?_ _) | (with_reducible refine Kd.C_drewN ?_ _) | (with_reducible refine Kd.C_drew ?_))); (case side4 => exact HC1.out); rintro e w8 ⟨rfl, hb⟩; have n0_ := Aside0.mk (below_step hB_ hb); clear HB; have HB := n0_; clear n0_; (try clear hb); (try clear hb2); (try clear hk); (try clear hi)) | ((with_reducible refine gate_dst (N := 5) rfl ?_); (try (refine gate_guard (by rfl) ?_; dsimp only)); refine box_event ?hg (N := 5) ?hd (cs := #[.int .i64 0, .int .i64 0]) (t := 27) ?hr ?_; (case hd => rfl); (case hg => rfl); (case hr => first | (go_simp; done) | (go_simp; rfl)); intro gb396 hg w9 hbox hb; have n0_ := Aside0.mk (below_step hB_ hb); have n1_ := Aside0.mk (hbox); have n2_ := Aside0.mk ((by rw [hg]; exact hS_ : w.heap.size ≤ gb396)); have n3_ := Aside0.mk ((by rw [hg]; exact hS_ : w.heap.size ≤ gb396)); clear HB; have HB := n0_; have BK396 := n1_; have GW396 := n2_; have GE396 := n3_; clear n0_ n1_ n2_ n3_; clear hb hbox hg; have hcz10_0 : w9.cell? ⟨gb396, 0, none⟩ = some (.int .i64 0) := (blk_cell BK396.out 0).trans rfl; have hcz10_1 : w9.cell? ⟨gb396, 1, none⟩ = some (.int .i64 0) := (blk_cell BK396.out 1).trans rfl; have hfz10_0 := blk_frozen BK396.out 0; have hfz10_1 := blk_frozen BK396.out 1))
    repeat (go_quiet (first | (go_at_call 20; (with_reducible refine (sleuthlaw18_awake.calls k  true _ A3.out hG_).mono ?_); rintro e w7 ⟨rfl, hb⟩; have n0_ := Aside0.mk (below_step hB_ hb); clear HB; have HB := n0_; clear n0_; (try clear hb); (try clear hb2); (try clear hk); (try clear hi)) | (go_at_call 15; (with_reducible refine (top_Next.calls k _ _ l0 _ _ l1 t393 t394 t395 _ ?side1 ?side2 ?side3 ?side4 A5.out hG_).mono ?_); (case side1 => repeat (first | exact (Kd.C_below HR0.out HB.out) | (with_reducible refine Kd.C_alloc ?_ _) | (with_reducible refine Kd.C_drewN ?_ _) | (with_reducible refine Kd.C_drew ?_))); (case side2 => exact HC0.out); (case side3 => repeat (first | exact (Kd.C_below HR1.out HB.out) | (with_reducible refine Kd.C_alloc ?_ _) | (with_reducible refine Kd.C_drewN ?_ _) | (with_reducible refine Kd.C_drew ?_))); (case side4 => exact HC1.out); rintro e w8 ⟨rfl, hb⟩; have n0_ := Aside0.mk (below_step hB_ hb); clear HB; have HB := n0_; clear n0_; (try clear hb); (try clear hb2); (try clear hk); (try clear hi)) | ((with_reducible refine gate_dst (N := 5) rfl ?_); (try (refine gate_guard (by rfl) ?_; dsimp only)); refine box_event ?hg (N := 5) ?hd (cs := #[.int .i64 0, .int .i64 0]) (t := 27) ?hr ?_; (case hd => rfl); (case hg => rfl); (case hr => first | (go_simp; done) | (go_simp; rfl)); intro gb396 hg w9 hbox hb; have n0_ := Aside0.mk (below_step hB_ hb); have n1_ := Aside0.mk (hbox); have n2_ := Aside0.mk ((by rw [hg]; exact hS_ : w.heap.size ≤ gb396)); have n3_ := Aside0.mk ((by rw [hg]; exact hS_ : w.heap.size ≤ gb396)); clear HB; have HB := n0_; have BK396 := n1_; have GW396 := n2_; have GE396 := n3_; clear n0_ n1_ n2_ n3_; clear hb hbox hg; have hcz10_0 : w9.cell? ⟨gb396, 0, none⟩ = some (.int .i64 0) := (blk_cell BK396.out 0).trans rfl; have hcz10_1 : w9.cell? ⟨gb396, 1, none⟩ = some (.int .i64 0) := (blk_cell BK396.out 1).trans rfl; have hfz10_0 := blk_frozen BK396.out 0; have hfz10_1 := blk_frozen BK396.out 1)); go_upto_region 4 with (first | (go_at_call 20; (with_reducible refine (sleuthlaw18_awake.calls k  true _ A3.out hG_).mono ?_); rintro e w7 ⟨rfl, hb⟩; have n0_ := Aside0.mk (below_step hB_ hb); clear HB; have HB := n0_; clear n0_; (try clear hb); (try clear hb2); (try clear hk); (try clear hi)) | (go_at_call 15; (with_reducible refine (top_Next.calls k _ _ l0 _ _ l1 t393 t394 t395 _ ?side1 ?side2 ?side3 ?side4 A5.out hG_).mono ?_); (case side1 => repeat (first | exact (Kd.C_below HR0.out HB.out) | (with_reducible refine Kd.C_alloc ?_ _) | (with_reducible refine Kd.C_drewN ?_ _) | (with_reducible refine Kd.C_drew ?_))); (case side2 => exact HC0.out); (case side3 => repeat (first | exact (Kd.C_below HR1.out HB.out) | (with_reducible refine Kd.C_alloc ?_ _) | (with_reducible refine Kd.C_drewN ?_ _) | (with_reducible refine Kd.C_drew ?_))); (case side4 => exact HC1.out); rintro e w8 ⟨rfl, hb⟩; have n0_ := Aside0.mk (below_step hB_ hb); clear HB; have HB := n0_; clear n0_; (try clear hb); (try clear hb2); (try clear hk); (try clear hi)) | ((with_reducible refine gate_dst (N := 5) rfl ?_); (try (refine gate_guard (by rfl) ?_; dsimp only)); refine box_event ?hg (N := 5) ?hd (cs := #[.int .i64 0, .int .i64 0]) (t := 27) ?hr ?_; (case hd => rfl); (case hg => rfl); (case hr => first | (go_simp; done) | (go_simp; rfl)); intro gb396 hg w9 hbox hb; have n0_ := Aside0.mk (below_step hB_ hb); have n1_ := Aside0.mk (hbox); have n2_ := Aside0.mk ((by rw [hg]; exact hS_ : w.heap.size ≤ gb396)); have n3_ := Aside0.mk ((by rw [hg]; exact hS_ : w.heap.size ≤ gb396)); clear HB; have HB := n0_; have BK396 := n1_; have GW396 := n2_; have GE396 := n3_; clear n0_ n1_ n2_ n3_; clear hb hbox hg; have hcz10_0 : w9.cell? ⟨gb396, 0, none⟩ = some (.int .i64 0) := (blk_cell BK396.out 0).trans rfl; have hcz10_1 : w9.cell? ⟨gb396, 1, none⟩ = some (.int .i64 0) := (blk_cell BK396.out 1).trans rfl; have hfz10_0 := blk_frozen BK396.out 0; have hfz10_1 := blk_frozen BK396.out 1)))
    (try simp only [Act.put, List.setIfInBounds_toArray, List.set_cons_zero, List.set_cons_succ])
    go_cut [24] (fun v24 wc => ∃ (kq : Nat) (x24_5 : Bool), v24 = .bool x24_5 ∧ Aside0 (sleuthlaw18_TopAsks.j0 kq l0 l1 t395 x24_5 t393 t394 = some r) ∧ Aside0 (kq ≤ k) ∧ Aside0 (wc.heap[gb396]? = some (.cells #[.int .i64 t393, .int .i64 t394] 27 (0, 0))) ∧ Aside0 (Below w.heap.size w wc))
    case first =>
      have H := HC6.out
      clear HC6
      replace H := Option.bind_eq_some_iff.mp H
      obtain ⟨t397, A110, H⟩ := H
      replace H : (if t397 = 0 then ((sleuthref12_MarksMay.f k l0 l1).bind fun t398 => (sleuthlaw18_TopAsks.j0 k l0 l1 t395 (!t398) t393 t394)) else (sleuthlaw18_TopAsks.j0 k l0 l1 t395 true t393 t394)) = some r := H
      have A11 := Aside0.mk A110
      clear A110
      by_cases c12 : t397 = 0
      · rw [if_pos c12] at H
        have c12b0 : (t397 == 0) = true := beq_iff_eq.mpr c12
        have c12b1 : (t397 != 0) = false := bne_eq_false_iff_eq.mpr c12
        clear c12
        (first | rw [c12b0] | (simp only [i64_w, i32_w]; rw [c12b0]) | skip)
        replace H := Option.bind_eq_some_iff.mp H
        obtain ⟨t398, A130, H⟩ := H
        replace H : (sleuthlaw18_TopAsks.j0 k l0 l1 t395 (!t398) t393 t394) = some r := H
        have A13 := Aside0.mk A130
        clear A130
        have H' := Aside0.mk H
        clear H
        go_wp2_with (first | (go_at_call 17; (with_reducible refine (sleuthlaw0_Num.calls t395 t397 _ A11.out).mono ?_); rintro e w' ⟨rfl, ⟨nd, rfl⟩⟩; (try first | exact ⟨rfl, _, World.drewN_drewN _ _ _⟩ | exact ⟨rfl, _, Eq.trans (World.drewN_drewN _ _ _) (congrArg (World.drewN _) (Nat.add_assoc _ _ _))⟩)) | (go_at_call 22; (with_reducible refine (sleuthref12_MarksMay.calls k _ _ l0 _ _ l1 t398 _ ?side1 ?side2 ?side3 ?side4 A13.out).mono ?_); (case side1 => exact Kd.C_below HR0.out (by repeat (first | (with_reducible first | exact HB.out | apply below_alloc | apply pw_below_drewN | apply below_drew1 | refine below_set ?_ GE396.out) | exact HB.out))); (case side2 => exact HC0.out); (case side3 => exact Kd.C_below HR1.out (by repeat (first | (with_reducible first | exact HB.out | apply below_alloc | apply pw_below_drewN | apply below_drew1 | refine below_set ?_ GE396.out) | exact HB.out))); (case side4 => exact HC1.out); rintro e w14 ⟨rfl, hb⟩; have n0_ := Aside0.mk (blk_below (g := gb396) (o := .cells #[.int .i64 t393, .int .i64 t394] 27 (0, 0)) (by (with_reducible repeat (first | refine blk_drewN ?_ _ | refine blk_drew ?_ | refine blk_alloc ?_ _)); refine blk_put (cs := #[.int .i64 t393, .int .i64 0]) ?_ 1 _ rfl; (with_reducible repeat (first | refine blk_drewN ?_ _ | refine blk_drew ?_ | refine blk_alloc ?_ _)); refine blk_put (cs := #[.int .i64 0, .int .i64 0]) ?_ 0 _ rfl; (with_reducible repeat (first | refine blk_drewN ?_ _ | refine blk_drew ?_ | refine blk_alloc ?_ _)); exact BK396.out) hb); have n1_ := Aside0.mk (below_step (by repeat (first | (with_reducible first | exact HB.out | apply below_alloc | apply pw_below_drewN | apply below_drew1 | refine below_set ?_ GE396.out) | exact HB.out)) hb); clear BK396; clear HB; have BK396 := n0_; have HB := n1_; clear n0_ n1_; (try clear hb); (try clear hb2); (try clear hk); (try clear hi)))
        repeat (go_quiet (first | (go_at_call 17; (with_reducible refine (sleuthlaw0_Num.calls t395 t397 _ A11.out).mono ?_); rintro e w' ⟨rfl, ⟨nd, rfl⟩⟩; (try first | exact ⟨rfl, _, World.drewN_drewN _ _ _⟩ | exact ⟨rfl, _, Eq.trans (World.drewN_drewN _ _ _) (congrArg (World.drewN _) (Nat.add_assoc _ _ _))⟩)) | (go_at_call 22; (with_reducible refine (sleuthref12_MarksMay.calls k _ _ l0 _ _ l1 t398 _ ?side1 ?side2 ?side3 ?side4 A13.out).mono ?_); (case side1 => exact Kd.C_below HR0.out (by repeat (first | (with_reducible first | exact HB.out | apply below_alloc | apply pw_below_drewN | apply below_drew1 | refine below_set ?_ GE396.out) | exact HB.out))); (case side2 => exact HC0.out); (case side3 => exact Kd.C_below HR1.out (by repeat (first | (with_reducible first | exact HB.out | apply below_alloc | apply pw_below_drewN | apply below_drew1 | refine below_set ?_ GE396.out) | exact HB.out))); (case side4 => exact HC1.out); rintro e w14 ⟨rfl, hb⟩; have n0_ := Aside0.mk (blk_below (g := gb396) (o := .cells #[.int .i64 t393, .int .i64 t394] 27 (0, 0)) (by (with_reducible repeat (first | refine blk_drewN ?_ _ | refine blk_drew ?_ | refine blk_alloc ?_ _)); refine blk_put (cs := #[.int .i64 t393, .int .i64 0]) ?_ 1 _ rfl; (with_reducible repeat (first | refine blk_drewN ?_ _ | refine blk_drew ?_ | refine blk_alloc ?_ _)); refine blk_put (cs := #[.int .i64 0, .int .i64 0]) ?_ 0 _ rfl; (with_reducible repeat (first | refine blk_drewN ?_ _ | refine blk_drew ?_ | refine blk_alloc ?_ _)); exact BK396.out) hb); have n1_ := Aside0.mk (below_step (by repeat (first | (with_reducible first | exact HB.out | apply below_alloc | apply pw_below_drewN | apply below_drew1 | refine below_set ?_ GE396.out) | exact HB.out)) hb); clear BK396; clear HB; have BK396 := n0_; have HB := n1_; clear n0_ n1_; (try clear hb); (try clear hb2); (try clear hk); (try clear hi))); try go_wp2_with (first | (go_at_call 17; (with_reducible refine (sleuthlaw0_Num.calls t395 t397 _ A11.out).mono ?_); rintro e w' ⟨rfl, ⟨nd, rfl⟩⟩; (try first | exact ⟨rfl, _, World.drewN_drewN _ _ _⟩ | exact ⟨rfl, _, Eq.trans (World.drewN_drewN _ _ _) (congrArg (World.drewN _) (Nat.add_assoc _ _ _))⟩)) | (go_at_call 22; (with_reducible refine (sleuthref12_MarksMay.calls k _ _ l0 _ _ l1 t398 _ ?side1 ?side2 ?side3 ?side4 A13.out).mono ?_); (case side1 => exact Kd.C_below HR0.out (by repeat (first | (with_reducible first | exact HB.out | apply below_alloc | apply pw_below_drewN | apply below_drew1 | refine below_set ?_ GE396.out) | exact HB.out))); (case side2 => exact HC0.out); (case side3 => exact Kd.C_below HR1.out (by repeat (first | (with_reducible first | exact HB.out | apply below_alloc | apply pw_below_drewN | apply below_drew1 | refine below_set ?_ GE396.out) | exact HB.out))); (case side4 => exact HC1.out); rintro e w14 ⟨rfl, hb⟩; have n0_ := Aside0.mk (blk_below (g := gb396) (o := .cells #[.int .i64 t393, .int .i64 t394] 27 (0, 0)) (by (with_reducible repeat (first | refine blk_drewN ?_ _ | refine blk_drew ?_ | refine blk_alloc ?_ _)); refine blk_put (cs := #[.int .i64 t393, .int .i64 0]) ?_ 1 _ rfl; (with_reducible repeat (first | refine blk_drewN ?_ _ | refine blk_drew ?_ | refine blk_alloc ?_ _)); refine blk_put (cs := #[.int .i64 0, .int .i64 0]) ?_ 0 _ rfl; (with_reducible repeat (first | refine blk_drewN ?_ _ | refine blk_drew ?_ | refine blk_alloc ?_ _)); exact BK396.out) hb); have n1_ := Aside0.mk (below_step (by repeat (first | (with_reducible first | exact HB.out | apply below_alloc | apply pw_below_drewN | apply below_drew1 | refine below_set ?_ GE396.out) | exact HB.out)) hb); clear BK396; clear HB; have BK396 := n0_; have HB := n1_; clear n0_ n1_; (try clear hb); (try clear hb2); (try clear hk); (try clear hi))))
        go_meet
        case rel => exact ⟨_, (!t398), (by first | rfl | (simp; done) | (simp [*]; done)), H', ⟨by first | omega | exact Nat.le_refl _⟩, ⟨by (with_reducible repeat (first | refine blk_drewN ?_ _ | refine blk_drew ?_ | refine blk_alloc ?_ _)); exact BK396.out⟩, ⟨by repeat (first | (with_reducible first | exact HB.out | apply below_alloc | apply pw_below_drewN | apply below_drew1 | refine below_set ?_ GE396.out) | exact HB.out)⟩⟩
      · rw [if_neg c12] at H
        have c12b0 : (t397 == 0) = false := beq_eq_false_iff_ne.mpr c12
        have c12b1 : (t397 != 0) = true := bne_iff_ne.mpr c12
        (first | rw [c12b0] | (simp only [i64_w, i32_w]; rw [c12b0]) | skip)
        have H' := Aside0.mk H
        clear H
        go_wp2_with (first | (go_at_call 17; (with_reducible refine (sleuthlaw0_Num.calls t395 t397 _ A11.out).mono ?_); rintro e w' ⟨rfl, ⟨nd, rfl⟩⟩; (try first | exact ⟨rfl, _, World.drewN_drewN _ _ _⟩ | exact ⟨rfl, _, Eq.trans (World.drewN_drewN _ _ _) (congrArg (World.drewN _) (Nat.add_assoc _ _ _))⟩)))
        repeat (go_quiet (first | (go_at_call 17; (with_reducible refine (sleuthlaw0_Num.calls t395 t397 _ A11.out).mono ?_); rintro e w' ⟨rfl, ⟨nd, rfl⟩⟩; (try first | exact ⟨rfl, _, World.drewN_drewN _ _ _⟩ | exact ⟨rfl, _, Eq.trans (World.drewN_drewN _ _ _) (congrArg (World.drewN _) (Nat.add_assoc _ _ _))⟩))); try go_wp2_with (first | (go_at_call 17; (with_reducible refine (sleuthlaw0_Num.calls t395 t397 _ A11.out).mono ?_); rintro e w' ⟨rfl, ⟨nd, rfl⟩⟩; (try first | exact ⟨rfl, _, World.drewN_drewN _ _ _⟩ | exact ⟨rfl, _, Eq.trans (World.drewN_drewN _ _ _) (congrArg (World.drewN _) (Nat.add_assoc _ _ _))⟩))))
        go_meet
        case rel => exact ⟨_, (true), (by first | rfl | (simp; done) | (simp [*]; done)), H', ⟨by first | omega | exact Nat.le_refl _⟩, ⟨by (with_reducible repeat (first | refine blk_drewN ?_ _ | refine blk_drew ?_ | refine blk_alloc ?_ _)); refine blk_put (cs := #[.int .i64 t393, .int .i64 0]) ?_ 1 _ rfl; (with_reducible repeat (first | refine blk_drewN ?_ _ | refine blk_drew ?_ | refine blk_alloc ?_ _)); refine blk_put (cs := #[.int .i64 0, .int .i64 0]) ?_ 0 _ rfl; (with_reducible repeat (first | refine blk_drewN ?_ _ | refine blk_drew ?_ | refine blk_alloc ?_ _)); exact BK396.out⟩, ⟨by repeat (first | (with_reducible first | exact HB.out | apply below_alloc | apply pw_below_drewN | apply below_drew1 | refine below_set ?_ GE396.out) | exact HB.out)⟩⟩
    case rest =>
      clear HC6
      try clear c1
      try clear p2
      try clear c4
      try clear c5
      try clear c12
      try clear c12b0
      try clear c12b1
      try clear hcz10_0
      try clear hcz10_1
      try clear hfz10_0
      try clear hfz10_1
      obtain ⟨kq, x24_5, rfl, HA, HJ5, BK396, HB⟩ := hcut
      cases kq with
      | zero => exact absurd HA.out (by simp [sleuthlaw18_TopAsks.j0])
      | succ kj5 =>
        have H := HA.out
        clear HA
        simp only [sleuthlaw18_TopAsks.j0] at H
        by_cases c15 : x24_5 = true
        · subst c15
          have H1 : ((sleuthlaw0_Num.f t395).bind fun t399 => (if t399 = 0 then (none) else (if (t393 == 0 && (t394 == 0)) = true then ((sleuthref12_MarksMay.f kj5 l0 l1).bind fun t400 => (some (!t400))) else (none)))) = some r := by rw [if_pos rfl] at H; exact H
          clear H
          have H := H1
          clear H1
          replace H := Option.bind_eq_some_iff.mp H
          obtain ⟨t399, A160, H⟩ := H
          replace H : (if t399 = 0 then (none) else (if (t393 == 0 && (t394 == 0)) = true then ((sleuthref12_MarksMay.f kj5 l0 l1).bind fun t400 => (some (!t400))) else (none))) = some r := H
          have A16 := Aside0.mk A160
          clear A160
          by_cases c17 : t399 = 0
          · rw [if_pos c17] at H
            have c17b0 : (t399 == 0) = true := beq_iff_eq.mpr c17
            have c17b1 : (t399 != 0) = false := bne_eq_false_iff_eq.mpr c17
            clear c17
            cases H
          · rw [if_neg c17] at H
            have c17b0 : (t399 == 0) = false := beq_eq_false_iff_ne.mpr c17
            have c17b1 : (t399 != 0) = true := bne_iff_ne.mpr c17
            by_cases c18 : (t393 == 0 && (t394 == 0)) = true
            · rw [if_pos c18] at H
              have c18b0 : (t393 == 0 && (t394 == 0)) = true := c18
              (try (have c18b1 : decide (t393 = 0 && (t394 == 0)) = true := by simpa using c18))
              (try (have c18b2 : (t393 == 0 && (t394 == 0)) = true := by simpa using c18))
              clear c18
              replace H := Option.bind_eq_some_iff.mp H
              obtain ⟨t400, A190, H⟩ := H
              replace H : (some (!t400)) = some r := H
              have A19 := Aside0.mk A190
              clear A190
              obtain rfl := Option.some.inj H
              go_wp2_with (first | (go_at_call 17; (with_reducible refine (sleuthlaw0_Num.calls t395 t399 _ A16.out).mono ?_); rintro e w' ⟨rfl, ⟨nd, rfl⟩⟩; (try first | exact ⟨rfl, _, World.drewN_drewN _ _ _⟩ | exact ⟨rfl, _, Eq.trans (World.drewN_drewN _ _ _) (congrArg (World.drewN _) (Nat.add_assoc _ _ _))⟩); have hcz20_0 : wc.cell? ⟨gb396, 0, none⟩ = some (.int .i64 t393) := (blk_cell BK396.out 0).trans rfl; have hcz20_1 : wc.cell? ⟨gb396, 1, none⟩ = some (.int .i64 t394) := (blk_cell BK396.out 1).trans rfl; have hfz20_0 := blk_frozen BK396.out 0; have hfz20_1 := blk_frozen BK396.out 1) | (go_at_call 22; (with_reducible refine (sleuthref12_MarksMay.calls kj5 _ _ l0 _ _ l1 t400 _ ?side1 ?side2 ?side3 ?side4 A19.out).mono ?_); (case side1 => repeat (first | exact (Kd.C_below HR0.out (by repeat (first | (with_reducible first | exact HB.out | apply below_alloc | apply pw_below_drewN | apply below_drew1 | refine below_set ?_ GE396.out) | exact HB.out))) | (with_reducible refine Kd.C_alloc ?_ _) | (with_reducible refine Kd.C_drewN ?_ _) | (with_reducible refine Kd.C_drew ?_))); (case side2 => exact HC0.out); (case side3 => repeat (first | exact (Kd.C_below HR1.out (by repeat (first | (with_reducible first | exact HB.out | apply below_alloc | apply pw_below_drewN | apply below_drew1 | refine below_set ?_ GE396.out) | exact HB.out))) | (with_reducible refine Kd.C_alloc ?_ _) | (with_reducible refine Kd.C_drewN ?_ _) | (with_reducible refine Kd.C_drew ?_))); (case side4 => exact HC1.out); rintro e w21 ⟨rfl, hb⟩; have n0_ := Aside0.mk (blk_below (g := gb396) (o := .cells #[.int .i64 t393, .int .i64 t394] 27 (0, 0)) (by (with_reducible repeat (first | refine blk_drewN ?_ _ | refine blk_drew ?_ | refine blk_alloc ?_ _)); exact BK396.out) hb); have n1_ := Aside0.mk (below_step (by repeat (first | (with_reducible first | exact HB.out | apply below_alloc | apply pw_below_drewN | apply below_drew1 | refine below_set ?_ GE396.out) | exact HB.out)) hb); clear BK396; clear HB; have BK396 := n0_; have HB := n1_; clear n0_ n1_; (try clear hb); (try clear hb2); (try clear hk); (try clear hi)))
              repeat (go_quiet (first | (go_at_call 17; (with_reducible refine (sleuthlaw0_Num.calls t395 t399 _ A16.out).mono ?_); rintro e w' ⟨rfl, ⟨nd, rfl⟩⟩; (try first | exact ⟨rfl, _, World.drewN_drewN _ _ _⟩ | exact ⟨rfl, _, Eq.trans (World.drewN_drewN _ _ _) (congrArg (World.drewN _) (Nat.add_assoc _ _ _))⟩); have hcz20_0 : wc.cell? ⟨gb396, 0, none⟩ = some (.int .i64 t393) := (blk_cell BK396.out 0).trans rfl; have hcz20_1 : wc.cell? ⟨gb396, 1, none⟩ = some (.int .i64 t394) := (blk_cell BK396.out 1).trans rfl; have hfz20_0 := blk_frozen BK396.out 0; have hfz20_1 := blk_frozen BK396.out 1) | (go_at_call 22; (with_reducible refine (sleuthref12_MarksMay.calls kj5 _ _ l0 _ _ l1 t400 _ ?side1 ?side2 ?side3 ?side4 A19.out).mono ?_); (case side1 => repeat (first | exact (Kd.C_below HR0.out (by repeat (first | (with_reducible first | exact HB.out | apply below_alloc | apply pw_below_drewN | apply below_drew1 | refine below_set ?_ GE396.out) | exact HB.out))) | (with_reducible refine Kd.C_alloc ?_ _) | (with_reducible refine Kd.C_drewN ?_ _) | (with_reducible refine Kd.C_drew ?_))); (case side2 => exact HC0.out); (case side3 => repeat (first | exact (Kd.C_below HR1.out (by repeat (first | (with_reducible first | exact HB.out | apply below_alloc | apply pw_below_drewN | apply below_drew1 | refine below_set ?_ GE396.out) | exact HB.out))) | (with_reducible refine Kd.C_alloc ?_ _) | (with_reducible refine Kd.C_drewN ?_ _) | (with_reducible refine Kd.C_drew ?_))); (case side4 => exact HC1.out); rintro e w21 ⟨rfl, hb⟩; have n0_ := Aside0.mk (blk_below (g := gb396) (o := .cells #[.int .i64 t393, .int .i64 t394] 27 (0, 0)) (by (with_reducible repeat (first | refine blk_drewN ?_ _ | refine blk_drew ?_ | refine blk_alloc ?_ _)); exact BK396.out) hb); have n1_ := Aside0.mk (below_step (by repeat (first | (with_reducible first | exact HB.out | apply below_alloc | apply pw_below_drewN | apply below_drew1 | refine below_set ?_ GE396.out) | exact HB.out)) hb); clear BK396; clear HB; have BK396 := n0_; have HB := n1_; clear n0_ n1_; (try clear hb); (try clear hb2); (try clear hk); (try clear hi))); try go_wp2_with (first | (go_at_call 17; (with_reducible refine (sleuthlaw0_Num.calls t395 t399 _ A16.out).mono ?_); rintro e w' ⟨rfl, ⟨nd, rfl⟩⟩; (try first | exact ⟨rfl, _, World.drewN_drewN _ _ _⟩ | exact ⟨rfl, _, Eq.trans (World.drewN_drewN _ _ _) (congrArg (World.drewN _) (Nat.add_assoc _ _ _))⟩); have hcz20_0 : wc.cell? ⟨gb396, 0, none⟩ = some (.int .i64 t393) := (blk_cell BK396.out 0).trans rfl; have hcz20_1 : wc.cell? ⟨gb396, 1, none⟩ = some (.int .i64 t394) := (blk_cell BK396.out 1).trans rfl; have hfz20_0 := blk_frozen BK396.out 0; have hfz20_1 := blk_frozen BK396.out 1) | (go_at_call 22; (with_reducible refine (sleuthref12_MarksMay.calls kj5 _ _ l0 _ _ l1 t400 _ ?side1 ?side2 ?side3 ?side4 A19.out).mono ?_); (case side1 => repeat (first | exact (Kd.C_below HR0.out (by repeat (first | (with_reducible first | exact HB.out | apply below_alloc | apply pw_below_drewN | apply below_drew1 | refine below_set ?_ GE396.out) | exact HB.out))) | (with_reducible refine Kd.C_alloc ?_ _) | (with_reducible refine Kd.C_drewN ?_ _) | (with_reducible refine Kd.C_drew ?_))); (case side2 => exact HC0.out); (case side3 => repeat (first | exact (Kd.C_below HR1.out (by repeat (first | (with_reducible first | exact HB.out | apply below_alloc | apply pw_below_drewN | apply below_drew1 | refine below_set ?_ GE396.out) | exact HB.out))) | (with_reducible refine Kd.C_alloc ?_ _) | (with_reducible refine Kd.C_drewN ?_ _) | (with_reducible refine Kd.C_drew ?_))); (case side4 => exact HC1.out); rintro e w21 ⟨rfl, hb⟩; have n0_ := Aside0.mk (blk_below (g := gb396) (o := .cells #[.int .i64 t393, .int .i64 t394] 27 (0, 0)) (by (with_reducible repeat (first | refine blk_drewN ?_ _ | refine blk_drew ?_ | refine blk_alloc ?_ _)); exact BK396.out) hb); have n1_ := Aside0.mk (below_step (by repeat (first | (with_reducible first | exact HB.out | apply below_alloc | apply pw_below_drewN | apply below_drew1 | refine below_set ?_ GE396.out) | exact HB.out)) hb); clear BK396; clear HB; have BK396 := n0_; have HB := n1_; clear n0_ n1_; (try clear hb); (try clear hb2); (try clear hk); (try clear hi))))
              go_ret
              exact ⟨by first | rfl | (simp [errW_none, errW_some] <;> rfl) | (simp [*, errW_none, errW_some] <;> rfl), by repeat (first | (with_reducible first | exact HB.out | apply below_alloc | apply pw_below_drewN | apply below_drew1 | refine below_set ?_ GE396.out) | exact HB.out)⟩
            · rw [if_neg c18] at H
              have c18b0 : (t393 == 0 && (t394 == 0)) = false := by simpa using c18
              (try (have c18b1 : decide (t393 = 0 && (t394 == 0)) = false := by simpa using c18))
              (try (have c18b2 : (t393 == 0 && (t394 == 0)) = false := by simpa using c18))
              (try (have c18b3 : ¬ (t393 = 0 && (t394 == 0)) := by simpa using c18))
              clear c18
              cases H
        · replace c15 := Bool.eq_false_iff.mpr c15
          subst c15
          have H1 : (if t394 < 0 then (sleuthlaw18_TopAsks.j1 kj5 l0 l1 true t393 t394) else (sleuthlaw18_TopAsks.j1 kj5 l0 l1 (decide (t394 ≥ (l0.length : Int))) t393 t394)) = some r := by rw [if_neg (show ¬ (false = true) by decide)] at H; exact H
          clear H
          have H := H1
          clear H1
          have HC23 := Aside0.mk H
          clear H
          go_upto_region 6 with (fail)
          repeat (go_quiet (fail); go_upto_region 6 with (fail))
          go_cut [48] (fun v48 wc => ∃ (kq : Nat) (x48_22 : Bool), v48 = .bool x48_22 ∧ Aside0 (sleuthlaw18_TopAsks.j1 kq l0 l1 x48_22 t393 t394 = some r) ∧ Aside0 (kq ≤ kj5) ∧ Aside0 (wc.heap[gb396]? = some (.cells #[.int .i64 t393, .int .i64 t394] 27 (0, 0))) ∧ Aside0 (Below w.heap.size w wc))
          case first =>
            have H := HC23.out
            clear HC23
            by_cases c24 : t394 < 0
            · rw [if_pos c24] at H
              have c24b0 : decide (t394 < 0) = true := decide_eq_true c24
              clear c24
              (first | rw [c24b0] | (simp only [i64_w, i32_w]; rw [c24b0]) | skip)
              have H' := Aside0.mk H
              clear H
              have hcz25_0 : wc.cell? ⟨gb396, 0, none⟩ = some (.int .i64 t393) := (blk_cell BK396.out 0).trans rfl
              have hcz25_1 : wc.cell? ⟨gb396, 1, none⟩ = some (.int .i64 t394) := (blk_cell BK396.out 1).trans rfl
              have hfz25_0 := blk_frozen BK396.out 0
              have hfz25_1 := blk_frozen BK396.out 1
              go_wp2
              repeat (go_quiet (fail); try go_wp2)
              go_meet
              case rel => exact ⟨_, (true), (by first | rfl | (simp; done) | (simp [*]; done)), H', ⟨by have := HJ5.out; first | omega | exact Nat.le_refl _⟩, ⟨by (with_reducible repeat (first | refine blk_drewN ?_ _ | refine blk_drew ?_ | refine blk_alloc ?_ _)); exact BK396.out⟩, ⟨by repeat (first | (with_reducible first | exact HB.out | apply below_alloc | apply pw_below_drewN | apply below_drew1 | refine below_set ?_ GE396.out) | exact HB.out)⟩⟩
            · rw [if_neg c24] at H
              have c24b0 : decide (t394 < 0) = false := decide_eq_false c24
              clear c24
              (first | rw [c24b0] | (simp only [i64_w, i32_w]; rw [c24b0]) | skip)
              have H' := Aside0.mk H
              clear H
              have hcz26_0 : wc.cell? ⟨gb396, 0, none⟩ = some (.int .i64 t393) := (blk_cell BK396.out 0).trans rfl
              have hcz26_1 : wc.cell? ⟨gb396, 1, none⟩ = some (.int .i64 t394) := (blk_cell BK396.out 1).trans rfl
              have hfz26_0 := blk_frozen BK396.out 0
              have hfz26_1 := blk_frozen BK396.out 1
              go_wp2
              repeat (go_quiet (fail); try go_wp2)
              go_meet
              case rel => exact ⟨_, (decide (t394 ≥ (l0.length : Int))), (by first | rfl | (simp; done) | (simp [*]; done)), H', ⟨by have := HJ5.out; first | omega | exact Nat.le_refl _⟩, ⟨by (with_reducible repeat (first | refine blk_drewN ?_ _ | refine blk_drew ?_ | refine blk_alloc ?_ _)); exact BK396.out⟩, ⟨by repeat (first | (with_reducible first | exact HB.out | apply below_alloc | apply pw_below_drewN | apply below_drew1 | refine below_set ?_ GE396.out) | exact HB.out)⟩⟩
          case rest =>
            clear HC23
            try clear c1
            try clear c2
            try clear p2
            try clear c4
            try clear c5
            try clear c12
            try clear c12b0
            try clear c12b1
            try clear c15
            try clear c17
            try clear c17b0
            try clear c17b1
            try clear c18
            try clear c18b0
            try clear c18b1
            try clear c18b2
            try clear c24
            try clear c24b0
            try clear hcz10_0
            try clear hcz10_1
            try clear hcz20_0
            try clear hcz20_1
            try clear hcz22_0
            try clear hcz22_1
            try clear hcz25_0
            try clear hcz25_1
            try clear hcz26_0
            try clear hcz26_1
            try clear hfz10_0
            try clear hfz10_1
            try clear hfz20_0
            try clear hfz20_1
            try clear hfz22_0
            try clear hfz22_1
            try clear hfz25_0
            try clear hfz25_1
            try clear hfz26_0
            try clear hfz26_1
            try clear p2
            obtain ⟨kq, x48_22, rfl, HA, HJ22, BK396, HB⟩ := hcut
            cases kq with
            | zero => exact absurd HA.out (by simp [sleuthlaw18_TopAsks.j1])
            | succ kj22 =>
              have H := HA.out
              clear HA
              simp only [sleuthlaw18_TopAsks.j1] at H
              by_cases c27 : x48_22 = true
              · subst c27
                have H1 : (none) = some r := by rw [if_pos rfl] at H; exact H
                clear H
                have H := H1
                clear H1
                cases H
              · replace c27 := Bool.eq_false_iff.mpr c27
                subst c27
                have H1 : (if t393 = 0 then (if 0 ≤ t394 then (if t394 < (l1.length : Int) then (if (rd l1 t394) = 0 then (if t394 = 0 then (some true) else (if t394 < (l0.length : Int) then (if 0 ≤ ((rd_T41 l0 t394).f1) then (if ((rd_T41 l0 t394).f1) < (l1.length : Int) then (some ((rd l1 ((rd_T41 l0 t394).f1)) == 2)) else (none)) else (none)) else (none))) else (none)) else (none)) else (none)) else (if t393 = 1 then (sleuthlaw18_TopAsks.l0 kj22 l0 l1 0 t393 t394) else (if t393 = 2 then (if 0 < (l1.length : Int) then (if (rd l1 0) = 1 then (some (t394 == 0)) else (none)) else (none)) else (some (t393 == 3 && (t394 == 0)))))) = some r := by rw [if_neg (show ¬ (false = true) by decide)] at H; exact H
                clear H
                have H := H1
                clear H1
                by_cases c28 : t393 = 0
                · rw [if_pos c28] at H
                  have c28b0 : (t393 == 0) = true := beq_iff_eq.mpr c28
                  have c28b1 : (t393 != 0) = false := bne_eq_false_iff_eq.mpr c28
                  clear c28
                  by_cases c29 : 0 ≤ t394
                  · rw [if_pos c29] at H
                    have c29b0 : decide (0 ≤ t394) = true := decide_eq_true c29
                    clear c29
                    by_cases c30 : t394 < (l1.length : Int)
                    · rw [if_pos c30] at H
                      have c30b0 : decide (t394 < (l1.length : Int)) = true := decide_eq_true c30
                      clear c30
                      by_cases c31 : (rd l1 t394) = 0
                      · rw [if_pos c31] at H
                        have c31b0 : ((rd l1 t394) == 0) = true := beq_iff_eq.mpr c31
                        have c31b1 : ((rd l1 t394) != 0) = false := bne_eq_false_iff_eq.mpr c31
                        clear c31
                        by_cases c32 : t394 = 0
                        · rw [if_pos c32] at H
                          have c32b0 : (t394 == 0) = true := beq_iff_eq.mpr c32
                          have c32b1 : (t394 != 0) = false := bne_eq_false_iff_eq.mpr c32
                          clear c32
                          obtain rfl := Option.some.inj H
                          have hcz33_0 : wc.cell? ⟨gb396, 0, none⟩ = some (.int .i64 t393) := (blk_cell BK396.out 0).trans rfl
                          have hcz33_1 : wc.cell? ⟨gb396, 1, none⟩ = some (.int .i64 t394) := (blk_cell BK396.out 1).trans rfl
                          have hfz33_0 := blk_frozen BK396.out 0
                          have hfz33_1 := blk_frozen BK396.out 1
                          have p401 : 0 ≤ (t394 : Int) := of_decide_eq_true hA_
                          have q401 : t394 < (l1.length : Int) := of_decide_eq_true hA_
                          obtain ⟨ad401, e401, hx401_0⟩ := Kd.at_int HR1.out t394 p401 q401
                          cases e401
                          replace hx401_0 := (HB.out.cell (World.block_lt_of_cell? w _ hx401_0)).trans hx401_0
                          replace p401 := eq_true p401
                          replace q401 := eq_true q401
                          go_wp2
                          repeat (go_quiet (fail); try go_wp2)
                          go_ret
                          exact ⟨by first | rfl | (simp [errW_none, errW_some] <;> rfl) | (simp [*, errW_none, errW_some] <;> rfl), by repeat (first | (with_reducible first | exact HB.out | apply below_alloc | apply pw_below_drewN | apply below_drew1 | refine below_set ?_ GE396.out) | exact HB.out)⟩
                        · rw [if_neg c32] at H
                          have c32b0 : (t394 == 0) = false := beq_eq_false_iff_ne.mpr c32
                          have c32b1 : (t394 != 0) = true := bne_iff_ne.mpr c32
                          by_cases c34 : t394 < (l0.length : Int)
                          · rw [if_pos c34] at H
                            have c34b0 : decide (t394 < (l0.length : Int)) = true := decide_eq_true c34
                            clear c34
                            by_cases c35 : 0 ≤ ((rd_T41 l0 t394).f1)
                            · rw [if_pos c35] at H
                              have c35b0 : decide (0 ≤ ((rd_T41 l0 t394).f1)) = true := decide_eq_true c35
                              clear c35
                              by_cases c36 : ((rd_T41 l0 t394).f1) < (l1.length : Int)
                              · rw [if_pos c36] at H
                                have c36b0 : decide (((rd_T41 l0 t394).f1) < (l1.length : Int)) = true := decide_eq_true c36
                                clear c36
                                obtain rfl := Option.some.inj H
                                have hcz37_0 : wc.cell? ⟨gb396, 0, none⟩ = some (.int .i64 t393) := (blk_cell BK396.out 0).trans rfl
                                have hcz37_1 : wc.cell? ⟨gb396, 1, none⟩ = some (.int .i64 t394) := (blk_cell BK396.out 1).trans rfl
                                have hfz37_0 := blk_frozen BK396.out 0
                                have hfz37_1 := blk_frozen BK396.out 1
                                have p401 : 0 ≤ (t394 : Int) := of_decide_eq_true hA_
                                have q401 : t394 < (l1.length : Int) := of_decide_eq_true hA_
                                obtain ⟨ad401, e401, hx401_0⟩ := Kd.at_int HR1.out t394 p401 q401
                                cases e401
                                replace hx401_0 := (HB.out.cell (World.block_lt_of_cell? w _ hx401_0)).trans hx401_0
                                replace p401 := eq_true p401
                                replace q401 := eq_true q401
                                have p402 : 0 ≤ (t394 : Int) := of_decide_eq_true hA_
                                have q402 : t394 < (l0.length : Int) := of_decide_eq_true hA_
                                obtain ⟨ad402, A402_2, c402_2, e402, hx402_0, hx402_1, hx402_2, hx402_3, hl402_2, hi402_2⟩ := at_T41 HR0.out t394 p402 q402
                                cases e402
                                replace hx402_0 := (HB.out.cell (World.block_lt_of_cell? w _ hx402_0)).trans hx402_0
                                replace hx402_1 := (HB.out.cell (World.block_lt_of_cell? w _ hx402_1)).trans hx402_1
                                replace hx402_2 := (HB.out.cell (World.block_lt_of_cell? w _ hx402_2)).trans hx402_2
                                replace hx402_3 := (HB.out.cell (World.block_lt_of_cell? w _ hx402_3)).trans hx402_3
                                have HR402_2 := Aside0.mk hi402_2
                                have HC402_2 := Aside0.mk hl402_2
                                clear hi402_2 hl402_2
                                replace p402 := eq_true p402
                                replace q402 := eq_true q402
                                have p403 : 0 ≤ (((rd_T41 l0 t394).f1) : Int) := of_decide_eq_true hA_
                                have q403 : ((rd_T41 l0 t394).f1) < (l1.length : Int) := of_decide_eq_true hA_
                                obtain ⟨ad403, e403, hx403_0⟩ := Kd.at_int HR1.out ((rd_T41 l0 t394).f1) p403 q403
                                obtain rfl : ad401 = ad403 := (by injection e403)
                                replace hx403_0 := (HB.out.cell (World.block_lt_of_cell? w _ hx403_0)).trans hx403_0
                                replace p403 := eq_true p403
                                replace q403 := eq_true q403
                                go_wp2
                                repeat (go_quiet (fail); try go_wp2)
                                go_ret
                                exact ⟨by first | rfl | (simp [errW_none, errW_some] <;> rfl) | (simp [*, errW_none, errW_some] <;> rfl), by repeat (first | (with_reducible first | exact HB.out | apply below_alloc | apply pw_below_drewN | apply below_drew1 | refine below_set ?_ GE396.out) | exact HB.out)⟩
                              · rw [if_neg c36] at H
                                exact absurd H (by simp)
                            · rw [if_neg c35] at H
                              exact absurd H (by simp)
                          · rw [if_neg c34] at H
                            exact absurd H (by simp)
                      · rw [if_neg c31] at H
                        have c31b0 : ((rd l1 t394) == 0) = false := beq_eq_false_iff_ne.mpr c31
                        have c31b1 : ((rd l1 t394) != 0) = true := bne_iff_ne.mpr c31
                        cases H
                    · rw [if_neg c30] at H
                      exact absurd H (by simp)
                  · rw [if_neg c29] at H
                    exact absurd H (by simp)
                · rw [if_neg c28] at H
                  have c28b0 : (t393 == 0) = false := beq_eq_false_iff_ne.mpr c28
                  have c28b1 : (t393 != 0) = true := bne_iff_ne.mpr c28
                  by_cases c39 : t393 = 1
                  · rw [if_pos c39] at H
                    have c39b0 : (t393 == 1) = true := beq_iff_eq.mpr c39
                    have c39b1 : (t393 != 1) = false := bne_eq_false_iff_eq.mpr c39
                    clear c39
                    have H' := Aside0.mk H
                    clear H
                    have hcz40_0 : wc.cell? ⟨gb396, 0, none⟩ = some (.int .i64 t393) := (blk_cell BK396.out 0).trans rfl
                    have hcz40_1 : wc.cell? ⟨gb396, 1, none⟩ = some (.int .i64 t394) := (blk_cell BK396.out 1).trans rfl
                    have hfz40_0 := blk_frozen BK396.out 0
                    have hfz40_1 := blk_frozen BK396.out 1
                    go_wp2
                    repeat (go_quiet (fail); try go_wp2)
                    go_loopg [7] kj22 (fun kq v7 w' => ∃ (x7_3 : Int), v7 = .int .i64 x7_3 ∧ Aside0 (sleuthlaw18_TopAsks.l0 kq l0 l1 x7_3 t393 t394 = some r) ∧ Aside0 (kq ≤ kj22) ∧ Aside0 (w'.heap[gb396]? = some (.cells #[.int .i64 t393, .int .i64 t394] 27 (0, 0))) ∧ Aside0 (Below w.heap.size w w'))
                    case atStart => exact ⟨(0), (by first | rfl | (simp; done) | (simp [*]; done)), H', ⟨Nat.le_refl _⟩, ⟨by (with_reducible repeat (first | refine blk_drewN ?_ _ | refine blk_drew ?_ | refine blk_alloc ?_ _)); exact BK396.out⟩, ⟨by repeat (first | (with_reducible first | exact HB.out | apply below_alloc | apply pw_below_drewN | apply below_drew1 | refine below_set ?_ GE396.out) | exact HB.out)⟩⟩
                    case round =>
                      clear H'
                      try clear c1
                      try clear c2
                      try clear p2
                      try clear c3
                      try clear c4
                      try clear p4
                      try clear q4
                      try clear hx4
                      try clear c5
                      try clear c12
                      try clear c12b0
                      try clear c12b1
                      try clear c15
                      try clear c17
                      try clear c17b0
                      try clear c17b1
                      try clear c18
                      try clear c18b0
                      try clear c18b1
                      try clear c18b2
                      try clear c24
                      try clear c24b0
                      try clear c27
                      try clear c28
                      try clear c28b0
                      try clear c28b1
                      try clear c29
                      try clear c29b0
                      try clear c30
                      try clear c30b0
                      try clear c31
                      try clear c31b0
                      try clear c31b1
                      try clear c32
                      try clear c32b0
                      try clear c32b1
                      try clear c34
                      try clear c34b0
                      try clear c35
                      try clear c35b0
                      try clear c36
                      try clear c36b0
                      try clear c39
                      try clear c39b0
                      try clear c39b1
                      try clear c40
                      try clear p40
                      try clear q40
                      try clear hx40
                      try clear hcz10_0
                      try clear hcz10_1
                      try clear hcz20_0
                      try clear hcz20_1
                      try clear hcz22_0
                      try clear hcz22_1
                      try clear hcz25_0
                      try clear hcz25_1
                      try clear hcz26_0
                      try clear hcz26_1
                      try clear hcz33_0
                      try clear hcz33_1
                      try clear hcz37_0
                      try clear hcz37_1
                      try clear hcz38_0
                      try clear hcz38_1
                      try clear hcz40_0
                      try clear hcz40_1
                      try clear hfz10_0
                      try clear hfz10_1
                      try clear hfz20_0
                      try clear hfz20_1
                      try clear hfz22_0
                      try clear hfz22_1
                      try clear hfz25_0
                      try clear hfz25_1
                      try clear hfz26_0
                      try clear hfz26_1
                      try clear hfz33_0
                      try clear hfz33_1
                      try clear hfz37_0
                      try clear hfz37_1
                      try clear hfz38_0
                      try clear hfz38_1
                      try clear hfz40_0
                      try clear hfz40_1
                      try clear hx401_0
                      try clear hx402_0
                      try clear hx402_1
                      try clear hx402_2
                      try clear hx402_3
                      try clear hx403_0
                      try clear p2
                      try clear p401
                      try clear p402
                      try clear p403
                      try clear q401
                      try clear q402
                      try clear q403
                      obtain ⟨x7_3, rfl, HA, HK3, BK396, HB⟩ := hrel
                      cases gk with
                      | zero => exact absurd HA.out (by simp [sleuthlaw18_TopAsks.l0])
                      | succ k3 =>
                        have H := HA.out
                        clear HA
                        simp only [sleuthlaw18_TopAsks.l0] at H
                        by_cases c41 : x7_3 < (l0.length : Int)
                        · rw [if_pos c41] at H
                          have c41b0 : decide (x7_3 < (l0.length : Int)) = true := decide_eq_true c41
                          clear c41
                          by_cases c42 : 0 ≤ x7_3
                          · rw [if_pos c42] at H
                            have c42b0 : decide (0 ≤ x7_3) = true := decide_eq_true c42
                            clear c42
                            by_cases c43 : ((rd_T41 l0 x7_3).f1) = t394
                            · rw [if_pos c43] at H
                              have c43b0 : (((rd_T41 l0 x7_3).f1) == t394) = true := beq_iff_eq.mpr c43
                              have c43b1 : (((rd_T41 l0 x7_3).f1) != t394) = false := bne_eq_false_iff_eq.mpr c43
                              clear c43
                              by_cases c44 : x7_3 < (l1.length : Int)
                              · rw [if_pos c44] at H
                                have c44b0 : decide (x7_3 < (l1.length : Int)) = true := decide_eq_true c44
                                clear c44
                                by_cases c45 : (rd l1 x7_3) = 1
                                · rw [if_pos c45] at H
                                  have c45b0 : ((rd l1 x7_3) == 1) = true := beq_iff_eq.mpr c45
                                  have c45b1 : ((rd l1 x7_3) != 1) = false := bne_eq_false_iff_eq.mpr c45
                                  clear c45
                                  have H' := Aside0.mk H
                                  clear H
                                  have p404 : 0 ≤ (x7_3 : Int) := of_decide_eq_true hA_
                                  have q404 : x7_3 < (l0.length : Int) := of_decide_eq_true hA_
                                  obtain ⟨ad404, A404_2, c404_2, e404, hx404_0, hx404_1, hx404_2, hx404_3, hl404_2, hi404_2⟩ := at_T41 HR0.out x7_3 p404 q404
                                  cases e404
                                  replace hx404_0 := (HB.out.cell (World.block_lt_of_cell? w _ hx404_0)).trans hx404_0
                                  replace hx404_1 := (HB.out.cell (World.block_lt_of_cell? w _ hx404_1)).trans hx404_1
                                  replace hx404_2 := (HB.out.cell (World.block_lt_of_cell? w _ hx404_2)).trans hx404_2
                                  replace hx404_3 := (HB.out.cell (World.block_lt_of_cell? w _ hx404_3)).trans hx404_3
                                  have HR404_2 := Aside0.mk hi404_2
                                  have HC404_2 := Aside0.mk hl404_2
                                  clear hi404_2 hl404_2
                                  replace p404 := eq_true p404
                                  replace q404 := eq_true q404
                                  have hcz46_0 : wr.cell? ⟨gb396, 0, none⟩ = some (.int .i64 t393) := (blk_cell BK396.out 0).trans rfl
                                  have hcz46_1 : wr.cell? ⟨gb396, 1, none⟩ = some (.int .i64 t394) := (blk_cell BK396.out 1).trans rfl
                                  have hfz46_0 := blk_frozen BK396.out 0
                                  have hfz46_1 := blk_frozen BK396.out 1
                                  have p405 : 0 ≤ (x7_3 : Int) := of_decide_eq_true hA_
                                  have q405 : x7_3 < (l1.length : Int) := of_decide_eq_true hA_
                                  obtain ⟨ad405, e405, hx405_0⟩ := Kd.at_int HR1.out x7_3 p405 q405
                                  cases e405
                                  replace hx405_0 := (HB.out.cell (World.block_lt_of_cell? w _ hx405_0)).trans hx405_0
                                  replace p405 := eq_true p405
                                  replace q405 := eq_true q405
                                  go_wp2
                                  repeat (go_quiet (fail); try go_wp2)
                                  go_roundg k3
                                  case measure => have := HJ5.out; have := HJ22.out; have := HK3.out; omega
                                  case rel => exact ⟨(wrap64 (x7_3 + 1)), (by first | rfl | (simp; done) | (simp [*]; done)), H', ⟨by have := HJ5.out; have := HJ22.out; have := HK3.out; omega⟩, ⟨by (with_reducible repeat (first | refine blk_drewN ?_ _ | refine blk_drew ?_ | refine blk_alloc ?_ _)); exact BK396.out⟩, ⟨by repeat (first | (with_reducible first | exact HB.out | apply below_alloc | apply pw_below_drewN | apply below_drew1 | refine below_set ?_ GE396.out) | exact HB.out)⟩⟩
                                · rw [if_neg c45] at H
                                  have c45b0 : ((rd l1 x7_3) == 1) = false := beq_eq_false_iff_ne.mpr c45
                                  have c45b1 : ((rd l1 x7_3) != 1) = true := bne_iff_ne.mpr c45
                                  cases H
                              · rw [if_neg c44] at H
                                exact absurd H (by simp)
                            · rw [if_neg c43] at H
                              have c43b0 : (((rd_T41 l0 x7_3).f1) == t394) = false := beq_eq_false_iff_ne.mpr c43
                              have c43b1 : (((rd_T41 l0 x7_3).f1) != t394) = true := bne_iff_ne.mpr c43
                              have H' := Aside0.mk H
                              clear H
                              have p404 : 0 ≤ (x7_3 : Int) := of_decide_eq_true hA_
                              have q404 : x7_3 < (l0.length : Int) := of_decide_eq_true hA_
                              obtain ⟨ad404, A404_2, c404_2, e404, hx404_0, hx404_1, hx404_2, hx404_3, hl404_2, hi404_2⟩ := at_T41 HR0.out x7_3 p404 q404
                              cases e404
                              replace hx404_0 := (HB.out.cell (World.block_lt_of_cell? w _ hx404_0)).trans hx404_0
                              replace hx404_1 := (HB.out.cell (World.block_lt_of_cell? w _ hx404_1)).trans hx404_1
                              replace hx404_2 := (HB.out.cell (World.block_lt_of_cell? w _ hx404_2)).trans hx404_2
                              replace hx404_3 := (HB.out.cell (World.block_lt_of_cell? w _ hx404_3)).trans hx404_3
                              have HR404_2 := Aside0.mk hi404_2
                              have HC404_2 := Aside0.mk hl404_2
                              clear hi404_2 hl404_2
                              replace p404 := eq_true p404
                              replace q404 := eq_true q404
                              have hcz48_0 : wr.cell? ⟨gb396, 0, none⟩ = some (.int .i64 t393) := (blk_cell BK396.out 0).trans rfl
                              have hcz48_1 : wr.cell? ⟨gb396, 1, none⟩ = some (.int .i64 t394) := (blk_cell BK396.out 1).trans rfl
                              have hfz48_0 := blk_frozen BK396.out 0
                              have hfz48_1 := blk_frozen BK396.out 1
                              go_wp2
                              repeat (go_quiet (fail); try go_wp2)
                              go_roundg k3
                              case measure => have := HJ5.out; have := HJ22.out; have := HK3.out; omega
                              case rel => exact ⟨(wrap64 (x7_3 + 1)), (by first | rfl | (simp; done) | (simp [*]; done)), H', ⟨by have := HJ5.out; have := HJ22.out; have := HK3.out; omega⟩, ⟨by (with_reducible repeat (first | refine blk_drewN ?_ _ | refine blk_drew ?_ | refine blk_alloc ?_ _)); exact BK396.out⟩, ⟨by repeat (first | (with_reducible first | exact HB.out | apply below_alloc | apply pw_below_drewN | apply below_drew1 | refine below_set ?_ GE396.out) | exact HB.out)⟩⟩
                          · rw [if_neg c42] at H
                            exact absurd H (by simp)
                        · rw [if_neg c41] at H
                          have c41b0 : decide (x7_3 < (l0.length : Int)) = false := decide_eq_false c41
                          clear c41
                          by_cases c49 : 0 ≤ t394
                          · rw [if_pos c49] at H
                            have c49b0 : decide (0 ≤ t394) = true := decide_eq_true c49
                            clear c49
                            by_cases c50 : t394 < (l1.length : Int)
                            · rw [if_pos c50] at H
                              have c50b0 : decide (t394 < (l1.length : Int)) = true := decide_eq_true c50
                              clear c50
                              obtain rfl := Option.some.inj H
                              have hcz51_0 : wr.cell? ⟨gb396, 0, none⟩ = some (.int .i64 t393) := (blk_cell BK396.out 0).trans rfl
                              have hcz51_1 : wr.cell? ⟨gb396, 1, none⟩ = some (.int .i64 t394) := (blk_cell BK396.out 1).trans rfl
                              have hfz51_0 := blk_frozen BK396.out 0
                              have hfz51_1 := blk_frozen BK396.out 1
                              have p406 : 0 ≤ (t394 : Int) := of_decide_eq_true hA_
                              have q406 : t394 < (l1.length : Int) := of_decide_eq_true hA_
                              obtain ⟨ad406, e406, hx406_0⟩ := Kd.at_int HR1.out t394 p406 q406
                              cases e406
                              replace hx406_0 := (HB.out.cell (World.block_lt_of_cell? w _ hx406_0)).trans hx406_0
                              replace p406 := eq_true p406
                              replace q406 := eq_true q406
                              go_wp2
                              repeat (go_quiet (fail); try go_wp2)
                              go_ret
                              exact ⟨by first | rfl | (simp [errW_none, errW_some] <;> rfl) | (simp [*, errW_none, errW_some] <;> rfl), by repeat (first | (with_reducible first | exact HB.out | apply below_alloc | apply pw_below_drewN | apply below_drew1 | refine below_set ?_ GE396.out) | exact HB.out)⟩
                            · rw [if_neg c50] at H
                              exact absurd H (by simp)
                          · rw [if_neg c49] at H
                            exact absurd H (by simp)
                  · rw [if_neg c39] at H
                    have c39b0 : (t393 == 1) = false := beq_eq_false_iff_ne.mpr c39
                    have c39b1 : (t393 != 1) = true := bne_iff_ne.mpr c39
                    by_cases c52 : t393 = 2
                    · rw [if_pos c52] at H
                      have c52b0 : (t393 == 2) = true := beq_iff_eq.mpr c52
                      have c52b1 : (t393 != 2) = false := bne_eq_false_iff_eq.mpr c52
                      clear c52
                      by_cases c53 : 0 < (l1.length : Int)
                      · rw [if_pos c53] at H
                        have c53b0 : decide (0 < (l1.length : Int)) = true := decide_eq_true c53
                        have c53b1 : decide (0 < l1.length) = true := decide_eq_true (by omega)
                        clear c53
                        by_cases c54 : (rd l1 0) = 1
                        · rw [if_pos c54] at H
                          have c54b0 : ((rd l1 0) == 1) = true := beq_iff_eq.mpr c54
                          have c54b1 : ((rd l1 0) != 1) = false := bne_eq_false_iff_eq.mpr c54
                          clear c54
                          obtain rfl := Option.some.inj H
                          have hcz55_0 : wc.cell? ⟨gb396, 0, none⟩ = some (.int .i64 t393) := (blk_cell BK396.out 0).trans rfl
                          have hcz55_1 : wc.cell? ⟨gb396, 1, none⟩ = some (.int .i64 t394) := (blk_cell BK396.out 1).trans rfl
                          have hfz55_0 := blk_frozen BK396.out 0
                          have hfz55_1 := blk_frozen BK396.out 1
                          have p407 : 0 ≤ (0 : Int) := (by omega)
                          have q407 : 0 < (l1.length : Int) := of_decide_eq_true hA_
                          obtain ⟨ad407, e407, hx407_0⟩ := Kd.at_int HR1.out 0 p407 q407
                          cases e407
                          have qi407 : (0 < l1.length) = True := eq_true (by omega)
                          (try rw [show ((0 : Int)).toNat = 0 from rfl] at hx407_0)
                          (try rw [Addr.add_zero'] at hx407_0)
                          replace hx407_0 := (HB.out.cell (World.block_lt_of_cell? w _ hx407_0)).trans hx407_0
                          replace p407 := eq_true p407
                          replace q407 := eq_true q407
                          go_wp2
                          repeat (go_quiet (fail); try go_wp2)
                          go_ret
                          exact ⟨by first | rfl | (simp [errW_none, errW_some] <;> rfl) | (simp [*, errW_none, errW_some] <;> rfl), by repeat (first | (with_reducible first | exact HB.out | apply below_alloc | apply pw_below_drewN | apply below_drew1 | refine below_set ?_ GE396.out) | exact HB.out)⟩
                        · rw [if_neg c54] at H
                          have c54b0 : ((rd l1 0) == 1) = false := beq_eq_false_iff_ne.mpr c54
                          have c54b1 : ((rd l1 0) != 1) = true := bne_iff_ne.mpr c54
                          cases H
                      · rw [if_neg c53] at H
                        exact absurd H (by simp)
                    · rw [if_neg c52] at H
                      have c52b0 : (t393 == 2) = false := beq_eq_false_iff_ne.mpr c52
                      have c52b1 : (t393 != 2) = true := bne_iff_ne.mpr c52
                      obtain rfl := Option.some.inj H
                      have hcz57_0 : wc.cell? ⟨gb396, 0, none⟩ = some (.int .i64 t393) := (blk_cell BK396.out 0).trans rfl
                      have hcz57_1 : wc.cell? ⟨gb396, 1, none⟩ = some (.int .i64 t394) := (blk_cell BK396.out 1).trans rfl
                      have hfz57_0 := blk_frozen BK396.out 0
                      have hfz57_1 := blk_frozen BK396.out 1
                      go_wp2
                      repeat (go_quiet (fail); try go_wp2)
                      go_ret
                      exact ⟨by first | rfl | (simp [errW_none, errW_some] <;> rfl) | (simp [*, errW_none, errW_some] <;> rfl), by repeat (first | (with_reducible first | exact HB.out | apply below_alloc | apply pw_below_drewN | apply below_drew1 | refine below_set ?_ GE396.out) | exact HB.out)⟩
  · replace c4 := Bool.eq_false_iff.mpr c4
    subst c4
    have H1 : (none) = some r := by rw [if_neg (show ¬ (false = true) by decide)] at H; exact H
    clear H
    have H := H1
    clear H1
    cases H
end Go.Proofs.YtpbobdgenjhjoaaDoor.G
