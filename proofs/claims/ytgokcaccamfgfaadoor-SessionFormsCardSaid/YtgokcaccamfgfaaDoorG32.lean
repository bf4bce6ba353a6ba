-- Laid by the session's own driver gp.py over the kit's printer. Not trusted: Lean checks it.
import Derived.Test.YtgokcaccamfgfaaDoorG0
import Derived.Test.YtgokcaccamfgfaaDoorU9
namespace Go.Proofs.YtgokcaccamfgfaaDoor.G
open Go.RowKit Go.Proofs.YtgokcaccamfgfaaDoorW.PrintWords Go.Proofs.YtgokcaccamfgfaaDoorW.PrintLast Go.Proofs.YtgokcaccamfgfaaDoorW.PrintMore
attribute [local go_sem] max2_int min2_int max_two min_two max_three min_three max_four min_four   -- for this text's walks alone
set_option linter.unusedVariables false
set_option linter.unusedSimpArgs false

/-! ### sleuthref1_term: function 73 and its fellows -/
mutual
def sleuthref1_parts.l0 : Nat → ByteArray → Int → Int → Int → List ByteArray → Int → Option (Int × Int × List ByteArray × Int)
  | 0, _, _, _, _, _, _ => none
  | k + 1, x0, x2, x262000, x262001, x262002, x262003 => if (x262002.length : Int) < 3 then ((sleuthref1_term.f k x0 x2).bind fun bt269 => (if bt269.2.2.2 < 0 then (sleuthref1_parts.j1 k x0 x2 true x262000 x262001 x262002 x262003 bt269.1 bt269.2.1 bt269.2.2.1 bt269.2.2.2) else (sleuthref1_parts.j1 k x0 x2 (decide (bt269.2.2.2 ≥ (x0.size : Int))) x262000 x262001 x262002 x262003 bt269.1 bt269.2.1 bt269.2.2.1 bt269.2.2.2))) else ((sleuthref1_bad.f).bind fun bt263 => (some (bt263.1, bt263.2.1, bt263.2.2.1, bt263.2.2.2)))
def sleuthref1_parts.j1 : Nat → ByteArray → Int → Bool → Int → Int → List ByteArray → Int → Int → Int → List ByteArray → Int → Option (Int × Int × List ByteArray × Int)
  | 0, _, _, _, _, _, _, _, _, _, _, _ => none
  | k + 1, x0, x2, x24, x262000, x262001, x262002, x262003, x276000, x276001, x276002, x276003 => if x24 = true then ((sleuthref1_bad.f).bind fun bt276 => (some (bt276.1, bt276.2.1, bt276.2.2.1, bt276.2.2.2))) else (if 0 ≤ x2 then (if x2 ≤ x276003 then (if x276003 ≤ (x0.size : Int) then (if x262002.length < 8796093022208 then ((some (x262002 ++ [x0.extract (x2 : Int).toNat (x276003 : Int).toNat] : List ByteArray)).bind fun y282 => (if 0 ≤ x276003 then (if x276003 < (x0.size : Int) then (if (bt x0 x276003) = 41 then (some (x262000, x262001, y282, wrap64 (x276003 + 1))) else (if (bt x0 x276003) = 32 then (sleuthref1_parts.l0 k x0 (wrap64 (x276003 + 1)) x262000 x262001 y282 x262003) else ((sleuthref1_bad.f).bind fun bt285 => (some (bt285.1, bt285.2.1, bt285.2.2.1, bt285.2.2.2))))) else (none)) else (none))) else (none)) else (none)) else (none)) else (none))
def sleuthref1_parts.f : Nat → ByteArray → Int → Int → List ByteArray → Int → Int → Option (Int × Int × List ByteArray × Int)
  | 0, _, _, _, _, _, _ => none
  | k + 1, a0, a1_0, a1_1, l1_2, a1_3, a2 => sleuthref1_parts.l0 k a0 a2 a1_0 a1_1 l1_2 a1_3
def sleuthref1_term.j0 : Nat → ByteArray → Int → Int → Int → Bool → Option (Int × Int × List ByteArray × Int)
  | 0, _, _, _, _, _ => none
  | k + 1, x0, x1, x5, x6, x45 => if x45 = true then ((sleuthref1_bad.f).bind fun bt301 => (some (bt301.1, bt301.2.1, bt301.2.2.1, bt301.2.2.2))) else (if (wrap64 ((wrap64 (x1 + 1)) + x6)) < (x0.size : Int) then (if 0 ≤ (wrap64 ((wrap64 (x1 + 1)) + x6)) then (if (bt x0 (wrap64 ((wrap64 (x1 + 1)) + x6))) = 40 then ((sleuthref1_parts.f k x0 2 x5 ([] : List ByteArray) (wrap64 ((wrap64 (x1 + 1)) + x6)) (wrap64 ((wrap64 ((wrap64 (x1 + 1)) + x6)) + 1))).bind fun bt308 => (some (bt308.1, bt308.2.1, bt308.2.2.1, bt308.2.2.2))) else (some (2, x5, ([] : List ByteArray), wrap64 ((wrap64 (x1 + 1)) + x6)))) else (none)) else (some (2, x5, ([] : List ByteArray), wrap64 ((wrap64 (x1 + 1)) + x6))))
def sleuthref1_term.f : Nat → ByteArray → Int → Option (Int × Int × List ByteArray × Int)
  | 0, _, _ => none
  | k + 1, a0, a1 => if a1 ≥ (a0.size : Int) then ((sleuthref1_bad.f).bind fun bt293 => (some (bt293.1, bt293.2.1, bt293.2.2.1, bt293.2.2.2))) else (if 0 ≤ a1 then (if a1 < (a0.size : Int) then (if (bt a0 a1) = 95 then (some (0, 0, ([] : List ByteArray), wrap64 (a1 + 1))) else (if (bt a0 a1) = 33 then (some (3, 0, ([] : List ByteArray), wrap64 (a1 + 1))) else (if (bt a0 a1) = 64 then (if 0 ≤ (wrap64 (a1 + 1)) then (if (wrap64 (a1 + 1)) ≤ (a0.size : Int) then ((sleuthref1_digits.f k (a0.extract ((wrap64 (a1 + 1)) : Int).toNat a0.size)).bind fun bt299 => (if bt299.2 = 0 then (sleuthref1_term.j0 k a0 a1 bt299.1 bt299.2 true) else (sleuthref1_term.j0 k a0 a1 bt299.1 bt299.2 (decide (bt299.1 > 99))))) else (none)) else (none)) else (if (bt a0 a1) = 45 then (if 0 ≤ (wrap64 (a1 + 1)) then (if (wrap64 (a1 + 1)) ≤ (a0.size : Int) then ((sleuthref1_digits.f k (a0.extract ((wrap64 (a1 + 1)) : Int).toNat a0.size)).bind fun bt314 => (if bt314.2 = 0 then ((sleuthref1_bad.f).bind fun bt316 => (some (bt316.1, bt316.2.1, bt316.2.2.1, bt316.2.2.2))) else (if bt314.1 = 0 then ((sleuthref1_bad.f).bind fun bt322 => (some (bt322.1, bt322.2.1, bt322.2.2.1, bt322.2.2.2))) else ((sleuthref1_NumMay.f (wrap64 (-bt314.1))).bind fun t328 => (if t328 = true then (some (1, wrap64 (-bt314.1), ([] : List ByteArray), wrap64 ((wrap64 (a1 + 1)) + bt314.2))) else ((sleuthref1_bad.f).bind fun bt329 => (some (bt329.1, bt329.2.1, bt329.2.2.1, bt329.2.2.2)))))))) else (none)) else (none)) else (if a1 ≤ (a0.size : Int) then ((sleuthref1_digits.f k (a0.extract (a1 : Int).toNat a0.size)).bind fun bt335 => (if bt335.2 = 0 then ((sleuthref1_bad.f).bind fun bt337 => (some (bt337.1, bt337.2.1, bt337.2.2.1, bt337.2.2.2))) else ((sleuthref1_NumMay.f bt335.1).bind fun t343 => (if t343 = true then (some (1, bt335.1, ([] : List ByteArray), wrap64 (a1 + bt335.2))) else ((sleuthref1_bad.f).bind fun bt344 => (some (bt344.1, bt344.2.1, bt344.2.2.1, bt344.2.2.2))))))) else (none)))))) else (none)) else (none))
end
theorem sleuthref1_parts.mono_all : ∀ k, (∀ y0 y1 y2 y3 y4 y5, LeO (sleuthref1_parts.f k y0 y1 y2 y3 y4 y5) (sleuthref1_parts.f (k + 1) y0 y1 y2 y3 y4 y5)) ∧ (∀ y0 y1 y2 y3 y4 y5, LeO (sleuthref1_parts.l0 k y0 y1 y2 y3 y4 y5) (sleuthref1_parts.l0 (k + 1) y0 y1 y2 y3 y4 y5)) ∧ (∀ y0 y1 y2 y3 y4 y5 y6 y7 y8 y9 y10, LeO (sleuthref1_parts.j1 k y0 y1 y2 y3 y4 y5 y6 y7 y8 y9 y10) (sleuthref1_parts.j1 (k + 1) y0 y1 y2 y3 y4 y5 y6 y7 y8 y9 y10)) ∧ (∀ y0 y1, LeO (sleuthref1_term.f k y0 y1) (sleuthref1_term.f (k + 1) y0 y1)) ∧ (∀ y0 y1 y2 y3 y4, LeO (sleuthref1_term.j0 k y0 y1 y2 y3 y4) (sleuthref1_term.j0 (k + 1) y0 y1 y2 y3 y4))
  | 0 => ⟨fun _ _ _ _ _ _ r h => by simp [sleuthref1_parts.f] at h, fun _ _ _ _ _ _ r h => by simp [sleuthref1_parts.l0] at h, fun _ _ _ _ _ _ _ _ _ _ _ r h => by simp [sleuthref1_parts.j1] at h, fun _ _ r h => by simp [sleuthref1_term.f] at h, fun _ _ _ _ _ r h => by simp [sleuthref1_term.j0] at h⟩
  | k + 1 => by
    obtain ⟨ih0, ih1, ih2, ih3, ih4⟩ := sleuthref1_parts.mono_all k
    refine ⟨?_, ?_, ?_, ?_, ?_⟩
    · intro y0 y1 y2 y3 y4 y5
      unfold sleuthref1_parts.f
      repeat' first
      | (with_reducible exact ih0 _ _ _ _ _ _)
      | (with_reducible exact ih1 _ _ _ _ _ _)
      | (with_reducible exact ih2 _ _ _ _ _ _ _ _ _ _ _)
      | (with_reducible exact ih3 _ _)
      | (with_reducible exact ih4 _ _ _ _ _)
      | (with_reducible exact sleuthref1_digits.mono _ _)
      | (with_reducible exact LeO.refl _)
      | (with_reducible exact LeO.none _)
      | (with_reducible refine LeO.ite ?_ ?_)
      | (with_reducible refine LeO.bind ?_ (fun _ => ?_))
      | exact ih0 _ _ _ _ _ _
      | exact ih1 _ _ _ _ _ _
      | exact ih2 _ _ _ _ _ _ _ _ _ _ _
      | exact ih3 _ _
      | exact ih4 _ _ _ _ _
      | exact sleuthref1_digits.mono _ _
      | exact LeO.none _
      | refine LeO.ite ?_ ?_
      | refine LeO.bind ?_ (fun _ => ?_)
    · intro y0 y1 y2 y3 y4 y5
      unfold sleuthref1_parts.l0
      repeat' first
      | (with_reducible exact ih0 _ _ _ _ _ _)
      | (with_reducible exact ih1 _ _ _ _ _ _)
      | (with_reducible exact ih2 _ _ _ _ _ _ _ _ _ _ _)
      | (with_reducible exact ih3 _ _)
      | (with_reducible exact ih4 _ _ _ _ _)
      | (with_reducible exact sleuthref1_digits.mono _ _)
      | (with_reducible exact LeO.refl _)
      | (with_reducible exact LeO.none _)
      | (with_reducible refine LeO.ite ?_ ?_)
      | (with_reducible refine LeO.bind ?_ (fun _ => ?_))
      | exact ih0 _ _ _ _ _ _
      | exact ih1 _ _ _ _ _ _
      | exact ih2 _ _ _ _ _ _ _ _ _ _ _
      | exact ih3 _ _
      | exact ih4 _ _ _ _ _
      | exact sleuthref1_digits.mono _ _
      | exact LeO.none _
      | refine LeO.ite ?_ ?_
      | refine LeO.bind ?_ (fun _ => ?_)
    · intro y0 y1 y2 y3 y4 y5 y6 y7 y8 y9 y10
      unfold sleuthref1_parts.j1
      repeat' first
      | (with_reducible exact ih0 _ _ _ _ _ _)
      | (with_reducible exact ih1 _ _ _ _ _ _)
      | (with_reducible exact ih2 _ _ _ _ _ _ _ _ _ _ _)
      | (with_reducible exact ih3 _ _)
      | (with_reducible exact ih4 _ _ _ _ _)
      | (with_reducible exact sleuthref1_digits.mono _ _)
      | (with_reducible exact LeO.refl _)
      | (with_reducible exact LeO.none _)
      | (with_reducible refine LeO.ite ?_ ?_)
      | (with_reducible refine LeO.bind ?_ (fun _ => ?_))
      | exact ih0 _ _ _ _ _ _
      | exact ih1 _ _ _ _ _ _
      | exact ih2 _ _ _ _ _ _ _ _ _ _ _
      | exact ih3 _ _
      | exact ih4 _ _ _ _ _
      | exact sleuthref1_digits.mono _ _
      | exact LeO.none _
      | refine LeO.ite ?_ ?_
      | refine LeO.bind ?_ (fun _ => ?_)
    · intro y0 y1
      unfold sleuthref1_term.f
      repeat' first
      | (with_reducible exact ih0 _ _ _ _ _ _)
      | (with_reducible exact ih1 _ _ _ _ _ _)
      | (with_reducible exact ih2 _ _ _ _ _ _ _ _ _ _ _)
      | (with_reducible exact ih3 _ _)
      | (with_reducible exact ih4 _ _ _ _ _)
      | (with_reducible exact sleuthref1_digits.mono _ _)
      | (with_reducible exact LeO.refl _)
      | (with_reducible exact LeO.none _)
      | (with_reducible refine LeO.ite ?_ ?_)
      | (with_reducible refine LeO.bind ?_ (fun _ => ?_))
      | exact ih0 _ _ _ _ _ _
      | exact ih1 _ _ _ _ _ _
      | exact ih2 _ _ _ _ _ _ _ _ _ _ _
      | exact ih3 _ _
      | exact ih4 _ _ _ _ _
      | exact sleuthref1_digits.mono _ _
      | exact LeO.none _
      | refine LeO.ite ?_ ?_
      | refine LeO.bind ?_ (fun _ => ?_)
    · intro y0 y1 y2 y3 y4
      unfold sleuthref1_term.j0
      repeat' first
      | (with_reducible exact ih0 _ _ _ _ _ _)
      | (with_reducible exact ih1 _ _ _ _ _ _)
      | (with_reducible exact ih2 _ _ _ _ _ _ _ _ _ _ _)
      | (with_reducible exact ih3 _ _)
      | (with_reducible exact ih4 _ _ _ _ _)
      | (with_reducible exact sleuthref1_digits.mono _ _)
      | (with_reducible exact LeO.refl _)
      | (with_reducible exact LeO.none _)
      | (with_reducible refine LeO.ite ?_ ?_)
      | (with_reducible refine LeO.bind ?_ (fun _ => ?_))
      | exact ih0 _ _ _ _ _ _
      | exact ih1 _ _ _ _ _ _
      | exact ih2 _ _ _ _ _ _ _ _ _ _ _
      | exact ih3 _ _
      | exact ih4 _ _ _ _ _
      | exact sleuthref1_digits.mono _ _
      | exact LeO.none _
      | refine LeO.ite ?_ ?_
      | refine LeO.bind ?_ (fun _ => ?_)
theorem sleuthref1_parts.mono : ∀ a0 a1 a2 a3 a4 a5 k, LeO (sleuthref1_parts.f k a0 a1 a2 a3 a4 a5) (sleuthref1_parts.f (k + 1) a0 a1 a2 a3 a4 a5) := by
  intro a0 a1 a2 a3 a4 a5 k
  obtain ⟨ih0, ih1, ih2, ih3, ih4⟩ := sleuthref1_parts.mono_all k
  exact ih0 a0 a1 a2 a3 a4 a5
theorem sleuthref1_term.mono : ∀ a0 a1 k, LeO (sleuthref1_term.f k a0 a1) (sleuthref1_term.f (k + 1) a0 a1) := by
  intro a0 a1 k
  obtain ⟨ih0, ih1, ih2, ih3, ih4⟩ := sleuthref1_parts.mono_all k
  exact ih3 a0 a1
abbrev sleuthref1_parts.Said (k : Nat) : Prop := ∀ (a0 : ByteArray) (a1_0 : Int) (a1_1 : Int) (P1_2_ : Nat → Prop) (u9000_ : Value) (l1_2 : List ByteArray) (a1_3 : Int) (a2 : Int) (r1 : Int) (r2 : Int) (r3 : List ByteArray) (r4 : Int) (w0 w : World) (hB : Below w0.heap.size w0 w) (ho1_2 : Kd.R Kd.string 9 w w0.heap.size P1_2_ u9000_ l1_2) (h : sleuthref1_parts.f k a0 a1_0 a1_1 l1_2 a1_3 a2 = some (r1, r2, r3, r4)),
    Calls Tryd.prog 83 #[.string a0, .agg #[.int .i64 a1_0, .int .i64 a1_1, u9000_, .int .i64 a1_3], .int .i64 a2] w fun e w' => ∃ v2_ : Value, e = .returned (.agg #[.int .i64 r1, .int .i64 r2, v2_, .int .i64 r4]) ∧ Kd.R Kd.string 9 w' w0.heap.size (fun k_ => (P1_2_ k_ ∨ w.heap.size ≤ k_)) v2_ r3 ∧ Below w0.heap.size w0 w' ∧ Kept w w' (fun k_ => P1_2_ k_)
abbrev sleuthref1_term.Said (k : Nat) : Prop := ∀ (a0 : ByteArray) (a1 : Int) (r1 : Int) (r2 : Int) (r3 : List ByteArray) (r4 : Int) (w : World) (h : sleuthref1_term.f k a0 a1 = some (r1, r2, r3, r4)),
    Calls Tryd.prog 73 #[.string a0, .int .i64 a1] w fun e w' => ∃ v2_ : Value, e = .returned (.agg #[.int .i64 r1, .int .i64 r2, v2_, .int .i64 r4]) ∧ Kd.R Kd.string 9 w' w.heap.size (fun _ => True) v2_ r3 ∧ Below w.heap.size w w'
/-! ### sleuthref1_parts: function 83 -/
def sleuthref1_parts.T5 : Bool × List (List Nat × List Nat) := (true, [([], []), ([0], [0]), ([], []), ([], []), ([], []), ([4], [4]), ([2, 3, 5], [2, 3, 5]), ([6], [6]), ([1, 7], [1, 7]), ([0, 1, 2, 3, 4, 5, 6, 7, 8], []), ([9, 8, 8, 0, 1, 2, 3, 4, 5, 6, 7, 8], [8, 9])])
def sleuthref1_parts.B5 : List Nat := [0, 1, 0, 0, 0, 16, 60, 124, 255, 511, 1023]
theorem sleuthref1_parts.tab5 : rtab .any (opsOf Tryd.f83 5) = sleuthref1_parts.T5 := by kernel_rfl
theorem sleuthref1_parts.bits5 : waitsOk sleuthref1_parts.T5.2 sleuthref1_parts.B5 = true := by kernel_rfl
set_option maxHeartbeats 8000000 in
set_option maxRecDepth 100000 in
theorem sleuthref1_parts.step (k : Nat) (ih : ∀ m, m < k → sleuthref1_parts.Said m) (ih_sleuthref1_term : ∀ m, m < k → sleuthref1_term.Said m) : sleuthref1_parts.Said k := by
  intro a0 a1_0 a1_1 P1_2_ u9000_ l1_2 a1_3 a2 r1 r2 r3 r4 w0 w hB ho1_2 h
  cases k with
  | zero => exact absurd h (by simp [sleuthref1_parts.f])
  | succ k =>
  simp only [sleuthref1_parts.f] at h
  have hu109 := Tryd.underlying109
  have HO1_2 := Aside0.mk (show Kd.R Kd.string 9 w w0.heap.size (fun k_ => (P1_2_ k_ ∨ w.heap.size ≤ k_)) u9000_ l1_2 from Kd.R_mono ho1_2 (fun k_ hk => (.inl hk)))
  have HK := Aside0.mk (Kept.refl w (fun k_ => P1_2_ k_))
  have HW0 := Aside0.mk hB.size
  have HB := Aside0.mk hB
  clear hB
  have H : (sleuthref1_parts.l0 k a0 a2 a1_0 a1_1 l1_2 a1_3) = some (r1, r2, r3, r4) := h
  clear h
  have H' := Aside0.mk H
  clear H
  obtain ⟨Ao4, co4, eo4⟩ := Kd.R_slice HO1_2.out
  subst eo4
  go_enter Tryd.func83, Tryd.ntmps83
  go_wp2_with (first | ((with_reducible refine gate_dst (N := 4) rfl ?_); (try (refine gate_guard (by rfl) ?_; dsimp only)); refine boxE_ 4 #[.int .i64 a1_0, .int .i64 a1_1, .slice Ao4 l1_2.length co4, .int .i64 a1_3] 109 ?_; intro gb261 hg w5 hbox hb; have n0_ := Aside0.mk (Kd.R_below (hR_ HO1_2.out) hb); have n1_ := Aside0.mk (Kept.below (S := (fun k_ => P1_2_ k_)) (by repeat (first | (with_reducible first | exact HK.out | apply Kept.alloc | apply Kept.drewN | apply Kept.drew) | exact HK.out)) hb); have n2_ := Aside0.mk (below_step hB_ hb); have n3_ := Aside0.mk (hbox); have n4_ := Aside0.mk ((by rw [hg]; exact (by first | exact HK.out.1 | exact (show Kept w _ (fun k_ => P1_2_ k_) from by repeat (first | (with_reducible first | exact HK.out | apply Kept.alloc | apply Kept.drewN | apply Kept.drew) | exact HK.out)).1) : w.heap.size ≤ gb261)); have n5_ := Aside0.mk ((gE_ hg : w0.heap.size ≤ gb261)); clear HO1_2 HK HB; have HO1_2 := n0_; have HK := n1_; have HB := n2_; have BK261 := n3_; have GW261 := n4_; have GE261 := n5_; clear n0_ n1_ n2_ n3_ n4_ n5_; clear hb hbox hg) | ((with_reducible refine gate_dst (N := 6) rfl ?_); (try (refine gate_guard (by rfl) ?_; dsimp only)); refine boxE_ 6 #[.int .i64 0, .int .i64 0, .slice none 0 0, .int .i64 0] 109 ?_; intro gb262 hg w6 hbox hb; have n0_ := Aside0.mk (Kd.R_below (hR_ HO1_2.out) hb); have n1_ := Aside0.mk (bB_ BK261.out hb); have n2_ := Aside0.mk (Kept.below (S := (fun k_ => P1_2_ k_)) (by repeat (first | (with_reducible first | exact HK.out | apply Kept.alloc | apply Kept.drewN | apply Kept.drew | refine Kept.setCell ?_ (.inr GW261.out) _) | exact HK.out)) hb); have n3_ := Aside0.mk (below_step hC_ hb); have n4_ := Aside0.mk (hbox); have n5_ := Aside0.mk ((by rw [hg]; exact (by first | exact HK.out.1 | exact (show Kept w _ (fun k_ => P1_2_ k_) from by repeat (first | (with_reducible first | exact HK.out | apply Kept.alloc | apply Kept.drewN | apply Kept.drew | refine Kept.setCell ?_ (.inr GW261.out) _) | exact HK.out)).1) : w.heap.size ≤ gb262)); have n6_ := Aside0.mk ((gE_ hg : w0.heap.size ≤ gb262)); have n7_ := Aside0.mk ((bL_ BK261.out hg : gb261 ≠ gb262)); have n8_ := Aside0.mk ((bG_ BK261.out hg : gb262 ≠ gb261)); clear HO1_2 BK261 HK HB; have HO1_2 := n0_; have BK261 := n1_; have HK := n2_; have HB := n3_; have BK262 := n4_; have GW262 := n5_; have GE262 := n6_; have NB261_262 := n7_; have NB262_261 := n8_; clear n0_ n1_ n2_ n3_ n4_ n5_ n6_ n7_ n8_; clear hb hbox hg))
  (try simp only [Act.put, List.setIfInBounds_toArray, List.set_cons_zero, List.set_cons_succ])
  go_loopg [2] k (fun kq v2 w' => ∃ (x2_1 : Int) (x262002_1 : List ByteArray) (x262003_1 : Int) (x263000_1 : Int) (x263001_1 : Int) (x263003_1 : Int) (u262002 : Value), v2 = .int .i64 x2_1 ∧ Aside0 (sleuthref1_parts.l0 kq a0 x2_1 a1_0 a1_1 x262002_1 x262003_1 = some (r1, r2, r3, r4)) ∧ Aside0 (kq ≤ k) ∧ Aside0 (Kd.R Kd.string 9 w' w0.heap.size (fun k_ => (P1_2_ k_ ∨ w.heap.size ≤ k_)) u262002 x262002_1) ∧ Aside0 (w'.heap[gb261]? = some (.cells #[.int .i64 a1_0, .int .i64 a1_1, u262002, .int .i64 x262003_1] 109 (0, 0))) ∧ Aside0 (w'.heap[gb262]? = some (.cells #[.int .i64 x263000_1, .int .i64 x263001_1, (.slice none 0 0), .int .i64 x263003_1] 109 (0, 0))) ∧ Aside0 (Kept w w' (fun k_ => P1_2_ k_)) ∧ Aside0 (Below w0.heap.size w0 w'))
  case atStart => exact ⟨(a2), (l1_2), (a1_3), (0), (0), (0), (.slice Ao4 l1_2.length co4), hW_, H', ⟨Nat.le_refl _⟩, ⟨hR_ HO1_2.out⟩, ⟨(hK_ BK261.out)⟩, ⟨(hK_ BK262.out)⟩, ⟨by repeat (first | (with_reducible first | exact HK.out | apply Kept.alloc | apply Kept.drewN | apply Kept.drew | refine Kept.setCell ?_ (.inr GW261.out) _ | refine Kept.setCell ?_ (.inr GW262.out) _) | exact HK.out)⟩, ⟨hC_⟩⟩
  case round =>
    clear H'
    try clear p2
    obtain ⟨x2_1, x262002_1, x262003_1, x263000_1, x263001_1, x263003_1, u262002, rfl, HA, HK1, HO_262002, BK261, BK262, HK, HB⟩ := hrel
    cases gk with
    | zero => exact absurd HA.out (by simp [sleuthref1_parts.l0])
    | succ k1 =>
      have H := HA.out
      clear HA
      simp only [sleuthref1_parts.l0] at H
      by_cases c7 : (x262002_1.length : Int) < 3
      case neg =>
        rw [if_neg c7] at H
        have c7b0 : decide ((x262002_1.length : Int) < 3) = false := decide_eq_false c7
        have c7b1 : decide (x262002_1.length < 3) = false := decide_eq_false (by omega)
        clear c7
        replace H := Option.bind_eq_some_iff.mp H
        obtain ⟨⟨t263, t264, t265, t268⟩, A720, H⟩ := H
        replace H : (some (t263, t264, t265, t268)) = some (r1, r2, r3, r4) := H
        have A72 := Aside0.mk A720
        clear A720
        simp only [Option.some.injEq, Prod.mk.injEq] at H
        obtain ⟨rfl, rfl, rfl, rfl⟩ := H
        have hnb73 := NB261_262.out
        have hnc73 := NB262_261.out
        obtain ⟨hcz74_0, hcz74_1, hcz74_2, hcz74_3, hfz74_0, hfz74_1, hfz74_2, hfz74_3⟩ := bx4_ BK261.out
        obtain ⟨Ao75, co75, eo75⟩ := Kd.R_slice HO_262002.out
        subst eo75
        go_wp2_with (first | ((with_reducible refine gate_callee (f := 81) rfl ?_); refine goesL_ (some 55) rfl rfl Tryd.func81 (by kernel_rfl) rfl #[] rfl hL_ ?_; (with_reducible refine (sleuthref1_bad.calls  t263 t264 t265 t268 _ A72.out).mono ?_); rintro e w76 ⟨v266, rfl, ho0, hb⟩; refine ⟨_, rfl, ?_⟩; have n0_ := Aside0.mk (Kd.R_elder' (hR_ HO_262002.out) (Kd.R_base ho0) hb); have n1_ := Aside0.mk (Kd.R_lower (Kd.R_new' (Kd.R_newM (M := fun k_ => (P1_2_ k_ ∨ w.heap.size ≤ k_)) ho0 (by first | exact HK.out.1 | exact (show Kept w _ (fun k_ => P1_2_ k_) from by repeat (first | (with_reducible first | exact HK.out | apply Kept.alloc | apply Kept.drewN | apply Kept.drew | refine Kept.setCell ?_ (.inr GW261.out) _ | refine Kept.setCell ?_ (.inr GW262.out) _) | exact HK.out)).1) (fun k_ h_ => .inr h_)) (Kd.R_lt (hR_ HO_262002.out))) (below_size hC_)); have n2_ := Aside0.mk (bB_ BK261.out hb); have n3_ := Aside0.mk (bB_ BK262.out hb); have n4_ := Aside0.mk (Kept.below (S := (fun k_ => P1_2_ k_)) (by repeat (first | (with_reducible first | exact HK.out | apply Kept.alloc | apply Kept.drewN | apply Kept.drew | refine Kept.setCell ?_ (.inr GW261.out) _ | refine Kept.setCell ?_ (.inr GW262.out) _) | exact HK.out)) hb); have n5_ := Aside0.mk (below_step hC_ hb); clear HO_262002 BK261 BK262 HK HB; have HO_262002 := n0_; have HO267 := n1_; have BK261 := n2_; have BK262 := n3_; have HK := n4_; have HB := n5_; clear n0_ n1_ n2_ n3_ n4_ n5_; (try clear hb); (try clear hb2); (try clear hk); (try clear hi); (try clear ho0); obtain ⟨hcz77_0, hcz77_1, hcz77_2, hcz77_3, hfz77_0, hfz77_1, hfz77_2, hfz77_3⟩ := bx4_ BK262.out; obtain ⟨Ao78, co78, eo78⟩ := Kd.R_slice HO267.out; subst eo78))
        refine bodyPost_ret (results_cell_row rfl _ _ gb262 109 #[.int .i64 t263, .int .i64 t264, .slice Ao78 t265.length co78, .int .i64 t268] (0, 0) _ rfl (bP_ (bP_ (bP_ (bP_ (hK_ BK262.out))))) Tryd.underlying109 rfl (by kernel_rfl)) rfl ?_
        exact ⟨_, hV_, hR_ (Kd.R_mono (rF_ (rF_ (rF_ (rF_ (Kd.R_types HO267.out BK262.out (by decide)))))) (fun _ hk => hk.1.1.1)), hC_, by repeat (first | (with_reducible first | exact HK.out | apply Kept.alloc | apply Kept.drewN | apply Kept.drew | refine Kept.setCell ?_ (.inr GW261.out) _ | refine Kept.setCell ?_ (.inr GW262.out) _) | exact HK.out)⟩

      rw [if_pos c7] at H
      have c7b0 : decide ((x262002_1.length : Int) < 3) = true := decide_eq_true c7
      have c7b1 : decide (x262002_1.length < 3) = true := decide_eq_true (by omega)
      clear c7
      replace H := Option.bind_eq_some_iff.mp H
      obtain ⟨⟨t269, t270, t271, t274⟩, A80, H⟩ := H
      replace H : (if t274 < 0 then (sleuthref1_parts.j1 k1 a0 x2_1 true a1_0 a1_1 x262002_1 x262003_1 t269 t270 t271 t274) else (sleuthref1_parts.j1 k1 a0 x2_1 (decide (t274 ≥ (a0.size : Int))) a1_0 a1_1 x262002_1 x262003_1 t269 t270 t271 t274)) = some (r1, r2, r3, r4) := H
      have A8 := Aside0.mk A80
      clear A80
      have HC9 := Aside0.mk H
      clear H
      have hnb10 := NB261_262.out
      have hnc10 := NB262_261.out
      obtain ⟨hcz11_0, hcz11_1, hcz11_2, hcz11_3, hfz11_0, hfz11_1, hfz11_2, hfz11_3⟩ := bx4_ BK261.out
      obtain ⟨Ao12, co12, eo12⟩ := Kd.R_slice HO_262002.out
      subst eo12
      go_upto_region 3 with (first | ((with_reducible refine gate_callee (f := 73) rfl ?_); refine goesL_ (some 14) rfl rfl Tryd.func73 (by kernel_rfl) rfl #[.string a0, .int .i64 x2_1] rfl hL_ ?_; (with_reducible refine (ih_sleuthref1_term k1 (by have := HK1.out; omega) a0 x2_1 t269 t270 t271 t274 _ A8.out).mono ?_); rintro e w13 ⟨v272, rfl, ho0, hb⟩; refine ⟨_, rfl, ?_⟩; have n0_ := Aside0.mk (Kd.R_elder' (hR_ HO_262002.out) (Kd.R_base ho0) hb); have n1_ := Aside0.mk (Kd.R_lower (Kd.R_new' (Kd.R_newM (M := fun k_ => (P1_2_ k_ ∨ w.heap.size ≤ k_)) ho0 (by first | exact HK.out.1 | exact (show Kept w _ (fun k_ => P1_2_ k_) from by repeat (first | (with_reducible first | exact HK.out | apply Kept.alloc | apply Kept.drewN | apply Kept.drew | refine Kept.setCell ?_ (.inr GW261.out) _ | refine Kept.setCell ?_ (.inr GW262.out) _) | exact HK.out)).1) (fun k_ h_ => .inr h_)) (Kd.R_lt (hR_ HO_262002.out))) (below_size hC_)); have n2_ := Aside0.mk (bB_ BK261.out hb); have n3_ := Aside0.mk (bB_ BK262.out hb); have n4_ := Aside0.mk (Kept.below (S := (fun k_ => P1_2_ k_)) (by repeat (first | (with_reducible first | exact HK.out | apply Kept.alloc | apply Kept.drewN | apply Kept.drew | refine Kept.setCell ?_ (.inr GW261.out) _ | refine Kept.setCell ?_ (.inr GW262.out) _) | exact HK.out)) hb); have n5_ := Aside0.mk (below_step hC_ hb); clear HO_262002 BK261 BK262 HK HB; have HO_262002 := n0_; have HO273 := n1_; have BK261 := n2_; have BK262 := n3_; have HK := n4_; have HB := n5_; clear n0_ n1_ n2_ n3_ n4_ n5_; (try clear hb); (try clear hb2); (try clear hk); (try clear hi); (try clear ho0)) | ((with_reducible refine gate_dst (N := 7) rfl ?_); (try (refine gate_guard (by rfl) ?_; dsimp only)); refine boxE_ 7 #[.int .i64 0, .int .i64 0, .slice none 0 0, .int .i64 0] 109 ?_; intro gb275 hg w14 hbox hb; have n0_ := Aside0.mk (Kd.R_below (hR_ HO_262002.out) hb); have n1_ := Aside0.mk (Kd.R_below (hR_ HO273.out) hb); have n2_ := Aside0.mk (bB_ BK261.out hb); have n3_ := Aside0.mk (bB_ BK262.out hb); have n4_ := Aside0.mk (Kept.below (S := (fun k_ => P1_2_ k_)) (by repeat (first | (with_reducible first | exact HK.out | apply Kept.alloc | apply Kept.drewN | apply Kept.drew | refine Kept.setCell ?_ (.inr GW261.out) _ | refine Kept.setCell ?_ (.inr GW262.out) _) | exact HK.out)) hb); have n5_ := Aside0.mk (below_step hC_ hb); have n6_ := Aside0.mk (hbox); have n7_ := Aside0.mk ((by rw [hg]; exact (by first | exact HK.out.1 | exact (show Kept w _ (fun k_ => P1_2_ k_) from by repeat (first | (with_reducible first | exact HK.out | apply Kept.alloc | apply Kept.drewN | apply Kept.drew | refine Kept.setCell ?_ (.inr GW261.out) _ | refine Kept.setCell ?_ (.inr GW262.out) _) | exact HK.out)).1) : w.heap.size ≤ gb275)); have n8_ := Aside0.mk ((gE_ hg : w0.heap.size ≤ gb275)); have n9_ := Aside0.mk ((bL_ BK261.out hg : gb261 ≠ gb275)); have n10_ := Aside0.mk ((bG_ BK261.out hg : gb275 ≠ gb261)); have n11_ := Aside0.mk ((bL_ BK262.out hg : gb262 ≠ gb275)); have n12_ := Aside0.mk ((bG_ BK262.out hg : gb275 ≠ gb262)); clear HO_262002 HO273 BK261 BK262 HK HB; have HO_262002 := n0_; have HO273 := n1_; have BK261 := n2_; have BK262 := n3_; have HK := n4_; have HB := n5_; have BK275 := n6_; have GW275 := n7_; have GE275 := n8_; have NB261_275 := n9_; have NB275_261 := n10_; have NB262_275 := n11_; have NB275_262 := n12_; clear n0_ n1_ n2_ n3_ n4_ n5_ n6_ n7_ n8_ n9_ n10_ n11_ n12_; clear hb hbox hg; have hnb15 := NB275_261.out; have hnc15 := NB261_275.out; have hnb16 := NB275_262.out; have hnc16 := NB262_275.out; obtain ⟨hcz17_0, hcz17_1, hcz17_2, hcz17_3, hfz17_0, hfz17_1, hfz17_2, hfz17_3⟩ := bx4_ BK275.out; obtain ⟨Ao18, co18, eo18⟩ := Kd.R_slice HO273.out; subst eo18))
      (try simp only [Act.put, List.setIfInBounds_toArray, List.set_cons_zero, List.set_cons_succ])
      go_cut [24] (fun v24 wc => ∃ (kq : Nat) (x24_8 : Bool), v24 = .bool x24_8 ∧ Aside0 (sleuthref1_parts.j1 kq a0 x2_1 x24_8 a1_0 a1_1 x262002_1 x262003_1 t269 t270 t271 t274 = some (r1, r2, r3, r4)) ∧ Aside0 (kq ≤ k1) ∧ Aside0 (Kd.R Kd.string 9 wc w0.heap.size (fun k_ => (P1_2_ k_ ∨ w.heap.size ≤ k_) ∧ some k_ ≠ ((.slice Ao18 t271.length co18) : Value).ownBlock) (.slice Ao12 x262002_1.length co12) x262002_1) ∧ Aside0 (Kd.R Kd.string 9 wc w0.heap.size (fun k_ => (P1_2_ k_ ∨ w.heap.size ≤ k_) ∧ some k_ ≠ ((.slice Ao12 x262002_1.length co12) : Value).ownBlock) (.slice Ao18 t271.length co18) t271) ∧ Aside0 (wc.heap[gb261]? = some (.cells #[.int .i64 a1_0, .int .i64 a1_1, (.slice Ao12 x262002_1.length co12), .int .i64 x262003_1] 109 (0, 0))) ∧ Aside0 (wc.heap[gb262]? = some (.cells #[.int .i64 x263000_1, .int .i64 x263001_1, (.slice none 0 0), .int .i64 x263003_1] 109 (0, 0))) ∧ Aside0 (wc.heap[gb275]? = some (.cells #[.int .i64 t269, .int .i64 t270, (.slice Ao18 t271.length co18), .int .i64 t274] 109 (0, 0))) ∧ Aside0 (Kept w wc (fun k_ => P1_2_ k_)) ∧ Aside0 (Below w0.heap.size w0 wc))
      case first =>
        have H := HC9.out
        clear HC9
        by_cases c19 : t274 < 0
        case pos =>
          rw [if_pos c19] at H
          have c19b0 : decide (t274 < 0) = true := decide_eq_true c19
          clear c19
          (first | rw [c19b0] | (simp only [i64_w, i32_w]; rw [c19b0]) | skip)
          have H' := Aside0.mk H
          clear H
          have hnb20 := NB275_261.out
          have hnc20 := NB261_275.out
          have hnb21 := NB275_262.out
          have hnc21 := NB262_275.out
          obtain ⟨hcz22_0, hcz22_1, hcz22_2, hcz22_3, hfz22_0, hfz22_1, hfz22_2, hfz22_3⟩ := bx4_ BK275.out
          go_wp2
          go_meet
          case rel => exact ⟨_, (true), hW_, H', ⟨by have := HK1.out; first | omega | exact Nat.le_refl _⟩, ⟨by (with_reducible repeat (first | apply Kd.R_alloc | apply Kd.R_drewN | apply Kd.R_drew)); exact Kd.R_mono (rF_ (rF_ (rF_ (rF_ (Kd.R_types HO_262002.out BK275.out (by decide)))))) (fun _ hk => ⟨hk.1.1, hk.1.2⟩)⟩, ⟨by (with_reducible repeat (first | apply Kd.R_alloc | apply Kd.R_drewN | apply Kd.R_drew)); exact Kd.R_mono (rF_ (rF_ (rF_ (rF_ (Kd.R_types HO273.out BK275.out (by decide)))))) (fun _ hk => ⟨hk.1.1.1, hk.1.2⟩)⟩, ⟨(bF_ (bF_ (bF_ (bF_ (hK_ BK261.out) NB261_275.out) NB261_275.out) NB261_275.out) NB261_275.out)⟩, ⟨(bF_ (bF_ (bF_ (bF_ (hK_ BK262.out) NB262_275.out) NB262_275.out) NB262_275.out) NB262_275.out)⟩, ⟨(bP_ (bP_ (bP_ (bP_ (hK_ BK275.out)))))⟩, ⟨by repeat (first | (with_reducible first | exact HK.out | apply Kept.alloc | apply Kept.drewN | apply Kept.drew | refine Kept.setCell ?_ (.inr GW261.out) _ | refine Kept.setCell ?_ (.inr GW262.out) _ | refine Kept.setCell ?_ (.inr GW275.out) _) | exact HK.out)⟩, ⟨hC_⟩⟩
        rw [if_neg c19] at H
        have c19b0 : decide (t274 < 0) = false := decide_eq_false c19
        clear c19
        (first | rw [c19b0] | (simp only [i64_w, i32_w]; rw [c19b0]) | skip)
        have H' := Aside0.mk H
        clear H
        have hnb23 := NB275_261.out
        have hnc23 := NB261_275.out
        have hnb24 := NB275_262.out
        have hnc24 := NB262_275.out
        obtain ⟨hcz25_0, hcz25_1, hcz25_2, hcz25_3, hfz25_0, hfz25_1, hfz25_2, hfz25_3⟩ := bx4_ BK275.out
        go_wp2
        go_meet
        case rel => exact ⟨_, (decide (t274 ≥ (a0.size : Int))), hW_, H', ⟨by have := HK1.out; first | omega | exact Nat.le_refl _⟩, ⟨by (with_reducible repeat (first | apply Kd.R_alloc | apply Kd.R_drewN | apply Kd.R_drew)); exact Kd.R_mono (rF_ (rF_ (rF_ (rF_ (Kd.R_types HO_262002.out BK275.out (by decide)))))) (fun _ hk => ⟨hk.1.1, hk.1.2⟩)⟩, ⟨by (with_reducible repeat (first | apply Kd.R_alloc | apply Kd.R_drewN | apply Kd.R_drew)); exact Kd.R_mono (rF_ (rF_ (rF_ (rF_ (Kd.R_types HO273.out BK275.out (by decide)))))) (fun _ hk => ⟨hk.1.1.1, hk.1.2⟩)⟩, ⟨(bF_ (bF_ (bF_ (bF_ (hK_ BK261.out) NB261_275.out) NB261_275.out) NB261_275.out) NB261_275.out)⟩, ⟨(bF_ (bF_ (bF_ (bF_ (hK_ BK262.out) NB262_275.out) NB262_275.out) NB262_275.out) NB262_275.out)⟩, ⟨(bP_ (bP_ (bP_ (bP_ (hK_ BK275.out)))))⟩, ⟨by repeat (first | (with_reducible first | exact HK.out | apply Kept.alloc | apply Kept.drewN | apply Kept.drew | refine Kept.setCell ?_ (.inr GW261.out) _ | refine Kept.setCell ?_ (.inr GW262.out) _ | refine Kept.setCell ?_ (.inr GW275.out) _) | exact HK.out)⟩, ⟨hC_⟩⟩
      case rest =>
        clear HC9
        try clear c1
        try clear c2
        try clear p2
        try clear c7
        try clear c7b0
        try clear c7b1
        try clear c8
        try clear c10
        try clear c15
        try clear c16
        try clear c19
        try clear c19b0
        try clear c20
        try clear c21
        try clear c23
        try clear c24
        try clear hcz11_0
        try clear hcz11_1
        try clear hcz11_2
        try clear hcz11_3
        try clear hcz17_0
        try clear hcz17_1
        try clear hcz17_2
        try clear hcz17_3
        try clear hcz22_0
        try clear hcz22_1
        try clear hcz22_2
        try clear hcz22_3
        try clear hcz25_0
        try clear hcz25_1
        try clear hcz25_2
        try clear hcz25_3
        try clear hfz11_0
        try clear hfz11_1
        try clear hfz11_2
        try clear hfz11_3
        try clear hfz17_0
        try clear hfz17_1
        try clear hfz17_2
        try clear hfz17_3
        try clear hfz22_0
        try clear hfz22_1
        try clear hfz22_2
        try clear hfz22_3
        try clear hfz25_0
        try clear hfz25_1
        try clear hfz25_2
        try clear hfz25_3
        try clear p2
        obtain ⟨kq, x24_8, rfl, HA, HJ8, HO_262002, HO_276002, BK261, BK262, BK275, HK, HB⟩ := hcut
        cases kq with
        | zero => exact absurd HA.out (by simp [sleuthref1_parts.j1])
        | succ kj8 =>
          have H := HA.out
          clear HA
          simp only [sleuthref1_parts.j1] at H
          by_cases c26 : x24_8 = true
          case pos =>
            subst c26
            have H1 : ((sleuthref1_bad.f).bind fun bt276 => (some (bt276.1, bt276.2.1, bt276.2.2.1, bt276.2.2.2))) = some (r1, r2, r3, r4) := by rw [if_pos rfl] at H; exact H
            clear H
            have H := H1
            clear H1
            replace H := Option.bind_eq_some_iff.mp H
            obtain ⟨⟨t276, t277, t278, t281⟩, A270, H⟩ := H
            replace H : (some (t276, t277, t278, t281)) = some (r1, r2, r3, r4) := H
            have A27 := Aside0.mk A270
            clear A270
            simp only [Option.some.injEq, Prod.mk.injEq] at H
            obtain ⟨rfl, rfl, rfl, rfl⟩ := H
            go_wp2_with (first | ((with_reducible refine gate_callee (f := 81) rfl ?_); refine goesL_ (some 25) rfl rfl Tryd.func81 (by kernel_rfl) rfl #[] rfl hL_ ?_; (with_reducible refine (sleuthref1_bad.calls  t276 t277 t278 t281 _ A27.out).mono ?_); rintro e w28 ⟨v279, rfl, ho0, hb⟩; refine ⟨_, rfl, ?_⟩; have n0_ := Aside0.mk (Kd.R_elder' (hR_ HO_262002.out) (Kd.R_base ho0) hb); have n1_ := Aside0.mk (Kd.R_elder' (hR_ HO_276002.out) (Kd.R_base ho0) hb); have n2_ := Aside0.mk (Kd.R_lower (Kd.R_new' (Kd.R_new' (Kd.R_newM (M := fun k_ => (P1_2_ k_ ∨ w.heap.size ≤ k_)) ho0 (by first | exact HK.out.1 | exact (show Kept w _ (fun k_ => P1_2_ k_) from by repeat (first | (with_reducible first | exact HK.out | apply Kept.alloc | apply Kept.drewN | apply Kept.drew | refine Kept.setCell ?_ (.inr GW261.out) _ | refine Kept.setCell ?_ (.inr GW262.out) _ | refine Kept.setCell ?_ (.inr GW275.out) _) | exact HK.out)).1) (fun k_ h_ => .inr h_)) (Kd.R_lt (hR_ HO_262002.out))) (Kd.R_lt (hR_ HO_276002.out))) (below_size hC_)); have n3_ := Aside0.mk (bB_ BK261.out hb); have n4_ := Aside0.mk (bB_ BK262.out hb); have n5_ := Aside0.mk (bB_ BK275.out hb); have n6_ := Aside0.mk (Kept.below (S := (fun k_ => P1_2_ k_)) (by repeat (first | (with_reducible first | exact HK.out | apply Kept.alloc | apply Kept.drewN | apply Kept.drew | refine Kept.setCell ?_ (.inr GW261.out) _ | refine Kept.setCell ?_ (.inr GW262.out) _ | refine Kept.setCell ?_ (.inr GW275.out) _) | exact HK.out)) hb); have n7_ := Aside0.mk (below_step hC_ hb); clear HO_262002 HO_276002 BK261 BK262 BK275 HK HB; have HO_262002 := n0_; have HO_276002 := n1_; have HO280 := n2_; have BK261 := n3_; have BK262 := n4_; have BK275 := n5_; have HK := n6_; have HB := n7_; clear n0_ n1_ n2_ n3_ n4_ n5_ n6_ n7_; (try clear hb); (try clear hb2); (try clear hk); (try clear hi); (try clear ho0); have hnb29 := NB262_261.out; have hnc29 := NB261_262.out; have hnb30 := NB262_275.out; have hnc30 := NB275_262.out; obtain ⟨hcz31_0, hcz31_1, hcz31_2, hcz31_3, hfz31_0, hfz31_1, hfz31_2, hfz31_3⟩ := bx4_ BK262.out; obtain ⟨Ao32, co32, eo32⟩ := Kd.R_slice HO280.out; subst eo32))
            refine bodyPost_ret (results_cell_row rfl _ _ gb262 109 #[.int .i64 t276, .int .i64 t277, .slice Ao32 t278.length co32, .int .i64 t281] (0, 0) _ rfl (bP_ (bP_ (bP_ (bP_ (hK_ BK262.out))))) Tryd.underlying109 rfl (by kernel_rfl)) rfl ?_
            exact ⟨_, hV_, hR_ (Kd.R_mono (rF_ (rF_ (rF_ (rF_ (Kd.R_types HO280.out BK262.out (by decide)))))) (fun _ hk => hk.1.1.1.1)), hC_, by repeat (first | (with_reducible first | exact HK.out | apply Kept.alloc | apply Kept.drewN | apply Kept.drew | refine Kept.setCell ?_ (.inr GW261.out) _ | refine Kept.setCell ?_ (.inr GW262.out) _ | refine Kept.setCell ?_ (.inr GW275.out) _) | exact HK.out)⟩
          replace c26 := Bool.eq_false_iff.mpr c26
          subst c26
          have H1 : (if 0 ≤ x2_1 then (if x2_1 ≤ t274 then (if t274 ≤ (a0.size : Int) then (if x262002_1.length < 8796093022208 then ((some (x262002_1 ++ [a0.extract (x2_1 : Int).toNat (t274 : Int).toNat] : List ByteArray)).bind fun y282 => (if 0 ≤ t274 then (if t274 < (a0.size : Int) then (if (bt a0 t274) = 41 then (some (a1_0, a1_1, y282, wrap64 (t274 + 1))) else (if (bt a0 t274) = 32 then (sleuthref1_parts.l0 kj8 a0 (wrap64 (t274 + 1)) a1_0 a1_1 y282 x262003_1) else ((sleuthref1_bad.f).bind fun bt285 => (some (bt285.1, bt285.2.1, bt285.2.2.1, bt285.2.2.2))))) else (none)) else (none))) else (none)) else (none)) else (none)) else (none)) = some (r1, r2, r3, r4) := by rw [if_neg (show ¬ (false = true) by decide)] at H; exact H
          clear H
          have H := H1
          clear H1
          replace H := ifI_ H; obtain ⟨c33, H⟩ := H
          have c33b0 := eq_true c33
          have c33b1 : decide (0 ≤ x2_1) = true := decide_eq_true c33
          clear c33
          replace H := ifI_ H; obtain ⟨c34, H⟩ := H
          have c34b0 := eq_true c34
          have c34b1 : decide (x2_1 ≤ t274) = true := decide_eq_true c34
          clear c34
          replace H := ifI_ H; obtain ⟨c35, H⟩ := H
          have c35b0 := eq_true c35
          have c35b1 : decide (t274 ≤ (a0.size : Int)) = true := decide_eq_true c35
          clear c35
          replace H := ifI_ H; obtain ⟨c36, H⟩ := H
          have LMc36 := Aside0.mk c36
          clear c36
          obtain ⟨y282, hy282⟩ : ∃ y_ : List ByteArray, y_ = (x262002_1 ++ [a0.extract (x2_1 : Int).toNat (t274 : Int).toNat]) := ⟨_, rfl⟩
          replace H : (if 0 ≤ t274 then (if t274 < (a0.size : Int) then (if (bt a0 t274) = 41 then (some (a1_0, a1_1, y282, wrap64 (t274 + 1))) else (if (bt a0 t274) = 32 then (sleuthref1_parts.l0 kj8 a0 (wrap64 (t274 + 1)) a1_0 a1_1 y282 x262003_1) else ((sleuthref1_bad.f).bind fun bt285 => (some (bt285.1, bt285.2.1, bt285.2.2.1, bt285.2.2.2))))) else (none)) else (none)) = some (r1, r2, r3, r4) := by first | (rw [hy282]; with_reducible exact H) | (have H2_ := (Option.bind_some _ _).symm.trans H; rw [hy282]; with_reducible exact H2_) | (have H2_ := (Option.bind_some _ _).symm.trans H; with_reducible exact H2_) | with_reducible exact H | (rw [hy282]; exact H) | exact H
          have Ny282 := Aside0.mk hy282
          clear hy282
          replace H := ifI_ H; obtain ⟨c37, H⟩ := H
          have c37b0 : decide (0 ≤ t274) = true := decide_eq_true c37
          clear c37
          replace H := ifI_ H; obtain ⟨c38, H⟩ := H
          have c38b0 : decide (t274 < (a0.size : Int)) = true := decide_eq_true c38
          clear c38
          by_cases c40 : (bt a0 t274) = 41
          case pos =>
            rw [if_pos c40] at H
            have c40b0 : ((bt a0 t274) == 41) = true := beq_iff_eq.mpr c40
            have c40b1 : ((bt a0 t274) != 41) = false := bne_eq_false_iff_eq.mpr c40
            clear c40
            simp only [Option.some.injEq, Prod.mk.injEq] at H
            obtain ⟨rfl, rfl, rfl, rfl⟩ := H
            try go_wp2
            have n0_ := Aside0.mk (Kd.R_drew HO_262002.out)
            have n1_ := Aside0.mk (Kd.R_drew HO_276002.out)
            have n2_ := Aside0.mk (blk_drew BK261.out)
            have n3_ := Aside0.mk (blk_drew BK262.out)
            have n4_ := Aside0.mk (blk_drew BK275.out)
            have n5_ := Aside0.mk (Kept.drew HK.out)
            have n6_ := Aside0.mk (below_drew1 HB.out)
            clear HO_262002
            clear HO_276002
            clear BK261
            clear BK262
            clear BK275
            clear HK
            clear HB
            have HO_262002 := n0_
            have HO_276002 := n1_
            have BK261 := n2_
            have BK262 := n3_
            have BK275 := n4_
            have HK := n5_
            have HB := n6_
            clear n0_ n1_ n2_ n3_ n4_ n5_ n6_
            refine start_ (n := 11) (S := fun w' => w'.cell? ⟨gb261, 0, none⟩ = some (.int .i64 a1_0) ∧ w'.cell? ⟨gb261, 1, none⟩ = some (.int .i64 a1_1) ∧ w'.cell? ⟨gb261, 2, none⟩ = some (.slice Ao12 x262002_1.length co12) ∧ w'.cell? ⟨gb261, 3, none⟩ = some (.int .i64 x262003_1) ∧ w'.cell? ⟨gb275, 0, none⟩ = some (.int .i64 t269) ∧ w'.cell? ⟨gb275, 1, none⟩ = some (.int .i64 t270) ∧ w'.cell? ⟨gb275, 2, none⟩ = some (.slice Ao18 t271.length co18) ∧ w'.cell? ⟨gb275, 3, none⟩ = some (.int .i64 t274)) (ds := [10]) #[false, false, false, false, false, false, false, false, false, false, false] (by kernel_rfl) rfl rfl ⟨(blk_cell BK261.out 0).trans rfl, (blk_cell BK261.out 1).trans rfl, (blk_cell BK261.out 2).trans rfl, (blk_cell BK261.out 3).trans rfl, (blk_cell BK275.out 0).trans rfl, (blk_cell BK275.out 1).trans rfl, (blk_cell BK275.out 2).trans rfl, (blk_cell BK275.out 3).trans rfl⟩ (fun hHeld => ?_); refine with_tabW sleuthref1_parts.tab5 sleuthref1_parts.bits5 (fun HT_ HW_ => ?_)
            generalize wc.drew = w41 at HO_262002 HO_276002 BK261 BK262 BK275 HK HB hHeld ⊢
            refine pA_ 0 26 #[true, false, false, false, false, false, false, false, false, false, false] HT_.out ?_
            refine pA_ 2 28 #[true, false, true, false, false, false, false, false, false, false, false] HT_.out ?_
            refine pA_ 3 29 #[true, false, true, true, false, false, false, false, false, false, false] HT_.out ?_
            refine pA_ 4 30 #[true, false, true, true, true, false, false, false, false, false, false] HT_.out ?_
            refine tA_ 1 27 #[true, true, true, true, true, false, false, false, false, false, false] HT_.out HW_.out hHeld ?_
            refine tA_ 5 31 #[true, true, true, true, true, true, false, false, false, false, false] HT_.out HW_.out hHeld ?_
            refine pA_ 6 32 #[true, true, true, true, true, true, true, false, false, false, false] HT_.out ?_
            refine one_ (i := 7) (N := some 33) #[true, true, true, true, true, true, true, true, false, false, false] rfl rfl (one_of HT_.out (by kernel_rfl)) (by decide) (fun K hK => ?_)
            refine value_ (w1 := ?_) (v := ?_) (by rfl) rfl ?_ ?_
            rotate_left 2
            · go_simp
              constructor
              · rfl
              · rfl
            refine hK.out _ _ ⟨(blk_cell (blk_alloc BK261.out _) 0).trans rfl, (blk_cell (blk_alloc BK261.out _) 1).trans rfl, (blk_cell (blk_alloc BK261.out _) 2).trans rfl, (blk_cell (blk_alloc BK261.out _) 3).trans rfl, (blk_cell (blk_alloc BK275.out _) 0).trans rfl, (blk_cell (blk_alloc BK275.out _) 1).trans rfl, (blk_cell (blk_alloc BK275.out _) 2).trans rfl, (blk_cell (blk_alloc BK275.out _) 3).trans rfl⟩ (fun hHeld => ?_)
            clear hK K
            refine norm_ (a' := ?_) ?_ ?_
            rotate_left
            · show Act.put _ (some 33) _ = _
              simp only [Act.put, List.setIfInBounds_toArray, List.set_cons_zero, List.set_cons_succ, i64_w, i32_w]
              rfl
            refine one_ (i := 8) (N := some 34) #[true, true, true, true, true, true, true, true, true, false, false] rfl rfl (one_of HT_.out (by kernel_rfl)) (by decide) (fun K hK => ?_)
            refine Kd.R_append_step Kd.string (w0 := w0) w0.heap.size (by rfl) (.tmp 27) (.tmp 33) 31 9 (.string ⟨#[]⟩) 16 rfl Tryd.underlying31 info9 rfl (by decide) (by omega) (.slice Ao12 x262002_1.length co12) x262002_1 (a0.extract (x2_1 : Int).toNat (t274 : Int).toNat) [.string (a0.extract (x2_1 : Int).toNat (t274 : Int).toNat)] (fun k_ => (P1_2_ k_ ∨ w.heap.size ≤ k_) ∧ some k_ ≠ (.slice Ao18 t271.length co18 : Value).ownBlock) (fun _ => False) rfl rfl ?aP (fun _ hk => hk.elim) ?aF ?aO ?aB ?aS ?aL ?_
            (case aP => exact rfl)
            (case aB => exact hC_)
            (case aF => exact (fun k_ hk => ⟨(.inr (Nat.le_trans (by first | exact HK.out.1 | exact (show Kept w _ (fun k_ => P1_2_ k_) from by repeat (first | (with_reducible first | exact HK.out | apply Kept.alloc | apply Kept.drewN | apply Kept.drew | refine Kept.setCell ?_ (.inr GW261.out) _ | refine Kept.setCell ?_ (.inr GW262.out) _ | refine Kept.setCell ?_ (.inr GW275.out) _) | exact HK.out)).1) hk)), Kd.fresh' (Kd.R_lt (hR_ HO_276002.out)) k_ hk⟩))
            (case aO => exact (hR_ HO_262002.out))
            (case aS => exact (below_size hC_))
            (case aL => have := LMc36.out; omega)
            intro v283 w42 ho hb hg hat
            rw [← Ny282.out] at ho
            have n0_ := Aside0.mk (Kd.R_after (ok := (fun k_ => (P1_2_ k_ ∨ w.heap.size ≤ k_))) (hR_ HO_276002.out) hg hat)
            have n1_ := Aside0.mk (blk_grown (hK_ BK261.out) hg (Kd.R_ne HO_262002.out BK261.out (by decide)))
            have n2_ := Aside0.mk (blk_grown (hK_ BK262.out) hg (Kd.R_ne HO_262002.out BK262.out (by decide)))
            have n3_ := Aside0.mk (blk_grown (hK_ BK275.out) hg (Kd.R_ne HO_262002.out BK275.out (by decide)))
            have n4_ := Aside0.mk (hb)
            have n5_ := Aside0.mk (Kept.of_grown (S := (fun k_ => P1_2_ k_)) hg (by repeat (first | (with_reducible first | exact HK.out | apply Kept.alloc | apply Kept.drewN | apply Kept.drew | refine Kept.setCell ?_ (.inr GW261.out) _ | refine Kept.setCell ?_ (.inr GW262.out) _ | refine Kept.setCell ?_ (.inr GW275.out) _) | exact HK.out)) (fun k_ e_ => (HO_262002.out.1 k_ e_).1))
            have n6_ := Aside0.mk (ho)
            clear HO_276002
            clear BK261
            clear BK262
            clear BK275
            clear HB
            clear HK
            clear HO_262002
            have HO_276002 := n0_
            have BK261 := n1_
            have BK262 := n2_
            have BK275 := n3_
            have HB := n4_
            have HK := n5_
            have HO284 := n6_
            clear n0_ n1_ n2_ n3_ n4_ n5_ n6_
            clear ho hb hg hat
            obtain ⟨Ao43, co43, eo43⟩ := Kd.R_slice HO284.out
            (first | subst eo43 | (injection eo43 with f1_ f2_ f3_; have f4_ := f1_.symm; have f5_ := f3_.symm; clear f1_ f2_ f3_; subst f4_; subst f5_))
            refine hK.out _ _ ⟨(blk_cell BK261.out 0).trans rfl, (blk_cell BK261.out 1).trans rfl, (blk_cell BK261.out 2).trans rfl, (blk_cell BK261.out 3).trans rfl, (blk_cell BK275.out 0).trans rfl, (blk_cell BK275.out 1).trans rfl, (blk_cell BK275.out 2).trans rfl, (blk_cell BK275.out 3).trans rfl⟩ (fun hHeld => ?_)
            clear hK K
            refine norm_ (a' := ?_) ?_ ?_
            rotate_left
            · show Act.put _ (some 34) _ = _
              simp only [Act.put, List.setIfInBounds_toArray, List.set_cons_zero, List.set_cons_succ, i64_w, i32_w]
              rfl
            refine pA_ 9 35 #[true, true, true, true, true, true, true, true, true, true, false] HT_.out ?_
            refine last_ (i := 10) (N := none) #[true, true, true, true, true, true, true, true, true, true, true] rfl rfl (one_of HT_.out (by kernel_rfl)) (by decide) (fun K hK => ?_)
            have hs44 := bc2_ BK261.out
            have hfs44 := blk_frozen BK261.out 2
            have hns44_1 := NB262_261.out
            have hns44_2 := NB275_261.out
            have hms44_1 := NB261_262.out
            have hms44_2 := NB261_275.out
            refine skip_ (w1 := ?_) (by rfl) rfl ?_ ?_
            rotate_left
            · go_simp
              rfl
            refine hK.out _ _ ?_
            clear hK K
            refine done_ (done_of HT_.out (by kernel_rfl)) ?_
            have hnb45 := NB275_261.out
            have hnc45 := NB261_275.out
            have hnb46 := NB275_262.out
            have hnc46 := NB262_275.out
            obtain ⟨hcz47_0, hcz47_1, hcz47_2, hcz47_3, hfz47_0, hfz47_1, hfz47_2, hfz47_3⟩ := bx4_ BK275.out
            have p39 : 0 ≤ (t274 : Int) := of_decide_eq_true hA_
            have q39 : t274 < (a0.size : Int) := of_decide_eq_true hA_
            have hx39 := bt_at a0 t274
            replace p39 := eq_true p39
            replace q39 := eq_true q39
            have hnb48 := NB261_262.out
            have hnc48 := NB262_261.out
            obtain ⟨hcz49_0, hcz49_1, hcz49_2, hcz49_3, hfz49_0, hfz49_1, hfz49_2, hfz49_3⟩ := bx4_ BK261.out
            obtain ⟨hcz50_0, hcz50_1, hcz50_2, hcz50_3, hfz50_0, hfz50_1, hfz50_2, hfz50_3⟩ := bx4_ BK262.out
            try go_wp2
            refine bodyPost_ret (results_cell_row rfl _ _ gb262 109 #[.int .i64 a1_0, .int .i64 a1_1, .slice Ao43 y282.length co43, .int .i64 (wrap64 (t274 + 1))] (0, 0) _ rfl (bP_ (bP_ (bP_ (bP_ (bF_ (bF_ (hK_ BK262.out) NB262_261.out) NB262_261.out))))) Tryd.underlying109 rfl (by kernel_rfl)) rfl ?_
            exact ⟨_, hV_, by (with_reducible repeat (first | apply Kd.R_alloc | apply Kd.R_drewN | apply Kd.R_drew)); exact Kd.R_mono (rF_ (rF_ (rF_ (rF_ (Kd.R_far (p := ⟨gb261, 3, none⟩) (Kd.R_far (p := ⟨gb261, 2, none⟩) (Kd.R_types (Kd.R_types HO284.out BK261.out (by decide)) BK262.out (by decide)) (fun _ hk => hk.1.2) (.slice Ao43 y282.length co43)) (fun _ hk => hk.1.2) (.int .i64 (wrap64 (t274 + 1)))))))) (fun _ hk => hk.1.1.1), hC_, by repeat (first | (with_reducible first | exact HK.out | apply Kept.alloc | apply Kept.drewN | apply Kept.drew | refine Kept.setCell ?_ (.inr GW261.out) _ | refine Kept.setCell ?_ (.inr GW262.out) _ | refine Kept.setCell ?_ (.inr GW275.out) _) | exact HK.out)⟩
          rw [if_neg c40] at H
          have c40b0 : ((bt a0 t274) == 41) = false := beq_eq_false_iff_ne.mpr c40
          have c40b1 : ((bt a0 t274) != 41) = true := bne_iff_ne.mpr c40
          by_cases c52 : (bt a0 t274) = 32
          case pos =>
            rw [if_pos c52] at H
            have c52b0 : ((bt a0 t274) == 32) = true := beq_iff_eq.mpr c52
            have c52b1 : ((bt a0 t274) != 32) = false := bne_eq_false_iff_eq.mpr c52
            clear c52
            have H' := Aside0.mk H
            clear H
            try go_wp2
            have n0_ := Aside0.mk (Kd.R_drew HO_262002.out)
            have n1_ := Aside0.mk (Kd.R_drew HO_276002.out)
            have n2_ := Aside0.mk (blk_drew BK261.out)
            have n3_ := Aside0.mk (blk_drew BK262.out)
            have n4_ := Aside0.mk (blk_drew BK275.out)
            have n5_ := Aside0.mk (Kept.drew HK.out)
            have n6_ := Aside0.mk (below_drew1 HB.out)
            clear HO_262002
            clear HO_276002
            clear BK261
            clear BK262
            clear BK275
            clear HK
            clear HB
            have HO_262002 := n0_
            have HO_276002 := n1_
            have BK261 := n2_
            have BK262 := n3_
            have BK275 := n4_
            have HK := n5_
            have HB := n6_
            clear n0_ n1_ n2_ n3_ n4_ n5_ n6_
            refine start_ (n := 11) (S := fun w' => w'.cell? ⟨gb261, 0, none⟩ = some (.int .i64 a1_0) ∧ w'.cell? ⟨gb261, 1, none⟩ = some (.int .i64 a1_1) ∧ w'.cell? ⟨gb261, 2, none⟩ = some (.slice Ao12 x262002_1.length co12) ∧ w'.cell? ⟨gb261, 3, none⟩ = some (.int .i64 x262003_1) ∧ w'.cell? ⟨gb275, 0, none⟩ = some (.int .i64 t269) ∧ w'.cell? ⟨gb275, 1, none⟩ = some (.int .i64 t270) ∧ w'.cell? ⟨gb275, 2, none⟩ = some (.slice Ao18 t271.length co18) ∧ w'.cell? ⟨gb275, 3, none⟩ = some (.int .i64 t274)) (ds := [10]) #[false, false, false, false, false, false, false, false, false, false, false] (by kernel_rfl) rfl rfl ⟨(blk_cell BK261.out 0).trans rfl, (blk_cell BK261.out 1).trans rfl, (blk_cell BK261.out 2).trans rfl, (blk_cell BK261.out 3).trans rfl, (blk_cell BK275.out 0).trans rfl, (blk_cell BK275.out 1).trans rfl, (blk_cell BK275.out 2).trans rfl, (blk_cell BK275.out 3).trans rfl⟩ (fun hHeld => ?_); refine with_tabW sleuthref1_parts.tab5 sleuthref1_parts.bits5 (fun HT_ HW_ => ?_)
            generalize wc.drew = w53 at HO_262002 HO_276002 BK261 BK262 BK275 HK HB hHeld ⊢
            refine pA_ 0 26 #[true, false, false, false, false, false, false, false, false, false, false] HT_.out ?_
            refine pA_ 2 28 #[true, false, true, false, false, false, false, false, false, false, false] HT_.out ?_
            refine pA_ 3 29 #[true, false, true, true, false, false, false, false, false, false, false] HT_.out ?_
            refine pA_ 4 30 #[true, false, true, true, true, false, false, false, false, false, false] HT_.out ?_
            refine tA_ 1 27 #[true, true, true, true, true, false, false, false, false, false, false] HT_.out HW_.out hHeld ?_
            refine tA_ 5 31 #[true, true, true, true, true, true, false, false, false, false, false] HT_.out HW_.out hHeld ?_
            refine pA_ 6 32 #[true, true, true, true, true, true, true, false, false, false, false] HT_.out ?_
            refine one_ (i := 7) (N := some 33) #[true, true, true, true, true, true, true, true, false, false, false] rfl rfl (one_of HT_.out (by kernel_rfl)) (by decide) (fun K hK => ?_)
            refine value_ (w1 := ?_) (v := ?_) (by rfl) rfl ?_ ?_
            rotate_left 2
            · go_simp
              constructor
              · rfl
              · rfl
            refine hK.out _ _ ⟨(blk_cell (blk_alloc BK261.out _) 0).trans rfl, (blk_cell (blk_alloc BK261.out _) 1).trans rfl, (blk_cell (blk_alloc BK261.out _) 2).trans rfl, (blk_cell (blk_alloc BK261.out _) 3).trans rfl, (blk_cell (blk_alloc BK275.out _) 0).trans rfl, (blk_cell (blk_alloc BK275.out _) 1).trans rfl, (blk_cell (blk_alloc BK275.out _) 2).trans rfl, (blk_cell (blk_alloc BK275.out _) 3).trans rfl⟩ (fun hHeld => ?_)
            clear hK K
            refine norm_ (a' := ?_) ?_ ?_
            rotate_left
            · show Act.put _ (some 33) _ = _
              simp only [Act.put, List.setIfInBounds_toArray, List.set_cons_zero, List.set_cons_succ, i64_w, i32_w]
              rfl
            refine one_ (i := 8) (N := some 34) #[true, true, true, true, true, true, true, true, true, false, false] rfl rfl (one_of HT_.out (by kernel_rfl)) (by decide) (fun K hK => ?_)
            refine Kd.R_append_step Kd.string (w0 := w0) w0.heap.size (by rfl) (.tmp 27) (.tmp 33) 31 9 (.string ⟨#[]⟩) 16 rfl Tryd.underlying31 info9 rfl (by decide) (by omega) (.slice Ao12 x262002_1.length co12) x262002_1 (a0.extract (x2_1 : Int).toNat (t274 : Int).toNat) [.string (a0.extract (x2_1 : Int).toNat (t274 : Int).toNat)] (fun k_ => (P1_2_ k_ ∨ w.heap.size ≤ k_) ∧ some k_ ≠ (.slice Ao18 t271.length co18 : Value).ownBlock) (fun _ => False) rfl rfl ?aP (fun _ hk => hk.elim) ?aF ?aO ?aB ?aS ?aL ?_
            (case aP => exact rfl)
            (case aB => exact hC_)
            (case aF => exact (fun k_ hk => ⟨(.inr (Nat.le_trans (by first | exact HK.out.1 | exact (show Kept w _ (fun k_ => P1_2_ k_) from by repeat (first | (with_reducible first | exact HK.out | apply Kept.alloc | apply Kept.drewN | apply Kept.drew | refine Kept.setCell ?_ (.inr GW261.out) _ | refine Kept.setCell ?_ (.inr GW262.out) _ | refine Kept.setCell ?_ (.inr GW275.out) _) | exact HK.out)).1) hk)), Kd.fresh' (Kd.R_lt (hR_ HO_276002.out)) k_ hk⟩))
            (case aO => exact (hR_ HO_262002.out))
            (case aS => exact (below_size hC_))
            (case aL => have := LMc36.out; omega)
            intro v283 w54 ho hb hg hat
            rw [← Ny282.out] at ho
            have n0_ := Aside0.mk (Kd.R_after (ok := (fun k_ => (P1_2_ k_ ∨ w.heap.size ≤ k_))) (hR_ HO_276002.out) hg hat)
            have n1_ := Aside0.mk (blk_grown (hK_ BK261.out) hg (Kd.R_ne HO_262002.out BK261.out (by decide)))
            have n2_ := Aside0.mk (blk_grown (hK_ BK262.out) hg (Kd.R_ne HO_262002.out BK262.out (by decide)))
            have n3_ := Aside0.mk (blk_grown (hK_ BK275.out) hg (Kd.R_ne HO_262002.out BK275.out (by decide)))
            have n4_ := Aside0.mk (hb)
            have n5_ := Aside0.mk (Kept.of_grown (S := (fun k_ => P1_2_ k_)) hg (by repeat (first | (with_reducible first | exact HK.out | apply Kept.alloc | apply Kept.drewN | apply Kept.drew | refine Kept.setCell ?_ (.inr GW261.out) _ | refine Kept.setCell ?_ (.inr GW262.out) _ | refine Kept.setCell ?_ (.inr GW275.out) _) | exact HK.out)) (fun k_ e_ => (HO_262002.out.1 k_ e_).1))
            have n6_ := Aside0.mk (ho)
            clear HO_276002
            clear BK261
            clear BK262
            clear BK275
            clear HB
            clear HK
            clear HO_262002
            have HO_276002 := n0_
            have BK261 := n1_
            have BK262 := n2_
            have BK275 := n3_
            have HB := n4_
            have HK := n5_
            have HO284 := n6_
            clear n0_ n1_ n2_ n3_ n4_ n5_ n6_
            clear ho hb hg hat
            obtain ⟨Ao55, co55, eo55⟩ := Kd.R_slice HO284.out
            (first | subst eo55 | (injection eo55 with f1_ f2_ f3_; have f4_ := f1_.symm; have f5_ := f3_.symm; clear f1_ f2_ f3_; subst f4_; subst f5_))
            refine hK.out _ _ ⟨(blk_cell BK261.out 0).trans rfl, (blk_cell BK261.out 1).trans rfl, (blk_cell BK261.out 2).trans rfl, (blk_cell BK261.out 3).trans rfl, (blk_cell BK275.out 0).trans rfl, (blk_cell BK275.out 1).trans rfl, (blk_cell BK275.out 2).trans rfl, (blk_cell BK275.out 3).trans rfl⟩ (fun hHeld => ?_)
            clear hK K
            refine norm_ (a' := ?_) ?_ ?_
            rotate_left
            · show Act.put _ (some 34) _ = _
              simp only [Act.put, List.setIfInBounds_toArray, List.set_cons_zero, List.set_cons_succ, i64_w, i32_w]
              rfl
            refine pA_ 9 35 #[true, true, true, true, true, true, true, true, true, true, false] HT_.out ?_
            refine last_ (i := 10) (N := none) #[true, true, true, true, true, true, true, true, true, true, true] rfl rfl (one_of HT_.out (by kernel_rfl)) (by decide) (fun K hK => ?_)
            have hs56 := bc2_ BK261.out
            have hfs56 := blk_frozen BK261.out 2
            have hns56_1 := NB262_261.out
            have hns56_2 := NB275_261.out
            have hms56_1 := NB261_262.out
            have hms56_2 := NB261_275.out
            refine skip_ (w1 := ?_) (by rfl) rfl ?_ ?_
            rotate_left
            · go_simp
              rfl
            refine hK.out _ _ ?_
            clear hK K
            refine done_ (done_of HT_.out (by kernel_rfl)) ?_
            have hnb57 := NB275_261.out
            have hnc57 := NB261_275.out
            have hnb58 := NB275_262.out
            have hnc58 := NB262_275.out
            obtain ⟨hcz59_0, hcz59_1, hcz59_2, hcz59_3, hfz59_0, hfz59_1, hfz59_2, hfz59_3⟩ := bx4_ BK275.out
            have p39 : 0 ≤ (t274 : Int) := of_decide_eq_true hA_
            have q39 : t274 < (a0.size : Int) := of_decide_eq_true hA_
            have hx39 := bt_at a0 t274
            replace p39 := eq_true p39
            replace q39 := eq_true q39
            have p51 : 0 ≤ (t274 : Int) := of_decide_eq_true hA_
            have q51 : t274 < (a0.size : Int) := of_decide_eq_true hA_
            have hx51 := bt_at a0 t274
            replace p51 := eq_true p51
            replace q51 := eq_true q51
            try go_wp2
            go_roundg kj8
            case measure => have := HK1.out; have := HJ8.out; omega
            case rel => exact ⟨(wrap64 (t274 + 1)), (y282), (x262003_1), (x263000_1), (x263001_1), (x263003_1), (.slice Ao55 y282.length co55), hW_, H', ⟨by have := HK1.out; have := HJ8.out; omega⟩, ⟨hR_ (Kd.R_mono (rF_ (Kd.R_types HO284.out BK261.out (by decide))) (fun _ hk => hk.1.1))⟩, ⟨(bP_ (hK_ BK261.out))⟩, ⟨(bF_ (hK_ BK262.out) NB262_261.out)⟩, ⟨by repeat (first | (with_reducible first | exact HK.out | apply Kept.alloc | apply Kept.drewN | apply Kept.drew | refine Kept.setCell ?_ (.inr GW261.out) _ | refine Kept.setCell ?_ (.inr GW262.out) _ | refine Kept.setCell ?_ (.inr GW275.out) _) | exact HK.out)⟩, ⟨hC_⟩⟩
          rw [if_neg c52] at H
          have c52b0 : ((bt a0 t274) == 32) = false := beq_eq_false_iff_ne.mpr c52
          have c52b1 : ((bt a0 t274) != 32) = true := bne_iff_ne.mpr c52
          replace H := Option.bind_eq_some_iff.mp H
          obtain ⟨⟨t285, t286, t287, t290⟩, A600, H⟩ := H
          replace H : (some (t285, t286, t287, t290)) = some (r1, r2, r3, r4) := H
          have A60 := Aside0.mk A600
          clear A600
          simp only [Option.some.injEq, Prod.mk.injEq] at H
          obtain ⟨rfl, rfl, rfl, rfl⟩ := H
          try go_wp2
          have n0_ := Aside0.mk (Kd.R_drew HO_262002.out)
          have n1_ := Aside0.mk (Kd.R_drew HO_276002.out)
          have n2_ := Aside0.mk (blk_drew BK261.out)
          have n3_ := Aside0.mk (blk_drew BK262.out)
          have n4_ := Aside0.mk (blk_drew BK275.out)
          have n5_ := Aside0.mk (Kept.drew HK.out)
          have n6_ := Aside0.mk (below_drew1 HB.out)
          clear HO_262002
          clear HO_276002
          clear BK261
          clear BK262
          clear BK275
          clear HK
          clear HB
          have HO_262002 := n0_
          have HO_276002 := n1_
          have BK261 := n2_
          have BK262 := n3_
          have BK275 := n4_
          have HK := n5_
          have HB := n6_
          clear n0_ n1_ n2_ n3_ n4_ n5_ n6_
          refine start_ (n := 11) (S := fun w' => w'.cell? ⟨gb261, 0, none⟩ = some (.int .i64 a1_0) ∧ w'.cell? ⟨gb261, 1, none⟩ = some (.int .i64 a1_1) ∧ w'.cell? ⟨gb261, 2, none⟩ = some (.slice Ao12 x262002_1.length co12) ∧ w'.cell? ⟨gb261, 3, none⟩ = some (.int .i64 x262003_1) ∧ w'.cell? ⟨gb275, 0, none⟩ = some (.int .i64 t269) ∧ w'.cell? ⟨gb275, 1, none⟩ = some (.int .i64 t270) ∧ w'.cell? ⟨gb275, 2, none⟩ = some (.slice Ao18 t271.length co18) ∧ w'.cell? ⟨gb275, 3, none⟩ = some (.int .i64 t274)) (ds := [10]) #[false, false, false, false, false, false, false, false, false, false, false] (by kernel_rfl) rfl rfl ⟨(blk_cell BK261.out 0).trans rfl, (blk_cell BK261.out 1).trans rfl, (blk_cell BK261.out 2).trans rfl, (blk_cell BK261.out 3).trans rfl, (blk_cell BK275.out 0).trans rfl, (blk_cell BK275.out 1).trans rfl, (blk_cell BK275.out 2).trans rfl, (blk_cell BK275.out 3).trans rfl⟩ (fun hHeld => ?_); refine with_tabW sleuthref1_parts.tab5 sleuthref1_parts.bits5 (fun HT_ HW_ => ?_)
          generalize wc.drew = w61 at HO_262002 HO_276002 BK261 BK262 BK275 HK HB hHeld ⊢
          refine pA_ 0 26 #[true, false, false, false, false, false, false, false, false, false, false] HT_.out ?_
          refine pA_ 2 28 #[true, false, true, false, false, false, false, false, false, false, false] HT_.out ?_
          refine pA_ 3 29 #[true, false, true, true, false, false, false, false, false, false, false] HT_.out ?_
          refine pA_ 4 30 #[true, false, true, true, true, false, false, false, false, false, false] HT_.out ?_
          refine tA_ 1 27 #[true, true, true, true, true, false, false, false, false, false, false] HT_.out HW_.out hHeld ?_
          refine tA_ 5 31 #[true, true, true, true, true, true, false, false, false, false, false] HT_.out HW_.out hHeld ?_
          refine pA_ 6 32 #[true, true, true, true, true, true, true, false, false, false, false] HT_.out ?_
          refine one_ (i := 7) (N := some 33) #[true, true, true, true, true, true, true, true, false, false, false] rfl rfl (one_of HT_.out (by kernel_rfl)) (by decide) (fun K hK => ?_)
          refine value_ (w1 := ?_) (v := ?_) (by rfl) rfl ?_ ?_
          rotate_left 2
          · go_simp
            constructor
            · rfl
            · rfl
          refine hK.out _ _ ⟨(blk_cell (blk_alloc BK261.out _) 0).trans rfl, (blk_cell (blk_alloc BK261.out _) 1).trans rfl, (blk_cell (blk_alloc BK261.out _) 2).trans rfl, (blk_cell (blk_alloc BK261.out _) 3).trans rfl, (blk_cell (blk_alloc BK275.out _) 0).trans rfl, (blk_cell (blk_alloc BK275.out _) 1).trans rfl, (blk_cell (blk_alloc BK275.out _) 2).trans rfl, (blk_cell (blk_alloc BK275.out _) 3).trans rfl⟩ (fun hHeld => ?_)
          clear hK K
          refine norm_ (a' := ?_) ?_ ?_
          rotate_left
          · show Act.put _ (some 33) _ = _
            simp only [Act.put, List.setIfInBounds_toArray, List.set_cons_zero, List.set_cons_succ, i64_w, i32_w]
            rfl
          refine one_ (i := 8) (N := some 34) #[true, true, true, true, true, true, true, true, true, false, false] rfl rfl (one_of HT_.out (by kernel_rfl)) (by decide) (fun K hK => ?_)
          refine Kd.R_append_step Kd.string (w0 := w0) w0.heap.size (by rfl) (.tmp 27) (.tmp 33) 31 9 (.string ⟨#[]⟩) 16 rfl Tryd.underlying31 info9 rfl (by decide) (by omega) (.slice Ao12 x262002_1.length co12) x262002_1 (a0.extract (x2_1 : Int).toNat (t274 : Int).toNat) [.string (a0.extract (x2_1 : Int).toNat (t274 : Int).toNat)] (fun k_ => (P1_2_ k_ ∨ w.heap.size ≤ k_) ∧ some k_ ≠ (.slice Ao18 t271.length co18 : Value).ownBlock) (fun _ => False) rfl rfl ?aP (fun _ hk => hk.elim) ?aF ?aO ?aB ?aS ?aL ?_
          (case aP => exact rfl)
          (case aB => exact hC_)
          (case aF => exact (fun k_ hk => ⟨(.inr (Nat.le_trans (by first | exact HK.out.1 | exact (show Kept w _ (fun k_ => P1_2_ k_) from by repeat (first | (with_reducible first | exact HK.out | apply Kept.alloc | apply Kept.drewN | apply Kept.drew | refine Kept.setCell ?_ (.inr GW261.out) _ | refine Kept.setCell ?_ (.inr GW262.out) _ | refine Kept.setCell ?_ (.inr GW275.out) _) | exact HK.out)).1) hk)), Kd.fresh' (Kd.R_lt (hR_ HO_276002.out)) k_ hk⟩))
          (case aO => exact (hR_ HO_262002.out))
          (case aS => exact (below_size hC_))
          (case aL => have := LMc36.out; omega)
          intro v283 w62 ho hb hg hat
          rw [← Ny282.out] at ho
          have n0_ := Aside0.mk (Kd.R_after (ok := (fun k_ => (P1_2_ k_ ∨ w.heap.size ≤ k_))) (hR_ HO_276002.out) hg hat)
          have n1_ := Aside0.mk (blk_grown (hK_ BK261.out) hg (Kd.R_ne HO_262002.out BK261.out (by decide)))
          have n2_ := Aside0.mk (blk_grown (hK_ BK262.out) hg (Kd.R_ne HO_262002.out BK262.out (by decide)))
          have n3_ := Aside0.mk (blk_grown (hK_ BK275.out) hg (Kd.R_ne HO_262002.out BK275.out (by decide)))
          have n4_ := Aside0.mk (hb)
          have n5_ := Aside0.mk (Kept.of_grown (S := (fun k_ => P1_2_ k_)) hg (by repeat (first | (with_reducible first | exact HK.out | apply Kept.alloc | apply Kept.drewN | apply Kept.drew | refine Kept.setCell ?_ (.inr GW261.out) _ | refine Kept.setCell ?_ (.inr GW262.out) _ | refine Kept.setCell ?_ (.inr GW275.out) _) | exact HK.out)) (fun k_ e_ => (HO_262002.out.1 k_ e_).1))
          have n6_ := Aside0.mk (ho)
          clear HO_276002
          clear BK261
          clear BK262
          clear BK275
          clear HB
          clear HK
          clear HO_262002
          have HO_276002 := n0_
          have BK261 := n1_
          have BK262 := n2_
          have BK275 := n3_
          have HB := n4_
          have HK := n5_
          have HO284 := n6_
          clear n0_ n1_ n2_ n3_ n4_ n5_ n6_
          clear ho hb hg hat
          obtain ⟨Ao63, co63, eo63⟩ := Kd.R_slice HO284.out
          (first | subst eo63 | (injection eo63 with f1_ f2_ f3_; have f4_ := f1_.symm; have f5_ := f3_.symm; clear f1_ f2_ f3_; subst f4_; subst f5_))
          refine hK.out _ _ ⟨(blk_cell BK261.out 0).trans rfl, (blk_cell BK261.out 1).trans rfl, (blk_cell BK261.out 2).trans rfl, (blk_cell BK261.out 3).trans rfl, (blk_cell BK275.out 0).trans rfl, (blk_cell BK275.out 1).trans rfl, (blk_cell BK275.out 2).trans rfl, (blk_cell BK275.out 3).trans rfl⟩ (fun hHeld => ?_)
          clear hK K
          refine norm_ (a' := ?_) ?_ ?_
          rotate_left
          · show Act.put _ (some 34) _ = _
            simp only [Act.put, List.setIfInBounds_toArray, List.set_cons_zero, List.set_cons_succ, i64_w, i32_w]
            rfl
          refine pA_ 9 35 #[true, true, true, true, true, true, true, true, true, true, false] HT_.out ?_
          refine last_ (i := 10) (N := none) #[true, true, true, true, true, true, true, true, true, true, true] rfl rfl (one_of HT_.out (by kernel_rfl)) (by decide) (fun K hK => ?_)
          have hs64 := bc2_ BK261.out
          have hfs64 := blk_frozen BK261.out 2
          have hns64_1 := NB262_261.out
          have hns64_2 := NB275_261.out
          have hms64_1 := NB261_262.out
          have hms64_2 := NB261_275.out
          refine skip_ (w1 := ?_) (by rfl) rfl ?_ ?_
          rotate_left
          · go_simp
            rfl
          refine hK.out _ _ ?_
          clear hK K
          refine done_ (done_of HT_.out (by kernel_rfl)) ?_
          have hnb65 := NB275_261.out
          have hnc65 := NB261_275.out
          have hnb66 := NB275_262.out
          have hnc66 := NB262_275.out
          obtain ⟨hcz67_0, hcz67_1, hcz67_2, hcz67_3, hfz67_0, hfz67_1, hfz67_2, hfz67_3⟩ := bx4_ BK275.out
          have p39 : 0 ≤ (t274 : Int) := of_decide_eq_true hA_
          have q39 : t274 < (a0.size : Int) := of_decide_eq_true hA_
          have hx39 := bt_at a0 t274
          replace p39 := eq_true p39
          replace q39 := eq_true q39
          have p51 : 0 ≤ (t274 : Int) := of_decide_eq_true hA_
          have q51 : t274 < (a0.size : Int) := of_decide_eq_true hA_
          have hx51 := bt_at a0 t274
          replace p51 := eq_true p51
          replace q51 := eq_true q51
          try go_wp2_with (first | ((with_reducible refine gate_callee (f := 81) rfl ?_); refine goesL_ (some 51) rfl rfl Tryd.func81 (by kernel_rfl) rfl #[] rfl hL_ ?_; (with_reducible refine (sleuthref1_bad.calls  t285 t286 t287 t290 _ A60.out).mono ?_); rintro e w68 ⟨v288, rfl, ho0, hb⟩; refine ⟨_, rfl, ?_⟩; have n0_ := Aside0.mk (Kd.R_elder' (by (with_reducible repeat (first | apply Kd.R_alloc | apply Kd.R_drewN | apply Kd.R_drew)); exact (Kd.R_mono (rF_ (Kd.R_types HO_276002.out BK261.out (by decide))) (fun _ h_ => h_.1))) (Kd.R_base ho0) hb); have n1_ := Aside0.mk (Kd.R_elder' (by (with_reducible repeat (first | apply Kd.R_alloc | apply Kd.R_drewN | apply Kd.R_drew)); exact (Kd.R_mono (rF_ (Kd.R_types HO284.out BK261.out (by decide))) (fun _ h_ => h_.1))) (Kd.R_base ho0) hb); have n2_ := Aside0.mk (Kd.R_lower (Kd.R_new' (Kd.R_new' (Kd.R_newM (M := fun k_ => (P1_2_ k_ ∨ w.heap.size ≤ k_)) ho0 (show Kept w _ (fun k_ => P1_2_ k_) from by repeat (first | (with_reducible first | exact HK.out | apply Kept.alloc | apply Kept.drewN | apply Kept.drew | refine Kept.setCell ?_ (.inr GW261.out) _ | refine Kept.setCell ?_ (.inr GW262.out) _ | refine Kept.setCell ?_ (.inr GW275.out) _) | exact HK.out)).1 (fun k_ h_ => .inr h_)) (Kd.R_lt (by (with_reducible repeat (first | apply Kd.R_alloc | apply Kd.R_drewN | apply Kd.R_drew)); exact (Kd.R_mono (rF_ (Kd.R_types HO_276002.out BK261.out (by decide))) (fun _ h_ => h_.1))))) (Kd.R_lt (by (with_reducible repeat (first | apply Kd.R_alloc | apply Kd.R_drewN | apply Kd.R_drew)); exact (Kd.R_mono (rF_ (Kd.R_types HO284.out BK261.out (by decide))) (fun _ h_ => h_.1))))) (below_size hC_)); have n3_ := Aside0.mk (blk_below (g := gb261) (o := .cells #[.int .i64 a1_0, .int .i64 a1_1, .slice Ao63 y282.length co63, .int .i64 x262003_1] 109 (0, 0)) (bP_ (hK_ BK261.out)) hb); have n4_ := Aside0.mk (blk_below (g := gb262) (o := .cells #[.int .i64 x263000_1, .int .i64 x263001_1, .slice none 0 0, .int .i64 x263003_1] 109 (0, 0)) (bF_ (hK_ BK262.out) NB262_261.out) hb); have n5_ := Aside0.mk (blk_below (g := gb275) (o := .cells #[.int .i64 t269, .int .i64 t270, .slice Ao18 t271.length co18, .int .i64 t274] 109 (0, 0)) (bF_ (hK_ BK275.out) NB275_261.out) hb); have n6_ := Aside0.mk (Kept.below (S := (fun k_ => P1_2_ k_)) (by repeat (first | (with_reducible first | exact HK.out | apply Kept.alloc | apply Kept.drewN | apply Kept.drew | refine Kept.setCell ?_ (.inr GW261.out) _ | refine Kept.setCell ?_ (.inr GW262.out) _ | refine Kept.setCell ?_ (.inr GW275.out) _) | exact HK.out)) hb); have n7_ := Aside0.mk (below_step hC_ hb); clear HO_276002 HO284 BK261 BK262 BK275 HK HB; have HO_276002 := n0_; have HO284 := n1_; have HO289 := n2_; have BK261 := n3_; have BK262 := n4_; have BK275 := n5_; have HK := n6_; have HB := n7_; clear n0_ n1_ n2_ n3_ n4_ n5_ n6_ n7_; (try clear hb); (try clear hb2); (try clear hk); (try clear hi); (try clear ho0); have hnb69 := NB262_261.out; have hnc69 := NB261_262.out; obtain ⟨hcz70_0, hcz70_1, hcz70_2, hcz70_3, hfz70_0, hfz70_1, hfz70_2, hfz70_3⟩ := bx4_ BK262.out; obtain ⟨Ao71, co71, eo71⟩ := Kd.R_slice HO289.out; subst eo71))
          refine bodyPost_ret (results_cell_row rfl _ _ gb262 109 #[.int .i64 t285, .int .i64 t286, .slice Ao71 t287.length co71, .int .i64 t290] (0, 0) _ rfl (bP_ (bP_ (bP_ (bP_ (hK_ BK262.out))))) Tryd.underlying109 rfl (by kernel_rfl)) rfl ?_
          exact ⟨_, hV_, hR_ (Kd.R_mono (rF_ (rF_ (rF_ (rF_ (Kd.R_types HO289.out BK262.out (by decide)))))) (fun _ hk => hk.1.1.1.1)), hC_, by repeat (first | (with_reducible first | exact HK.out | apply Kept.alloc | apply Kept.drewN | apply Kept.drew | refine Kept.setCell ?_ (.inr GW261.out) _ | refine Kept.setCell ?_ (.inr GW262.out) _ | refine Kept.setCell ?_ (.inr GW275.out) _) | exact HK.out)⟩
/-! ### sleuthref1_term: function 73 -/
set_option maxHeartbeats 8000000 in
set_option maxRecDepth 100000 in
theorem sleuthref1_term.step (k : Nat) (ih : ∀ m, m < k → sleuthref1_term.Said m) (ih_sleuthref1_parts : ∀ m, m < k → sleuthref1_parts.Said m) : sleuthref1_term.Said k := by
  intro a0 a1 r1 r2 r3 r4 w h
  cases k with
  | zero => exact absurd h (by simp [sleuthref1_term.f])
  | succ k =>
  simp only [sleuthref1_term.f] at h
  have hu109 := Tryd.underlying109
  have HB := Aside0.mk (Below.refl w.heap.size w)
  have H : (if a1 ≥ (a0.size : Int) then ((sleuthref1_bad.f).bind fun bt293 => (some (bt293.1, bt293.2.1, bt293.2.2.1, bt293.2.2.2))) else (if 0 ≤ a1 then (if a1 < (a0.size : Int) then (if (bt a0 a1) = 95 then (some (0, 0, ([] : List ByteArray), wrap64 (a1 + 1))) else (if (bt a0 a1) = 33 then (some (3, 0, ([] : List ByteArray), wrap64 (a1 + 1))) else (if (bt a0 a1) = 64 then (if 0 ≤ (wrap64 (a1 + 1)) then (if (wrap64 (a1 + 1)) ≤ (a0.size : Int) then ((sleuthref1_digits.f k (a0.extract ((wrap64 (a1 + 1)) : Int).toNat a0.size)).bind fun bt299 => (if bt299.2 = 0 then (sleuthref1_term.j0 k a0 a1 bt299.1 bt299.2 true) else (sleuthref1_term.j0 k a0 a1 bt299.1 bt299.2 (decide (bt299.1 > 99))))) else (none)) else (none)) else (if (bt a0 a1) = 45 then (if 0 ≤ (wrap64 (a1 + 1)) then (if (wrap64 (a1 + 1)) ≤ (a0.size : Int) then ((sleuthref1_digits.f k (a0.extract ((wrap64 (a1 + 1)) : Int).toNat a0.size)).bind fun bt314 => (if bt314.2 = 0 then ((sleuthref1_bad.f).bind fun bt316 => (some (bt316.1, bt316.2.1, bt316.2.2.1, bt316.2.2.2))) else (if bt314.1 = 0 then ((sleuthref1_bad.f).bind fun bt322 => (some (bt322.1, bt322.2.1, bt322.2.2.1, bt322.2.2.2))) else ((sleuthref1_NumMay.f (wrap64 (-bt314.1))).bind fun t328 => (if t328 = true then (some (1, wrap64 (-bt314.1), ([] : List ByteArray), wrap64 ((wrap64 (a1 + 1)) + bt314.2))) else ((sleuthref1_bad.f).bind fun bt329 => (some (bt329.1, bt329.2.1, bt329.2.2.1, bt329.2.2.2)))))))) else (none)) else (none)) else (if a1 ≤ (a0.size : Int) then ((sleuthref1_digits.f k (a0.extract (a1 : Int).toNat a0.size)).bind fun bt335 => (if bt335.2 = 0 then ((sleuthref1_bad.f).bind fun bt337 => (some (bt337.1, bt337.2.1, bt337.2.2.1, bt337.2.2.2))) else ((sleuthref1_NumMay.f bt335.1).bind fun t343 => (if t343 = true then (some (1, bt335.1, ([] : List ByteArray), wrap64 (a1 + bt335.2))) else ((sleuthref1_bad.f).bind fun bt344 => (some (bt344.1, bt344.2.1, bt344.2.2.1, bt344.2.2.2))))))) else (none)))))) else (none)) else (none))) = some (r1, r2, r3, r4) := h
  clear h
  by_cases c3 : a1 ≥ (a0.size : Int)
  case pos =>
    rw [if_pos c3] at H
    have c3b0 : decide ((a0.size : Int) ≤ a1) = true := decide_eq_true c3
    clear c3
    replace H := Option.bind_eq_some_iff.mp H
    obtain ⟨⟨t293, t294, t295, t298⟩, A40, H⟩ := H
    replace H : (some (t293, t294, t295, t298)) = some (r1, r2, r3, r4) := H
    have A4 := Aside0.mk A40
    clear A40
    simp only [Option.some.injEq, Prod.mk.injEq] at H
    obtain ⟨rfl, rfl, rfl, rfl⟩ := H
    go_enter Tryd.func73, Tryd.ntmps73
    go_wp2_with (first | ((with_reducible refine gate_dst (N := 4) rfl ?_); refine boxE_ 4 #[.int .i64 0, .int .i64 0, .slice none 0 0, .int .i64 0] 109 ?_; intro gb292 hg w5 hbox hb; have n0_ := Aside0.mk (below_step hB_ hb); have n1_ := Aside0.mk (hbox); have n2_ := Aside0.mk ((gE_ hg : w.heap.size ≤ gb292)); have n3_ := Aside0.mk ((gE_ hg : w.heap.size ≤ gb292)); clear HB; have HB := n0_; have BK292 := n1_; have GW292 := n2_; have GE292 := n3_; clear n0_ n1_ n2_ n3_; clear hb hbox hg) | ((with_reducible refine gate_callee (f := 81) rfl ?_); refine goesL_ (some 16) rfl rfl Tryd.func81 (by kernel_rfl) rfl #[] rfl hL_ ?_; (with_reducible refine (sleuthref1_bad.calls  t293 t294 t295 t298 _ A4.out).mono ?_); rintro e w6 ⟨v296, rfl, ho0, hb⟩; refine ⟨_, rfl, ?_⟩; have n0_ := Aside0.mk (Kd.R_lower ho0 (below_size hC_)); have n1_ := Aside0.mk (bB_ BK292.out hb); have n2_ := Aside0.mk (below_step hC_ hb); clear BK292 HB; have HO297 := n0_; have BK292 := n1_; have HB := n2_; clear n0_ n1_ n2_; (try clear hb); (try clear hb2); (try clear hk); (try clear hi); (try clear ho0); obtain ⟨hcz7_0, hcz7_1, hcz7_2, hcz7_3, hfz7_0, hfz7_1, hfz7_2, hfz7_3⟩ := bx4_ BK292.out; obtain ⟨Ao8, co8, eo8⟩ := Kd.R_slice HO297.out; subst eo8))
    refine bodyPost_ret (results_cell_row rfl _ _ gb292 109 #[.int .i64 t293, .int .i64 t294, .slice Ao8 t295.length co8, .int .i64 t298] (0, 0) _ rfl (bP_ (bP_ (bP_ (bP_ (hK_ BK292.out))))) Tryd.underlying109 rfl (by kernel_rfl)) rfl ?_
    exact ⟨_, hV_, hR_ (Kd.R_mono (rF_ (rF_ (rF_ (rF_ (Kd.R_types HO297.out BK292.out (by decide)))))) (fun _ hk => trivial)), hC_⟩
  rw [if_neg c3] at H
  have c3b0 : decide ((a0.size : Int) ≤ a1) = false := decide_eq_false c3
  clear c3
  replace H := ifI_ H; obtain ⟨c9, H⟩ := H
  have c9b0 : decide (0 ≤ a1) = true := decide_eq_true c9
  clear c9
  replace H := ifI_ H; obtain ⟨c10, H⟩ := H
  have c10b0 : decide (a1 < (a0.size : Int)) = true := decide_eq_true c10
  clear c10
  by_cases c12 : (bt a0 a1) = 95
  case pos =>
    rw [if_pos c12] at H
    have c12b0 : ((bt a0 a1) == 95) = true := beq_iff_eq.mpr c12
    have c12b1 : ((bt a0 a1) != 95) = false := bne_eq_false_iff_eq.mpr c12
    clear c12
    simp only [Option.some.injEq, Prod.mk.injEq] at H
    obtain ⟨rfl, rfl, rfl, rfl⟩ := H
    go_enter Tryd.func73, Tryd.ntmps73
    go_wp2_with (first | ((with_reducible refine gate_dst (N := 4) rfl ?_); refine boxE_ 4 #[.int .i64 0, .int .i64 0, .slice none 0 0, .int .i64 0] 109 ?_; intro gb292 hg w13 hbox hb; have n0_ := Aside0.mk (below_step hB_ hb); have n1_ := Aside0.mk (hbox); have n2_ := Aside0.mk ((gE_ hg : w.heap.size ≤ gb292)); have n3_ := Aside0.mk ((gE_ hg : w.heap.size ≤ gb292)); clear HB; have HB := n0_; have BK292 := n1_; have GW292 := n2_; have GE292 := n3_; clear n0_ n1_ n2_ n3_; clear hb hbox hg; have p11 : 0 ≤ (a1 : Int) := of_decide_eq_true hA_; have q11 : a1 < (a0.size : Int) := of_decide_eq_true hA_; have hx11 := bt_at a0 a1; replace p11 := eq_true p11; replace q11 := eq_true q11; obtain ⟨hcz14_0, hcz14_1, hcz14_2, hcz14_3, hfz14_0, hfz14_1, hfz14_2, hfz14_3⟩ := bx4_ BK292.out))
    refine bodyPost_ret (results_cell_row rfl _ _ gb292 109 #[.int .i64 0, .int .i64 0, .slice none 0 0, .int .i64 (wrap64 (a1 + 1))] (0, 0) _ rfl (bP_ (bP_ (bP_ (bP_ (hK_ BK292.out))))) Tryd.underlying109 rfl (by kernel_rfl)) rfl ?_
    exact ⟨_, hV_, by first | exact Kd.R_nil _ _ _ _ _ | exact Kd.N_nil _ _ _ _ _ | exact Kd.V_nil _ _ _ _ _ | exact Kd.Q_nil _ _ _ _ _ | exact Kd.S_nil _ _ _ _ _, hC_⟩
  rw [if_neg c12] at H
  have c12b0 : ((bt a0 a1) == 95) = false := beq_eq_false_iff_ne.mpr c12
  have c12b1 : ((bt a0 a1) != 95) = true := bne_iff_ne.mpr c12
  by_cases c15 : (bt a0 a1) = 33
  case pos =>
    rw [if_pos c15] at H
    have c15b0 : ((bt a0 a1) == 33) = true := beq_iff_eq.mpr c15
    have c15b1 : ((bt a0 a1) != 33) = false := bne_eq_false_iff_eq.mpr c15
    clear c15
    simp only [Option.some.injEq, Prod.mk.injEq] at H
    obtain ⟨rfl, rfl, rfl, rfl⟩ := H
    go_enter Tryd.func73, Tryd.ntmps73
    go_wp2_with (first | ((with_reducible refine gate_dst (N := 4) rfl ?_); refine boxE_ 4 #[.int .i64 0, .int .i64 0, .slice none 0 0, .int .i64 0] 109 ?_; intro gb292 hg w16 hbox hb; have n0_ := Aside0.mk (below_step hB_ hb); have n1_ := Aside0.mk (hbox); have n2_ := Aside0.mk ((gE_ hg : w.heap.size ≤ gb292)); have n3_ := Aside0.mk ((gE_ hg : w.heap.size ≤ gb292)); clear HB; have HB := n0_; have BK292 := n1_; have GW292 := n2_; have GE292 := n3_; clear n0_ n1_ n2_ n3_; clear hb hbox hg; have p11 : 0 ≤ (a1 : Int) := of_decide_eq_true hA_; have q11 : a1 < (a0.size : Int) := of_decide_eq_true hA_; have hx11 := bt_at a0 a1; replace p11 := eq_true p11; replace q11 := eq_true q11; obtain ⟨hcz17_0, hcz17_1, hcz17_2, hcz17_3, hfz17_0, hfz17_1, hfz17_2, hfz17_3⟩ := bx4_ BK292.out))
    refine bodyPost_ret (results_cell_row rfl _ _ gb292 109 #[.int .i64 3, .int .i64 0, .slice none 0 0, .int .i64 (wrap64 (a1 + 1))] (0, 0) _ rfl (bP_ (bP_ (bP_ (bP_ (hK_ BK292.out))))) Tryd.underlying109 rfl (by kernel_rfl)) rfl ?_
    exact ⟨_, hV_, by first | exact Kd.R_nil _ _ _ _ _ | exact Kd.N_nil _ _ _ _ _ | exact Kd.V_nil _ _ _ _ _ | exact Kd.Q_nil _ _ _ _ _ | exact Kd.S_nil _ _ _ _ _, hC_⟩
  rw [if_neg c15] at H
  have c15b0 : ((bt a0 a1) == 33) = false := beq_eq_false_iff_ne.mpr c15
  have c15b1 : ((bt a0 a1) != 33) = true := bne_iff_ne.mpr c15
  by_cases c18 : (bt a0 a1) = 64
  case pos =>
    rw [if_pos c18] at H
    have c18b0 : ((bt a0 a1) == 64) = true := beq_iff_eq.mpr c18
    have c18b1 : ((bt a0 a1) != 64) = false := bne_eq_false_iff_eq.mpr c18
    clear c18
    obtain ⟨ji19, hji19⟩ : ∃ j_ : Int, (wrap64 (a1 + 1)) = j_ := ⟨_, rfl⟩
    replace H : (if 0 ≤ (ji19) then (if (ji19) ≤ (a0.size : Int) then ((sleuthref1_digits.f k (a0.extract ((ji19) : Int).toNat a0.size)).bind fun bt299 => (if bt299.2 = 0 then (sleuthref1_term.j0 k a0 a1 bt299.1 bt299.2 true) else (sleuthref1_term.j0 k a0 a1 bt299.1 bt299.2 (decide (bt299.1 > 99))))) else (none)) else (none)) = some (r1, r2, r3, r4) := by first | (rw [hji19] at H; exact H) | (simp only [hji19] at H ⊢; exact H)
    have hji19w : (IntKind.i64.wrap (a1 + 1)) = ji19 := (i64_w _).trans hji19
    replace H := ifI_ H; obtain ⟨c20, H⟩ := H
    have c20b0 := eq_true c20
    have c20b1 : decide (0 ≤ (ji19)) = true := decide_eq_true c20
    clear c20
    replace H := ifI_ H; obtain ⟨c21, H⟩ := H
    have c21b0 := eq_true c21
    have c21b1 : decide ((ji19) ≤ (a0.size : Int)) = true := decide_eq_true c21
    clear c21
    replace H := Option.bind_eq_some_iff.mp H
    obtain ⟨⟨t299, t300⟩, A220, H⟩ := H
    replace H : (if t300 = 0 then (sleuthref1_term.j0 k a0 a1 t299 t300 true) else (sleuthref1_term.j0 k a0 a1 t299 t300 (decide (t299 > 99)))) = some (r1, r2, r3, r4) := H
    have A22 := Aside0.mk A220
    clear A220
    have HC23 := Aside0.mk H
    clear H
    go_enter Tryd.func73, Tryd.ntmps73
    go_upto_region 10 with (first | ((with_reducible refine gate_dst (N := 4) rfl ?_); refine boxE_ 4 #[.int .i64 0, .int .i64 0, .slice none 0 0, .int .i64 0] 109 ?_; intro gb292 hg w24 hbox hb; have n0_ := Aside0.mk (below_step hB_ hb); have n1_ := Aside0.mk (hbox); have n2_ := Aside0.mk ((gE_ hg : w.heap.size ≤ gb292)); have n3_ := Aside0.mk ((gE_ hg : w.heap.size ≤ gb292)); clear HB; have HB := n0_; have BK292 := n1_; have GW292 := n2_; have GE292 := n3_; clear n0_ n1_ n2_ n3_; clear hb hbox hg; have p11 : 0 ≤ (a1 : Int) := of_decide_eq_true hA_; have q11 : a1 < (a0.size : Int) := of_decide_eq_true hA_; have hx11 := bt_at a0 a1; replace p11 := eq_true p11; replace q11 := eq_true q11) | ((with_reducible refine gate_callee (f := 82) rfl ?_); refine goesL_ (some 37) rfl rfl Tryd.func82 (by kernel_rfl) rfl #[.string (a0.extract ((ji19) : Int).toNat a0.size)] rfl (by (try simp only [List.map_toArray, List.map_cons, List.map_nil]); first | done | (simp only [hji19]; rfl) | rfl | (simp only [List.length_drop, List.length_take]; rfl)) ?_; (with_reducible refine (sleuthref1_digits.calls k (a0.extract ((ji19) : Int).toNat a0.size) t299 t300 _ A22.out).mono ?_); rintro e w' ⟨rfl, ⟨nd, rfl⟩⟩; refine ⟨_, rfl, ?_⟩))
    (try simp only [Act.put, List.setIfInBounds_toArray, List.set_cons_zero, List.set_cons_succ])
    go_cut [45] (fun v45 wc => ∃ (kq : Nat) (x45_22 : Bool), v45 = .bool x45_22 ∧ Aside0 (sleuthref1_term.j0 kq a0 a1 t299 t300 x45_22 = some (r1, r2, r3, r4)) ∧ Aside0 (kq ≤ k) ∧ Aside0 (wc.heap[gb292]? = some (.cells #[.int .i64 0, .int .i64 0, (.slice none 0 0), .int .i64 0] 109 (0, 0))) ∧ Aside0 (Below w.heap.size w wc))
    case first =>
      have H := HC23.out
      clear HC23
      by_cases c25 : t300 = 0
      case neg =>
        rw [if_neg c25] at H
        have c25b0 : (t300 == 0) = false := beq_eq_false_iff_ne.mpr c25
        have c25b1 : (t300 != 0) = true := bne_iff_ne.mpr c25
        (first | rw [c25b0] | (simp only [i64_w, i32_w]; rw [c25b0]) | skip)
        have H' := Aside0.mk H
        clear H
        go_wp2
        go_meet
        case rel => exact ⟨_, (decide (t299 > 99)), hW_, H', ⟨by first | omega | exact Nat.le_refl _⟩, ⟨(hK_ BK292.out)⟩, ⟨hC_⟩⟩
      rw [if_pos c25] at H
      have c25b0 : (t300 == 0) = true := beq_iff_eq.mpr c25
      have c25b1 : (t300 != 0) = false := bne_eq_false_iff_eq.mpr c25
      clear c25
      (first | rw [c25b0] | (simp only [i64_w, i32_w]; rw [c25b0]) | skip)
      have H' := Aside0.mk H
      clear H
      go_wp2
      go_meet
      case rel => exact ⟨_, (true), hW_, H', ⟨by first | omega | exact Nat.le_refl _⟩, ⟨(hK_ BK292.out)⟩, ⟨hC_⟩⟩
    case rest =>
      clear HC23
      try clear c1
      try clear p1
      try clear q1
      try clear hx1
      try clear c2
      try clear p2
      try clear c3
      try clear c3b0
      try clear p6
      try clear c7
      try clear c8
      try clear c9
      try clear c9b0
      try clear c10
      try clear c10b0
      try clear p11
      try clear q11
      try clear hx11
      try clear c12
      try clear c12b0
      try clear c12b1
      try clear c15
      try clear c15b0
      try clear c15b1
      try clear c18
      try clear c18b0
      try clear c18b1
      try clear c20
      try clear c20b0
      try clear c20b1
      try clear c21
      try clear c21b0
      try clear c21b1
      try clear c25
      try clear c25b0
      try clear c25b1
      try clear hji19
      try clear hji19w
      try clear hcz14_0
      try clear hcz14_1
      try clear hcz14_2
      try clear hcz14_3
      try clear hcz17_0
      try clear hcz17_1
      try clear hcz17_2
      try clear hcz17_3
      try clear hcz7_0
      try clear hcz7_1
      try clear hcz7_2
      try clear hcz7_3
      try clear hfz14_0
      try clear hfz14_1
      try clear hfz14_2
      try clear hfz14_3
      try clear hfz17_0
      try clear hfz17_1
      try clear hfz17_2
      try clear hfz17_3
      try clear hfz7_0
      try clear hfz7_1
      try clear hfz7_2
      try clear hfz7_3
      try clear p11
      try clear q11
      obtain ⟨kq, x45_22, rfl, HA, HJ22, BK292, HB⟩ := hcut
      cases kq with
      | zero => exact absurd HA.out (by simp [sleuthref1_term.j0])
      | succ kj22 =>
        have H := HA.out
        clear HA
        simp only [sleuthref1_term.j0] at H
        by_cases c26 : x45_22 = true
        case pos =>
          subst c26
          have H1 : ((sleuthref1_bad.f).bind fun bt301 => (some (bt301.1, bt301.2.1, bt301.2.2.1, bt301.2.2.2))) = some (r1, r2, r3, r4) := by rw [if_pos rfl] at H; exact H
          clear H
          have H := H1
          clear H1
          replace H := Option.bind_eq_some_iff.mp H
          obtain ⟨⟨t301, t302, t303, t306⟩, A270, H⟩ := H
          replace H : (some (t301, t302, t303, t306)) = some (r1, r2, r3, r4) := H
          have A27 := Aside0.mk A270
          clear A270
          simp only [Option.some.injEq, Prod.mk.injEq] at H
          obtain ⟨rfl, rfl, rfl, rfl⟩ := H
          go_wp2_with (first | ((with_reducible refine gate_callee (f := 81) rfl ?_); refine goesL_ (some 46) rfl rfl Tryd.func81 (by kernel_rfl) rfl #[] rfl hL_ ?_; (with_reducible refine (sleuthref1_bad.calls  t301 t302 t303 t306 _ A27.out).mono ?_); rintro e w28 ⟨v304, rfl, ho0, hb⟩; refine ⟨_, rfl, ?_⟩; have n0_ := Aside0.mk (Kd.R_lower ho0 (below_size hC_)); have n1_ := Aside0.mk (bB_ BK292.out hb); have n2_ := Aside0.mk (below_step hC_ hb); clear BK292 HB; have HO305 := n0_; have BK292 := n1_; have HB := n2_; clear n0_ n1_ n2_; (try clear hb); (try clear hb2); (try clear hk); (try clear hi); (try clear ho0); obtain ⟨hcz29_0, hcz29_1, hcz29_2, hcz29_3, hfz29_0, hfz29_1, hfz29_2, hfz29_3⟩ := bx4_ BK292.out; obtain ⟨Ao30, co30, eo30⟩ := Kd.R_slice HO305.out; subst eo30))
          refine bodyPost_ret (results_cell_row rfl _ _ gb292 109 #[.int .i64 t301, .int .i64 t302, .slice Ao30 t303.length co30, .int .i64 t306] (0, 0) _ rfl (bP_ (bP_ (bP_ (bP_ (hK_ BK292.out))))) Tryd.underlying109 rfl (by kernel_rfl)) rfl ?_
          exact ⟨_, by first | rfl | (simp [errW_none, errW_some] <;> rfl) | (simp only [← hji19]; first | rfl | (simp [errW_none, errW_some] <;> rfl)) | (simp [*, errW_none, errW_some] <;> rfl), hR_ (Kd.R_mono (rF_ (rF_ (rF_ (rF_ (Kd.R_types HO305.out BK292.out (by decide)))))) (fun _ hk => trivial)), hC_⟩
        replace c26 := Bool.eq_false_iff.mpr c26
        subst c26
        have H1 : (if (wrap64 ((wrap64 (a1 + 1)) + t300)) < (a0.size : Int) then (if 0 ≤ (wrap64 ((wrap64 (a1 + 1)) + t300)) then (if (bt a0 (wrap64 ((wrap64 (a1 + 1)) + t300))) = 40 then ((sleuthref1_parts.f kj22 a0 2 t299 ([] : List ByteArray) (wrap64 ((wrap64 (a1 + 1)) + t300)) (wrap64 ((wrap64 ((wrap64 (a1 + 1)) + t300)) + 1))).bind fun bt308 => (some (bt308.1, bt308.2.1, bt308.2.2.1, bt308.2.2.2))) else (some (2, t299, ([] : List ByteArray), wrap64 ((wrap64 (a1 + 1)) + t300)))) else (none)) else (some (2, t299, ([] : List ByteArray), wrap64 ((wrap64 (a1 + 1)) + t300)))) = some (r1, r2, r3, r4) := by rw [if_neg (show ¬ (false = true) by decide)] at H; exact H
        clear H
        have H := H1
        clear H1
        by_cases c31 : (wrap64 ((wrap64 (a1 + 1)) + t300)) < (a0.size : Int)
        case neg =>
          rw [if_neg c31] at H
          have c31b0 : decide ((wrap64 ((wrap64 (a1 + 1)) + t300)) < (a0.size : Int)) = false := decide_eq_false c31
          (try (have c31b0w := c31b0; try (rw [show wrap64 (a1 + 1) = (a1 + 1) from by unfold wrap64; omega] at c31b0w); try (rw [show wrap64 ((wrap64 (a1 + 1)) + t300) = ((wrap64 (a1 + 1)) + t300) from by unfold wrap64; omega] at c31b0w)))
          clear c31
          simp only [Option.some.injEq, Prod.mk.injEq] at H
          obtain ⟨rfl, rfl, rfl, rfl⟩ := H
          go_wp2_with (first | ((with_reducible refine gate_dst (N := 7) rfl ?_); refine boxE_ 7 #[.int .i64 0, .int .i64 0, .slice none 0 0, .int .i64 0] 109 ?_; intro gb307 hg w49 hbox hb; have n0_ := Aside0.mk (bB_ BK292.out hb); have n1_ := Aside0.mk (below_step hC_ hb); have n2_ := Aside0.mk (hbox); have n3_ := Aside0.mk ((gE_ hg : w.heap.size ≤ gb307)); have n4_ := Aside0.mk ((gE_ hg : w.heap.size ≤ gb307)); have n5_ := Aside0.mk ((bL_ BK292.out hg : gb292 ≠ gb307)); have n6_ := Aside0.mk ((bG_ BK292.out hg : gb307 ≠ gb292)); clear BK292 HB; have BK292 := n0_; have HB := n1_; have BK307 := n2_; have GW307 := n3_; have GE307 := n4_; have NB292_307 := n5_; have NB307_292 := n6_; clear n0_ n1_ n2_ n3_ n4_ n5_ n6_; clear hb hbox hg; have hnb50 := NB307_292.out; have hnc50 := NB292_307.out; obtain ⟨hcz51_0, hcz51_1, hcz51_2, hcz51_3, hfz51_0, hfz51_1, hfz51_2, hfz51_3⟩ := bx4_ BK307.out; obtain ⟨hcz52_0, hcz52_1, hcz52_2, hcz52_3, hfz52_0, hfz52_1, hfz52_2, hfz52_3⟩ := bx4_ BK292.out))
          refine bodyPost_ret (results_cell_row rfl _ _ gb292 109 #[.int .i64 2, .int .i64 t299, .slice none 0 0, .int .i64 (wrap64 ((wrap64 (a1 + 1)) + t300))] (0, 0) _ rfl (bP_ (bP_ (bP_ (bP_ (bF_ (bF_ (bF_ (bF_ (hK_ BK292.out) NB292_307.out) NB292_307.out) NB292_307.out) NB292_307.out))))) Tryd.underlying109 rfl (by kernel_rfl)) rfl ?_
          exact ⟨_, by first | rfl | (simp [errW_none, errW_some] <;> rfl) | (simp only [← hji19]; first | rfl | (simp [errW_none, errW_some] <;> rfl)) | (simp [*, errW_none, errW_some] <;> rfl), by first | exact Kd.R_nil _ _ _ _ _ | exact Kd.N_nil _ _ _ _ _ | exact Kd.V_nil _ _ _ _ _ | exact Kd.Q_nil _ _ _ _ _ | exact Kd.S_nil _ _ _ _ _, hC_⟩
        rw [if_pos c31] at H
        have c31b0 : decide ((wrap64 ((wrap64 (a1 + 1)) + t300)) < (a0.size : Int)) = true := decide_eq_true c31
        (try (have c31b0w := c31b0; try (rw [show wrap64 (a1 + 1) = (a1 + 1) from by unfold wrap64; omega] at c31b0w); try (rw [show wrap64 ((wrap64 (a1 + 1)) + t300) = ((wrap64 (a1 + 1)) + t300) from by unfold wrap64; omega] at c31b0w)))
        clear c31
        obtain ⟨ji32, hji32⟩ : ∃ j_ : Int, (wrap64 ((wrap64 (a1 + 1)) + t300)) = j_ := ⟨_, rfl⟩
        replace H : (if 0 ≤ (ji32) then (if (bt a0 (ji32)) = 40 then ((sleuthref1_parts.f kj22 a0 2 t299 ([] : List ByteArray) (ji32) (wrap64 ((ji32) + 1))).bind fun bt308 => (some (bt308.1, bt308.2.1, bt308.2.2.1, bt308.2.2.2))) else (some (2, t299, ([] : List ByteArray), ji32))) else (none)) = some (r1, r2, r3, r4) := by first | (rw [hji32] at H; exact H) | (simp only [hji32] at H ⊢; exact H)
        (try rw [hji32] at c31b0)
        have hji32w : (IntKind.i64.wrap ((wrap64 (a1 + 1)) + t300)) = ji32 := (i64_w _).trans hji32
        (try (have hji32vji19 := hji32; rw [hji19] at hji32vji19))
        (try (have hji32vwji19 := hji32w; rw [hji19] at hji32vwji19))
        replace H := ifI_ H; obtain ⟨c33, H⟩ := H
        have c33b0 : decide (0 ≤ (ji32)) = true := decide_eq_true c33
        clear c33
        by_cases c35 : (bt a0 (ji32)) = 40
        case neg =>
          rw [if_neg c35] at H
          have c35b0 : ((bt a0 (ji32)) == 40) = false := beq_eq_false_iff_ne.mpr c35
          have c35b1 : ((bt a0 (ji32)) != 40) = true := bne_iff_ne.mpr c35
          simp only [Option.some.injEq, Prod.mk.injEq] at H
          obtain ⟨rfl, rfl, rfl, rfl⟩ := H
          go_wp2_with (first | ((with_reducible refine gate_dst (N := 7) rfl ?_); refine boxE_ 7 #[.int .i64 0, .int .i64 0, .slice none 0 0, .int .i64 0] 109 ?_; intro gb307 hg w45 hbox hb; have n0_ := Aside0.mk (bB_ BK292.out hb); have n1_ := Aside0.mk (below_step hC_ hb); have n2_ := Aside0.mk (hbox); have n3_ := Aside0.mk ((gE_ hg : w.heap.size ≤ gb307)); have n4_ := Aside0.mk ((gE_ hg : w.heap.size ≤ gb307)); have n5_ := Aside0.mk ((bL_ BK292.out hg : gb292 ≠ gb307)); have n6_ := Aside0.mk ((bG_ BK292.out hg : gb307 ≠ gb292)); clear BK292 HB; have BK292 := n0_; have HB := n1_; have BK307 := n2_; have GW307 := n3_; have GE307 := n4_; have NB292_307 := n5_; have NB307_292 := n6_; clear n0_ n1_ n2_ n3_ n4_ n5_ n6_; clear hb hbox hg; have hnb46 := NB307_292.out; have hnc46 := NB292_307.out; obtain ⟨hcz47_0, hcz47_1, hcz47_2, hcz47_3, hfz47_0, hfz47_1, hfz47_2, hfz47_3⟩ := bx4_ BK307.out; have p34 : 0 ≤ ((ji32) : Int) := of_decide_eq_true hA_; have q34 : (ji32) < (a0.size : Int) := of_decide_eq_true hA_; have hx34 := bt_at a0 (ji32); replace p34 := eq_true p34; replace q34 := eq_true q34; obtain ⟨hcz48_0, hcz48_1, hcz48_2, hcz48_3, hfz48_0, hfz48_1, hfz48_2, hfz48_3⟩ := bx4_ BK292.out))
          refine bodyPost_ret (results_cell_row rfl _ _ gb292 109 #[.int .i64 2, .int .i64 t299, .slice none 0 0, .int .i64 ji32] (0, 0) _ rfl (bP_ (bP_ (bP_ (bP_ (bF_ (bF_ (bF_ (bF_ (hK_ BK292.out) NB292_307.out) NB292_307.out) NB292_307.out) NB292_307.out))))) Tryd.underlying109 rfl (by kernel_rfl)) rfl ?_
          exact ⟨_, by first | rfl | (simp [errW_none, errW_some] <;> rfl) | (simp only [← hji19, ← hji32]; first | rfl | (simp [errW_none, errW_some] <;> rfl)) | (simp [*, errW_none, errW_some] <;> rfl), by first | exact Kd.R_nil _ _ _ _ _ | exact Kd.N_nil _ _ _ _ _ | exact Kd.V_nil _ _ _ _ _ | exact Kd.Q_nil _ _ _ _ _ | exact Kd.S_nil _ _ _ _ _, hC_⟩
        rw [if_pos c35] at H
        have c35b0 : ((bt a0 (ji32)) == 40) = true := beq_iff_eq.mpr c35
        have c35b1 : ((bt a0 (ji32)) != 40) = false := bne_eq_false_iff_eq.mpr c35
        clear c35
        replace H := Option.bind_eq_some_iff.mp H
        obtain ⟨⟨t308, t309, t310, t313⟩, A360, H⟩ := H
        replace H : (some (t308, t309, t310, t313)) = some (r1, r2, r3, r4) := H
        have A36 := Aside0.mk A360
        clear A360
        simp only [Option.some.injEq, Prod.mk.injEq] at H
        obtain ⟨rfl, rfl, rfl, rfl⟩ := H
        go_wp2_with (first | ((with_reducible refine gate_dst (N := 7) rfl ?_); refine boxE_ 7 #[.int .i64 0, .int .i64 0, .slice none 0 0, .int .i64 0] 109 ?_; intro gb307 hg w37 hbox hb; have n0_ := Aside0.mk (bB_ BK292.out hb); have n1_ := Aside0.mk (below_step hC_ hb); have n2_ := Aside0.mk (hbox); have n3_ := Aside0.mk ((gE_ hg : w.heap.size ≤ gb307)); have n4_ := Aside0.mk ((gE_ hg : w.heap.size ≤ gb307)); have n5_ := Aside0.mk ((bL_ BK292.out hg : gb292 ≠ gb307)); have n6_ := Aside0.mk ((bG_ BK292.out hg : gb307 ≠ gb292)); clear BK292 HB; have BK292 := n0_; have HB := n1_; have BK307 := n2_; have GW307 := n3_; have GE307 := n4_; have NB292_307 := n5_; have NB307_292 := n6_; clear n0_ n1_ n2_ n3_ n4_ n5_ n6_; clear hb hbox hg; have hnb38 := NB307_292.out; have hnc38 := NB292_307.out; obtain ⟨hcz39_0, hcz39_1, hcz39_2, hcz39_3, hfz39_0, hfz39_1, hfz39_2, hfz39_3⟩ := bx4_ BK307.out) | ((with_reducible refine gate_store (t := 109) (p := 7) rfl ?_); refine store_event (t := 109) (p := 7) (v := ?vo_w40) (w1 := ((((w37.setCell ⟨gb307, 0, none⟩ (.int .i64 2)).setCell ⟨gb307, 1, none⟩ (.int .i64 t299)).setCell ⟨gb307, 2, none⟩ (.slice none 0 0)).setCell ⟨gb307, 3, none⟩ (.int .i64 ji32))) ?hg ?ho ?hn ?hr ?_; (case ho => rfl); (case hg => rfl); (case hn => rfl); (case hr => first | (go_simp; done) | (go_simp; rfl)); intro w40 hw; have n0_ : Aside0 (w40.heap[gb292]? = some (.cells #[.int .i64 0, .int .i64 0, .slice none 0 0, .int .i64 0] 109 (0, 0))) := ⟨(by rw [hw]; exact (bF_ (bF_ (bF_ (bF_ (hK_ BK292.out) NB292_307.out) NB292_307.out) NB292_307.out) NB292_307.out))⟩; have n1_ : Aside0 (w40.heap[gb307]? = some (.cells #[.int .i64 2, .int .i64 t299, .slice none 0 0, .int .i64 ji32] 109 (0, 0))) := ⟨(by rw [hw]; exact (bP_ (bP_ (bP_ (bP_ (hK_ BK307.out))))))⟩; have n2_ : Aside0 (Below w.heap.size w w40) := ⟨(by rw [hw]; exact hC_)⟩; clear hw BK292 BK307 HB; have BK292 := n0_; have BK307 := n1_; have HB := n2_; clear n0_ n1_ n2_; obtain ⟨hcz41_0, hcz41_1, hcz41_2, hcz41_3, hfz41_0, hfz41_1, hfz41_2, hfz41_3⟩ := bx4_ BK307.out; have p34 : 0 ≤ ((ji32) : Int) := of_decide_eq_true hA_; have q34 : (ji32) < (a0.size : Int) := of_decide_eq_true hA_; have hx34 := bt_at a0 (ji32); replace p34 := eq_true p34; replace q34 := eq_true q34) | ((with_reducible refine gate_callee (f := 83) rfl ?_); refine goesL_ (some 70) rfl rfl Tryd.func83 (by kernel_rfl) rfl #[.string a0, .agg #[.int .i64 2, .int .i64 t299, .slice none 0 0, .int .i64 ji32], .int .i64 (wrap64 ((ji32) + 1))] rfl (by (try simp only [List.map_toArray, List.map_cons, List.map_nil]); first | done | (simp only [hji32]; rfl) | rfl | (simp only [List.length_drop, List.length_take]; rfl)) ?_; (refine (ih_sleuthref1_parts kj22 (by have := HJ22.out; omega) a0 2 t299 (fun k_ => some k_ = (.slice none 0 0 : Value).ownBlock) (.slice none 0 0) ([] : List ByteArray) ji32 (wrap64 ((ji32) + 1)) t308 t309 t310 t313 w _ ?side1 ?side2 A36.out).mono ?_); (case side1 => repeat (first | (with_reducible first | exact HB.out | apply below_alloc | apply pw_below_drewN | apply below_drew1 | refine below_set ?_ GE292.out | refine below_set ?_ GE307.out) | exact HB.out)); (case side2 => exact Kd.R_nil _ _ _ _ _); rintro e w42 ⟨v311, rfl, ho0, hb, hkp⟩; refine ⟨_, rfl, ?_⟩; have n0_ := Aside0.mk (blk_kept (hK_ BK292.out) hkp (fun hs_ => (fun e_ => by simp [Value.ownBlock] at e_) hs_)); have n1_ := Aside0.mk (blk_kept (hK_ BK307.out) hkp (fun hs_ => (fun e_ => by simp [Value.ownBlock] at e_) hs_)); have n2_ := Aside0.mk (Kd.R_mono (ok' := fun k_ => True) ho0 (fun k_ hk_ => trivial)); have n3_ := Aside0.mk (hb); clear BK292 BK307 HB; have BK292 := n0_; have BK307 := n1_; have HO312 := n2_; have HB := n3_; clear n0_ n1_ n2_ n3_; (try clear hb); (try clear hkp); (try clear ho0); obtain ⟨hcz43_0, hcz43_1, hcz43_2, hcz43_3, hfz43_0, hfz43_1, hfz43_2, hfz43_3⟩ := bx4_ BK292.out; obtain ⟨Ao44, co44, eo44⟩ := Kd.R_slice HO312.out; subst eo44))
        refine bodyPost_ret (results_cell_row rfl _ _ gb292 109 #[.int .i64 t308, .int .i64 t309, .slice Ao44 t310.length co44, .int .i64 t313] (0, 0) _ rfl (bP_ (bP_ (bP_ (bP_ (hK_ BK292.out))))) Tryd.underlying109 rfl (by kernel_rfl)) rfl ?_
        exact ⟨_, by first | rfl | (simp [errW_none, errW_some] <;> rfl) | (simp only [← hji19, ← hji32]; first | rfl | (simp [errW_none, errW_some] <;> rfl)) | (simp [*, errW_none, errW_some] <;> rfl), hR_ (Kd.R_mono (rF_ (rF_ (rF_ (rF_ (Kd.R_types HO312.out BK292.out (by decide)))))) (fun _ hk => trivial)), hC_⟩
  rw [if_neg c18] at H
  have c18b0 : ((bt a0 a1) == 64) = false := beq_eq_false_iff_ne.mpr c18
  have c18b1 : ((bt a0 a1) != 64) = true := bne_iff_ne.mpr c18
  by_cases c53 : (bt a0 a1) = 45
  case neg =>
    rw [if_neg c53] at H
    have c53b0 : ((bt a0 a1) == 45) = false := beq_eq_false_iff_ne.mpr c53
    have c53b1 : ((bt a0 a1) != 45) = true := bne_iff_ne.mpr c53
    have c79b0 := eq_true (of_decide_eq_true hA_ : 0 ≤ a1)
    replace H := ifI_ H; obtain ⟨c80, H⟩ := H
    have c80b0 := eq_true c80
    have c80b1 : decide (a1 ≤ (a0.size : Int)) = true := decide_eq_true c80
    clear c80
    replace H := Option.bind_eq_some_iff.mp H
    obtain ⟨⟨t335, t336⟩, A810, H⟩ := H
    replace H : (if t336 = 0 then ((sleuthref1_bad.f).bind fun bt337 => (some (bt337.1, bt337.2.1, bt337.2.2.1, bt337.2.2.2))) else ((sleuthref1_NumMay.f t335).bind fun t343 => (if t343 = true then (some (1, t335, ([] : List ByteArray), wrap64 (a1 + t336))) else ((sleuthref1_bad.f).bind fun bt344 => (some (bt344.1, bt344.2.1, bt344.2.2.1, bt344.2.2.2)))))) = some (r1, r2, r3, r4) := H
    have A81 := Aside0.mk A810
    clear A810
    by_cases c82 : t336 = 0
    case pos =>
      rw [if_pos c82] at H
      have c82b0 : (t336 == 0) = true := beq_iff_eq.mpr c82
      have c82b1 : (t336 != 0) = false := bne_eq_false_iff_eq.mpr c82
      clear c82
      replace H := Option.bind_eq_some_iff.mp H
      obtain ⟨⟨t337, t338, t339, t342⟩, A830, H⟩ := H
      replace H : (some (t337, t338, t339, t342)) = some (r1, r2, r3, r4) := H
      have A83 := Aside0.mk A830
      clear A830
      simp only [Option.some.injEq, Prod.mk.injEq] at H
      obtain ⟨rfl, rfl, rfl, rfl⟩ := H
      go_enter Tryd.func73, Tryd.ntmps73
      go_wp2_with (first | ((with_reducible refine gate_dst (N := 4) rfl ?_); refine boxE_ 4 #[.int .i64 0, .int .i64 0, .slice none 0 0, .int .i64 0] 109 ?_; intro gb292 hg w84 hbox hb; have n0_ := Aside0.mk (below_step hB_ hb); have n1_ := Aside0.mk (hbox); have n2_ := Aside0.mk ((gE_ hg : w.heap.size ≤ gb292)); have n3_ := Aside0.mk ((gE_ hg : w.heap.size ≤ gb292)); clear HB; have HB := n0_; have BK292 := n1_; have GW292 := n2_; have GE292 := n3_; clear n0_ n1_ n2_ n3_; clear hb hbox hg; have p11 : 0 ≤ (a1 : Int) := of_decide_eq_true hA_; have q11 : a1 < (a0.size : Int) := of_decide_eq_true hA_; have hx11 := bt_at a0 a1; replace p11 := eq_true p11; replace q11 := eq_true q11) | ((with_reducible refine gate_callee (f := 82) rfl ?_); refine goesL_ (some 106) rfl rfl Tryd.func82 (by kernel_rfl) rfl #[.string (a0.extract (a1 : Int).toNat a0.size)] rfl hL_ ?_; (with_reducible refine (sleuthref1_digits.calls k (a0.extract (a1 : Int).toNat a0.size) t335 t336 _ A81.out).mono ?_); rintro e w' ⟨rfl, ⟨nd, rfl⟩⟩; refine ⟨_, rfl, ?_⟩; (try (rw [drewN_self w84]; generalize hq_ : World.drewN w84 _ = w84; have n0_ : Aside0 (w84.heap[gb292]? = some (.cells #[.int .i64 0, .int .i64 0, .slice none 0 0, .int .i64 0] 109 (0, 0))) := ⟨by rw [← hq_]; exact (hK_ BK292.out)⟩; have n1_ : Aside0 (Below w.heap.size w w84) := ⟨by rw [← hq_]; exact hC_⟩; clear BK292 HB hq_; have BK292 := n0_; have HB := n1_; clear n0_ n1_; (try have hcu0_0 := bc0_ BK292.out); (try have hfu0_0 := blk_frozen BK292.out 0); (try have hcu0_1 := bc1_ BK292.out); (try have hfu0_1 := blk_frozen BK292.out 1); (try have hcu0_2 := bc2_ BK292.out); (try have hfu0_2 := blk_frozen BK292.out 2); (try have hcu0_3 := bc3_ BK292.out); (try have hfu0_3 := blk_frozen BK292.out 3)))) | ((with_reducible refine gate_callee (f := 81) rfl ?_); refine goesL_ (some 116) rfl rfl Tryd.func81 (by kernel_rfl) rfl #[] rfl hL_ ?_; (with_reducible refine (sleuthref1_bad.calls  t337 t338 t339 t342 _ A83.out).mono ?_); rintro e w85 ⟨v340, rfl, ho0, hb⟩; refine ⟨_, rfl, ?_⟩; have n0_ := Aside0.mk (Kd.R_lower ho0 (below_size hC_)); have n1_ := Aside0.mk (bB_ BK292.out hb); have n2_ := Aside0.mk (below_step hC_ hb); clear BK292 HB; have HO341 := n0_; have BK292 := n1_; have HB := n2_; clear n0_ n1_ n2_; (try clear hb); (try clear hb2); (try clear hk); (try clear hi); (try clear ho0); obtain ⟨hcz86_0, hcz86_1, hcz86_2, hcz86_3, hfz86_0, hfz86_1, hfz86_2, hfz86_3⟩ := bx4_ BK292.out; obtain ⟨Ao87, co87, eo87⟩ := Kd.R_slice HO341.out; subst eo87))
      refine bodyPost_ret (results_cell_row rfl _ _ gb292 109 #[.int .i64 t337, .int .i64 t338, .slice Ao87 t339.length co87, .int .i64 t342] (0, 0) _ rfl (bP_ (bP_ (bP_ (bP_ (hK_ BK292.out))))) Tryd.underlying109 rfl (by kernel_rfl)) rfl ?_
      exact ⟨_, hV_, hR_ (Kd.R_mono (rF_ (rF_ (rF_ (rF_ (Kd.R_types HO341.out BK292.out (by decide)))))) (fun _ hk => trivial)), hC_⟩
    rw [if_neg c82] at H
    have c82b0 : (t336 == 0) = false := beq_eq_false_iff_ne.mpr c82
    have c82b1 : (t336 != 0) = true := bne_iff_ne.mpr c82
    replace H := Option.bind_eq_some_iff.mp H
    obtain ⟨t343, A880, H⟩ := H
    replace H : (if t343 = true then (some (1, t335, ([] : List ByteArray), wrap64 (a1 + t336))) else ((sleuthref1_bad.f).bind fun bt344 => (some (bt344.1, bt344.2.1, bt344.2.2.1, bt344.2.2.2)))) = some (r1, r2, r3, r4) := H
    have A88 := Aside0.mk A880
    clear A880
    by_cases c89 : t343 = true
    case pos =>
      subst c89
      have H1 : (some (1, t335, ([] : List ByteArray), wrap64 (a1 + t336))) = some (r1, r2, r3, r4) := by rw [if_pos rfl] at H; exact H
      clear H
      have H := H1
      clear H1
      simp only [Option.some.injEq, Prod.mk.injEq] at H
      obtain ⟨rfl, rfl, rfl, rfl⟩ := H
      go_enter Tryd.func73, Tryd.ntmps73
      go_wp2_with (first | ((with_reducible refine gate_dst (N := 4) rfl ?_); refine boxE_ 4 #[.int .i64 0, .int .i64 0, .slice none 0 0, .int .i64 0] 109 ?_; intro gb292 hg w90 hbox hb; have n0_ := Aside0.mk (below_step hB_ hb); have n1_ := Aside0.mk (hbox); have n2_ := Aside0.mk ((gE_ hg : w.heap.size ≤ gb292)); have n3_ := Aside0.mk ((gE_ hg : w.heap.size ≤ gb292)); clear HB; have HB := n0_; have BK292 := n1_; have GW292 := n2_; have GE292 := n3_; clear n0_ n1_ n2_ n3_; clear hb hbox hg; have p11 : 0 ≤ (a1 : Int) := of_decide_eq_true hA_; have q11 : a1 < (a0.size : Int) := of_decide_eq_true hA_; have hx11 := bt_at a0 a1; replace p11 := eq_true p11; replace q11 := eq_true q11) | ((with_reducible refine gate_callee (f := 82) rfl ?_); refine goesL_ (some 106) rfl rfl Tryd.func82 (by kernel_rfl) rfl #[.string (a0.extract (a1 : Int).toNat a0.size)] rfl hL_ ?_; (with_reducible refine (sleuthref1_digits.calls k (a0.extract (a1 : Int).toNat a0.size) t335 t336 _ A81.out).mono ?_); rintro e w' ⟨rfl, ⟨nd, rfl⟩⟩; refine ⟨_, rfl, ?_⟩; (try (rw [drewN_self w90]; generalize hq_ : World.drewN w90 _ = w90; have n0_ : Aside0 (w90.heap[gb292]? = some (.cells #[.int .i64 0, .int .i64 0, .slice none 0 0, .int .i64 0] 109 (0, 0))) := ⟨by rw [← hq_]; exact (hK_ BK292.out)⟩; have n1_ : Aside0 (Below w.heap.size w w90) := ⟨by rw [← hq_]; exact hC_⟩; clear BK292 HB hq_; have BK292 := n0_; have HB := n1_; clear n0_ n1_; (try have hcu0_0 := bc0_ BK292.out); (try have hfu0_0 := blk_frozen BK292.out 0); (try have hcu0_1 := bc1_ BK292.out); (try have hfu0_1 := blk_frozen BK292.out 1); (try have hcu0_2 := bc2_ BK292.out); (try have hfu0_2 := blk_frozen BK292.out 2); (try have hcu0_3 := bc3_ BK292.out); (try have hfu0_3 := blk_frozen BK292.out 3)))) | (go_at_call 84; (with_reducible refine (sleuthref1_NumMay.calls t335 true _ A88.out).mono ?_); rintro e w' ⟨rfl, ⟨nd, rfl⟩⟩; (try (rw [drewN_self w90]; generalize hq_ : World.drewN w90 _ = w90; have n0_ : Aside0 (w90.heap[gb292]? = some (.cells #[.int .i64 0, .int .i64 0, .slice none 0 0, .int .i64 0] 109 (0, 0))) := ⟨by rw [← hq_]; exact (hK_ BK292.out)⟩; have n1_ : Aside0 (Below w.heap.size w w90) := ⟨by rw [← hq_]; exact hC_⟩; clear BK292 HB hq_; have BK292 := n0_; have HB := n1_; clear n0_ n1_; (try have hcu0_0 := bc0_ BK292.out); (try have hfu0_0 := blk_frozen BK292.out 0); (try have hcu0_1 := bc1_ BK292.out); (try have hfu0_1 := blk_frozen BK292.out 1); (try have hcu0_2 := bc2_ BK292.out); (try have hfu0_2 := blk_frozen BK292.out 2); (try have hcu0_3 := bc3_ BK292.out); (try have hfu0_3 := blk_frozen BK292.out 3))); obtain ⟨hcz91_0, hcz91_1, hcz91_2, hcz91_3, hfz91_0, hfz91_1, hfz91_2, hfz91_3⟩ := bx4_ BK292.out))
      refine bodyPost_ret (results_cell_row rfl _ _ gb292 109 #[.int .i64 1, .int .i64 t335, .slice none 0 0, .int .i64 (wrap64 (a1 + t336))] (0, 0) _ rfl (bP_ (bP_ (bP_ (bP_ (hK_ BK292.out))))) Tryd.underlying109 rfl (by kernel_rfl)) rfl ?_
      exact ⟨_, hV_, by first | exact Kd.R_nil _ _ _ _ _ | exact Kd.N_nil _ _ _ _ _ | exact Kd.V_nil _ _ _ _ _ | exact Kd.Q_nil _ _ _ _ _ | exact Kd.S_nil _ _ _ _ _, hC_⟩
    replace c89 := Bool.eq_false_iff.mpr c89
    subst c89
    have H1 : ((sleuthref1_bad.f).bind fun bt344 => (some (bt344.1, bt344.2.1, bt344.2.2.1, bt344.2.2.2))) = some (r1, r2, r3, r4) := by rw [if_neg (show ¬ (false = true) by decide)] at H; exact H
    clear H
    have H := H1
    clear H1
    replace H := Option.bind_eq_some_iff.mp H
    obtain ⟨⟨t344, t345, t346, t349⟩, A920, H⟩ := H
    replace H : (some (t344, t345, t346, t349)) = some (r1, r2, r3, r4) := H
    have A92 := Aside0.mk A920
    clear A920
    simp only [Option.some.injEq, Prod.mk.injEq] at H
    obtain ⟨rfl, rfl, rfl, rfl⟩ := H
    go_enter Tryd.func73, Tryd.ntmps73
    go_wp2_with (first | ((with_reducible refine gate_dst (N := 4) rfl ?_); refine boxE_ 4 #[.int .i64 0, .int .i64 0, .slice none 0 0, .int .i64 0] 109 ?_; intro gb292 hg w93 hbox hb; have n0_ := Aside0.mk (below_step hB_ hb); have n1_ := Aside0.mk (hbox); have n2_ := Aside0.mk ((gE_ hg : w.heap.size ≤ gb292)); have n3_ := Aside0.mk ((gE_ hg : w.heap.size ≤ gb292)); clear HB; have HB := n0_; have BK292 := n1_; have GW292 := n2_; have GE292 := n3_; clear n0_ n1_ n2_ n3_; clear hb hbox hg; have p11 : 0 ≤ (a1 : Int) := of_decide_eq_true hA_; have q11 : a1 < (a0.size : Int) := of_decide_eq_true hA_; have hx11 := bt_at a0 a1; replace p11 := eq_true p11; replace q11 := eq_true q11) | ((with_reducible refine gate_callee (f := 82) rfl ?_); refine goesL_ (some 106) rfl rfl Tryd.func82 (by kernel_rfl) rfl #[.string (a0.extract (a1 : Int).toNat a0.size)] rfl hL_ ?_; (with_reducible refine (sleuthref1_digits.calls k (a0.extract (a1 : Int).toNat a0.size) t335 t336 _ A81.out).mono ?_); rintro e w' ⟨rfl, ⟨nd, rfl⟩⟩; refine ⟨_, rfl, ?_⟩; (try (rw [drewN_self w93]; generalize hq_ : World.drewN w93 _ = w93; have n0_ : Aside0 (w93.heap[gb292]? = some (.cells #[.int .i64 0, .int .i64 0, .slice none 0 0, .int .i64 0] 109 (0, 0))) := ⟨by rw [← hq_]; exact (hK_ BK292.out)⟩; have n1_ : Aside0 (Below w.heap.size w w93) := ⟨by rw [← hq_]; exact hC_⟩; clear BK292 HB hq_; have BK292 := n0_; have HB := n1_; clear n0_ n1_; (try have hcu0_0 := bc0_ BK292.out); (try have hfu0_0 := blk_frozen BK292.out 0); (try have hcu0_1 := bc1_ BK292.out); (try have hfu0_1 := blk_frozen BK292.out 1); (try have hcu0_2 := bc2_ BK292.out); (try have hfu0_2 := blk_frozen BK292.out 2); (try have hcu0_3 := bc3_ BK292.out); (try have hfu0_3 := blk_frozen BK292.out 3)))) | (go_at_call 84; (with_reducible refine (sleuthref1_NumMay.calls t335 false _ A88.out).mono ?_); rintro e w' ⟨rfl, ⟨nd, rfl⟩⟩; (try (rw [drewN_self w93]; generalize hq_ : World.drewN w93 _ = w93; have n0_ : Aside0 (w93.heap[gb292]? = some (.cells #[.int .i64 0, .int .i64 0, .slice none 0 0, .int .i64 0] 109 (0, 0))) := ⟨by rw [← hq_]; exact (hK_ BK292.out)⟩; have n1_ : Aside0 (Below w.heap.size w w93) := ⟨by rw [← hq_]; exact hC_⟩; clear BK292 HB hq_; have BK292 := n0_; have HB := n1_; clear n0_ n1_; (try have hcu0_0 := bc0_ BK292.out); (try have hfu0_0 := blk_frozen BK292.out 0); (try have hcu0_1 := bc1_ BK292.out); (try have hfu0_1 := blk_frozen BK292.out 1); (try have hcu0_2 := bc2_ BK292.out); (try have hfu0_2 := blk_frozen BK292.out 2); (try have hcu0_3 := bc3_ BK292.out); (try have hfu0_3 := blk_frozen BK292.out 3)))) | ((with_reducible refine gate_callee (f := 81) rfl ?_); refine goesL_ (some 116) rfl rfl Tryd.func81 (by kernel_rfl) rfl #[] rfl hL_ ?_; (with_reducible refine (sleuthref1_bad.calls  t344 t345 t346 t349 _ A92.out).mono ?_); rintro e w94 ⟨v347, rfl, ho0, hb⟩; refine ⟨_, rfl, ?_⟩; have n0_ := Aside0.mk (Kd.R_lower ho0 (below_size hC_)); have n1_ := Aside0.mk (bB_ BK292.out hb); have n2_ := Aside0.mk (below_step hC_ hb); clear BK292 HB; have HO348 := n0_; have BK292 := n1_; have HB := n2_; clear n0_ n1_ n2_; (try clear hb); (try clear hb2); (try clear hk); (try clear hi); (try clear ho0); obtain ⟨hcz95_0, hcz95_1, hcz95_2, hcz95_3, hfz95_0, hfz95_1, hfz95_2, hfz95_3⟩ := bx4_ BK292.out; obtain ⟨Ao96, co96, eo96⟩ := Kd.R_slice HO348.out; subst eo96))
    refine bodyPost_ret (results_cell_row rfl _ _ gb292 109 #[.int .i64 t344, .int .i64 t345, .slice Ao96 t346.length co96, .int .i64 t349] (0, 0) _ rfl (bP_ (bP_ (bP_ (bP_ (hK_ BK292.out))))) Tryd.underlying109 rfl (by kernel_rfl)) rfl ?_
    exact ⟨_, hV_, hR_ (Kd.R_mono (rF_ (rF_ (rF_ (rF_ (Kd.R_types HO348.out BK292.out (by decide)))))) (fun _ hk => trivial)), hC_⟩
  rw [if_pos c53] at H
  have c53b0 : ((bt a0 a1) == 45) = true := beq_iff_eq.mpr c53
  have c53b1 : ((bt a0 a1) != 45) = false := bne_eq_false_iff_eq.mpr c53
  clear c53
  obtain ⟨ji54, hji54⟩ : ∃ j_ : Int, (wrap64 (a1 + 1)) = j_ := ⟨_, rfl⟩
  replace H : (if 0 ≤ (ji54) then (if (ji54) ≤ (a0.size : Int) then ((sleuthref1_digits.f k (a0.extract ((ji54) : Int).toNat a0.size)).bind fun bt314 => (if bt314.2 = 0 then ((sleuthref1_bad.f).bind fun bt316 => (some (bt316.1, bt316.2.1, bt316.2.2.1, bt316.2.2.2))) else (if bt314.1 = 0 then ((sleuthref1_bad.f).bind fun bt322 => (some (bt322.1, bt322.2.1, bt322.2.2.1, bt322.2.2.2))) else ((sleuthref1_NumMay.f (wrap64 (-bt314.1))).bind fun t328 => (if t328 = true then (some (1, wrap64 (-bt314.1), ([] : List ByteArray), wrap64 ((ji54) + bt314.2))) else ((sleuthref1_bad.f).bind fun bt329 => (some (bt329.1, bt329.2.1, bt329.2.2.1, bt329.2.2.2)))))))) else (none)) else (none)) = some (r1, r2, r3, r4) := by first | (rw [hji54] at H; exact H) | (simp only [hji54] at H ⊢; exact H)
  have hji54w : (IntKind.i64.wrap (a1 + 1)) = ji54 := (i64_w _).trans hji54
  replace H := ifI_ H; obtain ⟨c55, H⟩ := H
  have c55b0 := eq_true c55
  have c55b1 : decide (0 ≤ (ji54)) = true := decide_eq_true c55
  clear c55
  replace H := ifI_ H; obtain ⟨c56, H⟩ := H
  have c56b0 := eq_true c56
  have c56b1 : decide ((ji54) ≤ (a0.size : Int)) = true := decide_eq_true c56
  clear c56
  replace H := Option.bind_eq_some_iff.mp H
  obtain ⟨⟨t314, t315⟩, A570, H⟩ := H
  replace H : (if t315 = 0 then ((sleuthref1_bad.f).bind fun bt316 => (some (bt316.1, bt316.2.1, bt316.2.2.1, bt316.2.2.2))) else (if t314 = 0 then ((sleuthref1_bad.f).bind fun bt322 => (some (bt322.1, bt322.2.1, bt322.2.2.1, bt322.2.2.2))) else ((sleuthref1_NumMay.f (wrap64 (-t314))).bind fun t328 => (if t328 = true then (some (1, wrap64 (-t314), ([] : List ByteArray), wrap64 ((ji54) + t315))) else ((sleuthref1_bad.f).bind fun bt329 => (some (bt329.1, bt329.2.1, bt329.2.2.1, bt329.2.2.2))))))) = some (r1, r2, r3, r4) := H
  have A57 := Aside0.mk A570
  clear A570
  by_cases c58 : t315 = 0
  case pos =>
    rw [if_pos c58] at H
    have c58b0 : (t315 == 0) = true := beq_iff_eq.mpr c58
    have c58b1 : (t315 != 0) = false := bne_eq_false_iff_eq.mpr c58
    clear c58
    replace H := Option.bind_eq_some_iff.mp H
    obtain ⟨⟨t316, t317, t318, t321⟩, A590, H⟩ := H
    replace H : (some (t316, t317, t318, t321)) = some (r1, r2, r3, r4) := H
    have A59 := Aside0.mk A590
    clear A590
    simp only [Option.some.injEq, Prod.mk.injEq] at H
    obtain ⟨rfl, rfl, rfl, rfl⟩ := H
    go_enter Tryd.func73, Tryd.ntmps73
    go_wp2_with (first | ((with_reducible refine gate_dst (N := 4) rfl ?_); refine boxE_ 4 #[.int .i64 0, .int .i64 0, .slice none 0 0, .int .i64 0] 109 ?_; intro gb292 hg w60 hbox hb; have n0_ := Aside0.mk (below_step hB_ hb); have n1_ := Aside0.mk (hbox); have n2_ := Aside0.mk ((gE_ hg : w.heap.size ≤ gb292)); have n3_ := Aside0.mk ((gE_ hg : w.heap.size ≤ gb292)); clear HB; have HB := n0_; have BK292 := n1_; have GW292 := n2_; have GE292 := n3_; clear n0_ n1_ n2_ n3_; clear hb hbox hg; have p11 : 0 ≤ (a1 : Int) := of_decide_eq_true hA_; have q11 : a1 < (a0.size : Int) := of_decide_eq_true hA_; have hx11 := bt_at a0 a1; replace p11 := eq_true p11; replace q11 := eq_true q11) | ((with_reducible refine gate_callee (f := 82) rfl ?_); refine goesL_ (some 79) rfl rfl Tryd.func82 (by kernel_rfl) rfl #[.string (a0.extract ((ji54) : Int).toNat a0.size)] rfl (by (try simp only [List.map_toArray, List.map_cons, List.map_nil]); first | done | (simp only [hji54]; rfl) | rfl | (simp only [List.length_drop, List.length_take]; rfl)) ?_; (with_reducible refine (sleuthref1_digits.calls k (a0.extract ((ji54) : Int).toNat a0.size) t314 t315 _ A57.out).mono ?_); rintro e w' ⟨rfl, ⟨nd, rfl⟩⟩; refine ⟨_, rfl, ?_⟩; (try (rw [drewN_self w60]; generalize hq_ : World.drewN w60 _ = w60; have n0_ : Aside0 (w60.heap[gb292]? = some (.cells #[.int .i64 0, .int .i64 0, .slice none 0 0, .int .i64 0] 109 (0, 0))) := ⟨by rw [← hq_]; exact (hK_ BK292.out)⟩; have n1_ : Aside0 (Below w.heap.size w w60) := ⟨by rw [← hq_]; exact hC_⟩; clear BK292 HB hq_; have BK292 := n0_; have HB := n1_; clear n0_ n1_; (try have hcu0_0 := bc0_ BK292.out); (try have hfu0_0 := blk_frozen BK292.out 0); (try have hcu0_1 := bc1_ BK292.out); (try have hfu0_1 := blk_frozen BK292.out 1); (try have hcu0_2 := bc2_ BK292.out); (try have hfu0_2 := blk_frozen BK292.out 2); (try have hcu0_3 := bc3_ BK292.out); (try have hfu0_3 := blk_frozen BK292.out 3)))) | ((with_reducible refine gate_callee (f := 81) rfl ?_); refine goesL_ (some 94) rfl rfl Tryd.func81 (by kernel_rfl) rfl #[] rfl hL_ ?_; (with_reducible refine (sleuthref1_bad.calls  t316 t317 t318 t321 _ A59.out).mono ?_); rintro e w61 ⟨v319, rfl, ho0, hb⟩; refine ⟨_, rfl, ?_⟩; have n0_ := Aside0.mk (Kd.R_lower ho0 (below_size hC_)); have n1_ := Aside0.mk (bB_ BK292.out hb); have n2_ := Aside0.mk (below_step hC_ hb); clear BK292 HB; have HO320 := n0_; have BK292 := n1_; have HB := n2_; clear n0_ n1_ n2_; (try clear hb); (try clear hb2); (try clear hk); (try clear hi); (try clear ho0); obtain ⟨hcz62_0, hcz62_1, hcz62_2, hcz62_3, hfz62_0, hfz62_1, hfz62_2, hfz62_3⟩ := bx4_ BK292.out; obtain ⟨Ao63, co63, eo63⟩ := Kd.R_slice HO320.out; subst eo63))
    refine bodyPost_ret (results_cell_row rfl _ _ gb292 109 #[.int .i64 t316, .int .i64 t317, .slice Ao63 t318.length co63, .int .i64 t321] (0, 0) _ rfl (bP_ (bP_ (bP_ (bP_ (hK_ BK292.out))))) Tryd.underlying109 rfl (by kernel_rfl)) rfl ?_
    exact ⟨_, by first | rfl | (simp [errW_none, errW_some] <;> rfl) | (simp only [← hji54]; first | rfl | (simp [errW_none, errW_some] <;> rfl)) | (simp [*, errW_none, errW_some] <;> rfl), hR_ (Kd.R_mono (rF_ (rF_ (rF_ (rF_ (Kd.R_types HO320.out BK292.out (by decide)))))) (fun _ hk => trivial)), hC_⟩
  rw [if_neg c58] at H
  have c58b0 : (t315 == 0) = false := beq_eq_false_iff_ne.mpr c58
  have c58b1 : (t315 != 0) = true := bne_iff_ne.mpr c58
  by_cases c64 : t314 = 0
  case pos =>
    rw [if_pos c64] at H
    have c64b0 : (t314 == 0) = true := beq_iff_eq.mpr c64
    have c64b1 : (t314 != 0) = false := bne_eq_false_iff_eq.mpr c64
    clear c64
    replace H := Option.bind_eq_some_iff.mp H
    obtain ⟨⟨t322, t323, t324, t327⟩, A650, H⟩ := H
    replace H : (some (t322, t323, t324, t327)) = some (r1, r2, r3, r4) := H
    have A65 := Aside0.mk A650
    clear A650
    simp only [Option.some.injEq, Prod.mk.injEq] at H
    obtain ⟨rfl, rfl, rfl, rfl⟩ := H
    go_enter Tryd.func73, Tryd.ntmps73
    go_wp2_with (first | ((with_reducible refine gate_dst (N := 4) rfl ?_); refine boxE_ 4 #[.int .i64 0, .int .i64 0, .slice none 0 0, .int .i64 0] 109 ?_; intro gb292 hg w66 hbox hb; have n0_ := Aside0.mk (below_step hB_ hb); have n1_ := Aside0.mk (hbox); have n2_ := Aside0.mk ((gE_ hg : w.heap.size ≤ gb292)); have n3_ := Aside0.mk ((gE_ hg : w.heap.size ≤ gb292)); clear HB; have HB := n0_; have BK292 := n1_; have GW292 := n2_; have GE292 := n3_; clear n0_ n1_ n2_ n3_; clear hb hbox hg; have p11 : 0 ≤ (a1 : Int) := of_decide_eq_true hA_; have q11 : a1 < (a0.size : Int) := of_decide_eq_true hA_; have hx11 := bt_at a0 a1; replace p11 := eq_true p11; replace q11 := eq_true q11) | ((with_reducible refine gate_callee (f := 82) rfl ?_); refine goesL_ (some 79) rfl rfl Tryd.func82 (by kernel_rfl) rfl #[.string (a0.extract ((ji54) : Int).toNat a0.size)] rfl (by (try simp only [List.map_toArray, List.map_cons, List.map_nil]); first | done | (simp only [hji54]; rfl) | rfl | (simp only [List.length_drop, List.length_take]; rfl)) ?_; (with_reducible refine (sleuthref1_digits.calls k (a0.extract ((ji54) : Int).toNat a0.size) t314 t315 _ A57.out).mono ?_); rintro e w' ⟨rfl, ⟨nd, rfl⟩⟩; refine ⟨_, rfl, ?_⟩; (try (rw [drewN_self w66]; generalize hq_ : World.drewN w66 _ = w66; have n0_ : Aside0 (w66.heap[gb292]? = some (.cells #[.int .i64 0, .int .i64 0, .slice none 0 0, .int .i64 0] 109 (0, 0))) := ⟨by rw [← hq_]; exact (hK_ BK292.out)⟩; have n1_ : Aside0 (Below w.heap.size w w66) := ⟨by rw [← hq_]; exact hC_⟩; clear BK292 HB hq_; have BK292 := n0_; have HB := n1_; clear n0_ n1_; (try have hcu0_0 := bc0_ BK292.out); (try have hfu0_0 := blk_frozen BK292.out 0); (try have hcu0_1 := bc1_ BK292.out); (try have hfu0_1 := blk_frozen BK292.out 1); (try have hcu0_2 := bc2_ BK292.out); (try have hfu0_2 := blk_frozen BK292.out 2); (try have hcu0_3 := bc3_ BK292.out); (try have hfu0_3 := blk_frozen BK292.out 3)))) | ((with_reducible refine gate_callee (f := 81) rfl ?_); refine goesL_ (some 94) rfl rfl Tryd.func81 (by kernel_rfl) rfl #[] rfl hL_ ?_; (with_reducible refine (sleuthref1_bad.calls  t322 t323 t324 t327 _ A65.out).mono ?_); rintro e w67 ⟨v325, rfl, ho0, hb⟩; refine ⟨_, rfl, ?_⟩; have n0_ := Aside0.mk (Kd.R_lower ho0 (below_size hC_)); have n1_ := Aside0.mk (bB_ BK292.out hb); have n2_ := Aside0.mk (below_step hC_ hb); clear BK292 HB; have HO326 := n0_; have BK292 := n1_; have HB := n2_; clear n0_ n1_ n2_; (try clear hb); (try clear hb2); (try clear hk); (try clear hi); (try clear ho0); obtain ⟨hcz68_0, hcz68_1, hcz68_2, hcz68_3, hfz68_0, hfz68_1, hfz68_2, hfz68_3⟩ := bx4_ BK292.out; obtain ⟨Ao69, co69, eo69⟩ := Kd.R_slice HO326.out; subst eo69))
    refine bodyPost_ret (results_cell_row rfl _ _ gb292 109 #[.int .i64 t322, .int .i64 t323, .slice Ao69 t324.length co69, .int .i64 t327] (0, 0) _ rfl (bP_ (bP_ (bP_ (bP_ (hK_ BK292.out))))) Tryd.underlying109 rfl (by kernel_rfl)) rfl ?_
    exact ⟨_, by first | rfl | (simp [errW_none, errW_some] <;> rfl) | (simp only [← hji54]; first | rfl | (simp [errW_none, errW_some] <;> rfl)) | (simp [*, errW_none, errW_some] <;> rfl), hR_ (Kd.R_mono (rF_ (rF_ (rF_ (rF_ (Kd.R_types HO326.out BK292.out (by decide)))))) (fun _ hk => trivial)), hC_⟩
  rw [if_neg c64] at H
  have c64b0 : (t314 == 0) = false := beq_eq_false_iff_ne.mpr c64
  have c64b1 : (t314 != 0) = true := bne_iff_ne.mpr c64
  replace H := Option.bind_eq_some_iff.mp H
  obtain ⟨t328, A700, H⟩ := H
  replace H : (if t328 = true then (some (1, wrap64 (-t314), ([] : List ByteArray), wrap64 ((ji54) + t315))) else ((sleuthref1_bad.f).bind fun bt329 => (some (bt329.1, bt329.2.1, bt329.2.2.1, bt329.2.2.2)))) = some (r1, r2, r3, r4) := H
  have A70 := Aside0.mk A700
  clear A700
  by_cases c71 : t328 = true
  case pos =>
    subst c71
    have H1 : (some (1, wrap64 (-t314), ([] : List ByteArray), wrap64 ((ji54) + t315))) = some (r1, r2, r3, r4) := by rw [if_pos rfl] at H; exact H
    clear H
    have H := H1
    clear H1
    simp only [Option.some.injEq, Prod.mk.injEq] at H
    obtain ⟨rfl, rfl, rfl, rfl⟩ := H
    go_enter Tryd.func73, Tryd.ntmps73
    go_wp2_with (first | ((with_reducible refine gate_dst (N := 4) rfl ?_); refine boxE_ 4 #[.int .i64 0, .int .i64 0, .slice none 0 0, .int .i64 0] 109 ?_; intro gb292 hg w72 hbox hb; have n0_ := Aside0.mk (below_step hB_ hb); have n1_ := Aside0.mk (hbox); have n2_ := Aside0.mk ((gE_ hg : w.heap.size ≤ gb292)); have n3_ := Aside0.mk ((gE_ hg : w.heap.size ≤ gb292)); clear HB; have HB := n0_; have BK292 := n1_; have GW292 := n2_; have GE292 := n3_; clear n0_ n1_ n2_ n3_; clear hb hbox hg; have p11 : 0 ≤ (a1 : Int) := of_decide_eq_true hA_; have q11 : a1 < (a0.size : Int) := of_decide_eq_true hA_; have hx11 := bt_at a0 a1; replace p11 := eq_true p11; replace q11 := eq_true q11) | ((with_reducible refine gate_callee (f := 82) rfl ?_); refine goesL_ (some 79) rfl rfl Tryd.func82 (by kernel_rfl) rfl #[.string (a0.extract ((ji54) : Int).toNat a0.size)] rfl (by (try simp only [List.map_toArray, List.map_cons, List.map_nil]); first | done | (simp only [hji54]; rfl) | rfl | (simp only [List.length_drop, List.length_take]; rfl)) ?_; (with_reducible refine (sleuthref1_digits.calls k (a0.extract ((ji54) : Int).toNat a0.size) t314 t315 _ A57.out).mono ?_); rintro e w' ⟨rfl, ⟨nd, rfl⟩⟩; refine ⟨_, rfl, ?_⟩; (try (rw [drewN_self w72]; generalize hq_ : World.drewN w72 _ = w72; have n0_ : Aside0 (w72.heap[gb292]? = some (.cells #[.int .i64 0, .int .i64 0, .slice none 0 0, .int .i64 0] 109 (0, 0))) := ⟨by rw [← hq_]; exact (hK_ BK292.out)⟩; have n1_ : Aside0 (Below w.heap.size w w72) := ⟨by rw [← hq_]; exact hC_⟩; clear BK292 HB hq_; have BK292 := n0_; have HB := n1_; clear n0_ n1_; (try have hcu0_0 := bc0_ BK292.out); (try have hfu0_0 := blk_frozen BK292.out 0); (try have hcu0_1 := bc1_ BK292.out); (try have hfu0_1 := blk_frozen BK292.out 1); (try have hcu0_2 := bc2_ BK292.out); (try have hfu0_2 := blk_frozen BK292.out 2); (try have hcu0_3 := bc3_ BK292.out); (try have hfu0_3 := blk_frozen BK292.out 3)))) | (go_at_call 84; (with_reducible refine (sleuthref1_NumMay.calls (wrap64 (-t314)) true _ A70.out).mono ?_); rintro e w' ⟨rfl, ⟨nd, rfl⟩⟩; (try (rw [drewN_self w72]; generalize hq_ : World.drewN w72 _ = w72; have n0_ : Aside0 (w72.heap[gb292]? = some (.cells #[.int .i64 0, .int .i64 0, .slice none 0 0, .int .i64 0] 109 (0, 0))) := ⟨by rw [← hq_]; exact (hK_ BK292.out)⟩; have n1_ : Aside0 (Below w.heap.size w w72) := ⟨by rw [← hq_]; exact hC_⟩; clear BK292 HB hq_; have BK292 := n0_; have HB := n1_; clear n0_ n1_; (try have hcu0_0 := bc0_ BK292.out); (try have hfu0_0 := blk_frozen BK292.out 0); (try have hcu0_1 := bc1_ BK292.out); (try have hfu0_1 := blk_frozen BK292.out 1); (try have hcu0_2 := bc2_ BK292.out); (try have hfu0_2 := blk_frozen BK292.out 2); (try have hcu0_3 := bc3_ BK292.out); (try have hfu0_3 := blk_frozen BK292.out 3))); obtain ⟨hcz73_0, hcz73_1, hcz73_2, hcz73_3, hfz73_0, hfz73_1, hfz73_2, hfz73_3⟩ := bx4_ BK292.out))
    refine bodyPost_ret (results_cell_row rfl _ _ gb292 109 #[.int .i64 1, .int .i64 (wrap64 (-t314)), .slice none 0 0, .int .i64 (wrap64 ((ji54) + t315))] (0, 0) _ rfl (bP_ (bP_ (bP_ (bP_ (hK_ BK292.out))))) Tryd.underlying109 rfl (by kernel_rfl)) rfl ?_
    exact ⟨_, by first | rfl | (simp [errW_none, errW_some] <;> rfl) | (simp only [← hji54]; first | rfl | (simp [errW_none, errW_some] <;> rfl)) | (simp [*, errW_none, errW_some] <;> rfl), by first | exact Kd.R_nil _ _ _ _ _ | exact Kd.N_nil _ _ _ _ _ | exact Kd.V_nil _ _ _ _ _ | exact Kd.Q_nil _ _ _ _ _ | exact Kd.S_nil _ _ _ _ _, hC_⟩
  replace c71 := Bool.eq_false_iff.mpr c71
  subst c71
  have H1 : ((sleuthref1_bad.f).bind fun bt329 => (some (bt329.1, bt329.2.1, bt329.2.2.1, bt329.2.2.2))) = some (r1, r2, r3, r4) := by rw [if_neg (show ¬ (false = true) by decide)] at H; exact H
  clear H
  have H := H1
  clear H1
  replace H := Option.bind_eq_some_iff.mp H
  obtain ⟨⟨t329, t330, t331, t334⟩, A740, H⟩ := H
  replace H : (some (t329, t330, t331, t334)) = some (r1, r2, r3, r4) := H
  have A74 := Aside0.mk A740
  clear A740
  simp only [Option.some.injEq, Prod.mk.injEq] at H
  obtain ⟨rfl, rfl, rfl, rfl⟩ := H
  go_enter Tryd.func73, Tryd.ntmps73
  go_wp2_with (first | ((with_reducible refine gate_dst (N := 4) rfl ?_); refine boxE_ 4 #[.int .i64 0, .int .i64 0, .slice none 0 0, .int .i64 0] 109 ?_; intro gb292 hg w75 hbox hb; have n0_ := Aside0.mk (below_step hB_ hb); have n1_ := Aside0.mk (hbox); have n2_ := Aside0.mk ((gE_ hg : w.heap.size ≤ gb292)); have n3_ := Aside0.mk ((gE_ hg : w.heap.size ≤ gb292)); clear HB; have HB := n0_; have BK292 := n1_; have GW292 := n2_; have GE292 := n3_; clear n0_ n1_ n2_ n3_; clear hb hbox hg; have p11 : 0 ≤ (a1 : Int) := of_decide_eq_true hA_; have q11 : a1 < (a0.size : Int) := of_decide_eq_true hA_; have hx11 := bt_at a0 a1; replace p11 := eq_true p11; replace q11 := eq_true q11) | ((with_reducible refine gate_callee (f := 82) rfl ?_); refine goesL_ (some 79) rfl rfl Tryd.func82 (by kernel_rfl) rfl #[.string (a0.extract ((ji54) : Int).toNat a0.size)] rfl (by (try simp only [List.map_toArray, List.map_cons, List.map_nil]); first | done | (simp only [hji54]; rfl) | rfl | (simp only [List.length_drop, List.length_take]; rfl)) ?_; (with_reducible refine (sleuthref1_digits.calls k (a0.extract ((ji54) : Int).toNat a0.size) t314 t315 _ A57.out).mono ?_); rintro e w' ⟨rfl, ⟨nd, rfl⟩⟩; refine ⟨_, rfl, ?_⟩; (try (rw [drewN_self w75]; generalize hq_ : World.drewN w75 _ = w75; have n0_ : Aside0 (w75.heap[gb292]? = some (.cells #[.int .i64 0, .int .i64 0, .slice none 0 0, .int .i64 0] 109 (0, 0))) := ⟨by rw [← hq_]; exact (hK_ BK292.out)⟩; have n1_ : Aside0 (Below w.heap.size w w75) := ⟨by rw [← hq_]; exact hC_⟩; clear BK292 HB hq_; have BK292 := n0_; have HB := n1_; clear n0_ n1_; (try have hcu0_0 := bc0_ BK292.out); (try have hfu0_0 := blk_frozen BK292.out 0); (try have hcu0_1 := bc1_ BK292.out); (try have hfu0_1 := blk_frozen BK292.out 1); (try have hcu0_2 := bc2_ BK292.out); (try have hfu0_2 := blk_frozen BK292.out 2); (try have hcu0_3 := bc3_ BK292.out); (try have hfu0_3 := blk_frozen BK292.out 3)))) | (go_at_call 84; (with_reducible refine (sleuthref1_NumMay.calls (wrap64 (-t314)) false _ A70.out).mono ?_); rintro e w' ⟨rfl, ⟨nd, rfl⟩⟩; (try (rw [drewN_self w75]; generalize hq_ : World.drewN w75 _ = w75; have n0_ : Aside0 (w75.heap[gb292]? = some (.cells #[.int .i64 0, .int .i64 0, .slice none 0 0, .int .i64 0] 109 (0, 0))) := ⟨by rw [← hq_]; exact (hK_ BK292.out)⟩; have n1_ : Aside0 (Below w.heap.size w w75) := ⟨by rw [← hq_]; exact hC_⟩; clear BK292 HB hq_; have BK292 := n0_; have HB := n1_; clear n0_ n1_; (try have hcu0_0 := bc0_ BK292.out); (try have hfu0_0 := blk_frozen BK292.out 0); (try have hcu0_1 := bc1_ BK292.out); (try have hfu0_1 := blk_frozen BK292.out 1); (try have hcu0_2 := bc2_ BK292.out); (try have hfu0_2 := blk_frozen BK292.out 2); (try have hcu0_3 := bc3_ BK292.out); (try have hfu0_3 := blk_frozen BK292.out 3)))) | ((with_reducible refine gate_callee (f := 81) rfl ?_); refine goesL_ (some 94) rfl rfl Tryd.func81 (by kernel_rfl) rfl #[] rfl hL_ ?_; (with_reducible refine (sleuthref1_bad.calls  t329 t330 t331 t334 _ A74.out).mono ?_); rintro e w76 ⟨v332, rfl, ho0, hb⟩; refine ⟨_, rfl, ?_⟩; have n0_ := Aside0.mk (Kd.R_lower ho0 (below_size hC_)); have n1_ := Aside0.mk (bB_ BK292.out hb); have n2_ := Aside0.mk (below_step hC_ hb); clear BK292 HB; have HO333 := n0_; have BK292 := n1_; have HB := n2_; clear n0_ n1_ n2_; (try clear hb); (try clear hb2); (try clear hk); (try clear hi); (try clear ho0); obtain ⟨hcz77_0, hcz77_1, hcz77_2, hcz77_3, hfz77_0, hfz77_1, hfz77_2, hfz77_3⟩ := bx4_ BK292.out; obtain ⟨Ao78, co78, eo78⟩ := Kd.R_slice HO333.out; subst eo78))
  refine bodyPost_ret (results_cell_row rfl _ _ gb292 109 #[.int .i64 t329, .int .i64 t330, .slice Ao78 t331.length co78, .int .i64 t334] (0, 0) _ rfl (bP_ (bP_ (bP_ (bP_ (hK_ BK292.out))))) Tryd.underlying109 rfl (by kernel_rfl)) rfl ?_
  exact ⟨_, by first | rfl | (simp [errW_none, errW_some] <;> rfl) | (simp only [← hji54]; first | rfl | (simp [errW_none, errW_some] <;> rfl)) | (simp [*, errW_none, errW_some] <;> rfl), hR_ (Kd.R_mono (rF_ (rF_ (rF_ (rF_ (Kd.R_types HO333.out BK292.out (by decide)))))) (fun _ hk => trivial)), hC_⟩
theorem sleuthref1_parts.all (k : Nat) : sleuthref1_parts.Said k ∧ sleuthref1_term.Said k := by
  induction k using Nat.strongRecOn with
  | _ k ih => exact ⟨sleuthref1_parts.step k (fun m hm => (ih m hm).1) (fun m hm => (ih m hm).2), sleuthref1_term.step k (fun m hm => (ih m hm).2) (fun m hm => (ih m hm).1)⟩
theorem sleuthref1_parts.calls (k : Nat) : ∀ (a0 : ByteArray) (a1_0 : Int) (a1_1 : Int) (P1_2_ : Nat → Prop) (u9000_ : Value) (l1_2 : List ByteArray) (a1_3 : Int) (a2 : Int) (r1 : Int) (r2 : Int) (r3 : List ByteArray) (r4 : Int) (w0 w : World) (hB : Below w0.heap.size w0 w) (ho1_2 : Kd.R Kd.string 9 w w0.heap.size P1_2_ u9000_ l1_2) (h : sleuthref1_parts.f k a0 a1_0 a1_1 l1_2 a1_3 a2 = some (r1, r2, r3, r4)),
    Calls Tryd.prog 83 #[.string a0, .agg #[.int .i64 a1_0, .int .i64 a1_1, u9000_, .int .i64 a1_3], .int .i64 a2] w fun e w' => ∃ v2_ : Value, e = .returned (.agg #[.int .i64 r1, .int .i64 r2, v2_, .int .i64 r4]) ∧ Kd.R Kd.string 9 w' w0.heap.size (fun k_ => (P1_2_ k_ ∨ w.heap.size ≤ k_)) v2_ r3 ∧ Below w0.heap.size w0 w' ∧ Kept w w' (fun k_ => P1_2_ k_) := (sleuthref1_parts.all k).1
theorem sleuthref1_term.calls (k : Nat) : ∀ (a0 : ByteArray) (a1 : Int) (r1 : Int) (r2 : Int) (r3 : List ByteArray) (r4 : Int) (w : World) (h : sleuthref1_term.f k a0 a1 = some (r1, r2, r3, r4)),
    Calls Tryd.prog 73 #[.string a0, .int .i64 a1] w fun e w' => ∃ v2_ : Value, e = .returned (.agg #[.int .i64 r1, .int .i64 r2, v2_, .int .i64 r4]) ∧ Kd.R Kd.string 9 w' w.heap.size (fun _ => True) v2_ r3 ∧ Below w.heap.size w w' := (sleuthref1_parts.all k).2

end Go.Proofs.YtgokcaccamfgfaaDoor.G
