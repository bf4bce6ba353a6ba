/- Parts of this proof, one behind the other: G37, G38. -/
import Derived.Test.YtbnljapgnfmmoaaGreatDoorU2
import Derived.Test.YtbnljapgnfmmoaaGreatDoorG0
import Derived.Test.YtbnljapgnfmmoaaGreatDoorU8
section
-- Laid by the session's own driver gp.py over the kit's printer. Not trusted: Lean checks it.
namespace Go.Proofs.YtbnljapgnfmmoaaGreatDoor.G
open Go.RowKit Go.Proofs.YtbnljapgnfmmoaaGreatDoorW.PrintWords Go.Proofs.YtbnljapgnfmmoaaGreatDoorW.PrintLast Go.Proofs.YtbnljapgnfmmoaaGreatDoorW.PrintMore
set_option maxHeartbeats 8000000
set_option maxRecDepth 100000
attribute [local go_sem] max2_int min2_int max_two min_two max_three min_three max_four min_four   -- for this text's walks alone
set_option linter.unusedVariables false
set_option linter.unusedSimpArgs false

mutual
def sleuthref1_parts.l0 : Nat → ByteArray → Int → Int → Int → List ByteArray → Int → Option (Int × Int × List ByteArray × Int)
 | 0, _, _, _, _, _, _ => none
 | k + 1, x0, x2, x321000, x321001, x321002, x321003 => if (x321002.length : Int) < 3 then ((sleuthref1_term.f k x0 x2).bind fun bt328 => (if bt328.2.2.2 < 0 then (sleuthref1_parts.j1 k x0 x2 true x321000 x321001 x321002 x321003 bt328.1 bt328.2.1 bt328.2.2.1 bt328.2.2.2) else (sleuthref1_parts.j1 k x0 x2 (decide (bt328.2.2.2 ≥ (x0.size : Int))) x321000 x321001 x321002 x321003 bt328.1 bt328.2.1 bt328.2.2.1 bt328.2.2.2))) else ((sleuthref1_bad.f).bind fun bt322 => (some (bt322.1, bt322.2.1, bt322.2.2.1, bt322.2.2.2)))
def sleuthref1_parts.j1 : Nat → ByteArray → Int → Bool → Int → Int → List ByteArray → Int → Int → Int → List ByteArray → Int → Option (Int × Int × List ByteArray × Int)
 | 0, _, _, _, _, _, _, _, _, _, _, _ => none
 | k + 1, x0, x2, x24, x321000, x321001, x321002, x321003, x335000, x335001, x335002, x335003 => if x24 = true then ((sleuthref1_bad.f).bind fun bt335 => (some (bt335.1, bt335.2.1, bt335.2.2.1, bt335.2.2.2))) else (if 0 ≤ x2 then (if x2 ≤ x335003 then (if x335003 ≤ (x0.size : Int) then (if x321002.length < 8796093022208 then ((some (x321002 ++ [x0.extract (x2 : Int).toNat (x335003 : Int).toNat] : List ByteArray)).bind fun y341 => (if 0 ≤ x335003 then (if x335003 < (x0.size : Int) then (if (bt x0 x335003) = 41 then (some (x321000, x321001, y341, wrap64 (x335003 + 1))) else (if (bt x0 x335003) = 32 then (sleuthref1_parts.l0 k x0 (wrap64 (x335003 + 1)) x321000 x321001 y341 x321003) else ((sleuthref1_bad.f).bind fun bt344 => (some (bt344.1, bt344.2.1, bt344.2.2.1, bt344.2.2.2))))) else (none)) else (none))) else (none)) else (none)) else (none)) else (none))
def sleuthref1_parts.f : Nat → ByteArray → Int → Int → List ByteArray → Int → Int → Option (Int × Int × List ByteArray × Int)
 | 0, _, _, _, _, _, _ => none
 | k + 1, a0, a1_0, a1_1, l1_2, a1_3, a2 => sleuthref1_parts.l0 k a0 a2 a1_0 a1_1 l1_2 a1_3
def sleuthref1_term.j0 : Nat → ByteArray → Int → Int → Int → Bool → Option (Int × Int × List ByteArray × Int)
 | 0, _, _, _, _, _ => none
 | k + 1, x0, x1, x5, x6, x45 => if x45 = true then ((sleuthref1_bad.f).bind fun bt360 => (some (bt360.1, bt360.2.1, bt360.2.2.1, bt360.2.2.2))) else (if (wrap64 ((wrap64 (x1 + 1)) + x6)) < (x0.size : Int) then (if 0 ≤ (wrap64 ((wrap64 (x1 + 1)) + x6)) then (if (bt x0 (wrap64 ((wrap64 (x1 + 1)) + x6))) = 40 then ((sleuthref1_parts.f k x0 2 x5 ([] : List ByteArray) (wrap64 ((wrap64 (x1 + 1)) + x6)) (wrap64 ((wrap64 ((wrap64 (x1 + 1)) + x6)) + 1))).bind fun bt367 => (some (bt367.1, bt367.2.1, bt367.2.2.1, bt367.2.2.2))) else (some (2, x5, ([] : List ByteArray), wrap64 ((wrap64 (x1 + 1)) + x6)))) else (none)) else (some (2, x5, ([] : List ByteArray), wrap64 ((wrap64 (x1 + 1)) + x6))))
def sleuthref1_term.f : Nat → ByteArray → Int → Option (Int × Int × List ByteArray × Int)
 | 0, _, _ => none
 | k + 1, a0, a1 => if a1 ≥ (a0.size : Int) then ((sleuthref1_bad.f).bind fun bt352 => (some (bt352.1, bt352.2.1, bt352.2.2.1, bt352.2.2.2))) else (if 0 ≤ a1 then (if a1 < (a0.size : Int) then (if (bt a0 a1) = 95 then (some (0, 0, ([] : List ByteArray), wrap64 (a1 + 1))) else (if (bt a0 a1) = 33 then (some (3, 0, ([] : List ByteArray), wrap64 (a1 + 1))) else (if (bt a0 a1) = 64 then (if 0 ≤ (wrap64 (a1 + 1)) then (if (wrap64 (a1 + 1)) ≤ (a0.size : Int) then ((sleuthref1_digits.f k (a0.extract ((wrap64 (a1 + 1)) : Int).toNat a0.size)).bind fun bt358 => (if bt358.2 = 0 then (sleuthref1_term.j0 k a0 a1 bt358.1 bt358.2 true) else (sleuthref1_term.j0 k a0 a1 bt358.1 bt358.2 (decide (bt358.1 > 99))))) else (none)) else (none)) else (if (bt a0 a1) = 45 then (if 0 ≤ (wrap64 (a1 + 1)) then (if (wrap64 (a1 + 1)) ≤ (a0.size : Int) then ((sleuthref1_digits.f k (a0.extract ((wrap64 (a1 + 1)) : Int).toNat a0.size)).bind fun bt373 => (if bt373.2 = 0 then ((sleuthref1_bad.f).bind fun bt375 => (some (bt375.1, bt375.2.1, bt375.2.2.1, bt375.2.2.2))) else (if bt373.1 = 0 then ((sleuthref1_bad.f).bind fun bt381 => (some (bt381.1, bt381.2.1, bt381.2.2.1, bt381.2.2.2))) else ((sleuthref1_NumMay.f (wrap64 (-bt373.1))).bind fun t387 => (if t387 = true then (some (1, wrap64 (-bt373.1), ([] : List ByteArray), wrap64 ((wrap64 (a1 + 1)) + bt373.2))) else ((sleuthref1_bad.f).bind fun bt388 => (some (bt388.1, bt388.2.1, bt388.2.2.1, bt388.2.2.2)))))))) else (none)) else (none)) else (if a1 ≤ (a0.size : Int) then ((sleuthref1_digits.f k (a0.extract (a1 : Int).toNat a0.size)).bind fun bt394 => (if bt394.2 = 0 then ((sleuthref1_bad.f).bind fun bt396 => (some (bt396.1, bt396.2.1, bt396.2.2.1, bt396.2.2.2))) else ((sleuthref1_NumMay.f bt394.1).bind fun t402 => (if t402 = true then (some (1, bt394.1, ([] : List ByteArray), wrap64 (a1 + bt394.2))) else ((sleuthref1_bad.f).bind fun bt403 => (some (bt403.1, bt403.2.1, bt403.2.2.1, bt403.2.2.2))))))) else (none)))))) else (none)) else (none))
end
theorem sleuthref1_parts.mono_all : ∀ k, (∀ y0 y1 y2 y3 y4 y5, LeO (sleuthref1_parts.f k y0 y1 y2 y3 y4 y5) (sleuthref1_parts.f (k + 1) y0 y1 y2 y3 y4 y5)) ∧ (∀ y0 y1 y2 y3 y4 y5, LeO (sleuthref1_parts.l0 k y0 y1 y2 y3 y4 y5) (sleuthref1_parts.l0 (k + 1) y0 y1 y2 y3 y4 y5)) ∧ (∀ y0 y1 y2 y3 y4 y5 y6 y7 y8 y9 y10, LeO (sleuthref1_parts.j1 k y0 y1 y2 y3 y4 y5 y6 y7 y8 y9 y10) (sleuthref1_parts.j1 (k + 1) y0 y1 y2 y3 y4 y5 y6 y7 y8 y9 y10)) ∧ (∀ y0 y1, LeO (sleuthref1_term.f k y0 y1) (sleuthref1_term.f (k + 1) y0 y1)) ∧ (∀ y0 y1 y2 y3 y4, LeO (sleuthref1_term.j0 k y0 y1 y2 y3 y4) (sleuthref1_term.j0 (k + 1) y0 y1 y2 y3 y4))
 | 0 => ⟨fun _ _ _ _ _ _ r h => by simp [sleuthref1_parts.f] at h, fun _ _ _ _ _ _ r h => by simp [sleuthref1_parts.l0] at h, fun _ _ _ _ _ _ _ _ _ _ _ r h => by simp [sleuthref1_parts.j1] at h, fun _ _ r h => by simp [sleuthref1_term.f] at h, fun _ _ _ _ _ r h => by simp [sleuthref1_term.j0] at h⟩
 | k + 1 => by
  obtain ⟨ih0, ih1, ih2, ih3, ih4⟩ := sleuthref1_parts.mono_all k
  refine ⟨?_, ?_, ?_, ?_, ?_⟩
  · intro y0 y1 y2 y3 y4 y5
    unfold sleuthref1_parts.f
    repeat' first
    | (with_reducible exact ih0 _ _ _ _ _ _)
    | (with_reducible exact ih1 _ _ _ _ _ _)
    | (with_reducible exact ih2 _ _ _ _ _ _ _ _ _ _ _)
    | (with_reducible exact ih3 _ _)
    | (with_reducible exact ih4 _ _ _ _ _)
    | (with_reducible exact sleuthref1_digits.mono _ _)
    | (with_reducible exact LeO.refl _)
    | (with_reducible exact LeO.none _)
    | (with_reducible refine LeO.ite ?_ ?_)
    | (with_reducible refine LeO.bind ?_ (fun _ => ?_))
    | exact ih0 _ _ _ _ _ _
    | exact ih1 _ _ _ _ _ _
    | exact ih2 _ _ _ _ _ _ _ _ _ _ _
    | exact ih3 _ _
    | exact ih4 _ _ _ _ _
    | exact sleuthref1_digits.mono _ _
    | exact LeO.none _
    | refine LeO.ite ?_ ?_
    | refine LeO.bind ?_ (fun _ => ?_)
  · intro y0 y1 y2 y3 y4 y5
    unfold sleuthref1_parts.l0
    repeat' first
    | (with_reducible exact ih0 _ _ _ _ _ _)
    | (with_reducible exact ih1 _ _ _ _ _ _)
    | (with_reducible exact ih2 _ _ _ _ _ _ _ _ _ _ _)
    | (with_reducible exact ih3 _ _)
    | (with_reducible exact ih4 _ _ _ _ _)
    | (with_reducible exact sleuthref1_digits.mono _ _)
    | (with_reducible exact LeO.refl _)
    | (with_reducible exact LeO.none _)
    | (with_reducible refine LeO.ite ?_ ?_)
    | (with_reducible refine LeO.bind ?_ (fun _ => ?_))
    | exact ih0 _ _ _ _ _ _
    | exact ih1 _ _ _ _ _ _
    | exact ih2 _ _ _ _ _ _ _ _ _ _ _
    | exact ih3 _ _
    | exact ih4 _ _ _ _ _
    | exact sleuthref1_digits.mono _ _
    | exact LeO.none _
    | refine LeO.ite ?_ ?_
    | refine LeO.bind ?_ (fun _ => ?_)
  · intro y0 y1 y2 y3 y4 y5 y6 y7 y8 y9 y10
    unfold sleuthref1_parts.j1
    repeat' first
    | (with_reducible exact ih0 _ _ _ _ _ _)
    | (with_reducible exact ih1 _ _ _ _ _ _)
    | (with_reducible exact ih2 _ _ _ _ _ _ _ _ _ _ _)
    | (with_reducible exact ih3 _ _)
    | (with_reducible exact ih4 _ _ _ _ _)
    | (with_reducible exact sleuthref1_digits.mono _ _)
    | (with_reducible exact LeO.refl _)
    | (with_reducible exact LeO.none _)
    | (with_reducible refine LeO.ite ?_ ?_)
    | (with_reducible refine LeO.bind ?_ (fun _ => ?_))
    | exact ih0 _ _ _ _ _ _
    | exact ih1 _ _ _ _ _ _
    | exact ih2 _ _ _ _ _ _ _ _ _ _ _
    | exact ih3 _ _
    | exact ih4 _ _ _ _ _
    | exact sleuthref1_digits.mono _ _
    | exact LeO.none _
    | refine LeO.ite ?_ ?_
    | refine LeO.bind ?_ (fun _ => ?_)
  · intro y0 y1
    unfold sleuthref1_term.f
    repeat' first
    | (with_reducible exact ih0 _ _ _ _ _ _)
    | (with_reducible exact ih1 _ _ _ _ _ _)
    | (with_reducible exact ih2 _ _ _ _ _ _ _ _ _ _ _)
    | (with_reducible exact ih3 _ _)
    | (with_reducible exact ih4 _ _ _ _ _)
    | (with_reducible exact sleuthref1_digits.mono _ _)
    | (with_reducible exact LeO.refl _)
    | (with_reducible exact LeO.none _)
    | (with_reducible refine LeO.ite ?_ ?_)
    | (with_reducible refine LeO.bind ?_ (fun _ => ?_))
    | exact ih0 _ _ _ _ _ _
    | exact ih1 _ _ _ _ _ _
    | exact ih2 _ _ _ _ _ _ _ _ _ _ _
    | exact ih3 _ _
    | exact ih4 _ _ _ _ _
    | exact sleuthref1_digits.mono _ _
    | exact LeO.none _
    | refine LeO.ite ?_ ?_
    | refine LeO.bind ?_ (fun _ => ?_)
  · intro y0 y1 y2 y3 y4
    unfold sleuthref1_term.j0
    repeat' first
    | (with_reducible exact ih0 _ _ _ _ _ _)
    | (with_reducible exact ih1 _ _ _ _ _ _)
    | (with_reducible exact ih2 _ _ _ _ _ _ _ _ _ _ _)
    | (with_reducible exact ih3 _ _)
    | (with_reducible exact ih4 _ _ _ _ _)
    | (with_reducible exact sleuthref1_digits.mono _ _)
    | (with_reducible exact LeO.refl _)
    | (with_reducible exact LeO.none _)
    | (with_reducible refine LeO.ite ?_ ?_)
    | (with_reducible refine LeO.bind ?_ (fun _ => ?_))
    | exact ih0 _ _ _ _ _ _
    | exact ih1 _ _ _ _ _ _
    | exact ih2 _ _ _ _ _ _ _ _ _ _ _
    | exact ih3 _ _
    | exact ih4 _ _ _ _ _
    | exact sleuthref1_digits.mono _ _
    | exact LeO.none _
    | refine LeO.ite ?_ ?_
    | refine LeO.bind ?_ (fun _ => ?_)
theorem sleuthref1_parts.mono : ∀ a0 a1 a2 a3 a4 a5 k, LeO (sleuthref1_parts.f k a0 a1 a2 a3 a4 a5) (sleuthref1_parts.f (k + 1) a0 a1 a2 a3 a4 a5) := by
 intro a0 a1 a2 a3 a4 a5 k
 obtain ⟨ih0, ih1, ih2, ih3, ih4⟩ := sleuthref1_parts.mono_all k
 exact ih0 a0 a1 a2 a3 a4 a5
theorem sleuthref1_term.mono : ∀ a0 a1 k, LeO (sleuthref1_term.f k a0 a1) (sleuthref1_term.f (k + 1) a0 a1) := by
 intro a0 a1 k
 obtain ⟨ih0, ih1, ih2, ih3, ih4⟩ := sleuthref1_parts.mono_all k
 exact ih3 a0 a1
abbrev sleuthref1_parts.Said (k : Nat) : Prop := ∀ (a0 : ByteArray) (a1_0 : Int) (a1_1 : Int) (P1_2_ : Nat → Prop) (u9000_ : Value) (l1_2 : List ByteArray) (a1_3 : Int) (a2 : Int) (r1 : Int) (r2 : Int) (r3 : List ByteArray) (r4 : Int) (w0 w : World) (hB : Below w0.heap.size w0 w) (ho1_2 : Kd.R Kd.string 9 w w0.heap.size P1_2_ u9000_ l1_2) (h : sleuthref1_parts.f k a0 a1_0 a1_1 l1_2 a1_3 a2 = some (r1, r2, r3, r4)),
 Calls Tryz.prog 76 #[.string a0, .agg #[.int .i64 a1_0, .int .i64 a1_1, u9000_, .int .i64 a1_3], .int .i64 a2] w fun e w' => ∃ v2_ : Value, e = .returned (.agg #[.int .i64 r1, .int .i64 r2, v2_, .int .i64 r4]) ∧ Kd.R Kd.string 9 w' w0.heap.size (fun k_ => (P1_2_ k_ ∨ w.heap.size ≤ k_)) v2_ r3 ∧ Below w0.heap.size w0 w' ∧ Kept w w' (fun k_ => P1_2_ k_)
abbrev sleuthref1_term.Said (k : Nat) : Prop := ∀ (a0 : ByteArray) (a1 : Int) (r1 : Int) (r2 : Int) (r3 : List ByteArray) (r4 : Int) (w : World) (h : sleuthref1_term.f k a0 a1 = some (r1, r2, r3, r4)),
 Calls Tryz.prog 70 #[.string a0, .int .i64 a1] w fun e w' => ∃ v2_ : Value, e = .returned (.agg #[.int .i64 r1, .int .i64 r2, v2_, .int .i64 r4]) ∧ Kd.R Kd.string 9 w' w.heap.size (fun _ => True) v2_ r3 ∧ Below w.heap.size w w'
def sleuthref1_parts.T5 : Bool × List (List Nat × List Nat) := (true, [([], []), ([0], [0]), ([], []), ([], []), ([], []), ([4], [4]), ([2, 3, 5], [2, 3, 5]), ([6], [6]), ([1, 7], [1, 7]), ([0, 1, 2, 3, 4, 5, 6, 7, 8], []), ([9, 8, 8, 0, 1, 2, 3, 4, 5, 6, 7, 8], [8, 9])])
def sleuthref1_parts.B5 : List Nat := [0, 1, 0, 0, 0, 16, 60, 124, 255, 511, 1023]
theorem sleuthref1_parts.tab5 : rtab .any (opsOf Tryz.f76 5) = sleuthref1_parts.T5 := by kernel_rfl
theorem sleuthref1_parts.bits5 : waitsOk sleuthref1_parts.T5.2 sleuthref1_parts.B5 = true := by kernel_rfl
theorem sleuthref1_parts.step (k : Nat) (ih : ∀ m, m < k → sleuthref1_parts.Said m) (ih_sleuthref1_term : ∀ m, m < k → sleuthref1_term.Said m) : sleuthref1_parts.Said k := by
 intro a0 a1_0 a1_1 P1_2_ u9000_ l1_2 a1_3 a2 r1 r2 r3 r4 w0 w hB ho1_2 h
 cases k with
 | zero => exact absurd h (by simp [sleuthref1_parts.f])
 | succ k =>
 simp only [sleuthref1_parts.f] at h
 have hu103 := Tryz.underlying103
 have HO1_2 := a_ (show Kd.R Kd.string 9 w w0.heap.size (fun k_ => (P1_2_ k_ ∨ w.heap.size ≤ k_)) u9000_ l1_2 from Kd.R_mono ho1_2 (fun k_ hk => (.inl hk)))
 have HK := a_ (Kept.refl w (fun k_ => P1_2_ k_))
 have HW0 := a_ hB.size
 have HB := a_ hB
 clear hB
 have H : (sleuthref1_parts.l0 k a0 a2 a1_0 a1_1 l1_2 a1_3) = some (r1, r2, r3, r4) := h
 clear h
 have H' := a_ H
 clear H
 obtain ⟨Ao4, co4, eo4⟩ := Kd.R_slice HO1_2.out
 subst eo4
 go_enter Tryz.func76, Tryz.ntmps76
 go_wp2_with (first | ((with_reducible refine gate_dst (N := 4) rfl ?_); (try (refine gate_guard (by rfl) ?_; dsimp only)); refine boxE_ 4 #[.int .i64 a1_0, .int .i64 a1_1, .slice Ao4 l1_2.length co4, .int .i64 a1_3] 103 ?_; intro gb320 hg w5 hbox hb; replace HO1_2 := a_ (Kd.R_below (hR_ HO1_2.out) hb); have BK320 := a_ (hbox); have GW320 := a_ ((by rw [hg]; exact (by first | exact HK.out.1 | exact (show Kept w _ (fun k_ => P1_2_ k_) from by repeat (first | (with_reducible first | exact HK.out | apply Kept.alloc | apply Kept.drewN | apply Kept.drew) | exact HK.out)).1) : w.heap.size ≤ gb320)); replace HK := a_ (Kept.below (S := (fun k_ => P1_2_ k_)) (by repeat (first | (with_reducible first | exact HK.out | apply Kept.alloc | apply Kept.drewN | apply Kept.drew) | exact HK.out)) hb); have GE320 := a_ ((gE_ hg : w0.heap.size ≤ gb320)); replace HB := a_ (below_step hB_ hb); clear hb hbox hg) | ((with_reducible refine gate_dst (N := 6) rfl ?_); (try (refine gate_guard (by rfl) ?_; dsimp only)); refine boxE_ 6 #[.int .i64 0, .int .i64 0, .slice none 0 0, .int .i64 0] 103 ?_; intro gb321 hg w6 hbox hb; replace HO1_2 := a_ (Kd.R_below (hR_ HO1_2.out) hb); have BK321 := a_ (hbox); have GW321 := a_ ((by rw [hg]; exact (by first | exact HK.out.1 | exact (show Kept w _ (fun k_ => P1_2_ k_) from by repeat (first | (with_reducible first | exact HK.out | apply Kept.alloc | apply Kept.drewN | apply Kept.drew | refine Kept.setCell ?_ (.inr GW320.out) _) | exact HK.out)).1) : w.heap.size ≤ gb321)); replace HK := a_ (Kept.below (S := (fun k_ => P1_2_ k_)) (by repeat (first | (with_reducible first | exact HK.out | apply Kept.alloc | apply Kept.drewN | apply Kept.drew | refine Kept.setCell ?_ (.inr GW320.out) _) | exact HK.out)) hb); have GE321 := a_ ((gE_ hg : w0.heap.size ≤ gb321)); replace HB := a_ (below_step hC_ hb); have NB320_321 := a_ ((bL_ BK320.out hg : gb320 ≠ gb321)); have NB321_320 := a_ ((bG_ BK320.out hg : gb321 ≠ gb320)); replace BK320 := a_ (bB_ BK320.out hb); clear hb hbox hg))
 (try simp only [Act.put, List.setIfInBounds_toArray, List.set_cons_zero, List.set_cons_succ])
 go_loopg [2] k (fun kq v2 w' => ∃ (x2_1 : Int) (x321002_1 : List ByteArray) (x321003_1 : Int) (x322000_1 : Int) (x322001_1 : Int) (x322003_1 : Int) (u321002 : Value), v2 = .int .i64 x2_1 ∧ Aside0 (sleuthref1_parts.l0 kq a0 x2_1 a1_0 a1_1 x321002_1 x321003_1 = some (r1, r2, r3, r4)) ∧ Aside0 (kq ≤ k) ∧ Aside0 (Kd.R Kd.string 9 w' w0.heap.size (fun k_ => (P1_2_ k_ ∨ w.heap.size ≤ k_)) u321002 x321002_1) ∧ Aside0 (w'.heap[gb320]? = some (.cells #[.int .i64 a1_0, .int .i64 a1_1, u321002, .int .i64 x321003_1] 103 (0, 0))) ∧ Aside0 (w'.heap[gb321]? = some (.cells #[.int .i64 x322000_1, .int .i64 x322001_1, (.slice none 0 0), .int .i64 x322003_1] 103 (0, 0))) ∧ Aside0 (Kept w w' (fun k_ => P1_2_ k_)) ∧ Aside0 (Below w0.heap.size w0 w'))
 case atStart => exact ⟨(a2), (l1_2), (a1_3), (0), (0), (0), (.slice Ao4 l1_2.length co4), hW_, H', ⟨Nat.le_refl _⟩, ⟨hR_ HO1_2.out⟩, ⟨(hK_ BK320.out)⟩, ⟨(hK_ BK321.out)⟩, ⟨by repeat (first | (with_reducible first | exact HK.out | apply Kept.alloc | apply Kept.drewN | apply Kept.drew | refine Kept.setCell ?_ (.inr GW320.out) _ | refine Kept.setCell ?_ (.inr GW321.out) _) | exact HK.out)⟩, ⟨hC_⟩⟩
 case round =>
  clear H'
  try clear p2
  obtain ⟨x2_1, x321002_1, x321003_1, x322000_1, x322001_1, x322003_1, u321002, rfl, HA, HK1, HO_321002, BK320, BK321, HK, HB⟩ := hrel
  cases gk with
  | zero => exact absurd HA.out (by simp [sleuthref1_parts.l0])
  | succ k1 =>
   have H := HA.out
   clear HA
   simp only [sleuthref1_parts.l0] at H
   by_cases c7 : (x321002_1.length : Int) < 3
   case neg =>
    rw [if_neg c7] at H
    have c7b0 : decide ((x321002_1.length : Int) < 3) = false := decide_eq_false c7
    have c7b1 : decide (x321002_1.length < 3) = false := decide_eq_false (by omega)
    clear c7
    replace H := Option.bind_eq_some_iff.mp H
    obtain ⟨⟨t322, t323, t324, t327⟩, A720, H⟩ := H
    try dsimp only at H
    have A72 := a_ A720
    clear A720
    simp only [Option.some.injEq, Prod.mk.injEq] at H
    obtain ⟨rfl, rfl, rfl, rfl⟩ := H
    have hnb73 := NB320_321.out
    have hnc73 := NB321_320.out
    obtain ⟨hcz74_0, hcz74_1, hcz74_2, hcz74_3, hfz74_0, hfz74_1, hfz74_2, hfz74_3⟩ := bx4_ BK320.out
    obtain ⟨Ao75, co75, eo75⟩ := Kd.R_slice HO_321002.out
    subst eo75
    go_wp2_with (first | ((with_reducible refine gate_callee (f := 74) rfl ?_); refine goesL_ (some 55) rfl rfl Tryz.func74 (by kernel_rfl) rfl #[] rfl hL_ ?_; (with_reducible refine (sleuthref1_bad.calls  t322 t323 t324 t327 _ A72.out).mono ?_); rintro e w76 ⟨v325, rfl, ho0, hb⟩; refine ⟨_, rfl, ?_⟩; have HO326 := a_ (Kd.R_lower (Kd.R_new' (Kd.R_newM (M := fun k_ => (P1_2_ k_ ∨ w.heap.size ≤ k_)) ho0 (by first | exact HK.out.1 | exact (show Kept w _ (fun k_ => P1_2_ k_) from by repeat (first | (with_reducible first | exact HK.out | apply Kept.alloc | apply Kept.drewN | apply Kept.drew | refine Kept.setCell ?_ (.inr GW320.out) _ | refine Kept.setCell ?_ (.inr GW321.out) _) | exact HK.out)).1) (fun k_ h_ => .inr h_)) (Kd.R_lt (hR_ HO_321002.out))) (below_size hC_)); replace HO_321002 := a_ (Kd.R_elder' (hR_ HO_321002.out) (Kd.R_base ho0) hb); replace BK320 := a_ (bB_ BK320.out hb); replace BK321 := a_ (bB_ BK321.out hb); replace HK := a_ (Kept.below (S := (fun k_ => P1_2_ k_)) (by repeat (first | (with_reducible first | exact HK.out | apply Kept.alloc | apply Kept.drewN | apply Kept.drew | refine Kept.setCell ?_ (.inr GW320.out) _ | refine Kept.setCell ?_ (.inr GW321.out) _) | exact HK.out)) hb); replace HB := a_ (below_step hC_ hb); (try clear hb); (try clear hb2); (try clear hk); (try clear hi); (try clear ho0); obtain ⟨hcz77_0, hcz77_1, hcz77_2, hcz77_3, hfz77_0, hfz77_1, hfz77_2, hfz77_3⟩ := bx4_ BK321.out; obtain ⟨Ao78, co78, eo78⟩ := Kd.R_slice HO326.out; subst eo78))
    refine bodyPost_ret (results_cell_row rfl _ _ gb321 103 #[.int .i64 t322, .int .i64 t323, .slice Ao78 t324.length co78, .int .i64 t327] (0, 0) _ rfl (bP_ (bP_ (bP_ (bP_ (hK_ BK321.out))))) Tryz.underlying103 rfl (by kernel_rfl)) rfl ?_
    exact ⟨_, hV_, hR_ (Kd.R_mono (rF_ (rF_ (rF_ (rF_ (Kd.R_types HO326.out BK321.out (by decide)))))) (fun _ hk => hk.1.1.1)), hC_, by repeat (first | (with_reducible first | exact HK.out | apply Kept.alloc | apply Kept.drewN | apply Kept.drew | refine Kept.setCell ?_ (.inr GW320.out) _ | refine Kept.setCell ?_ (.inr GW321.out) _) | exact HK.out)⟩

   rw [if_pos c7] at H
   have c7b0 : decide ((x321002_1.length : Int) < 3) = true := decide_eq_true c7
   have c7b1 : decide (x321002_1.length < 3) = true := decide_eq_true (by omega)
   clear c7
   replace H := Option.bind_eq_some_iff.mp H
   obtain ⟨⟨t328, t329, t330, t333⟩, A80, H⟩ := H
   try dsimp only at H
   have A8 := a_ A80
   clear A80
   have HC9 := a_ H
   clear H
   have hnb10 := NB320_321.out
   have hnc10 := NB321_320.out
   obtain ⟨hcz11_0, hcz11_1, hcz11_2, hcz11_3, hfz11_0, hfz11_1, hfz11_2, hfz11_3⟩ := bx4_ BK320.out
   obtain ⟨Ao12, co12, eo12⟩ := Kd.R_slice HO_321002.out
   subst eo12
   go_upto_region 3 with (first | ((with_reducible refine gate_callee (f := 70) rfl ?_); refine goesL_ (some 14) rfl rfl Tryz.func70 (by kernel_rfl) rfl #[.string a0, .int .i64 x2_1] rfl hL_ ?_; (with_reducible refine (ih_sleuthref1_term k1 (by have := HK1.out; omega) a0 x2_1 t328 t329 t330 t333 _ A8.out).mono ?_); rintro e w13 ⟨v331, rfl, ho0, hb⟩; refine ⟨_, rfl, ?_⟩; have HO332 := a_ (Kd.R_lower (Kd.R_new' (Kd.R_newM (M := fun k_ => (P1_2_ k_ ∨ w.heap.size ≤ k_)) ho0 (by first | exact HK.out.1 | exact (show Kept w _ (fun k_ => P1_2_ k_) from by repeat (first | (with_reducible first | exact HK.out | apply Kept.alloc | apply Kept.drewN | apply Kept.drew | refine Kept.setCell ?_ (.inr GW320.out) _ | refine Kept.setCell ?_ (.inr GW321.out) _) | exact HK.out)).1) (fun k_ h_ => .inr h_)) (Kd.R_lt (hR_ HO_321002.out))) (below_size hC_)); replace HO_321002 := a_ (Kd.R_elder' (hR_ HO_321002.out) (Kd.R_base ho0) hb); replace BK320 := a_ (bB_ BK320.out hb); replace BK321 := a_ (bB_ BK321.out hb); replace HK := a_ (Kept.below (S := (fun k_ => P1_2_ k_)) (by repeat (first | (with_reducible first | exact HK.out | apply Kept.alloc | apply Kept.drewN | apply Kept.drew | refine Kept.setCell ?_ (.inr GW320.out) _ | refine Kept.setCell ?_ (.inr GW321.out) _) | exact HK.out)) hb); replace HB := a_ (below_step hC_ hb); (try clear hb); (try clear hb2); (try clear hk); (try clear hi); (try clear ho0)) | ((with_reducible refine gate_dst (N := 7) rfl ?_); (try (refine gate_guard (by rfl) ?_; dsimp only)); refine boxE_ 7 #[.int .i64 0, .int .i64 0, .slice none 0 0, .int .i64 0] 103 ?_; intro gb334 hg w14 hbox hb; replace HO_321002 := a_ (Kd.R_below (hR_ HO_321002.out) hb); replace HO332 := a_ (Kd.R_below (hR_ HO332.out) hb); have BK334 := a_ (hbox); have GW334 := a_ ((by rw [hg]; exact (by first | exact HK.out.1 | exact (show Kept w _ (fun k_ => P1_2_ k_) from by repeat (first | (with_reducible first | exact HK.out | apply Kept.alloc | apply Kept.drewN | apply Kept.drew | refine Kept.setCell ?_ (.inr GW320.out) _ | refine Kept.setCell ?_ (.inr GW321.out) _) | exact HK.out)).1) : w.heap.size ≤ gb334)); replace HK := a_ (Kept.below (S := (fun k_ => P1_2_ k_)) (by repeat (first | (with_reducible first | exact HK.out | apply Kept.alloc | apply Kept.drewN | apply Kept.drew | refine Kept.setCell ?_ (.inr GW320.out) _ | refine Kept.setCell ?_ (.inr GW321.out) _) | exact HK.out)) hb); have GE334 := a_ ((gE_ hg : w0.heap.size ≤ gb334)); replace HB := a_ (below_step hC_ hb); have NB320_334 := a_ ((bL_ BK320.out hg : gb320 ≠ gb334)); have NB334_320 := a_ ((bG_ BK320.out hg : gb334 ≠ gb320)); replace BK320 := a_ (bB_ BK320.out hb); have NB321_334 := a_ ((bL_ BK321.out hg : gb321 ≠ gb334)); have NB334_321 := a_ ((bG_ BK321.out hg : gb334 ≠ gb321)); replace BK321 := a_ (bB_ BK321.out hb); clear hb hbox hg; have hnb15 := NB334_320.out; have hnc15 := NB320_334.out; have hnb16 := NB334_321.out; have hnc16 := NB321_334.out; obtain ⟨hcz17_0, hcz17_1, hcz17_2, hcz17_3, hfz17_0, hfz17_1, hfz17_2, hfz17_3⟩ := bx4_ BK334.out; obtain ⟨Ao18, co18, eo18⟩ := Kd.R_slice HO332.out; subst eo18))
   (try simp only [Act.put, List.setIfInBounds_toArray, List.set_cons_zero, List.set_cons_succ])
   go_cut [24] (fun v24 wc => ∃ (kq : Nat) (x24_8 : Bool), v24 = .bool x24_8 ∧ Aside0 (sleuthref1_parts.j1 kq a0 x2_1 x24_8 a1_0 a1_1 x321002_1 x321003_1 t328 t329 t330 t333 = some (r1, r2, r3, r4)) ∧ Aside0 (kq ≤ k1) ∧ Aside0 (Kd.R Kd.string 9 wc w0.heap.size (fun k_ => (P1_2_ k_ ∨ w.heap.size ≤ k_) ∧ some k_ ≠ ((.slice Ao18 t330.length co18) : Value).ownBlock) (.slice Ao12 x321002_1.length co12) x321002_1) ∧ Aside0 (Kd.R Kd.string 9 wc w0.heap.size (fun k_ => (P1_2_ k_ ∨ w.heap.size ≤ k_) ∧ some k_ ≠ ((.slice Ao12 x321002_1.length co12) : Value).ownBlock) (.slice Ao18 t330.length co18) t330) ∧ Aside0 (wc.heap[gb320]? = some (.cells #[.int .i64 a1_0, .int .i64 a1_1, (.slice Ao12 x321002_1.length co12), .int .i64 x321003_1] 103 (0, 0))) ∧ Aside0 (wc.heap[gb321]? = some (.cells #[.int .i64 x322000_1, .int .i64 x322001_1, (.slice none 0 0), .int .i64 x322003_1] 103 (0, 0))) ∧ Aside0 (wc.heap[gb334]? = some (.cells #[.int .i64 t328, .int .i64 t329, (.slice Ao18 t330.length co18), .int .i64 t333] 103 (0, 0))) ∧ Aside0 (Kept w wc (fun k_ => P1_2_ k_)) ∧ Aside0 (Below w0.heap.size w0 wc))
   case first =>
    have H := HC9.out
    clear HC9
    by_cases c19 : t333 < 0
    case pos =>
     rw [if_pos c19] at H
     have c19b0 : decide (t333 < 0) = true := decide_eq_true c19
     clear c19
     (first | rw [c19b0] | (simp only [i64_w, i32_w]; rw [c19b0]) | skip)
     have H' := a_ H
     clear H
     have hnb20 := NB334_320.out
     have hnc20 := NB320_334.out
     have hnb21 := NB334_321.out
     have hnc21 := NB321_334.out
     obtain ⟨hcz22_0, hcz22_1, hcz22_2, hcz22_3, hfz22_0, hfz22_1, hfz22_2, hfz22_3⟩ := bx4_ BK334.out
     go_wp2
     go_meet
     case rel => exact ⟨_, (true), hW_, H', ⟨by have := HK1.out; first | omega | exact Nat.le_refl _⟩, ⟨by (with_reducible repeat (first | apply Kd.R_alloc | apply Kd.R_drewN | apply Kd.R_drew)); exact Kd.R_mono (rF_ (rF_ (rF_ (rF_ (Kd.R_types HO_321002.out BK334.out (by decide)))))) (fun _ hk => ⟨hk.1.1, hk.1.2⟩)⟩, ⟨by (with_reducible repeat (first | apply Kd.R_alloc | apply Kd.R_drewN | apply Kd.R_drew)); exact Kd.R_mono (rF_ (rF_ (rF_ (rF_ (Kd.R_types HO332.out BK334.out (by decide)))))) (fun _ hk => ⟨hk.1.1.1, hk.1.2⟩)⟩, ⟨(bF_ (bF_ (bF_ (bF_ (hK_ BK320.out) NB320_334.out) NB320_334.out) NB320_334.out) NB320_334.out)⟩, ⟨(bF_ (bF_ (bF_ (bF_ (hK_ BK321.out) NB321_334.out) NB321_334.out) NB321_334.out) NB321_334.out)⟩, ⟨(bP_ (bP_ (bP_ (bP_ (hK_ BK334.out)))))⟩, ⟨by repeat (first | (with_reducible first | exact HK.out | apply Kept.alloc | apply Kept.drewN | apply Kept.drew | refine Kept.setCell ?_ (.inr GW320.out) _ | refine Kept.setCell ?_ (.inr GW321.out) _ | refine Kept.setCell ?_ (.inr GW334.out) _) | exact HK.out)⟩, ⟨hC_⟩⟩
    rw [if_neg c19] at H
    have c19b0 : decide (t333 < 0) = false := decide_eq_false c19
    clear c19
    (first | rw [c19b0] | (simp only [i64_w, i32_w]; rw [c19b0]) | skip)
    have H' := a_ H
    clear H
    have hnb23 := NB334_320.out
    have hnc23 := NB320_334.out
    have hnb24 := NB334_321.out
    have hnc24 := NB321_334.out
    obtain ⟨hcz25_0, hcz25_1, hcz25_2, hcz25_3, hfz25_0, hfz25_1, hfz25_2, hfz25_3⟩ := bx4_ BK334.out
    go_wp2
    go_meet
    case rel => exact ⟨_, (decide (t333 ≥ (a0.size : Int))), hW_, H', ⟨by have := HK1.out; first | omega | exact Nat.le_refl _⟩, ⟨by (with_reducible repeat (first | apply Kd.R_alloc | apply Kd.R_drewN | apply Kd.R_drew)); exact Kd.R_mono (rF_ (rF_ (rF_ (rF_ (Kd.R_types HO_321002.out BK334.out (by decide)))))) (fun _ hk => ⟨hk.1.1, hk.1.2⟩)⟩, ⟨by (with_reducible repeat (first | apply Kd.R_alloc | apply Kd.R_drewN | apply Kd.R_drew)); exact Kd.R_mono (rF_ (rF_ (rF_ (rF_ (Kd.R_types HO332.out BK334.out (by decide)))))) (fun _ hk => ⟨hk.1.1.1, hk.1.2⟩)⟩, ⟨(bF_ (bF_ (bF_ (bF_ (hK_ BK320.out) NB320_334.out) NB320_334.out) NB320_334.out) NB320_334.out)⟩, ⟨(bF_ (bF_ (bF_ (bF_ (hK_ BK321.out) NB321_334.out) NB321_334.out) NB321_334.out) NB321_334.out)⟩, ⟨(bP_ (bP_ (bP_ (bP_ (hK_ BK334.out)))))⟩, ⟨by repeat (first | (with_reducible first | exact HK.out | apply Kept.alloc | apply Kept.drewN | apply Kept.drew | refine Kept.setCell ?_ (.inr GW320.out) _ | refine Kept.setCell ?_ (.inr GW321.out) _ | refine Kept.setCell ?_ (.inr GW334.out) _) | exact HK.out)⟩, ⟨hC_⟩⟩
   case rest =>
    clear HC9
    try clear c1
    try clear c2
    try clear p2
    try clear c7
    try clear c7b0
    try clear c7b1
    try clear c10
    try clear c15
    try clear c16
    try clear c19
    try clear c19b0
    try clear c20
    try clear c21
    try clear c23
    try clear c24
    try clear hcz11_0
    try clear hcz11_1
    try clear hcz11_2
    try clear hcz11_3
    try clear hcz17_0
    try clear hcz17_1
    try clear hcz17_2
    try clear hcz17_3
    try clear hcz22_0
    try clear hcz22_1
    try clear hcz22_2
    try clear hcz22_3
    try clear hcz25_0
    try clear hcz25_1
    try clear hcz25_2
    try clear hcz25_3
    try clear hfz11_0
    try clear hfz11_1
    try clear hfz11_2
    try clear hfz11_3
    try clear hfz17_0
    try clear hfz17_1
    try clear hfz17_2
    try clear hfz17_3
    try clear hfz22_0
    try clear hfz22_1
    try clear hfz22_2
    try clear hfz22_3
    try clear hfz25_0
    try clear hfz25_1
    try clear hfz25_2
    try clear hfz25_3
    try clear p2
    obtain ⟨kq, x24_8, rfl, HA, HJ8, HO_321002, HO_335002, BK320, BK321, BK334, HK, HB⟩ := hcut
    cases kq with
    | zero => exact absurd HA.out (by simp [sleuthref1_parts.j1])
    | succ kj8 =>
     have H := HA.out
     clear HA
     simp only [sleuthref1_parts.j1] at H
     by_cases c26 : x24_8 = true
     case pos =>
      subst c26
      rw [if_pos rfl] at H
      replace H := Option.bind_eq_some_iff.mp H
      obtain ⟨⟨t335, t336, t337, t340⟩, A270, H⟩ := H
      try dsimp only at H
      have A27 := a_ A270
      clear A270
      simp only [Option.some.injEq, Prod.mk.injEq] at H
      obtain ⟨rfl, rfl, rfl, rfl⟩ := H
      go_wp2_with (first | ((with_reducible refine gate_callee (f := 74) rfl ?_); refine goesL_ (some 25) rfl rfl Tryz.func74 (by kernel_rfl) rfl #[] rfl hL_ ?_; (with_reducible refine (sleuthref1_bad.calls  t335 t336 t337 t340 _ A27.out).mono ?_); rintro e w28 ⟨v338, rfl, ho0, hb⟩; refine ⟨_, rfl, ?_⟩; have HO339 := a_ (Kd.R_lower (Kd.R_new' (Kd.R_new' (Kd.R_newM (M := fun k_ => (P1_2_ k_ ∨ w.heap.size ≤ k_)) ho0 (by first | exact HK.out.1 | exact (show Kept w _ (fun k_ => P1_2_ k_) from by repeat (first | (with_reducible first | exact HK.out | apply Kept.alloc | apply Kept.drewN | apply Kept.drew | refine Kept.setCell ?_ (.inr GW320.out) _ | refine Kept.setCell ?_ (.inr GW321.out) _ | refine Kept.setCell ?_ (.inr GW334.out) _) | exact HK.out)).1) (fun k_ h_ => .inr h_)) (Kd.R_lt (hR_ HO_321002.out))) (Kd.R_lt (hR_ HO_335002.out))) (below_size hC_)); replace HO_321002 := a_ (Kd.R_elder' (hR_ HO_321002.out) (Kd.R_base ho0) hb); replace HO_335002 := a_ (Kd.R_elder' (hR_ HO_335002.out) (Kd.R_base ho0) hb); replace BK320 := a_ (bB_ BK320.out hb); replace BK321 := a_ (bB_ BK321.out hb); replace BK334 := a_ (bB_ BK334.out hb); replace HK := a_ (Kept.below (S := (fun k_ => P1_2_ k_)) (by repeat (first | (with_reducible first | exact HK.out | apply Kept.alloc | apply Kept.drewN | apply Kept.drew | refine Kept.setCell ?_ (.inr GW320.out) _ | refine Kept.setCell ?_ (.inr GW321.out) _ | refine Kept.setCell ?_ (.inr GW334.out) _) | exact HK.out)) hb); replace HB := a_ (below_step hC_ hb); (try clear hb); (try clear hb2); (try clear hk); (try clear hi); (try clear ho0); have hnb29 := NB321_320.out; have hnc29 := NB320_321.out; have hnb30 := NB321_334.out; have hnc30 := NB334_321.out; obtain ⟨hcz31_0, hcz31_1, hcz31_2, hcz31_3, hfz31_0, hfz31_1, hfz31_2, hfz31_3⟩ := bx4_ BK321.out; obtain ⟨Ao32, co32, eo32⟩ := Kd.R_slice HO339.out; subst eo32))
      refine bodyPost_ret (results_cell_row rfl _ _ gb321 103 #[.int .i64 t335, .int .i64 t336, .slice Ao32 t337.length co32, .int .i64 t340] (0, 0) _ rfl (bP_ (bP_ (bP_ (bP_ (hK_ BK321.out))))) Tryz.underlying103 rfl (by kernel_rfl)) rfl ?_
      exact ⟨_, hV_, hR_ (Kd.R_mono (rF_ (rF_ (rF_ (rF_ (Kd.R_types HO339.out BK321.out (by decide)))))) (fun _ hk => hk.1.1.1.1)), hC_, by repeat (first | (with_reducible first | exact HK.out | apply Kept.alloc | apply Kept.drewN | apply Kept.drew | refine Kept.setCell ?_ (.inr GW320.out) _ | refine Kept.setCell ?_ (.inr GW321.out) _ | refine Kept.setCell ?_ (.inr GW334.out) _) | exact HK.out)⟩
     replace c26 := Bool.eq_false_iff.mpr c26
     subst c26
     rw [if_neg (show ¬ (false = true) by decide)] at H
     replace H := ifI_ H; obtain ⟨c33, H⟩ := H
     have c33b0 := eq_true c33
     have c33b1 : decide (0 ≤ x2_1) = true := decide_eq_true c33
     clear c33
     replace H := ifI_ H; obtain ⟨c34, H⟩ := H
     have c34b0 := eq_true c34
     have c34b1 : decide (x2_1 ≤ t333) = true := decide_eq_true c34
     clear c34
     replace H := ifI_ H; obtain ⟨c35, H⟩ := H
     have c35b0 := eq_true c35
     have c35b1 : decide (t333 ≤ (a0.size : Int)) = true := decide_eq_true c35
     clear c35
     replace H := ifI_ H; obtain ⟨c36, H⟩ := H
     have LMc36 := a_ c36
     clear c36
     obtain ⟨y341, hy341⟩ : ∃ y_ : List ByteArray, y_ = (x321002_1 ++ [a0.extract (x2_1 : Int).toNat (t333 : Int).toNat]) := ⟨_, rfl⟩
     replace H : (if 0 ≤ t333 then (if t333 < (a0.size : Int) then (if (bt a0 t333) = 41 then (some (a1_0, a1_1, y341, wrap64 (t333 + 1))) else (if (bt a0 t333) = 32 then (sleuthref1_parts.l0 kj8 a0 (wrap64 (t333 + 1)) a1_0 a1_1 y341 x321003_1) else ((sleuthref1_bad.f).bind fun bt344 => (some (bt344.1, bt344.2.1, bt344.2.2.1, bt344.2.2.2))))) else (none)) else (none)) = some (r1, r2, r3, r4) := by first | (rw [hy341]; with_reducible exact H) | (have H2_ := (Option.bind_some _ _).symm.trans H; rw [hy341]; with_reducible exact H2_) | (have H2_ := (Option.bind_some _ _).symm.trans H; with_reducible exact H2_) | with_reducible exact H | (rw [hy341]; exact H) | exact H
     have Ny341 := a_ hy341
     clear hy341
     replace H := ifI_ H; obtain ⟨c37, H⟩ := H
     have c37b0 : decide (0 ≤ t333) = true := decide_eq_true c37
     clear c37
     replace H := ifI_ H; obtain ⟨c38, H⟩ := H
     have c38b0 : decide (t333 < (a0.size : Int)) = true := decide_eq_true c38
     clear c38
     by_cases c40 : (bt a0 t333) = 41
     case pos =>
      rw [if_pos c40] at H
      have c40b0 : ((bt a0 t333) == 41) = true := beq_iff_eq.mpr c40
      have c40b1 : ((bt a0 t333) != 41) = false := bne_eq_false_iff_eq.mpr c40
      clear c40
      simp only [Option.some.injEq, Prod.mk.injEq] at H
      obtain ⟨rfl, rfl, rfl, rfl⟩ := H
      try go_wp2
      replace HO_321002 := a_ (Kd.R_drew HO_321002.out)
      replace HO_335002 := a_ (Kd.R_drew HO_335002.out)
      replace BK320 := a_ (blk_drew BK320.out)
      replace BK321 := a_ (blk_drew BK321.out)
      replace BK334 := a_ (blk_drew BK334.out)
      replace HK := a_ (Kept.drew HK.out)
      replace HB := a_ (below_drew1 HB.out)
      refine start_ (n := 11) (S := fun w' => w'.cell? ⟨gb320, 0, none⟩ = some (.int .i64 a1_0) ∧ w'.cell? ⟨gb320, 1, none⟩ = some (.int .i64 a1_1) ∧ w'.cell? ⟨gb320, 2, none⟩ = some (.slice Ao12 x321002_1.length co12) ∧ w'.cell? ⟨gb320, 3, none⟩ = some (.int .i64 x321003_1) ∧ w'.cell? ⟨gb334, 0, none⟩ = some (.int .i64 t328) ∧ w'.cell? ⟨gb334, 1, none⟩ = some (.int .i64 t329) ∧ w'.cell? ⟨gb334, 2, none⟩ = some (.slice Ao18 t330.length co18) ∧ w'.cell? ⟨gb334, 3, none⟩ = some (.int .i64 t333)) (ds := [10]) #[false, false, false, false, false, false, false, false, false, false, false] (by kernel_rfl) rfl rfl ⟨(blk_cell BK320.out 0).trans rfl, (blk_cell BK320.out 1).trans rfl, (blk_cell BK320.out 2).trans rfl, (blk_cell BK320.out 3).trans rfl, (blk_cell BK334.out 0).trans rfl, (blk_cell BK334.out 1).trans rfl, (blk_cell BK334.out 2).trans rfl, (blk_cell BK334.out 3).trans rfl⟩ (fun hHeld => ?_); refine with_tabW sleuthref1_parts.tab5 sleuthref1_parts.bits5 (fun HT_ HW_ => ?_)
      generalize wc.drew = w41 at HO_321002 HO_335002 BK320 BK321 BK334 HK HB hHeld ⊢
      refine pB_ 0 26 HT_.out ?_
      refine pB_ 2 28 HT_.out ?_
      refine pB_ 3 29 HT_.out ?_
      refine pB_ 4 30 HT_.out ?_
      refine tB_ 1 27 HT_.out HW_.out hHeld ?_
      refine tB_ 5 31 HT_.out HW_.out hHeld ?_
      refine pB_ 6 32 HT_.out ?_
      refine one_ (i := 7) (N := some 33) #[true, true, true, true, true, true, true, true, false, false, false] rfl rfl (one_of HT_.out (by kernel_rfl)) (by decide) (fun K hK => ?_)
      refine value_ (w1 := ?_) (v := ?_) (by rfl) rfl ?_ ?_
      rotate_left 2
      · go_simp
        constructor
        · rfl
        · rfl
      refine hK.out _ _ ⟨(blk_cell (blk_alloc BK320.out _) 0).trans rfl, (blk_cell (blk_alloc BK320.out _) 1).trans rfl, (blk_cell (blk_alloc BK320.out _) 2).trans rfl, (blk_cell (blk_alloc BK320.out _) 3).trans rfl, (blk_cell (blk_alloc BK334.out _) 0).trans rfl, (blk_cell (blk_alloc BK334.out _) 1).trans rfl, (blk_cell (blk_alloc BK334.out _) 2).trans rfl, (blk_cell (blk_alloc BK334.out _) 3).trans rfl⟩ (fun hHeld => ?_)
      clear hK K
      refine norm_ (a' := ?_) ?_ ?_
      rotate_left
      · show Act.put _ (some 33) _ = _
        simp only [Act.put, List.setIfInBounds_toArray, List.set_cons_zero, List.set_cons_succ, i64_w, i32_w]
        rfl
      refine one_ (i := 8) (N := some 34) #[true, true, true, true, true, true, true, true, true, false, false] rfl rfl (one_of HT_.out (by kernel_rfl)) (by decide) (fun K hK => ?_)
      refine Kd.R_append_step Kd.string (w0 := w0) w0.heap.size (by rfl) (.tmp 27) (.tmp 33) 64 9 (.string ⟨#[]⟩) 16 rfl Tryz.underlying64 info9 rfl (by decide) (by omega) (.slice Ao12 x321002_1.length co12) x321002_1 (a0.extract (x2_1 : Int).toNat (t333 : Int).toNat) [.string (a0.extract (x2_1 : Int).toNat (t333 : Int).toNat)] (fun k_ => (P1_2_ k_ ∨ w.heap.size ≤ k_) ∧ some k_ ≠ (.slice Ao18 t330.length co18 : Value).ownBlock) (fun _ => False) rfl rfl ?aP (fun _ hk => hk.elim) ?aF ?aO ?aB ?aS ?aL ?_
      (case aP => exact rfl)
      (case aB => exact hC_)
      (case aF => exact (fun k_ hk => ⟨(.inr (Nat.le_trans (by first | exact HK.out.1 | exact (show Kept w _ (fun k_ => P1_2_ k_) from by repeat (first | (with_reducible first | exact HK.out | apply Kept.alloc | apply Kept.drewN | apply Kept.drew | refine Kept.setCell ?_ (.inr GW320.out) _ | refine Kept.setCell ?_ (.inr GW321.out) _ | refine Kept.setCell ?_ (.inr GW334.out) _) | exact HK.out)).1) hk)), Kd.fresh' (Kd.R_lt (hR_ HO_335002.out)) k_ hk⟩))
      (case aO => exact (hR_ HO_321002.out))
      (case aS => exact (below_size hC_))
      (case aL => have := LMc36.out; omega)
      intro v342 w42 ho hb hg hat
      rw [← Ny341.out] at ho
      replace HO_335002 := a_ (Kd.R_after (ok := (fun k_ => (P1_2_ k_ ∨ w.heap.size ≤ k_))) (hR_ HO_335002.out) hg hat)
      replace BK320 := a_ (blk_grown (hK_ BK320.out) hg (Kd.R_ne HO_321002.out BK320.out (by decide)))
      replace BK321 := a_ (blk_grown (hK_ BK321.out) hg (Kd.R_ne HO_321002.out BK321.out (by decide)))
      replace BK334 := a_ (blk_grown (hK_ BK334.out) hg (Kd.R_ne HO_321002.out BK334.out (by decide)))
      replace HB := a_ (hb)
      replace HK := a_ (Kept.of_grown (S := (fun k_ => P1_2_ k_)) hg (by repeat (first | (with_reducible first | exact HK.out | apply Kept.alloc | apply Kept.drewN | apply Kept.drew | refine Kept.setCell ?_ (.inr GW320.out) _ | refine Kept.setCell ?_ (.inr GW321.out) _ | refine Kept.setCell ?_ (.inr GW334.out) _) | exact HK.out)) (fun k_ e_ => (HO_321002.out.1 k_ e_).1))
      have HO343 := a_ (ho)
      clear HO_321002
      clear ho hb hg hat
      obtain ⟨Ao43, co43, eo43⟩ := Kd.R_slice HO343.out
      (first | subst eo43 | (injection eo43 with f1_ f2_ f3_; have f4_ := f1_.symm; have f5_ := f3_.symm; clear f1_ f2_ f3_; subst f4_; subst f5_))
      refine hK.out _ _ ⟨(blk_cell BK320.out 0).trans rfl, (blk_cell BK320.out 1).trans rfl, (blk_cell BK320.out 2).trans rfl, (blk_cell BK320.out 3).trans rfl, (blk_cell BK334.out 0).trans rfl, (blk_cell BK334.out 1).trans rfl, (blk_cell BK334.out 2).trans rfl, (blk_cell BK334.out 3).trans rfl⟩ (fun hHeld => ?_)
      clear hK K
      refine norm_ (a' := ?_) ?_ ?_
      rotate_left
      · show Act.put _ (some 34) _ = _
        simp only [Act.put, List.setIfInBounds_toArray, List.set_cons_zero, List.set_cons_succ, i64_w, i32_w]
        rfl
      refine pB_ 9 35 HT_.out ?_
      refine last_ (i := 10) (N := none) #[true, true, true, true, true, true, true, true, true, true, true] rfl rfl (one_of HT_.out (by kernel_rfl)) (by decide) (fun K hK => ?_)
      have hs44 := bc2_ BK320.out
      have hfs44 := blk_frozen BK320.out 2
      have hns44_1 := NB321_320.out
      have hns44_2 := NB334_320.out
      have hms44_1 := NB320_321.out
      have hms44_2 := NB320_334.out
      refine skip_ (w1 := ?_) (by rfl) rfl ?_ ?_
      rotate_left
      · go_simp
        rfl
      refine hK.out _ _ ?_
      clear hK K
      refine done_ (done_of HT_.out (by kernel_rfl)) ?_
      have hnb45 := NB334_320.out
      have hnc45 := NB320_334.out
      have hnb46 := NB334_321.out
      have hnc46 := NB321_334.out
      obtain ⟨hcz47_0, hcz47_1, hcz47_2, hcz47_3, hfz47_0, hfz47_1, hfz47_2, hfz47_3⟩ := bx4_ BK334.out
      have p39 : 0 ≤ (t333 : Int) := of_decide_eq_true hA_
      have q39 : t333 < (a0.size : Int) := of_decide_eq_true hA_
      have hx39 := bt_at a0 t333
      replace p39 := eq_true p39
      replace q39 := eq_true q39
      have hnb48 := NB320_321.out
      have hnc48 := NB321_320.out
      obtain ⟨hcz49_0, hcz49_1, hcz49_2, hcz49_3, hfz49_0, hfz49_1, hfz49_2, hfz49_3⟩ := bx4_ BK320.out
      obtain ⟨hcz50_0, hcz50_1, hcz50_2, hcz50_3, hfz50_0, hfz50_1, hfz50_2, hfz50_3⟩ := bx4_ BK321.out
      try go_wp2
      refine bodyPost_ret (results_cell_row rfl _ _ gb321 103 #[.int .i64 a1_0, .int .i64 a1_1, .slice Ao43 y341.length co43, .int .i64 (wrap64 (t333 + 1))] (0, 0) _ rfl (bP_ (bP_ (bP_ (bP_ (bF_ (bF_ (hK_ BK321.out) NB321_320.out) NB321_320.out))))) Tryz.underlying103 rfl (by kernel_rfl)) rfl ?_
      exact ⟨_, hV_, by (with_reducible repeat (first | apply Kd.R_alloc | apply Kd.R_drewN | apply Kd.R_drew)); exact Kd.R_mono (rF_ (rF_ (rF_ (rF_ (Kd.R_far (p := ⟨gb320, 3, none⟩) (Kd.R_far (p := ⟨gb320, 2, none⟩) (Kd.R_types (Kd.R_types HO343.out BK320.out (by decide)) BK321.out (by decide)) (fun _ hk => hk.1.2) (.slice Ao43 y341.length co43)) (fun _ hk => hk.1.2) (.int .i64 (wrap64 (t333 + 1)))))))) (fun _ hk => hk.1.1.1), hC_, by repeat (first | (with_reducible first | exact HK.out | apply Kept.alloc | apply Kept.drewN | apply Kept.drew | refine Kept.setCell ?_ (.inr GW320.out) _ | refine Kept.setCell ?_ (.inr GW321.out) _ | refine Kept.setCell ?_ (.inr GW334.out) _) | exact HK.out)⟩
     rw [if_neg c40] at H
     have c40b0 : ((bt a0 t333) == 41) = false := beq_eq_false_iff_ne.mpr c40
     have c40b1 : ((bt a0 t333) != 41) = true := bne_iff_ne.mpr c40
     by_cases c52 : (bt a0 t333) = 32
     case pos =>
      rw [if_pos c52] at H
      have c52b0 : ((bt a0 t333) == 32) = true := beq_iff_eq.mpr c52
      have c52b1 : ((bt a0 t333) != 32) = false := bne_eq_false_iff_eq.mpr c52
      clear c52
      have H' := a_ H
      clear H
      try go_wp2
      replace HO_321002 := a_ (Kd.R_drew HO_321002.out)
      replace HO_335002 := a_ (Kd.R_drew HO_335002.out)
      replace BK320 := a_ (blk_drew BK320.out)
      replace BK321 := a_ (blk_drew BK321.out)
      replace BK334 := a_ (blk_drew BK334.out)
      replace HK := a_ (Kept.drew HK.out)
      replace HB := a_ (below_drew1 HB.out)
      refine start_ (n := 11) (S := fun w' => w'.cell? ⟨gb320, 0, none⟩ = some (.int .i64 a1_0) ∧ w'.cell? ⟨gb320, 1, none⟩ = some (.int .i64 a1_1) ∧ w'.cell? ⟨gb320, 2, none⟩ = some (.slice Ao12 x321002_1.length co12) ∧ w'.cell? ⟨gb320, 3, none⟩ = some (.int .i64 x321003_1) ∧ w'.cell? ⟨gb334, 0, none⟩ = some (.int .i64 t328) ∧ w'.cell? ⟨gb334, 1, none⟩ = some (.int .i64 t329) ∧ w'.cell? ⟨gb334, 2, none⟩ = some (.slice Ao18 t330.length co18) ∧ w'.cell? ⟨gb334, 3, none⟩ = some (.int .i64 t333)) (ds := [10]) #[false, false, false, false, false, false, false, false, false, false, false] (by kernel_rfl) rfl rfl ⟨(blk_cell BK320.out 0).trans rfl, (blk_cell BK320.out 1).trans rfl, (blk_cell BK320.out 2).trans rfl, (blk_cell BK320.out 3).trans rfl, (blk_cell BK334.out 0).trans rfl, (blk_cell BK334.out 1).trans rfl, (blk_cell BK334.out 2).trans rfl, (blk_cell BK334.out 3).trans rfl⟩ (fun hHeld => ?_); refine with_tabW sleuthref1_parts.tab5 sleuthref1_parts.bits5 (fun HT_ HW_ => ?_)
      generalize wc.drew = w53 at HO_321002 HO_335002 BK320 BK321 BK334 HK HB hHeld ⊢
      refine pB_ 0 26 HT_.out ?_
      refine pB_ 2 28 HT_.out ?_
      refine pB_ 3 29 HT_.out ?_
      refine pB_ 4 30 HT_.out ?_
      refine tB_ 1 27 HT_.out HW_.out hHeld ?_
      refine tB_ 5 31 HT_.out HW_.out hHeld ?_
      refine pB_ 6 32 HT_.out ?_
      refine one_ (i := 7) (N := some 33) #[true, true, true, true, true, true, true, true, false, false, false] rfl rfl (one_of HT_.out (by kernel_rfl)) (by decide) (fun K hK => ?_)
      refine value_ (w1 := ?_) (v := ?_) (by rfl) rfl ?_ ?_
      rotate_left 2
      · go_simp
        constructor
        · rfl
        · rfl
      refine hK.out _ _ ⟨(blk_cell (blk_alloc BK320.out _) 0).trans rfl, (blk_cell (blk_alloc BK320.out _) 1).trans rfl, (blk_cell (blk_alloc BK320.out _) 2).trans rfl, (blk_cell (blk_alloc BK320.out _) 3).trans rfl, (blk_cell (blk_alloc BK334.out _) 0).trans rfl, (blk_cell (blk_alloc BK334.out _) 1).trans rfl, (blk_cell (blk_alloc BK334.out _) 2).trans rfl, (blk_cell (blk_alloc BK334.out _) 3).trans rfl⟩ (fun hHeld => ?_)
      clear hK K
      refine norm_ (a' := ?_) ?_ ?_
      rotate_left
      · show Act.put _ (some 33) _ = _
        simp only [Act.put, List.setIfInBounds_toArray, List.set_cons_zero, List.set_cons_succ, i64_w, i32_w]
        rfl
      refine one_ (i := 8) (N := some 34) #[true, true, true, true, true, true, true, true, true, false, false] rfl rfl (one_of HT_.out (by kernel_rfl)) (by decide) (fun K hK => ?_)
      refine Kd.R_append_step Kd.string (w0 := w0) w0.heap.size (by rfl) (.tmp 27) (.tmp 33) 64 9 (.string ⟨#[]⟩) 16 rfl Tryz.underlying64 info9 rfl (by decide) (by omega) (.slice Ao12 x321002_1.length co12) x321002_1 (a0.extract (x2_1 : Int).toNat (t333 : Int).toNat) [.string (a0.extract (x2_1 : Int).toNat (t333 : Int).toNat)] (fun k_ => (P1_2_ k_ ∨ w.heap.size ≤ k_) ∧ some k_ ≠ (.slice Ao18 t330.length co18 : Value).ownBlock) (fun _ => False) rfl rfl ?aP (fun _ hk => hk.elim) ?aF ?aO ?aB ?aS ?aL ?_
      (case aP => exact rfl)
      (case aB => exact hC_)
      (case aF => exact (fun k_ hk => ⟨(.inr (Nat.le_trans (by first | exact HK.out.1 | exact (show Kept w _ (fun k_ => P1_2_ k_) from by repeat (first | (with_reducible first | exact HK.out | apply Kept.alloc | apply Kept.drewN | apply Kept.drew | refine Kept.setCell ?_ (.inr GW320.out) _ | refine Kept.setCell ?_ (.inr GW321.out) _ | refine Kept.setCell ?_ (.inr GW334.out) _) | exact HK.out)).1) hk)), Kd.fresh' (Kd.R_lt (hR_ HO_335002.out)) k_ hk⟩))
      (case aO => exact (hR_ HO_321002.out))
      (case aS => exact (below_size hC_))
      (case aL => have := LMc36.out; omega)
      intro v342 w54 ho hb hg hat
      rw [← Ny341.out] at ho
      replace HO_335002 := a_ (Kd.R_after (ok := (fun k_ => (P1_2_ k_ ∨ w.heap.size ≤ k_))) (hR_ HO_335002.out) hg hat)
      replace BK320 := a_ (blk_grown (hK_ BK320.out) hg (Kd.R_ne HO_321002.out BK320.out (by decide)))
      replace BK321 := a_ (blk_grown (hK_ BK321.out) hg (Kd.R_ne HO_321002.out BK321.out (by decide)))
      replace BK334 := a_ (blk_grown (hK_ BK334.out) hg (Kd.R_ne HO_321002.out BK334.out (by decide)))
      replace HB := a_ (hb)
      replace HK := a_ (Kept.of_grown (S := (fun k_ => P1_2_ k_)) hg (by repeat (first | (with_reducible first | exact HK.out | apply Kept.alloc | apply Kept.drewN | apply Kept.drew | refine Kept.setCell ?_ (.inr GW320.out) _ | refine Kept.setCell ?_ (.inr GW321.out) _ | refine Kept.setCell ?_ (.inr GW334.out) _) | exact HK.out)) (fun k_ e_ => (HO_321002.out.1 k_ e_).1))
      have HO343 := a_ (ho)
      clear HO_321002
      clear ho hb hg hat
      obtain ⟨Ao55, co55, eo55⟩ := Kd.R_slice HO343.out
      (first | subst eo55 | (injection eo55 with f1_ f2_ f3_; have f4_ := f1_.symm; have f5_ := f3_.symm; clear f1_ f2_ f3_; subst f4_; subst f5_))
      refine hK.out _ _ ⟨(blk_cell BK320.out 0).trans rfl, (blk_cell BK320.out 1).trans rfl, (blk_cell BK320.out 2).trans rfl, (blk_cell BK320.out 3).trans rfl, (blk_cell BK334.out 0).trans rfl, (blk_cell BK334.out 1).trans rfl, (blk_cell BK334.out 2).trans rfl, (blk_cell BK334.out 3).trans rfl⟩ (fun hHeld => ?_)
      clear hK K
      refine norm_ (a' := ?_) ?_ ?_
      rotate_left
      · show Act.put _ (some 34) _ = _
        simp only [Act.put, List.setIfInBounds_toArray, List.set_cons_zero, List.set_cons_succ, i64_w, i32_w]
        rfl
      refine pB_ 9 35 HT_.out ?_
      refine last_ (i := 10) (N := none) #[true, true, true, true, true, true, true, true, true, true, true] rfl rfl (one_of HT_.out (by kernel_rfl)) (by decide) (fun K hK => ?_)
      have hs56 := bc2_ BK320.out
      have hfs56 := blk_frozen BK320.out 2
      have hns56_1 := NB321_320.out
      have hns56_2 := NB334_320.out
      have hms56_1 := NB320_321.out
      have hms56_2 := NB320_334.out
      refine skip_ (w1 := ?_) (by rfl) rfl ?_ ?_
      rotate_left
      · go_simp
        rfl
      refine hK.out _ _ ?_
      clear hK K
      refine done_ (done_of HT_.out (by kernel_rfl)) ?_
      have hnb57 := NB334_320.out
      have hnc57 := NB320_334.out
      have hnb58 := NB334_321.out
      have hnc58 := NB321_334.out
      obtain ⟨hcz59_0, hcz59_1, hcz59_2, hcz59_3, hfz59_0, hfz59_1, hfz59_2, hfz59_3⟩ := bx4_ BK334.out
      have p39 : 0 ≤ (t333 : Int) := of_decide_eq_true hA_
      have q39 : t333 < (a0.size : Int) := of_decide_eq_true hA_
      have hx39 := bt_at a0 t333
      replace p39 := eq_true p39
      replace q39 := eq_true q39
      have p51 : 0 ≤ (t333 : Int) := of_decide_eq_true hA_
      have q51 : t333 < (a0.size : Int) := of_decide_eq_true hA_
      have hx51 := bt_at a0 t333
      replace p51 := eq_true p51
      replace q51 := eq_true q51
      try go_wp2
      go_roundg kj8
      case measure => have := HK1.out; have := HJ8.out; omega
      case rel => exact ⟨(wrap64 (t333 + 1)), (y341), (x321003_1), (x322000_1), (x322001_1), (x322003_1), (.slice Ao55 y341.length co55), hW_, H', ⟨by have := HK1.out; have := HJ8.out; omega⟩, ⟨hR_ (Kd.R_mono (rF_ (Kd.R_types HO343.out BK320.out (by decide))) (fun _ hk => hk.1.1))⟩, ⟨(bP_ (hK_ BK320.out))⟩, ⟨(bF_ (hK_ BK321.out) NB321_320.out)⟩, ⟨by repeat (first | (with_reducible first | exact HK.out | apply Kept.alloc | apply Kept.drewN | apply Kept.drew | refine Kept.setCell ?_ (.inr GW320.out) _ | refine Kept.setCell ?_ (.inr GW321.out) _ | refine Kept.setCell ?_ (.inr GW334.out) _) | exact HK.out)⟩, ⟨hC_⟩⟩
     rw [if_neg c52] at H
     have c52b0 : ((bt a0 t333) == 32) = false := beq_eq_false_iff_ne.mpr c52
     have c52b1 : ((bt a0 t333) != 32) = true := bne_iff_ne.mpr c52
     replace H := Option.bind_eq_some_iff.mp H
     obtain ⟨⟨t344, t345, t346, t349⟩, A600, H⟩ := H
     try dsimp only at H
     have A60 := a_ A600
     clear A600
     simp only [Option.some.injEq, Prod.mk.injEq] at H
     obtain ⟨rfl, rfl, rfl, rfl⟩ := H
     try go_wp2
     replace HO_321002 := a_ (Kd.R_drew HO_321002.out)
     replace HO_335002 := a_ (Kd.R_drew HO_335002.out)
     replace BK320 := a_ (blk_drew BK320.out)
     replace BK321 := a_ (blk_drew BK321.out)
     replace BK334 := a_ (blk_drew BK334.out)
     replace HK := a_ (Kept.drew HK.out)
     replace HB := a_ (below_drew1 HB.out)
     refine start_ (n := 11) (S := fun w' => w'.cell? ⟨gb320, 0, none⟩ = some (.int .i64 a1_0) ∧ w'.cell? ⟨gb320, 1, none⟩ = some (.int .i64 a1_1) ∧ w'.cell? ⟨gb320, 2, none⟩ = some (.slice Ao12 x321002_1.length co12) ∧ w'.cell? ⟨gb320, 3, none⟩ = some (.int .i64 x321003_1) ∧ w'.cell? ⟨gb334, 0, none⟩ = some (.int .i64 t328) ∧ w'.cell? ⟨gb334, 1, none⟩ = some (.int .i64 t329) ∧ w'.cell? ⟨gb334, 2, none⟩ = some (.slice Ao18 t330.length co18) ∧ w'.cell? ⟨gb334, 3, none⟩ = some (.int .i64 t333)) (ds := [10]) #[false, false, false, false, false, false, false, false, false, false, false] (by kernel_rfl) rfl rfl ⟨(blk_cell BK320.out 0).trans rfl, (blk_cell BK320.out 1).trans rfl, (blk_cell BK320.out 2).trans rfl, (blk_cell BK320.out 3).trans rfl, (blk_cell BK334.out 0).trans rfl, (blk_cell BK334.out 1).trans rfl, (blk_cell BK334.out 2).trans rfl, (blk_cell BK334.out 3).trans rfl⟩ (fun hHeld => ?_); refine with_tabW sleuthref1_parts.tab5 sleuthref1_parts.bits5 (fun HT_ HW_ => ?_)
     generalize wc.drew = w61 at HO_321002 HO_335002 BK320 BK321 BK334 HK HB hHeld ⊢
     refine pB_ 0 26 HT_.out ?_
     refine pB_ 2 28 HT_.out ?_
     refine pB_ 3 29 HT_.out ?_
     refine pB_ 4 30 HT_.out ?_
     refine tB_ 1 27 HT_.out HW_.out hHeld ?_
     refine tB_ 5 31 HT_.out HW_.out hHeld ?_
     refine pB_ 6 32 HT_.out ?_
     refine one_ (i := 7) (N := some 33) #[true, true, true, true, true, true, true, true, false, false, false] rfl rfl (one_of HT_.out (by kernel_rfl)) (by decide) (fun K hK => ?_)
     refine value_ (w1 := ?_) (v := ?_) (by rfl) rfl ?_ ?_
     rotate_left 2
     · go_simp
       constructor
       · rfl
       · rfl
     refine hK.out _ _ ⟨(blk_cell (blk_alloc BK320.out _) 0).trans rfl, (blk_cell (blk_alloc BK320.out _) 1).trans rfl, (blk_cell (blk_alloc BK320.out _) 2).trans rfl, (blk_cell (blk_alloc BK320.out _) 3).trans rfl, (blk_cell (blk_alloc BK334.out _) 0).trans rfl, (blk_cell (blk_alloc BK334.out _) 1).trans rfl, (blk_cell (blk_alloc BK334.out _) 2).trans rfl, (blk_cell (blk_alloc BK334.out _) 3).trans rfl⟩ (fun hHeld => ?_)
     clear hK K
     refine norm_ (a' := ?_) ?_ ?_
     rotate_left
     · show Act.put _ (some 33) _ = _
       simp only [Act.put, List.setIfInBounds_toArray, List.set_cons_zero, List.set_cons_succ, i64_w, i32_w]
       rfl
     refine one_ (i := 8) (N := some 34) #[true, true, true, true, true, true, true, true, true, false, false] rfl rfl (one_of HT_.out (by kernel_rfl)) (by decide) (fun K hK => ?_)
     refine Kd.R_append_step Kd.string (w0 := w0) w0.heap.size (by rfl) (.tmp 27) (.tmp 33) 64 9 (.string ⟨#[]⟩) 16 rfl Tryz.underlying64 info9 rfl (by decide) (by omega) (.slice Ao12 x321002_1.length co12) x321002_1 (a0.extract (x2_1 : Int).toNat (t333 : Int).toNat) [.string (a0.extract (x2_1 : Int).toNat (t333 : Int).toNat)] (fun k_ => (P1_2_ k_ ∨ w.heap.size ≤ k_) ∧ some k_ ≠ (.slice Ao18 t330.length co18 : Value).ownBlock) (fun _ => False) rfl rfl ?aP (fun _ hk => hk.elim) ?aF ?aO ?aB ?aS ?aL ?_
     (case aP => exact rfl)
     (case aB => exact hC_)
     (case aF => exact (fun k_ hk => ⟨(.inr (Nat.le_trans (by first | exact HK.out.1 | exact (show Kept w _ (fun k_ => P1_2_ k_) from by repeat (first | (with_reducible first | exact HK.out | apply Kept.alloc | apply Kept.drewN | apply Kept.drew | refine Kept.setCell ?_ (.inr GW320.out) _ | refine Kept.setCell ?_ (.inr GW321.out) _ | refine Kept.setCell ?_ (.inr GW334.out) _) | exact HK.out)).1) hk)), Kd.fresh' (Kd.R_lt (hR_ HO_335002.out)) k_ hk⟩))
     (case aO => exact (hR_ HO_321002.out))
     (case aS => exact (below_size hC_))
     (case aL => have := LMc36.out; omega)
     intro v342 w62 ho hb hg hat
     rw [← Ny341.out] at ho
     replace HO_335002 := a_ (Kd.R_after (ok := (fun k_ => (P1_2_ k_ ∨ w.heap.size ≤ k_))) (hR_ HO_335002.out) hg hat)
     replace BK320 := a_ (blk_grown (hK_ BK320.out) hg (Kd.R_ne HO_321002.out BK320.out (by decide)))
     replace BK321 := a_ (blk_grown (hK_ BK321.out) hg (Kd.R_ne HO_321002.out BK321.out (by decide)))
     replace BK334 := a_ (blk_grown (hK_ BK334.out) hg (Kd.R_ne HO_321002.out BK334.out (by decide)))
     replace HB := a_ (hb)
     replace HK := a_ (Kept.of_grown (S := (fun k_ => P1_2_ k_)) hg (by repeat (first | (with_reducible first | exact HK.out | apply Kept.alloc | apply Kept.drewN | apply Kept.drew | refine Kept.setCell ?_ (.inr GW320.out) _ | refine Kept.setCell ?_ (.inr GW321.out) _ | refine Kept.setCell ?_ (.inr GW334.out) _) | exact HK.out)) (fun k_ e_ => (HO_321002.out.1 k_ e_).1))
     have HO343 := a_ (ho)
     clear HO_321002
     clear ho hb hg hat
     obtain ⟨Ao63, co63, eo63⟩ := Kd.R_slice HO343.out
     (first | subst eo63 | (injection eo63 with f1_ f2_ f3_; have f4_ := f1_.symm; have f5_ := f3_.symm; clear f1_ f2_ f3_; subst f4_; subst f5_))
     refine hK.out _ _ ⟨(blk_cell BK320.out 0).trans rfl, (blk_cell BK320.out 1).trans rfl, (blk_cell BK320.out 2).trans rfl, (blk_cell BK320.out 3).trans rfl, (blk_cell BK334.out 0).trans rfl, (blk_cell BK334.out 1).trans rfl, (blk_cell BK334.out 2).trans rfl, (blk_cell BK334.out 3).trans rfl⟩ (fun hHeld => ?_)
     clear hK K
     refine norm_ (a' := ?_) ?_ ?_
     rotate_left
     · show Act.put _ (some 34) _ = _
       simp only [Act.put, List.setIfInBounds_toArray, List.set_cons_zero, List.set_cons_succ, i64_w, i32_w]
       rfl
     refine pB_ 9 35 HT_.out ?_
     refine last_ (i := 10) (N := none) #[true, true, true, true, true, true, true, true, true, true, true] rfl rfl (one_of HT_.out (by kernel_rfl)) (by decide) (fun K hK => ?_)
     have hs64 := bc2_ BK320.out
     have hfs64 := blk_frozen BK320.out 2
     have hns64_1 := NB321_320.out
     have hns64_2 := NB334_320.out
     have hms64_1 := NB320_321.out
     have hms64_2 := NB320_334.out
     refine skip_ (w1 := ?_) (by rfl) rfl ?_ ?_
     rotate_left
     · go_simp
       rfl
     refine hK.out _ _ ?_
     clear hK K
     refine done_ (done_of HT_.out (by kernel_rfl)) ?_
     have hnb65 := NB334_320.out
     have hnc65 := NB320_334.out
     have hnb66 := NB334_321.out
     have hnc66 := NB321_334.out
     obtain ⟨hcz67_0, hcz67_1, hcz67_2, hcz67_3, hfz67_0, hfz67_1, hfz67_2, hfz67_3⟩ := bx4_ BK334.out
     have p39 : 0 ≤ (t333 : Int) := of_decide_eq_true hA_
     have q39 : t333 < (a0.size : Int) := of_decide_eq_true hA_
     have hx39 := bt_at a0 t333
     replace p39 := eq_true p39
     replace q39 := eq_true q39
     have p51 : 0 ≤ (t333 : Int) := of_decide_eq_true hA_
     have q51 : t333 < (a0.size : Int) := of_decide_eq_true hA_
     have hx51 := bt_at a0 t333
     replace p51 := eq_true p51
     replace q51 := eq_true q51
     try go_wp2_with (first | ((with_reducible refine gate_callee (f := 74) rfl ?_); refine goesL_ (some 51) rfl rfl Tryz.func74 (by kernel_rfl) rfl #[] rfl hL_ ?_; (with_reducible refine (sleuthref1_bad.calls  t344 t345 t346 t349 _ A60.out).mono ?_); rintro e w68 ⟨v347, rfl, ho0, hb⟩; refine ⟨_, rfl, ?_⟩; have HO348 := a_ (Kd.R_lower (Kd.R_new' (Kd.R_new' (Kd.R_newM (M := fun k_ => (P1_2_ k_ ∨ w.heap.size ≤ k_)) ho0 (show Kept w _ (fun k_ => P1_2_ k_) from by repeat (first | (with_reducible first | exact HK.out | apply Kept.alloc | apply Kept.drewN | apply Kept.drew | refine Kept.setCell ?_ (.inr GW320.out) _ | refine Kept.setCell ?_ (.inr GW321.out) _ | refine Kept.setCell ?_ (.inr GW334.out) _) | exact HK.out)).1 (fun k_ h_ => .inr h_)) (Kd.R_lt (by (with_reducible repeat (first | apply Kd.R_alloc | apply Kd.R_drewN | apply Kd.R_drew)); exact (Kd.R_mono (rF_ (Kd.R_types HO_335002.out BK320.out (by decide))) (fun _ h_ => h_.1))))) (Kd.R_lt (by (with_reducible repeat (first | apply Kd.R_alloc | apply Kd.R_drewN | apply Kd.R_drew)); exact (Kd.R_mono (rF_ (Kd.R_types HO343.out BK320.out (by decide))) (fun _ h_ => h_.1))))) (below_size hC_)); replace HO_335002 := a_ (Kd.R_elder' (by (with_reducible repeat (first | apply Kd.R_alloc | apply Kd.R_drewN | apply Kd.R_drew)); exact (Kd.R_mono (rF_ (Kd.R_types HO_335002.out BK320.out (by decide))) (fun _ h_ => h_.1))) (Kd.R_base ho0) hb); replace HO343 := a_ (Kd.R_elder' (by (with_reducible repeat (first | apply Kd.R_alloc | apply Kd.R_drewN | apply Kd.R_drew)); exact (Kd.R_mono (rF_ (Kd.R_types HO343.out BK320.out (by decide))) (fun _ h_ => h_.1))) (Kd.R_base ho0) hb); replace BK320 := a_ (blk_below (g := gb320) (o := .cells #[.int .i64 a1_0, .int .i64 a1_1, .slice Ao63 y341.length co63, .int .i64 x321003_1] 103 (0, 0)) (by (with_reducible repeat (first | refine blk_drewN ?_ _ | refine blk_drew ?_ | refine blk_alloc ?_ _)); exact (bP_ (hK_ BK320.out))) hb); replace BK321 := a_ (blk_below (g := gb321) (o := .cells #[.int .i64 x322000_1, .int .i64 x322001_1, .slice none 0 0, .int .i64 x322003_1] 103 (0, 0)) (by (with_reducible repeat (first | refine blk_drewN ?_ _ | refine blk_drew ?_ | refine blk_alloc ?_ _)); exact (bF_ (hK_ BK321.out) NB321_320.out)) hb); replace BK334 := a_ (blk_below (g := gb334) (o := .cells #[.int .i64 t328, .int .i64 t329, .slice Ao18 t330.length co18, .int .i64 t333] 103 (0, 0)) (by (with_reducible repeat (first | refine blk_drewN ?_ _ | refine blk_drew ?_ | refine blk_alloc ?_ _)); exact (bF_ (hK_ BK334.out) NB334_320.out)) hb); replace HK := a_ (Kept.below (S := (fun k_ => P1_2_ k_)) (by repeat (first | (with_reducible first | exact HK.out | apply Kept.alloc | apply Kept.drewN | apply Kept.drew | refine Kept.setCell ?_ (.inr GW320.out) _ | refine Kept.setCell ?_ (.inr GW321.out) _ | refine Kept.setCell ?_ (.inr GW334.out) _) | exact HK.out)) hb); replace HB := a_ (below_step hC_ hb); (try clear hb); (try clear hb2); (try clear hk); (try clear hi); (try clear ho0); have hnb69 := NB321_320.out; have hnc69 := NB320_321.out; obtain ⟨hcz70_0, hcz70_1, hcz70_2, hcz70_3, hfz70_0, hfz70_1, hfz70_2, hfz70_3⟩ := bx4_ BK321.out; obtain ⟨Ao71, co71, eo71⟩ := Kd.R_slice HO348.out; subst eo71))
     refine bodyPost_ret (results_cell_row rfl _ _ gb321 103 #[.int .i64 t344, .int .i64 t345, .slice Ao71 t346.length co71, .int .i64 t349] (0, 0) _ rfl (bP_ (bP_ (bP_ (bP_ (hK_ BK321.out))))) Tryz.underlying103 rfl (by kernel_rfl)) rfl ?_
     exact ⟨_, hV_, hR_ (Kd.R_mono (rF_ (rF_ (rF_ (rF_ (Kd.R_types HO348.out BK321.out (by decide)))))) (fun _ hk => hk.1.1.1.1)), hC_, by repeat (first | (with_reducible first | exact HK.out | apply Kept.alloc | apply Kept.drewN | apply Kept.drew | refine Kept.setCell ?_ (.inr GW320.out) _ | refine Kept.setCell ?_ (.inr GW321.out) _ | refine Kept.setCell ?_ (.inr GW334.out) _) | exact HK.out)⟩
theorem sleuthref1_term.step (k : Nat) (ih : ∀ m, m < k → sleuthref1_term.Said m) (ih_sleuthref1_parts : ∀ m, m < k → sleuthref1_parts.Said m) : sleuthref1_term.Said k := by
 intro a0 a1 r1 r2 r3 r4 w h
 cases k with
 | zero => exact absurd h (by simp [sleuthref1_term.f])
 | succ k =>
 simp only [sleuthref1_term.f] at h
 have hu103 := Tryz.underlying103
 have HB := a_ (Below.refl w.heap.size w)
 have H : (if a1 ≥ (a0.size : Int) then ((sleuthref1_bad.f).bind fun bt352 => (some (bt352.1, bt352.2.1, bt352.2.2.1, bt352.2.2.2))) else (if 0 ≤ a1 then (if a1 < (a0.size : Int) then (if (bt a0 a1) = 95 then (some (0, 0, ([] : List ByteArray), wrap64 (a1 + 1))) else (if (bt a0 a1) = 33 then (some (3, 0, ([] : List ByteArray), wrap64 (a1 + 1))) else (if (bt a0 a1) = 64 then (if 0 ≤ (wrap64 (a1 + 1)) then (if (wrap64 (a1 + 1)) ≤ (a0.size : Int) then ((sleuthref1_digits.f k (a0.extract ((wrap64 (a1 + 1)) : Int).toNat a0.size)).bind fun bt358 => (if bt358.2 = 0 then (sleuthref1_term.j0 k a0 a1 bt358.1 bt358.2 true) else (sleuthref1_term.j0 k a0 a1 bt358.1 bt358.2 (decide (bt358.1 > 99))))) else (none)) else (none)) else (if (bt a0 a1) = 45 then (if 0 ≤ (wrap64 (a1 + 1)) then (if (wrap64 (a1 + 1)) ≤ (a0.size : Int) then ((sleuthref1_digits.f k (a0.extract ((wrap64 (a1 + 1)) : Int).toNat a0.size)).bind fun bt373 => (if bt373.2 = 0 then ((sleuthref1_bad.f).bind fun bt375 => (some (bt375.1, bt375.2.1, bt375.2.2.1, bt375.2.2.2))) else (if bt373.1 = 0 then ((sleuthref1_bad.f).bind fun bt381 => (some (bt381.1, bt381.2.1, bt381.2.2.1, bt381.2.2.2))) else ((sleuthref1_NumMay.f (wrap64 (-bt373.1))).bind fun t387 => (if t387 = true then (some (1, wrap64 (-bt373.1), ([] : List ByteArray), wrap64 ((wrap64 (a1 + 1)) + bt373.2))) else ((sleuthref1_bad.f).bind fun bt388 => (some (bt388.1, bt388.2.1, bt388.2.2.1, bt388.2.2.2)))))))) else (none)) else (none)) else (if a1 ≤ (a0.size : Int) then ((sleuthref1_digits.f k (a0.extract (a1 : Int).toNat a0.size)).bind fun bt394 => (if bt394.2 = 0 then ((sleuthref1_bad.f).bind fun bt396 => (some (bt396.1, bt396.2.1, bt396.2.2.1, bt396.2.2.2))) else ((sleuthref1_NumMay.f bt394.1).bind fun t402 => (if t402 = true then (some (1, bt394.1, ([] : List ByteArray), wrap64 (a1 + bt394.2))) else ((sleuthref1_bad.f).bind fun bt403 => (some (bt403.1, bt403.2.1, bt403.2.2.1, bt403.2.2.2))))))) else (none)))))) else (none)) else (none))) = some (r1, r2, r3, r4) := h
 clear h
 by_cases c3 : a1 ≥ (a0.size : Int)
 case pos =>
  rw [if_pos c3] at H
  have c3b0 : decide ((a0.size : Int) ≤ a1) = true := decide_eq_true c3
  clear c3
  replace H := Option.bind_eq_some_iff.mp H
  obtain ⟨⟨t352, t353, t354, t357⟩, A40, H⟩ := H
  try dsimp only at H
  have A4 := a_ A40
  clear A40
  simp only [Option.some.injEq, Prod.mk.injEq] at H
  obtain ⟨rfl, rfl, rfl, rfl⟩ := H
  go_enter Tryz.func70, Tryz.ntmps70
  go_wp2_with (first | ((with_reducible refine gate_dst (N := 4) rfl ?_); refine boxE_ 4 #[.int .i64 0, .int .i64 0, .slice none 0 0, .int .i64 0] 103 ?_; intro gb351 hg w5 hbox hb; have BK351 := a_ (hbox); have GW351 := a_ ((gE_ hg : w.heap.size ≤ gb351)); have GE351 := a_ ((gE_ hg : w.heap.size ≤ gb351)); replace HB := a_ (below_step hB_ hb); clear hb hbox hg) | ((with_reducible refine gate_callee (f := 74) rfl ?_); refine goesL_ (some 16) rfl rfl Tryz.func74 (by kernel_rfl) rfl #[] rfl hL_ ?_; (with_reducible refine (sleuthref1_bad.calls  t352 t353 t354 t357 _ A4.out).mono ?_); rintro e w6 ⟨v355, rfl, ho0, hb⟩; refine ⟨_, rfl, ?_⟩; have HO356 := a_ (Kd.R_lower ho0 (below_size hC_)); replace BK351 := a_ (bB_ BK351.out hb); replace HB := a_ (below_step hC_ hb); (try clear hb); (try clear hb2); (try clear hk); (try clear hi); (try clear ho0); obtain ⟨hcz7_0, hcz7_1, hcz7_2, hcz7_3, hfz7_0, hfz7_1, hfz7_2, hfz7_3⟩ := bx4_ BK351.out; obtain ⟨Ao8, co8, eo8⟩ := Kd.R_slice HO356.out; subst eo8))
  refine bodyPost_ret (results_cell_row rfl _ _ gb351 103 #[.int .i64 t352, .int .i64 t353, .slice Ao8 t354.length co8, .int .i64 t357] (0, 0) _ rfl (bP_ (bP_ (bP_ (bP_ (hK_ BK351.out))))) Tryz.underlying103 rfl (by kernel_rfl)) rfl ?_
  exact ⟨_, hV_, hR_ (Kd.R_mono (rF_ (rF_ (rF_ (rF_ (Kd.R_types HO356.out BK351.out (by decide)))))) (fun _ hk => trivial)), hC_⟩
 rw [if_neg c3] at H
 have c3b0 : decide ((a0.size : Int) ≤ a1) = false := decide_eq_false c3
 clear c3
 replace H := ifI_ H; obtain ⟨c9, H⟩ := H
 have c9b0 : decide (0 ≤ a1) = true := decide_eq_true c9
 clear c9
 replace H := ifI_ H; obtain ⟨c10, H⟩ := H
 have c10b0 : decide (a1 < (a0.size : Int)) = true := decide_eq_true c10
 clear c10
 by_cases c12 : (bt a0 a1) = 95
 case pos =>
  rw [if_pos c12] at H
  have c12b0 : ((bt a0 a1) == 95) = true := beq_iff_eq.mpr c12
  have c12b1 : ((bt a0 a1) != 95) = false := bne_eq_false_iff_eq.mpr c12
  clear c12
  simp only [Option.some.injEq, Prod.mk.injEq] at H
  obtain ⟨rfl, rfl, rfl, rfl⟩ := H
  go_enter Tryz.func70, Tryz.ntmps70
  go_wp2_with (first | ((with_reducible refine gate_dst (N := 4) rfl ?_); refine boxE_ 4 #[.int .i64 0, .int .i64 0, .slice none 0 0, .int .i64 0] 103 ?_; intro gb351 hg w13 hbox hb; have BK351 := a_ (hbox); have GW351 := a_ ((gE_ hg : w.heap.size ≤ gb351)); have GE351 := a_ ((gE_ hg : w.heap.size ≤ gb351)); replace HB := a_ (below_step hB_ hb); clear hb hbox hg; have p11 : 0 ≤ (a1 : Int) := of_decide_eq_true hA_; have q11 : a1 < (a0.size : Int) := of_decide_eq_true hA_; have hx11 := bt_at a0 a1; replace p11 := eq_true p11; replace q11 := eq_true q11; obtain ⟨hcz14_0, hcz14_1, hcz14_2, hcz14_3, hfz14_0, hfz14_1, hfz14_2, hfz14_3⟩ := bx4_ BK351.out))
  refine bodyPost_ret (results_cell_row rfl _ _ gb351 103 #[.int .i64 0, .int .i64 0, .slice none 0 0, .int .i64 (wrap64 (a1 + 1))] (0, 0) _ rfl (bP_ (bP_ (bP_ (bP_ (hK_ BK351.out))))) Tryz.underlying103 rfl (by kernel_rfl)) rfl ?_
  exact ⟨_, hV_, by first | exact Kd.R_nil _ _ _ _ _ | exact Kd.N_nil _ _ _ _ _ | exact Kd.V_nil _ _ _ _ _ | exact Kd.Q_nil _ _ _ _ _ | exact Kd.S_nil _ _ _ _ _, hC_⟩
 rw [if_neg c12] at H
 have c12b0 : ((bt a0 a1) == 95) = false := beq_eq_false_iff_ne.mpr c12
 have c12b1 : ((bt a0 a1) != 95) = true := bne_iff_ne.mpr c12
 by_cases c15 : (bt a0 a1) = 33
 case pos =>
  rw [if_pos c15] at H
  have c15b0 : ((bt a0 a1) == 33) = true := beq_iff_eq.mpr c15
  have c15b1 : ((bt a0 a1) != 33) = false := bne_eq_false_iff_eq.mpr c15
  clear c15
  simp only [Option.some.injEq, Prod.mk.injEq] at H
  obtain ⟨rfl, rfl, rfl, rfl⟩ := H
  go_enter Tryz.func70, Tryz.ntmps70
  go_wp2_with (first | ((with_reducible refine gate_dst (N := 4) rfl ?_); refine boxE_ 4 #[.int .i64 0, .int .i64 0, .slice none 0 0, .int .i64 0] 103 ?_; intro gb351 hg w16 hbox hb; have BK351 := a_ (hbox); have GW351 := a_ ((gE_ hg : w.heap.size ≤ gb351)); have GE351 := a_ ((gE_ hg : w.heap.size ≤ gb351)); replace HB := a_ (below_step hB_ hb); clear hb hbox hg; have p11 : 0 ≤ (a1 : Int) := of_decide_eq_true hA_; have q11 : a1 < (a0.size : Int) := of_decide_eq_true hA_; have hx11 := bt_at a0 a1; replace p11 := eq_true p11; replace q11 := eq_true q11; obtain ⟨hcz17_0, hcz17_1, hcz17_2, hcz17_3, hfz17_0, hfz17_1, hfz17_2, hfz17_3⟩ := bx4_ BK351.out))
  refine bodyPost_ret (results_cell_row rfl _ _ gb351 103 #[.int .i64 3, .int .i64 0, .slice none 0 0, .int .i64 (wrap64 (a1 + 1))] (0, 0) _ rfl (bP_ (bP_ (bP_ (bP_ (hK_ BK351.out))))) Tryz.underlying103 rfl (by kernel_rfl)) rfl ?_
  exact ⟨_, hV_, by first | exact Kd.R_nil _ _ _ _ _ | exact Kd.N_nil _ _ _ _ _ | exact Kd.V_nil _ _ _ _ _ | exact Kd.Q_nil _ _ _ _ _ | exact Kd.S_nil _ _ _ _ _, hC_⟩
 rw [if_neg c15] at H
 have c15b0 : ((bt a0 a1) == 33) = false := beq_eq_false_iff_ne.mpr c15
 have c15b1 : ((bt a0 a1) != 33) = true := bne_iff_ne.mpr c15
 by_cases c18 : (bt a0 a1) = 64
 case pos =>
  rw [if_pos c18] at H
  have c18b0 : ((bt a0 a1) == 64) = true := beq_iff_eq.mpr c18
  have c18b1 : ((bt a0 a1) != 64) = false := bne_eq_false_iff_eq.mpr c18
  clear c18
  obtain ⟨ji19, hji19⟩ : ∃ j_ : Int, (wrap64 (a1 + 1)) = j_ := ⟨_, rfl⟩
  replace H : (if 0 ≤ (ji19) then (if (ji19) ≤ (a0.size : Int) then ((sleuthref1_digits.f k (a0.extract ((ji19) : Int).toNat a0.size)).bind fun bt358 => (if bt358.2 = 0 then (sleuthref1_term.j0 k a0 a1 bt358.1 bt358.2 true) else (sleuthref1_term.j0 k a0 a1 bt358.1 bt358.2 (decide (bt358.1 > 99))))) else (none)) else (none)) = some (r1, r2, r3, r4) := by first | (rw [hji19] at H; exact H) | (simp only [hji19] at H ⊢; exact H)
  have hji19w : (IntKind.i64.wrap (a1 + 1)) = ji19 := (i64_w _).trans hji19
  replace H := ifI_ H; obtain ⟨c20, H⟩ := H
  have c20b0 := eq_true c20
  have c20b1 : decide (0 ≤ (ji19)) = true := decide_eq_true c20
  clear c20
  replace H := ifI_ H; obtain ⟨c21, H⟩ := H
  have c21b0 := eq_true c21
  have c21b1 : decide ((ji19) ≤ (a0.size : Int)) = true := decide_eq_true c21
  clear c21
  replace H := Option.bind_eq_some_iff.mp H
  obtain ⟨⟨t358, t359⟩, A220, H⟩ := H
  try dsimp only at H
  have A22 := a_ A220
  clear A220
  have HC23 := a_ H
  clear H
  go_enter Tryz.func70, Tryz.ntmps70
  go_upto_region 10 with (first | ((with_reducible refine gate_dst (N := 4) rfl ?_); refine boxE_ 4 #[.int .i64 0, .int .i64 0, .slice none 0 0, .int .i64 0] 103 ?_; intro gb351 hg w24 hbox hb; have BK351 := a_ (hbox); have GW351 := a_ ((gE_ hg : w.heap.size ≤ gb351)); have GE351 := a_ ((gE_ hg : w.heap.size ≤ gb351)); replace HB := a_ (below_step hB_ hb); clear hb hbox hg; have p11 : 0 ≤ (a1 : Int) := of_decide_eq_true hA_; have q11 : a1 < (a0.size : Int) := of_decide_eq_true hA_; have hx11 := bt_at a0 a1; replace p11 := eq_true p11; replace q11 := eq_true q11) | ((with_reducible refine gate_callee (f := 75) rfl ?_); refine goesL_ _ rfl rfl Tryz.func75 (by kernel_rfl) rfl #[.string (a0.extract ((ji19) : Int).toNat a0.size)] rfl (by (try simp only [List.map_toArray, List.map_cons, List.map_nil]); first | done | (simp only [hji19]; rfl) | rfl | (simp only [List.length_drop, List.length_take]; rfl)) ?_; (with_reducible refine (sleuthref1_digits.calls k (a0.extract ((ji19) : Int).toNat a0.size) t358 t359 _ A22.out).mono ?_); rintro e w' ⟨rfl, ⟨nd, rfl⟩⟩; refine ⟨_, rfl, ?_⟩))
  (try simp only [Act.put, List.setIfInBounds_toArray, List.set_cons_zero, List.set_cons_succ])
  go_cut [45] (fun v45 wc => ∃ (kq : Nat) (x45_22 : Bool), v45 = .bool x45_22 ∧ Aside0 (sleuthref1_term.j0 kq a0 a1 t358 t359 x45_22 = some (r1, r2, r3, r4)) ∧ Aside0 (kq ≤ k) ∧ Aside0 (wc.heap[gb351]? = some (.cells #[.int .i64 0, .int .i64 0, (.slice none 0 0), .int .i64 0] 103 (0, 0))) ∧ Aside0 (Below w.heap.size w wc))
  case first =>
   have H := HC23.out
   clear HC23
   by_cases c25 : t359 = 0
   case neg =>
    rw [if_neg c25] at H
    have c25b0 : (t359 == 0) = false := beq_eq_false_iff_ne.mpr c25
    have c25b1 : (t359 != 0) = true := bne_iff_ne.mpr c25
    (first | rw [c25b0] | (simp only [i64_w, i32_w]; rw [c25b0]) | skip)
    have H' := a_ H
    clear H
    go_wp2
    go_meet
    case rel => exact ⟨_, (decide (t358 > 99)), hW_, H', ⟨by first | omega | exact Nat.le_refl _⟩, ⟨(hK_ BK351.out)⟩, ⟨hC_⟩⟩
   rw [if_pos c25] at H
   have c25b0 : (t359 == 0) = true := beq_iff_eq.mpr c25
   have c25b1 : (t359 != 0) = false := bne_eq_false_iff_eq.mpr c25
   clear c25
   (first | rw [c25b0] | (simp only [i64_w, i32_w]; rw [c25b0]) | skip)
   have H' := a_ H
   clear H
   go_wp2
   go_meet
   case rel => exact ⟨_, (true), hW_, H', ⟨by first | omega | exact Nat.le_refl _⟩, ⟨(hK_ BK351.out)⟩, ⟨hC_⟩⟩
  case rest =>
   clear HC23
   try clear c1
   try clear p1
   try clear q1
   try clear hx1
   try clear c2
   try clear p2
   try clear c3
   try clear c3b0
   try clear p6
   try clear c7
   try clear c9
   try clear c9b0
   try clear c10
   try clear c10b0
   try clear p11
   try clear q11
   try clear hx11
   try clear c12
   try clear c12b0
   try clear c12b1
   try clear c15
   try clear c15b0
   try clear c15b1
   try clear c18
   try clear c18b0
   try clear c18b1
   try clear c20
   try clear c20b0
   try clear c20b1
   try clear c21
   try clear c21b0
   try clear c21b1
   try clear c25
   try clear c25b0
   try clear c25b1
   try clear hji19
   try clear hji19w
   try clear hcz14_0
   try clear hcz14_1
   try clear hcz14_2
   try clear hcz14_3
   try clear hcz17_0
   try clear hcz17_1
   try clear hcz17_2
   try clear hcz17_3
   try clear hcz7_0
   try clear hcz7_1
   try clear hcz7_2
   try clear hcz7_3
   try clear hfz14_0
   try clear hfz14_1
   try clear hfz14_2
   try clear hfz14_3
   try clear hfz17_0
   try clear hfz17_1
   try clear hfz17_2
   try clear hfz17_3
   try clear hfz7_0
   try clear hfz7_1
   try clear hfz7_2
   try clear hfz7_3
   try clear p11
   try clear q11
   obtain ⟨kq, x45_22, rfl, HA, HJ22, BK351, HB⟩ := hcut
   cases kq with
   | zero => exact absurd HA.out (by simp [sleuthref1_term.j0])
   | succ kj22 =>
    have H := HA.out
    clear HA
    simp only [sleuthref1_term.j0] at H
    by_cases c26 : x45_22 = true
    case pos =>
     subst c26
     rw [if_pos rfl] at H
     replace H := Option.bind_eq_some_iff.mp H
     obtain ⟨⟨t360, t361, t362, t365⟩, A270, H⟩ := H
     try dsimp only at H
     have A27 := a_ A270
     clear A270
     simp only [Option.some.injEq, Prod.mk.injEq] at H
     obtain ⟨rfl, rfl, rfl, rfl⟩ := H
     go_wp2_with (first | ((with_reducible refine gate_callee (f := 74) rfl ?_); refine goesL_ (some 46) rfl rfl Tryz.func74 (by kernel_rfl) rfl #[] rfl hL_ ?_; (with_reducible refine (sleuthref1_bad.calls  t360 t361 t362 t365 _ A27.out).mono ?_); rintro e w28 ⟨v363, rfl, ho0, hb⟩; refine ⟨_, rfl, ?_⟩; have HO364 := a_ (Kd.R_lower ho0 (below_size hC_)); replace BK351 := a_ (bB_ BK351.out hb); replace HB := a_ (below_step hC_ hb); (try clear hb); (try clear hb2); (try clear hk); (try clear hi); (try clear ho0); obtain ⟨hcz29_0, hcz29_1, hcz29_2, hcz29_3, hfz29_0, hfz29_1, hfz29_2, hfz29_3⟩ := bx4_ BK351.out; obtain ⟨Ao30, co30, eo30⟩ := Kd.R_slice HO364.out; subst eo30))
     refine bodyPost_ret (results_cell_row rfl _ _ gb351 103 #[.int .i64 t360, .int .i64 t361, .slice Ao30 t362.length co30, .int .i64 t365] (0, 0) _ rfl (bP_ (bP_ (bP_ (bP_ (hK_ BK351.out))))) Tryz.underlying103 rfl (by kernel_rfl)) rfl ?_
     exact ⟨_, by first | rfl | (simp [errW_none, errW_some] <;> rfl) | (simp only [← hji19]; first | rfl | (simp [errW_none, errW_some] <;> rfl)) | (simp [*, errW_none, errW_some] <;> rfl), hR_ (Kd.R_mono (rF_ (rF_ (rF_ (rF_ (Kd.R_types HO364.out BK351.out (by decide)))))) (fun _ hk => trivial)), hC_⟩
    replace c26 := Bool.eq_false_iff.mpr c26
    subst c26
    rw [if_neg (show ¬ (false = true) by decide)] at H
    by_cases c31 : (wrap64 ((wrap64 (a1 + 1)) + t359)) < (a0.size : Int)
    case neg =>
     rw [if_neg c31] at H
     have c31b0 : decide ((wrap64 ((wrap64 (a1 + 1)) + t359)) < (a0.size : Int)) = false := decide_eq_false c31
     (try (have c31b0w := c31b0; try (rw [show wrap64 (a1 + 1) = (a1 + 1) from by unfold wrap64; omega] at c31b0w); try (rw [show wrap64 ((wrap64 (a1 + 1)) + t359) = ((wrap64 (a1 + 1)) + t359) from by unfold wrap64; omega] at c31b0w)))
     clear c31
     simp only [Option.some.injEq, Prod.mk.injEq] at H
     obtain ⟨rfl, rfl, rfl, rfl⟩ := H
     go_wp2_with (first | ((with_reducible refine gate_dst (N := 7) rfl ?_); refine boxE_ 7 #[.int .i64 0, .int .i64 0, .slice none 0 0, .int .i64 0] 103 ?_; intro gb366 hg w49 hbox hb; have BK366 := a_ (hbox); have GW366 := a_ ((gE_ hg : w.heap.size ≤ gb366)); have GE366 := a_ ((gE_ hg : w.heap.size ≤ gb366)); replace HB := a_ (below_step hC_ hb); have NB351_366 := a_ ((bL_ BK351.out hg : gb351 ≠ gb366)); have NB366_351 := a_ ((bG_ BK351.out hg : gb366 ≠ gb351)); replace BK351 := a_ (bB_ BK351.out hb); clear hb hbox hg; have hnb50 := NB366_351.out; have hnc50 := NB351_366.out; obtain ⟨hcz51_0, hcz51_1, hcz51_2, hcz51_3, hfz51_0, hfz51_1, hfz51_2, hfz51_3⟩ := bx4_ BK366.out; obtain ⟨hcz52_0, hcz52_1, hcz52_2, hcz52_3, hfz52_0, hfz52_1, hfz52_2, hfz52_3⟩ := bx4_ BK351.out))
     refine bodyPost_ret (results_cell_row rfl _ _ gb351 103 #[.int .i64 2, .int .i64 t358, .slice none 0 0, .int .i64 (wrap64 ((wrap64 (a1 + 1)) + t359))] (0, 0) _ rfl (bP_ (bP_ (bP_ (bP_ (bF_ (bF_ (bF_ (bF_ (hK_ BK351.out) NB351_366.out) NB351_366.out) NB351_366.out) NB351_366.out))))) Tryz.underlying103 rfl (by kernel_rfl)) rfl ?_
     exact ⟨_, by first | rfl | (simp [errW_none, errW_some] <;> rfl) | (simp only [← hji19]; first | rfl | (simp [errW_none, errW_some] <;> rfl)) | (simp [*, errW_none, errW_some] <;> rfl), by first | exact Kd.R_nil _ _ _ _ _ | exact Kd.N_nil _ _ _ _ _ | exact Kd.V_nil _ _ _ _ _ | exact Kd.Q_nil _ _ _ _ _ | exact Kd.S_nil _ _ _ _ _, hC_⟩
    rw [if_pos c31] at H
    have c31b0 : decide ((wrap64 ((wrap64 (a1 + 1)) + t359)) < (a0.size : Int)) = true := decide_eq_true c31
    (try (have c31b0w := c31b0; try (rw [show wrap64 (a1 + 1) = (a1 + 1) from by unfold wrap64; omega] at c31b0w); try (rw [show wrap64 ((wrap64 (a1 + 1)) + t359) = ((wrap64 (a1 + 1)) + t359) from by unfold wrap64; omega] at c31b0w)))
    clear c31
    obtain ⟨ji32, hji32⟩ : ∃ j_ : Int, (wrap64 ((wrap64 (a1 + 1)) + t359)) = j_ := ⟨_, rfl⟩
    replace H : (if 0 ≤ (ji32) then (if (bt a0 (ji32)) = 40 then ((sleuthref1_parts.f kj22 a0 2 t358 ([] : List ByteArray) (ji32) (wrap64 ((ji32) + 1))).bind fun bt367 => (some (bt367.1, bt367.2.1, bt367.2.2.1, bt367.2.2.2))) else (some (2, t358, ([] : List ByteArray), ji32))) else (none)) = some (r1, r2, r3, r4) := by first | (rw [hji32] at H; exact H) | (simp only [hji32] at H ⊢; exact H)
    (try rw [hji32] at c31b0)
    have hji32w : (IntKind.i64.wrap ((wrap64 (a1 + 1)) + t359)) = ji32 := (i64_w _).trans hji32
    (try (have hji32vji19 := hji32; rw [hji19] at hji32vji19))
    (try (have hji32vwji19 := hji32w; rw [hji19] at hji32vwji19))
    replace H := ifI_ H; obtain ⟨c33, H⟩ := H
    have c33b0 : decide (0 ≤ (ji32)) = true := decide_eq_true c33
    clear c33
    by_cases c35 : (bt a0 (ji32)) = 40
    case neg =>
     rw [if_neg c35] at H
     have c35b0 : ((bt a0 (ji32)) == 40) = false := beq_eq_false_iff_ne.mpr c35
     have c35b1 : ((bt a0 (ji32)) != 40) = true := bne_iff_ne.mpr c35
     simp only [Option.some.injEq, Prod.mk.injEq] at H
     obtain ⟨rfl, rfl, rfl, rfl⟩ := H
     go_wp2_with (first | ((with_reducible refine gate_dst (N := 7) rfl ?_); refine boxE_ 7 #[.int .i64 0, .int .i64 0, .slice none 0 0, .int .i64 0] 103 ?_; intro gb366 hg w45 hbox hb; have BK366 := a_ (hbox); have GW366 := a_ ((gE_ hg : w.heap.size ≤ gb366)); have GE366 := a_ ((gE_ hg : w.heap.size ≤ gb366)); replace HB := a_ (below_step hC_ hb); have NB351_366 := a_ ((bL_ BK351.out hg : gb351 ≠ gb366)); have NB366_351 := a_ ((bG_ BK351.out hg : gb366 ≠ gb351)); replace BK351 := a_ (bB_ BK351.out hb); clear hb hbox hg; have hnb46 := NB366_351.out; have hnc46 := NB351_366.out; obtain ⟨hcz47_0, hcz47_1, hcz47_2, hcz47_3, hfz47_0, hfz47_1, hfz47_2, hfz47_3⟩ := bx4_ BK366.out; have p34 : 0 ≤ ((ji32) : Int) := of_decide_eq_true hA_; have q34 : (ji32) < (a0.size : Int) := of_decide_eq_true hA_; have hx34 := bt_at a0 (ji32); replace p34 := eq_true p34; replace q34 := eq_true q34; obtain ⟨hcz48_0, hcz48_1, hcz48_2, hcz48_3, hfz48_0, hfz48_1, hfz48_2, hfz48_3⟩ := bx4_ BK351.out))
     refine bodyPost_ret (results_cell_row rfl _ _ gb351 103 #[.int .i64 2, .int .i64 t358, .slice none 0 0, .int .i64 ji32] (0, 0) _ rfl (bP_ (bP_ (bP_ (bP_ (bF_ (bF_ (bF_ (bF_ (hK_ BK351.out) NB351_366.out) NB351_366.out) NB351_366.out) NB351_366.out))))) Tryz.underlying103 rfl (by kernel_rfl)) rfl ?_
     exact ⟨_, by first | rfl | (simp [errW_none, errW_some] <;> rfl) | (simp only [← hji19, ← hji32]; first | rfl | (simp [errW_none, errW_some] <;> rfl)) | (simp [*, errW_none, errW_some] <;> rfl), by first | exact Kd.R_nil _ _ _ _ _ | exact Kd.N_nil _ _ _ _ _ | exact Kd.V_nil _ _ _ _ _ | exact Kd.Q_nil _ _ _ _ _ | exact Kd.S_nil _ _ _ _ _, hC_⟩
    rw [if_pos c35] at H
    have c35b0 : ((bt a0 (ji32)) == 40) = true := beq_iff_eq.mpr c35
    have c35b1 : ((bt a0 (ji32)) != 40) = false := bne_eq_false_iff_eq.mpr c35
    clear c35
    replace H := Option.bind_eq_some_iff.mp H
    obtain ⟨⟨t367, t368, t369, t372⟩, A360, H⟩ := H
    try dsimp only at H
    have A36 := a_ A360
    clear A360
    simp only [Option.some.injEq, Prod.mk.injEq] at H
    obtain ⟨rfl, rfl, rfl, rfl⟩ := H
    go_wp2_with (first | ((with_reducible refine gate_dst (N := 7) rfl ?_); refine boxE_ 7 #[.int .i64 0, .int .i64 0, .slice none 0 0, .int .i64 0] 103 ?_; intro gb366 hg w37 hbox hb; have BK366 := a_ (hbox); have GW366 := a_ ((gE_ hg : w.heap.size ≤ gb366)); have GE366 := a_ ((gE_ hg : w.heap.size ≤ gb366)); replace HB := a_ (below_step hC_ hb); have NB351_366 := a_ ((bL_ BK351.out hg : gb351 ≠ gb366)); have NB366_351 := a_ ((bG_ BK351.out hg : gb366 ≠ gb351)); replace BK351 := a_ (bB_ BK351.out hb); clear hb hbox hg; have hnb38 := NB366_351.out; have hnc38 := NB351_366.out; obtain ⟨hcz39_0, hcz39_1, hcz39_2, hcz39_3, hfz39_0, hfz39_1, hfz39_2, hfz39_3⟩ := bx4_ BK366.out) | ((with_reducible refine gate_store (t := 103) (p := 7) rfl ?_); refine store_event (t := 103) (p := 7) (v := ?vo_w40) (w1 := ((((w37.setCell ⟨gb366, 0, none⟩ (.int .i64 2)).setCell ⟨gb366, 1, none⟩ (.int .i64 t358)).setCell ⟨gb366, 2, none⟩ (.slice none 0 0)).setCell ⟨gb366, 3, none⟩ (.int .i64 ji32))) ?hg ?ho ?hn ?hr ?_; (case ho => rfl); (case hg => rfl); (case hn => rfl); (case hr => first | (go_simp; done) | (go_simp; rfl)); intro w40 hw; replace BK351 : Aside0 (w40.heap[gb351]? = some (.cells #[.int .i64 0, .int .i64 0, .slice none 0 0, .int .i64 0] 103 (0, 0))) := ⟨(by rw [hw]; exact (bF_ (bF_ (bF_ (bF_ (hK_ BK351.out) NB351_366.out) NB351_366.out) NB351_366.out) NB351_366.out))⟩; replace BK366 : Aside0 (w40.heap[gb366]? = some (.cells #[.int .i64 2, .int .i64 t358, .slice none 0 0, .int .i64 ji32] 103 (0, 0))) := ⟨(by rw [hw]; exact (bP_ (bP_ (bP_ (bP_ (hK_ BK366.out))))))⟩; replace HB : Aside0 (Below w.heap.size w w40) := ⟨(by rw [hw]; exact hC_)⟩; clear hw; obtain ⟨hcz41_0, hcz41_1, hcz41_2, hcz41_3, hfz41_0, hfz41_1, hfz41_2, hfz41_3⟩ := bx4_ BK366.out; have p34 : 0 ≤ ((ji32) : Int) := of_decide_eq_true hA_; have q34 : (ji32) < (a0.size : Int) := of_decide_eq_true hA_; have hx34 := bt_at a0 (ji32); replace p34 := eq_true p34; replace q34 := eq_true q34) | ((with_reducible refine gate_callee (f := 76) rfl ?_); refine goesL_ (some 70) rfl rfl Tryz.func76 (by kernel_rfl) rfl #[.string a0, .agg #[.int .i64 2, .int .i64 t358, .slice none 0 0, .int .i64 ji32], .int .i64 (wrap64 ((ji32) + 1))] rfl (by (try simp only [List.map_toArray, List.map_cons, List.map_nil]); first | done | (simp only [hji32]; rfl) | rfl | (simp only [List.length_drop, List.length_take]; rfl)) ?_; (refine (ih_sleuthref1_parts kj22 (by have := HJ22.out; omega) a0 2 t358 (fun k_ => some k_ = (.slice none 0 0 : Value).ownBlock) (.slice none 0 0) ([] : List ByteArray) ji32 (wrap64 ((ji32) + 1)) t367 t368 t369 t372 w _ ?side1 ?side2 A36.out).mono ?_); (case side1 => repeat (first | (with_reducible first | exact HB.out | apply below_alloc | apply pw_below_drewN | apply below_drew1 | refine below_set ?_ GE351.out | refine below_set ?_ GE366.out) | exact HB.out)); (case side2 => exact Kd.R_nil _ _ _ _ _); rintro e w42 ⟨v370, rfl, ho0, hb, hkp⟩; refine ⟨_, rfl, ?_⟩; replace BK351 := a_ (blk_kept (hK_ BK351.out) hkp (fun hs_ => (fun e_ => by simp [Value.ownBlock] at e_) hs_)); replace BK366 := a_ (blk_kept (hK_ BK366.out) hkp (fun hs_ => (fun e_ => by simp [Value.ownBlock] at e_) hs_)); have HO371 := a_ (Kd.R_mono (ok' := fun k_ => True) ho0 (fun k_ hk_ => trivial)); replace HB := a_ (hb); (try clear hb); (try clear hkp); (try clear ho0); obtain ⟨hcz43_0, hcz43_1, hcz43_2, hcz43_3, hfz43_0, hfz43_1, hfz43_2, hfz43_3⟩ := bx4_ BK351.out; obtain ⟨Ao44, co44, eo44⟩ := Kd.R_slice HO371.out; subst eo44))
    refine bodyPost_ret (results_cell_row rfl _ _ gb351 103 #[.int .i64 t367, .int .i64 t368, .slice Ao44 t369.length co44, .int .i64 t372] (0, 0) _ rfl (bP_ (bP_ (bP_ (bP_ (hK_ BK351.out))))) Tryz.underlying103 rfl (by kernel_rfl)) rfl ?_
    exact ⟨_, by first | rfl | (simp [errW_none, errW_some] <;> rfl) | (simp only [← hji19, ← hji32]; first | rfl | (simp [errW_none, errW_some] <;> rfl)) | (simp [*, errW_none, errW_some] <;> rfl), hR_ (Kd.R_mono (rF_ (rF_ (rF_ (rF_ (Kd.R_types HO371.out BK351.out (by decide)))))) (fun _ hk => trivial)), hC_⟩
 rw [if_neg c18] at H
 have c18b0 : ((bt a0 a1) == 64) = false := beq_eq_false_iff_ne.mpr c18
 have c18b1 : ((bt a0 a1) != 64) = true := bne_iff_ne.mpr c18
 by_cases c53 : (bt a0 a1) = 45
 case neg =>
  rw [if_neg c53] at H
  have c53b0 : ((bt a0 a1) == 45) = false := beq_eq_false_iff_ne.mpr c53
  have c53b1 : ((bt a0 a1) != 45) = true := bne_iff_ne.mpr c53
  have c79b0 := eq_true (of_decide_eq_true hA_ : 0 ≤ a1)
  replace H := ifI_ H; obtain ⟨c80, H⟩ := H
  have c80b0 := eq_true c80
  have c80b1 : decide (a1 ≤ (a0.size : Int)) = true := decide_eq_true c80
  clear c80
  replace H := Option.bind_eq_some_iff.mp H
  obtain ⟨⟨t394, t395⟩, A810, H⟩ := H
  try dsimp only at H
  have A81 := a_ A810
  clear A810
  by_cases c82 : t395 = 0
  case pos =>
   rw [if_pos c82] at H
   have c82b0 : (t395 == 0) = true := beq_iff_eq.mpr c82
   have c82b1 : (t395 != 0) = false := bne_eq_false_iff_eq.mpr c82
   clear c82
   replace H := Option.bind_eq_some_iff.mp H
   obtain ⟨⟨t396, t397, t398, t401⟩, A830, H⟩ := H
   try dsimp only at H
   have A83 := a_ A830
   clear A830
   simp only [Option.some.injEq, Prod.mk.injEq] at H
   obtain ⟨rfl, rfl, rfl, rfl⟩ := H
   go_enter Tryz.func70, Tryz.ntmps70
   go_wp2_with (first | ((with_reducible refine gate_dst (N := 4) rfl ?_); refine boxE_ 4 #[.int .i64 0, .int .i64 0, .slice none 0 0, .int .i64 0] 103 ?_; intro gb351 hg w84 hbox hb; have BK351 := a_ (hbox); have GW351 := a_ ((gE_ hg : w.heap.size ≤ gb351)); have GE351 := a_ ((gE_ hg : w.heap.size ≤ gb351)); replace HB := a_ (below_step hB_ hb); clear hb hbox hg; have p11 : 0 ≤ (a1 : Int) := of_decide_eq_true hA_; have q11 : a1 < (a0.size : Int) := of_decide_eq_true hA_; have hx11 := bt_at a0 a1; replace p11 := eq_true p11; replace q11 := eq_true q11) | ((with_reducible refine gate_callee (f := 75) rfl ?_); refine goesL_ _ rfl rfl Tryz.func75 (by kernel_rfl) rfl #[.string (a0.extract (a1 : Int).toNat a0.size)] rfl hL_ ?_; (with_reducible refine (sleuthref1_digits.calls k (a0.extract (a1 : Int).toNat a0.size) t394 t395 _ A81.out).mono ?_); rintro e w' ⟨rfl, ⟨nd, rfl⟩⟩; refine ⟨_, rfl, ?_⟩; (try (rw [drewN_self w84]; generalize hq_ : World.drewN w84 _ = w84; replace BK351 : Aside0 (w84.heap[gb351]? = some (.cells #[.int .i64 0, .int .i64 0, .slice none 0 0, .int .i64 0] 103 (0, 0))) := ⟨by rw [← hq_]; exact (hK_ BK351.out)⟩; replace HB : Aside0 (Below w.heap.size w w84) := ⟨by rw [← hq_]; exact hC_⟩; clear hq_; (try have hcu0_0 := bc0_ BK351.out); (try have hfu0_0 := blk_frozen BK351.out 0); (try have hcu0_1 := bc1_ BK351.out); (try have hfu0_1 := blk_frozen BK351.out 1); (try have hcu0_2 := bc2_ BK351.out); (try have hfu0_2 := blk_frozen BK351.out 2); (try have hcu0_3 := bc3_ BK351.out); (try have hfu0_3 := blk_frozen BK351.out 3)))) | ((with_reducible refine gate_callee (f := 74) rfl ?_); refine goesL_ (some 116) rfl rfl Tryz.func74 (by kernel_rfl) rfl #[] rfl hL_ ?_; (with_reducible refine (sleuthref1_bad.calls  t396 t397 t398 t401 _ A83.out).mono ?_); rintro e w85 ⟨v399, rfl, ho0, hb⟩; refine ⟨_, rfl, ?_⟩; have HO400 := a_ (Kd.R_lower ho0 (below_size hC_)); replace BK351 := a_ (bB_ BK351.out hb); replace HB := a_ (below_step hC_ hb); (try clear hb); (try clear hb2); (try clear hk); (try clear hi); (try clear ho0); obtain ⟨hcz86_0, hcz86_1, hcz86_2, hcz86_3, hfz86_0, hfz86_1, hfz86_2, hfz86_3⟩ := bx4_ BK351.out; obtain ⟨Ao87, co87, eo87⟩ := Kd.R_slice HO400.out; subst eo87))
   refine bodyPost_ret (results_cell_row rfl _ _ gb351 103 #[.int .i64 t396, .int .i64 t397, .slice Ao87 t398.length co87, .int .i64 t401] (0, 0) _ rfl (bP_ (bP_ (bP_ (bP_ (hK_ BK351.out))))) Tryz.underlying103 rfl (by kernel_rfl)) rfl ?_
   exact ⟨_, hV_, hR_ (Kd.R_mono (rF_ (rF_ (rF_ (rF_ (Kd.R_types HO400.out BK351.out (by decide)))))) (fun _ hk => trivial)), hC_⟩
  rw [if_neg c82] at H
  have c82b0 : (t395 == 0) = false := beq_eq_false_iff_ne.mpr c82
  have c82b1 : (t395 != 0) = true := bne_iff_ne.mpr c82
  replace H := Option.bind_eq_some_iff.mp H
  obtain ⟨t402, A880, H⟩ := H
  try dsimp only at H
  have A88 := a_ A880
  clear A880
  by_cases c89 : t402 = true
  case pos =>
   subst c89
   rw [if_pos rfl] at H
   simp only [Option.some.injEq, Prod.mk.injEq] at H
   obtain ⟨rfl, rfl, rfl, rfl⟩ := H
   go_enter Tryz.func70, Tryz.ntmps70
   go_wp2_with (first | ((with_reducible refine gate_dst (N := 4) rfl ?_); refine boxE_ 4 #[.int .i64 0, .int .i64 0, .slice none 0 0, .int .i64 0] 103 ?_; intro gb351 hg w90 hbox hb; have BK351 := a_ (hbox); have GW351 := a_ ((gE_ hg : w.heap.size ≤ gb351)); have GE351 := a_ ((gE_ hg : w.heap.size ≤ gb351)); replace HB := a_ (below_step hB_ hb); clear hb hbox hg; have p11 : 0 ≤ (a1 : Int) := of_decide_eq_true hA_; have q11 : a1 < (a0.size : Int) := of_decide_eq_true hA_; have hx11 := bt_at a0 a1; replace p11 := eq_true p11; replace q11 := eq_true q11) | ((with_reducible refine gate_callee (f := 75) rfl ?_); refine goesL_ _ rfl rfl Tryz.func75 (by kernel_rfl) rfl #[.string (a0.extract (a1 : Int).toNat a0.size)] rfl hL_ ?_; (with_reducible refine (sleuthref1_digits.calls k (a0.extract (a1 : Int).toNat a0.size) t394 t395 _ A81.out).mono ?_); rintro e w' ⟨rfl, ⟨nd, rfl⟩⟩; refine ⟨_, rfl, ?_⟩; (try (rw [drewN_self w90]; generalize hq_ : World.drewN w90 _ = w90; replace BK351 : Aside0 (w90.heap[gb351]? = some (.cells #[.int .i64 0, .int .i64 0, .slice none 0 0, .int .i64 0] 103 (0, 0))) := ⟨by rw [← hq_]; exact (hK_ BK351.out)⟩; replace HB : Aside0 (Below w.heap.size w w90) := ⟨by rw [← hq_]; exact hC_⟩; clear hq_; (try have hcu0_0 := bc0_ BK351.out); (try have hfu0_0 := blk_frozen BK351.out 0); (try have hcu0_1 := bc1_ BK351.out); (try have hfu0_1 := blk_frozen BK351.out 1); (try have hcu0_2 := bc2_ BK351.out); (try have hfu0_2 := blk_frozen BK351.out 2); (try have hcu0_3 := bc3_ BK351.out); (try have hfu0_3 := blk_frozen BK351.out 3)))) | (go_at_call 77; (with_reducible refine (sleuthref1_NumMay.calls t394 true _ A88.out).mono ?_); rintro e w' ⟨rfl, ⟨nd, rfl⟩⟩; (try (rw [drewN_self w90]; generalize hq_ : World.drewN w90 _ = w90; replace BK351 : Aside0 (w90.heap[gb351]? = some (.cells #[.int .i64 0, .int .i64 0, .slice none 0 0, .int .i64 0] 103 (0, 0))) := ⟨by rw [← hq_]; exact (hK_ BK351.out)⟩; replace HB : Aside0 (Below w.heap.size w w90) := ⟨by rw [← hq_]; exact hC_⟩; clear hq_; (try have hcu0_0 := bc0_ BK351.out); (try have hfu0_0 := blk_frozen BK351.out 0); (try have hcu0_1 := bc1_ BK351.out); (try have hfu0_1 := blk_frozen BK351.out 1); (try have hcu0_2 := bc2_ BK351.out); (try have hfu0_2 := blk_frozen BK351.out 2); (try have hcu0_3 := bc3_ BK351.out); (try have hfu0_3 := blk_frozen BK351.out 3))); obtain ⟨hcz91_0, hcz91_1, hcz91_2, hcz91_3, hfz91_0, hfz91_1, hfz91_2, hfz91_3⟩ := bx4_ BK351.out))
   refine bodyPost_ret (results_cell_row rfl _ _ gb351 103 #[.int .i64 1, .int .i64 t394, .slice none 0 0, .int .i64 (wrap64 (a1 + t395))] (0, 0) _ rfl (bP_ (bP_ (bP_ (bP_ (hK_ BK351.out))))) Tryz.underlying103 rfl (by kernel_rfl)) rfl ?_
   exact ⟨_, hV_, by first | exact Kd.R_nil _ _ _ _ _ | exact Kd.N_nil _ _ _ _ _ | exact Kd.V_nil _ _ _ _ _ | exact Kd.Q_nil _ _ _ _ _ | exact Kd.S_nil _ _ _ _ _, hC_⟩
  replace c89 := Bool.eq_false_iff.mpr c89
  subst c89
  rw [if_neg (show ¬ (false = true) by decide)] at H
  replace H := Option.bind_eq_some_iff.mp H
  obtain ⟨⟨t403, t404, t405, t408⟩, A920, H⟩ := H
  try dsimp only at H
  have A92 := a_ A920
  clear A920
  simp only [Option.some.injEq, Prod.mk.injEq] at H
  obtain ⟨rfl, rfl, rfl, rfl⟩ := H
  go_enter Tryz.func70, Tryz.ntmps70
  go_wp2_with (first | ((with_reducible refine gate_dst (N := 4) rfl ?_); refine boxE_ 4 #[.int .i64 0, .int .i64 0, .slice none 0 0, .int .i64 0] 103 ?_; intro gb351 hg w93 hbox hb; have BK351 := a_ (hbox); have GW351 := a_ ((gE_ hg : w.heap.size ≤ gb351)); have GE351 := a_ ((gE_ hg : w.heap.size ≤ gb351)); replace HB := a_ (below_step hB_ hb); clear hb hbox hg; have p11 : 0 ≤ (a1 : Int) := of_decide_eq_true hA_; have q11 : a1 < (a0.size : Int) := of_decide_eq_true hA_; have hx11 := bt_at a0 a1; replace p11 := eq_true p11; replace q11 := eq_true q11) | ((with_reducible refine gate_callee (f := 75) rfl ?_); refine goesL_ _ rfl rfl Tryz.func75 (by kernel_rfl) rfl #[.string (a0.extract (a1 : Int).toNat a0.size)] rfl hL_ ?_; (with_reducible refine (sleuthref1_digits.calls k (a0.extract (a1 : Int).toNat a0.size) t394 t395 _ A81.out).mono ?_); rintro e w' ⟨rfl, ⟨nd, rfl⟩⟩; refine ⟨_, rfl, ?_⟩; (try (rw [drewN_self w93]; generalize hq_ : World.drewN w93 _ = w93; replace BK351 : Aside0 (w93.heap[gb351]? = some (.cells #[.int .i64 0, .int .i64 0, .slice none 0 0, .int .i64 0] 103 (0, 0))) := ⟨by rw [← hq_]; exact (hK_ BK351.out)⟩; replace HB : Aside0 (Below w.heap.size w w93) := ⟨by rw [← hq_]; exact hC_⟩; clear hq_; (try have hcu0_0 := bc0_ BK351.out); (try have hfu0_0 := blk_frozen BK351.out 0); (try have hcu0_1 := bc1_ BK351.out); (try have hfu0_1 := blk_frozen BK351.out 1); (try have hcu0_2 := bc2_ BK351.out); (try have hfu0_2 := blk_frozen BK351.out 2); (try have hcu0_3 := bc3_ BK351.out); (try have hfu0_3 := blk_frozen BK351.out 3)))) | (go_at_call 77; (with_reducible refine (sleuthref1_NumMay.calls t394 false _ A88.out).mono ?_); rintro e w' ⟨rfl, ⟨nd, rfl⟩⟩; (try (rw [drewN_self w93]; generalize hq_ : World.drewN w93 _ = w93; replace BK351 : Aside0 (w93.heap[gb351]? = some (.cells #[.int .i64 0, .int .i64 0, .slice none 0 0, .int .i64 0] 103 (0, 0))) := ⟨by rw [← hq_]; exact (hK_ BK351.out)⟩; replace HB : Aside0 (Below w.heap.size w w93) := ⟨by rw [← hq_]; exact hC_⟩; clear hq_; (try have hcu0_0 := bc0_ BK351.out); (try have hfu0_0 := blk_frozen BK351.out 0); (try have hcu0_1 := bc1_ BK351.out); (try have hfu0_1 := blk_frozen BK351.out 1); (try have hcu0_2 := bc2_ BK351.out); (try have hfu0_2 := blk_frozen BK351.out 2); (try have hcu0_3 := bc3_ BK351.out); (try have hfu0_3 := blk_frozen BK351.out 3)))) | ((with_reducible refine gate_callee (f := 74) rfl ?_); refine goesL_ (some 116) rfl rfl Tryz.func74 (by kernel_rfl) rfl #[] rfl hL_ ?_; (with_reducible refine (sleuthref1_bad.calls  t403 t404 t405 t408 _ A92.out).mono ?_); rintro e w94 ⟨v406, rfl, ho0, hb⟩; refine ⟨_, rfl, ?_⟩; have HO407 := a_ (Kd.R_lower ho0 (below_size hC_)); replace BK351 := a_ (bB_ BK351.out hb); replace HB := a_ (below_step hC_ hb); (try clear hb); (try clear hb2); (try clear hk); (try clear hi); (try clear ho0); obtain ⟨hcz95_0, hcz95_1, hcz95_2, hcz95_3, hfz95_0, hfz95_1, hfz95_2, hfz95_3⟩ := bx4_ BK351.out; obtain ⟨Ao96, co96, eo96⟩ := Kd.R_slice HO407.out; subst eo96))
  refine bodyPost_ret (results_cell_row rfl _ _ gb351 103 #[.int .i64 t403, .int .i64 t404, .slice Ao96 t405.length co96, .int .i64 t408] (0, 0) _ rfl (bP_ (bP_ (bP_ (bP_ (hK_ BK351.out))))) Tryz.underlying103 rfl (by kernel_rfl)) rfl ?_
  exact ⟨_, hV_, hR_ (Kd.R_mono (rF_ (rF_ (rF_ (rF_ (Kd.R_types HO407.out BK351.out (by decide)))))) (fun _ hk => trivial)), hC_⟩
 rw [if_pos c53] at H
 have c53b0 : ((bt a0 a1) == 45) = true := beq_iff_eq.mpr c53
 have c53b1 : ((bt a0 a1) != 45) = false := bne_eq_false_iff_eq.mpr c53
 clear c53
 obtain ⟨ji54, hji54⟩ : ∃ j_ : Int, (wrap64 (a1 + 1)) = j_ := ⟨_, rfl⟩
 replace H : (if 0 ≤ (ji54) then (if (ji54) ≤ (a0.size : Int) then ((sleuthref1_digits.f k (a0.extract ((ji54) : Int).toNat a0.size)).bind fun bt373 => (if bt373.2 = 0 then ((sleuthref1_bad.f).bind fun bt375 => (some (bt375.1, bt375.2.1, bt375.2.2.1, bt375.2.2.2))) else (if bt373.1 = 0 then ((sleuthref1_bad.f).bind fun bt381 => (some (bt381.1, bt381.2.1, bt381.2.2.1, bt381.2.2.2))) else ((sleuthref1_NumMay.f (wrap64 (-bt373.1))).bind fun t387 => (if t387 = true then (some (1, wrap64 (-bt373.1), ([] : List ByteArray), wrap64 ((ji54) + bt373.2))) else ((sleuthref1_bad.f).bind fun bt388 => (some (bt388.1, bt388.2.1, bt388.2.2.1, bt388.2.2.2)))))))) else (none)) else (none)) = some (r1, r2, r3, r4) := by first | (rw [hji54] at H; exact H) | (simp only [hji54] at H ⊢; exact H)
 have hji54w : (IntKind.i64.wrap (a1 + 1)) = ji54 := (i64_w _).trans hji54
 replace H := ifI_ H; obtain ⟨c55, H⟩ := H
 have c55b0 := eq_true c55
 have c55b1 : decide (0 ≤ (ji54)) = true := decide_eq_true c55
 clear c55
 replace H := ifI_ H; obtain ⟨c56, H⟩ := H
 have c56b0 := eq_true c56
 have c56b1 : decide ((ji54) ≤ (a0.size : Int)) = true := decide_eq_true c56
 clear c56
 replace H := Option.bind_eq_some_iff.mp H
 obtain ⟨⟨t373, t374⟩, A570, H⟩ := H
 try dsimp only at H
 have A57 := a_ A570
 clear A570
 by_cases c58 : t374 = 0
 case pos =>
  rw [if_pos c58] at H
  have c58b0 : (t374 == 0) = true := beq_iff_eq.mpr c58
  have c58b1 : (t374 != 0) = false := bne_eq_false_iff_eq.mpr c58
  clear c58
  replace H := Option.bind_eq_some_iff.mp H
  obtain ⟨⟨t375, t376, t377, t380⟩, A590, H⟩ := H
  try dsimp only at H
  have A59 := a_ A590
  clear A590
  simp only [Option.some.injEq, Prod.mk.injEq] at H
  obtain ⟨rfl, rfl, rfl, rfl⟩ := H
  go_enter Tryz.func70, Tryz.ntmps70
  go_wp2_with (first | ((with_reducible refine gate_dst (N := 4) rfl ?_); refine boxE_ 4 #[.int .i64 0, .int .i64 0, .slice none 0 0, .int .i64 0] 103 ?_; intro gb351 hg w60 hbox hb; have BK351 := a_ (hbox); have GW351 := a_ ((gE_ hg : w.heap.size ≤ gb351)); have GE351 := a_ ((gE_ hg : w.heap.size ≤ gb351)); replace HB := a_ (below_step hB_ hb); clear hb hbox hg; have p11 : 0 ≤ (a1 : Int) := of_decide_eq_true hA_; have q11 : a1 < (a0.size : Int) := of_decide_eq_true hA_; have hx11 := bt_at a0 a1; replace p11 := eq_true p11; replace q11 := eq_true q11) | ((with_reducible refine gate_callee (f := 75) rfl ?_); refine goesL_ _ rfl rfl Tryz.func75 (by kernel_rfl) rfl #[.string (a0.extract ((ji54) : Int).toNat a0.size)] rfl (by (try simp only [List.map_toArray, List.map_cons, List.map_nil]); first | done | (simp only [hji54]; rfl) | rfl | (simp only [List.length_drop, List.length_take]; rfl)) ?_; (with_reducible refine (sleuthref1_digits.calls k (a0.extract ((ji54) : Int).toNat a0.size) t373 t374 _ A57.out).mono ?_); rintro e w' ⟨rfl, ⟨nd, rfl⟩⟩; refine ⟨_, rfl, ?_⟩; (try (rw [drewN_self w60]; generalize hq_ : World.drewN w60 _ = w60; replace BK351 : Aside0 (w60.heap[gb351]? = some (.cells #[.int .i64 0, .int .i64 0, .slice none 0 0, .int .i64 0] 103 (0, 0))) := ⟨by rw [← hq_]; exact (hK_ BK351.out)⟩; replace HB : Aside0 (Below w.heap.size w w60) := ⟨by rw [← hq_]; exact hC_⟩; clear hq_; (try have hcu0_0 := bc0_ BK351.out); (try have hfu0_0 := blk_frozen BK351.out 0); (try have hcu0_1 := bc1_ BK351.out); (try have hfu0_1 := blk_frozen BK351.out 1); (try have hcu0_2 := bc2_ BK351.out); (try have hfu0_2 := blk_frozen BK351.out 2); (try have hcu0_3 := bc3_ BK351.out); (try have hfu0_3 := blk_frozen BK351.out 3)))) | ((with_reducible refine gate_callee (f := 74) rfl ?_); refine goesL_ (some 94) rfl rfl Tryz.func74 (by kernel_rfl) rfl #[] rfl hL_ ?_; (with_reducible refine (sleuthref1_bad.calls  t375 t376 t377 t380 _ A59.out).mono ?_); rintro e w61 ⟨v378, rfl, ho0, hb⟩; refine ⟨_, rfl, ?_⟩; have HO379 := a_ (Kd.R_lower ho0 (below_size hC_)); replace BK351 := a_ (bB_ BK351.out hb); replace HB := a_ (below_step hC_ hb); (try clear hb); (try clear hb2); (try clear hk); (try clear hi); (try clear ho0); obtain ⟨hcz62_0, hcz62_1, hcz62_2, hcz62_3, hfz62_0, hfz62_1, hfz62_2, hfz62_3⟩ := bx4_ BK351.out; obtain ⟨Ao63, co63, eo63⟩ := Kd.R_slice HO379.out; subst eo63))
  refine bodyPost_ret (results_cell_row rfl _ _ gb351 103 #[.int .i64 t375, .int .i64 t376, .slice Ao63 t377.length co63, .int .i64 t380] (0, 0) _ rfl (bP_ (bP_ (bP_ (bP_ (hK_ BK351.out))))) Tryz.underlying103 rfl (by kernel_rfl)) rfl ?_
  exact ⟨_, by first | rfl | (simp [errW_none, errW_some] <;> rfl) | (simp only [← hji54]; first | rfl | (simp [errW_none, errW_some] <;> rfl)) | (simp [*, errW_none, errW_some] <;> rfl), hR_ (Kd.R_mono (rF_ (rF_ (rF_ (rF_ (Kd.R_types HO379.out BK351.out (by decide)))))) (fun _ hk => trivial)), hC_⟩
 rw [if_neg c58] at H
 have c58b0 : (t374 == 0) = false := beq_eq_false_iff_ne.mpr c58
 have c58b1 : (t374 != 0) = true := bne_iff_ne.mpr c58
 by_cases c64 : t373 = 0
 case pos =>
  rw [if_pos c64] at H
  have c64b0 : (t373 == 0) = true := beq_iff_eq.mpr c64
  have c64b1 : (t373 != 0) = false := bne_eq_false_iff_eq.mpr c64
  clear c64
  replace H := Option.bind_eq_some_iff.mp H
  obtain ⟨⟨t381, t382, t383, t386⟩, A650, H⟩ := H
  try dsimp only at H
  have A65 := a_ A650
  clear A650
  simp only [Option.some.injEq, Prod.mk.injEq] at H
  obtain ⟨rfl, rfl, rfl, rfl⟩ := H
  go_enter Tryz.func70, Tryz.ntmps70
  go_wp2_with (first | ((with_reducible refine gate_dst (N := 4) rfl ?_); refine boxE_ 4 #[.int .i64 0, .int .i64 0, .slice none 0 0, .int .i64 0] 103 ?_; intro gb351 hg w66 hbox hb; have BK351 := a_ (hbox); have GW351 := a_ ((gE_ hg : w.heap.size ≤ gb351)); have GE351 := a_ ((gE_ hg : w.heap.size ≤ gb351)); replace HB := a_ (below_step hB_ hb); clear hb hbox hg; have p11 : 0 ≤ (a1 : Int) := of_decide_eq_true hA_; have q11 : a1 < (a0.size : Int) := of_decide_eq_true hA_; have hx11 := bt_at a0 a1; replace p11 := eq_true p11; replace q11 := eq_true q11) | ((with_reducible refine gate_callee (f := 75) rfl ?_); refine goesL_ _ rfl rfl Tryz.func75 (by kernel_rfl) rfl #[.string (a0.extract ((ji54) : Int).toNat a0.size)] rfl (by (try simp only [List.map_toArray, List.map_cons, List.map_nil]); first | done | (simp only [hji54]; rfl) | rfl | (simp only [List.length_drop, List.length_take]; rfl)) ?_; (with_reducible refine (sleuthref1_digits.calls k (a0.extract ((ji54) : Int).toNat a0.size) t373 t374 _ A57.out).mono ?_); rintro e w' ⟨rfl, ⟨nd, rfl⟩⟩; refine ⟨_, rfl, ?_⟩; (try (rw [drewN_self w66]; generalize hq_ : World.drewN w66 _ = w66; replace BK351 : Aside0 (w66.heap[gb351]? = some (.cells #[.int .i64 0, .int .i64 0, .slice none 0 0, .int .i64 0] 103 (0, 0))) := ⟨by rw [← hq_]; exact (hK_ BK351.out)⟩; replace HB : Aside0 (Below w.heap.size w w66) := ⟨by rw [← hq_]; exact hC_⟩; clear hq_; (try have hcu0_0 := bc0_ BK351.out); (try have hfu0_0 := blk_frozen BK351.out 0); (try have hcu0_1 := bc1_ BK351.out); (try have hfu0_1 := blk_frozen BK351.out 1); (try have hcu0_2 := bc2_ BK351.out); (try have hfu0_2 := blk_frozen BK351.out 2); (try have hcu0_3 := bc3_ BK351.out); (try have hfu0_3 := blk_frozen BK351.out 3)))) | ((with_reducible refine gate_callee (f := 74) rfl ?_); refine goesL_ (some 94) rfl rfl Tryz.func74 (by kernel_rfl) rfl #[] rfl hL_ ?_; (with_reducible refine (sleuthref1_bad.calls  t381 t382 t383 t386 _ A65.out).mono ?_); rintro e w67 ⟨v384, rfl, ho0, hb⟩; refine ⟨_, rfl, ?_⟩; have HO385 := a_ (Kd.R_lower ho0 (below_size hC_)); replace BK351 := a_ (bB_ BK351.out hb); replace HB := a_ (below_step hC_ hb); (try clear hb); (try clear hb2); (try clear hk); (try clear hi); (try clear ho0); obtain ⟨hcz68_0, hcz68_1, hcz68_2, hcz68_3, hfz68_0, hfz68_1, hfz68_2, hfz68_3⟩ := bx4_ BK351.out; obtain ⟨Ao69, co69, eo69⟩ := Kd.R_slice HO385.out; subst eo69))
  refine bodyPost_ret (results_cell_row rfl _ _ gb351 103 #[.int .i64 t381, .int .i64 t382, .slice Ao69 t383.length co69, .int .i64 t386] (0, 0) _ rfl (bP_ (bP_ (bP_ (bP_ (hK_ BK351.out))))) Tryz.underlying103 rfl (by kernel_rfl)) rfl ?_
  exact ⟨_, by first | rfl | (simp [errW_none, errW_some] <;> rfl) | (simp only [← hji54]; first | rfl | (simp [errW_none, errW_some] <;> rfl)) | (simp [*, errW_none, errW_some] <;> rfl), hR_ (Kd.R_mono (rF_ (rF_ (rF_ (rF_ (Kd.R_types HO385.out BK351.out (by decide)))))) (fun _ hk => trivial)), hC_⟩
 rw [if_neg c64] at H
 have c64b0 : (t373 == 0) = false := beq_eq_false_iff_ne.mpr c64
 have c64b1 : (t373 != 0) = true := bne_iff_ne.mpr c64
 replace H := Option.bind_eq_some_iff.mp H
 obtain ⟨t387, A700, H⟩ := H
 try dsimp only at H
 have A70 := a_ A700
 clear A700
 by_cases c71 : t387 = true
 case pos =>
  subst c71
  rw [if_pos rfl] at H
  simp only [Option.some.injEq, Prod.mk.injEq] at H
  obtain ⟨rfl, rfl, rfl, rfl⟩ := H
  go_enter Tryz.func70, Tryz.ntmps70
  go_wp2_with (first | ((with_reducible refine gate_dst (N := 4) rfl ?_); refine boxE_ 4 #[.int .i64 0, .int .i64 0, .slice none 0 0, .int .i64 0] 103 ?_; intro gb351 hg w72 hbox hb; have BK351 := a_ (hbox); have GW351 := a_ ((gE_ hg : w.heap.size ≤ gb351)); have GE351 := a_ ((gE_ hg : w.heap.size ≤ gb351)); replace HB := a_ (below_step hB_ hb); clear hb hbox hg; have p11 : 0 ≤ (a1 : Int) := of_decide_eq_true hA_; have q11 : a1 < (a0.size : Int) := of_decide_eq_true hA_; have hx11 := bt_at a0 a1; replace p11 := eq_true p11; replace q11 := eq_true q11) | ((with_reducible refine gate_callee (f := 75) rfl ?_); refine goesL_ _ rfl rfl Tryz.func75 (by kernel_rfl) rfl #[.string (a0.extract ((ji54) : Int).toNat a0.size)] rfl (by (try simp only [List.map_toArray, List.map_cons, List.map_nil]); first | done | (simp only [hji54]; rfl) | rfl | (simp only [List.length_drop, List.length_take]; rfl)) ?_; (with_reducible refine (sleuthref1_digits.calls k (a0.extract ((ji54) : Int).toNat a0.size) t373 t374 _ A57.out).mono ?_); rintro e w' ⟨rfl, ⟨nd, rfl⟩⟩; refine ⟨_, rfl, ?_⟩; (try (rw [drewN_self w72]; generalize hq_ : World.drewN w72 _ = w72; replace BK351 : Aside0 (w72.heap[gb351]? = some (.cells #[.int .i64 0, .int .i64 0, .slice none 0 0, .int .i64 0] 103 (0, 0))) := ⟨by rw [← hq_]; exact (hK_ BK351.out)⟩; replace HB : Aside0 (Below w.heap.size w w72) := ⟨by rw [← hq_]; exact hC_⟩; clear hq_; (try have hcu0_0 := bc0_ BK351.out); (try have hfu0_0 := blk_frozen BK351.out 0); (try have hcu0_1 := bc1_ BK351.out); (try have hfu0_1 := blk_frozen BK351.out 1); (try have hcu0_2 := bc2_ BK351.out); (try have hfu0_2 := blk_frozen BK351.out 2); (try have hcu0_3 := bc3_ BK351.out); (try have hfu0_3 := blk_frozen BK351.out 3)))) | (go_at_call 77; (with_reducible refine (sleuthref1_NumMay.calls (wrap64 (-t373)) true _ A70.out).mono ?_); rintro e w' ⟨rfl, ⟨nd, rfl⟩⟩; (try (rw [drewN_self w72]; generalize hq_ : World.drewN w72 _ = w72; replace BK351 : Aside0 (w72.heap[gb351]? = some (.cells #[.int .i64 0, .int .i64 0, .slice none 0 0, .int .i64 0] 103 (0, 0))) := ⟨by rw [← hq_]; exact (hK_ BK351.out)⟩; replace HB : Aside0 (Below w.heap.size w w72) := ⟨by rw [← hq_]; exact hC_⟩; clear hq_; (try have hcu0_0 := bc0_ BK351.out); (try have hfu0_0 := blk_frozen BK351.out 0); (try have hcu0_1 := bc1_ BK351.out); (try have hfu0_1 := blk_frozen BK351.out 1); (try have hcu0_2 := bc2_ BK351.out); (try have hfu0_2 := blk_frozen BK351.out 2); (try have hcu0_3 := bc3_ BK351.out); (try have hfu0_3 := blk_frozen BK351.out 3))); obtain ⟨hcz73_0, hcz73_1, hcz73_2, hcz73_3, hfz73_0, hfz73_1, hfz73_2, hfz73_3⟩ := bx4_ BK351.out))
  refine bodyPost_ret (results_cell_row rfl _ _ gb351 103 #[.int .i64 1, .int .i64 (wrap64 (-t373)), .slice none 0 0, .int .i64 (wrap64 ((ji54) + t374))] (0, 0) _ rfl (bP_ (bP_ (bP_ (bP_ (hK_ BK351.out))))) Tryz.underlying103 rfl (by kernel_rfl)) rfl ?_
  exact ⟨_, by first | rfl | (simp [errW_none, errW_some] <;> rfl) | (simp only [← hji54]; first | rfl | (simp [errW_none, errW_some] <;> rfl)) | (simp [*, errW_none, errW_some] <;> rfl), by first | exact Kd.R_nil _ _ _ _ _ | exact Kd.N_nil _ _ _ _ _ | exact Kd.V_nil _ _ _ _ _ | exact Kd.Q_nil _ _ _ _ _ | exact Kd.S_nil _ _ _ _ _, hC_⟩
 replace c71 := Bool.eq_false_iff.mpr c71
 subst c71
 rw [if_neg (show ¬ (false = true) by decide)] at H
 replace H := Option.bind_eq_some_iff.mp H
 obtain ⟨⟨t388, t389, t390, t393⟩, A740, H⟩ := H
 try dsimp only at H
 have A74 := a_ A740
 clear A740
 simp only [Option.some.injEq, Prod.mk.injEq] at H
 obtain ⟨rfl, rfl, rfl, rfl⟩ := H
 go_enter Tryz.func70, Tryz.ntmps70
 go_wp2_with (first | ((with_reducible refine gate_dst (N := 4) rfl ?_); refine boxE_ 4 #[.int .i64 0, .int .i64 0, .slice none 0 0, .int .i64 0] 103 ?_; intro gb351 hg w75 hbox hb; have BK351 := a_ (hbox); have GW351 := a_ ((gE_ hg : w.heap.size ≤ gb351)); have GE351 := a_ ((gE_ hg : w.heap.size ≤ gb351)); replace HB := a_ (below_step hB_ hb); clear hb hbox hg; have p11 : 0 ≤ (a1 : Int) := of_decide_eq_true hA_; have q11 : a1 < (a0.size : Int) := of_decide_eq_true hA_; have hx11 := bt_at a0 a1; replace p11 := eq_true p11; replace q11 := eq_true q11) | ((with_reducible refine gate_callee (f := 75) rfl ?_); refine goesL_ _ rfl rfl Tryz.func75 (by kernel_rfl) rfl #[.string (a0.extract ((ji54) : Int).toNat a0.size)] rfl (by (try simp only [List.map_toArray, List.map_cons, List.map_nil]); first | done | (simp only [hji54]; rfl) | rfl | (simp only [List.length_drop, List.length_take]; rfl)) ?_; (with_reducible refine (sleuthref1_digits.calls k (a0.extract ((ji54) : Int).toNat a0.size) t373 t374 _ A57.out).mono ?_); rintro e w' ⟨rfl, ⟨nd, rfl⟩⟩; refine ⟨_, rfl, ?_⟩; (try (rw [drewN_self w75]; generalize hq_ : World.drewN w75 _ = w75; replace BK351 : Aside0 (w75.heap[gb351]? = some (.cells #[.int .i64 0, .int .i64 0, .slice none 0 0, .int .i64 0] 103 (0, 0))) := ⟨by rw [← hq_]; exact (hK_ BK351.out)⟩; replace HB : Aside0 (Below w.heap.size w w75) := ⟨by rw [← hq_]; exact hC_⟩; clear hq_; (try have hcu0_0 := bc0_ BK351.out); (try have hfu0_0 := blk_frozen BK351.out 0); (try have hcu0_1 := bc1_ BK351.out); (try have hfu0_1 := blk_frozen BK351.out 1); (try have hcu0_2 := bc2_ BK351.out); (try have hfu0_2 := blk_frozen BK351.out 2); (try have hcu0_3 := bc3_ BK351.out); (try have hfu0_3 := blk_frozen BK351.out 3)))) | (go_at_call 77; (with_reducible refine (sleuthref1_NumMay.calls (wrap64 (-t373)) false _ A70.out).mono ?_); rintro e w' ⟨rfl, ⟨nd, rfl⟩⟩; (try (rw [drewN_self w75]; generalize hq_ : World.drewN w75 _ = w75; replace BK351 : Aside0 (w75.heap[gb351]? = some (.cells #[.int .i64 0, .int .i64 0, .slice none 0 0, .int .i64 0] 103 (0, 0))) := ⟨by rw [← hq_]; exact (hK_ BK351.out)⟩; replace HB : Aside0 (Below w.heap.size w w75) := ⟨by rw [← hq_]; exact hC_⟩; clear hq_; (try have hcu0_0 := bc0_ BK351.out); (try have hfu0_0 := blk_frozen BK351.out 0); (try have hcu0_1 := bc1_ BK351.out); (try have hfu0_1 := blk_frozen BK351.out 1); (try have hcu0_2 := bc2_ BK351.out); (try have hfu0_2 := blk_frozen BK351.out 2); (try have hcu0_3 := bc3_ BK351.out); (try have hfu0_3 := blk_frozen BK351.out 3)))) | ((with_reducible refine gate_callee (f := 74) rfl ?_); refine goesL_ (some 94) rfl rfl Tryz.func74 (by kernel_rfl) rfl #[] rfl hL_ ?_; (with_reducible refine (sleuthref1_bad.calls  t388 t389 t390 t393 _ A74.out).mono ?_); rintro e w76 ⟨v391, rfl, ho0, hb⟩; refine ⟨_, rfl, ?_⟩; have HO392 := a_ (Kd.R_lower ho0 (below_size hC_)); replace BK351 := a_ (bB_ BK351.out hb); replace HB := a_ (below_step hC_ hb); (try clear hb); (try clear hb2); (try clear hk); (try clear hi); (try clear ho0); obtain ⟨hcz77_0, hcz77_1, hcz77_2, hcz77_3, hfz77_0, hfz77_1, hfz77_2, hfz77_3⟩ := bx4_ BK351.out; obtain ⟨Ao78, co78, eo78⟩ := Kd.R_slice HO392.out; subst eo78))
 refine bodyPost_ret (results_cell_row rfl _ _ gb351 103 #[.int .i64 t388, .int .i64 t389, .slice Ao78 t390.length co78, .int .i64 t393] (0, 0) _ rfl (bP_ (bP_ (bP_ (bP_ (hK_ BK351.out))))) Tryz.underlying103 rfl (by kernel_rfl)) rfl ?_
 exact ⟨_, by first | rfl | (simp [errW_none, errW_some] <;> rfl) | (simp only [← hji54]; first | rfl | (simp [errW_none, errW_some] <;> rfl)) | (simp [*, errW_none, errW_some] <;> rfl), hR_ (Kd.R_mono (rF_ (rF_ (rF_ (rF_ (Kd.R_types HO392.out BK351.out (by decide)))))) (fun _ hk => trivial)), hC_⟩
theorem sleuthref1_parts.all (k : Nat) : sleuthref1_parts.Said k ∧ sleuthref1_term.Said k := by
 induction k using Nat.strongRecOn with
 | _ k ih => exact ⟨sleuthref1_parts.step k (fun m hm => (ih m hm).1) (fun m hm => (ih m hm).2), sleuthref1_term.step k (fun m hm => (ih m hm).2) (fun m hm => (ih m hm).1)⟩
theorem sleuthref1_parts.calls (k : Nat) : ∀ (a0 : ByteArray) (a1_0 : Int) (a1_1 : Int) (P1_2_ : Nat → Prop) (u9000_ : Value) (l1_2 : List ByteArray) (a1_3 : Int) (a2 : Int) (r1 : Int) (r2 : Int) (r3 : List ByteArray) (r4 : Int) (w0 w : World) (hB : Below w0.heap.size w0 w) (ho1_2 : Kd.R Kd.string 9 w w0.heap.size P1_2_ u9000_ l1_2) (h : sleuthref1_parts.f k a0 a1_0 a1_1 l1_2 a1_3 a2 = some (r1, r2, r3, r4)),
 Calls Tryz.prog 76 #[.string a0, .agg #[.int .i64 a1_0, .int .i64 a1_1, u9000_, .int .i64 a1_3], .int .i64 a2] w fun e w' => ∃ v2_ : Value, e = .returned (.agg #[.int .i64 r1, .int .i64 r2, v2_, .int .i64 r4]) ∧ Kd.R Kd.string 9 w' w0.heap.size (fun k_ => (P1_2_ k_ ∨ w.heap.size ≤ k_)) v2_ r3 ∧ Below w0.heap.size w0 w' ∧ Kept w w' (fun k_ => P1_2_ k_) := (sleuthref1_parts.all k).1
theorem sleuthref1_term.calls (k : Nat) : ∀ (a0 : ByteArray) (a1 : Int) (r1 : Int) (r2 : Int) (r3 : List ByteArray) (r4 : Int) (w : World) (h : sleuthref1_term.f k a0 a1 = some (r1, r2, r3, r4)),
 Calls Tryz.prog 70 #[.string a0, .int .i64 a1] w fun e w' => ∃ v2_ : Value, e = .returned (.agg #[.int .i64 r1, .int .i64 r2, v2_, .int .i64 r4]) ∧ Kd.R Kd.string 9 w' w.heap.size (fun _ => True) v2_ r3 ∧ Below w.heap.size w w' := (sleuthref1_parts.all k).2

end Go.Proofs.YtbnljapgnfmmoaaGreatDoor.G
end
section
-- Laid by the session's own driver gp.py over the kit's printer. Not trusted: Lean checks it.
namespace Go.Proofs.YtbnljapgnfmmoaaGreatDoor.G
open Go.RowKit Go.Proofs.YtbnljapgnfmmoaaGreatDoorW.PrintWords Go.Proofs.YtbnljapgnfmmoaaGreatDoorW.PrintLast Go.Proofs.YtbnljapgnfmmoaaGreatDoorW.PrintMore
set_option maxHeartbeats 8000000
set_option maxRecDepth 100000
attribute [local go_sem] max2_int min2_int max_two min_two max_three min_three max_four min_four   -- for this text's walks alone
set_option linter.unusedVariables false
set_option linter.unusedSimpArgs false

def sleuthref1_Cut.f (k : Nat) (a0 : ByteArray) : Option (Int × Int × List ByteArray × Int) := if (a0.size : Int) > 1024 then (some (0, 0, ([] : List ByteArray), 200)) else ((sleuthref1_term.f k a0 0).bind fun bt409 => (if bt409.2.2.2 = (a0.size : Int) then (some (bt409.1, bt409.2.1, bt409.2.2.1, 0)) else (some (0, 0, ([] : List ByteArray), 200))))
theorem sleuthref1_Cut.mono : ∀ a0 k, LeO (sleuthref1_Cut.f k a0) (sleuthref1_Cut.f (k + 1) a0) := by
 intro a0 k
 unfold sleuthref1_Cut.f
 repeat' first
  | (with_reducible exact sleuthref1_term.mono _ _ _)
  | (with_reducible exact LeO.refl _)
  | (with_reducible exact LeO.none _)
  | (with_reducible refine LeO.ite ?_ ?_)
  | (with_reducible refine LeO.bind ?_ (fun _ => ?_))
  | exact sleuthref1_term.mono _ _ _
  | exact LeO.none _
  | refine LeO.ite ?_ ?_
  | refine LeO.bind ?_ (fun _ => ?_)
theorem sleuthref1_Cut.calls (k : Nat) (a0 : ByteArray) (r1 : Int) (r2 : Int) (r3 : List ByteArray) (r4 : Int) (w : World) (h : sleuthref1_Cut.f k a0 = some (r1, r2, r3, r4)) :
 Calls Tryz.prog 67 #[.string a0] w fun e w' => ∃ v2_ : Value, e = .returned (.tuple #[.int .i64 r1, .int .i64 r2, v2_, .int .i64 r4]) ∧ Kd.R Kd.string 9 w' w.heap.size (fun _ => True) v2_ r3 ∧ Below w.heap.size w w' := by
 have hu103 := Tryz.underlying103
 have HB := a_ (Below.refl w.heap.size w)
 have H := h; unfold sleuthref1_Cut.f at H
 clear h
 by_cases c2 : (a0.size : Int) > 1024
 case pos =>
  rw [if_pos c2] at H
  have c2b0 : decide (1024 < (a0.size : Int)) = true := decide_eq_true c2
  have c2b1 : decide (1024 < a0.size) = true := decide_eq_true (by omega)
  clear c2
  simp only [Option.some.injEq, Prod.mk.injEq] at H
  obtain ⟨rfl, rfl, rfl, rfl⟩ := H
  go_enter Tryz.func67, Tryz.ntmps67
  go_wp2
  repeat (go_quiet (fail); try go_wp2)
  refine bodyPost_ret (results_list (rs := [.tmp 2, .tmp 3, .tmp 4, .tmp 5]) rfl (by simp) (.tmp (.tmp (.tmp (.tmp .nil))))) rfl ?_
  exact ⟨_, hV_, by first | exact Kd.R_nil _ _ _ _ _ | exact Kd.N_nil _ _ _ _ _ | exact Kd.V_nil _ _ _ _ _ | exact Kd.Q_nil _ _ _ _ _ | exact Kd.S_nil _ _ _ _ _, hC_⟩
 rw [if_neg c2] at H
 have c2b0 : decide (1024 < (a0.size : Int)) = false := decide_eq_false c2
 have c2b1 : decide (1024 < a0.size) = false := decide_eq_false (by omega)
 clear c2
 replace H := Option.bind_eq_some_iff.mp H
 obtain ⟨⟨t409, t410, t411, t414⟩, A30, H⟩ := H
 try dsimp only at H
 have A3 := a_ A30
 clear A30
 by_cases c4 : t414 = (a0.size : Int)
 case pos =>
  rw [if_pos c4] at H
  have c4b0 : (t414 == (a0.size : Int)) = true := beq_iff_eq.mpr c4
  have c4b1 : (t414 != (a0.size : Int)) = false := bne_eq_false_iff_eq.mpr c4
  clear c4
  simp only [Option.some.injEq, Prod.mk.injEq] at H
  obtain ⟨rfl, rfl, rfl, rfl⟩ := H
  go_enter Tryz.func67, Tryz.ntmps67
  go_wp2_with (first | (go_at_call 70; (with_reducible refine (sleuthref1_term.calls k a0 0 t409 t410 t411 t414 _ A3.out).mono ?_); rintro e w5 ⟨v412, rfl, ho0, hb⟩; have HO413 := a_ (Kd.R_lower ho0 hS_); replace HB := a_ (below_step hB_ hb); (try clear hb); (try clear hb2); (try clear hk); (try clear hi); (try clear ho0)) | ((with_reducible refine gate_dst (N := 6) rfl ?_); refine boxE_ 6 #[.int .i64 0, .int .i64 0, .slice none 0 0, .int .i64 0] 103 ?_; intro gb415 hg w6 hbox hb; replace HO413 := a_ (Kd.R_below (hR_ HO413.out) hb); have BK415 := a_ (hbox); have GW415 := a_ ((gE_ hg : w.heap.size ≤ gb415)); have GE415 := a_ ((gE_ hg : w.heap.size ≤ gb415)); replace HB := a_ (below_step hB_ hb); clear hb hbox hg; obtain ⟨hcz7_0, hcz7_1, hcz7_2, hcz7_3, hfz7_0, hfz7_1, hfz7_2, hfz7_3⟩ := bx4_ BK415.out; obtain ⟨Ao8, co8, eo8⟩ := Kd.R_slice HO413.out; subst eo8))
  repeat (go_quiet (first | (go_at_call 70; (with_reducible refine (sleuthref1_term.calls k a0 0 t409 t410 t411 t414 _ A3.out).mono ?_); rintro e w5 ⟨v412, rfl, ho0, hb⟩; have HO413 := a_ (Kd.R_lower ho0 hS_); replace HB := a_ (below_step hB_ hb); (try clear hb); (try clear hb2); (try clear hk); (try clear hi); (try clear ho0)) | ((with_reducible refine gate_dst (N := 6) rfl ?_); refine boxE_ 6 #[.int .i64 0, .int .i64 0, .slice none 0 0, .int .i64 0] 103 ?_; intro gb415 hg w6 hbox hb; replace HO413 := a_ (Kd.R_below (hR_ HO413.out) hb); have BK415 := a_ (hbox); have GW415 := a_ ((gE_ hg : w.heap.size ≤ gb415)); have GE415 := a_ ((gE_ hg : w.heap.size ≤ gb415)); replace HB := a_ (below_step hB_ hb); clear hb hbox hg; obtain ⟨hcz7_0, hcz7_1, hcz7_2, hcz7_3, hfz7_0, hfz7_1, hfz7_2, hfz7_3⟩ := bx4_ BK415.out; obtain ⟨Ao8, co8, eo8⟩ := Kd.R_slice HO413.out; subst eo8)); try go_wp2_with (first | (go_at_call 70; (with_reducible refine (sleuthref1_term.calls k a0 0 t409 t410 t411 t414 _ A3.out).mono ?_); rintro e w5 ⟨v412, rfl, ho0, hb⟩; have HO413 := a_ (Kd.R_lower ho0 hS_); replace HB := a_ (below_step hB_ hb); (try clear hb); (try clear hb2); (try clear hk); (try clear hi); (try clear ho0)) | ((with_reducible refine gate_dst (N := 6) rfl ?_); refine boxE_ 6 #[.int .i64 0, .int .i64 0, .slice none 0 0, .int .i64 0] 103 ?_; intro gb415 hg w6 hbox hb; replace HO413 := a_ (Kd.R_below (hR_ HO413.out) hb); have BK415 := a_ (hbox); have GW415 := a_ ((gE_ hg : w.heap.size ≤ gb415)); have GE415 := a_ ((gE_ hg : w.heap.size ≤ gb415)); replace HB := a_ (below_step hB_ hb); clear hb hbox hg; obtain ⟨hcz7_0, hcz7_1, hcz7_2, hcz7_3, hfz7_0, hfz7_1, hfz7_2, hfz7_3⟩ := bx4_ BK415.out; obtain ⟨Ao8, co8, eo8⟩ := Kd.R_slice HO413.out; subst eo8)))
  refine bodyPost_ret (results_list (rs := [.tmp 2, .tmp 3, .tmp 4, .tmp 5]) rfl (by simp) (.tmp (.tmp (.tmp (.tmp .nil))))) rfl ?_
  exact ⟨_, hV_, hR_ (Kd.R_mono (rF_ (rF_ (rF_ (rF_ (Kd.R_types HO413.out BK415.out (by decide)))))) (fun _ hk => trivial)), hC_⟩
 rw [if_neg c4] at H
 have c4b0 : (t414 == (a0.size : Int)) = false := beq_eq_false_iff_ne.mpr c4
 have c4b1 : (t414 != (a0.size : Int)) = true := bne_iff_ne.mpr c4
 simp only [Option.some.injEq, Prod.mk.injEq] at H
 obtain ⟨rfl, rfl, rfl, rfl⟩ := H
 go_enter Tryz.func67, Tryz.ntmps67
 go_wp2_with (first | (go_at_call 70; (with_reducible refine (sleuthref1_term.calls k a0 0 t409 t410 t411 t414 _ A3.out).mono ?_); rintro e w9 ⟨v412, rfl, ho0, hb⟩; have HO413 := a_ (Kd.R_lower ho0 hS_); replace HB := a_ (below_step hB_ hb); (try clear hb); (try clear hb2); (try clear hk); (try clear hi); (try clear ho0)) | ((with_reducible refine gate_dst (N := 6) rfl ?_); refine boxE_ 6 #[.int .i64 0, .int .i64 0, .slice none 0 0, .int .i64 0] 103 ?_; intro gb415 hg w10 hbox hb; replace HO413 := a_ (Kd.R_below (hR_ HO413.out) hb); have BK415 := a_ (hbox); have GW415 := a_ ((gE_ hg : w.heap.size ≤ gb415)); have GE415 := a_ ((gE_ hg : w.heap.size ≤ gb415)); replace HB := a_ (below_step hB_ hb); clear hb hbox hg; obtain ⟨hcz11_0, hcz11_1, hcz11_2, hcz11_3, hfz11_0, hfz11_1, hfz11_2, hfz11_3⟩ := bx4_ BK415.out; obtain ⟨Ao12, co12, eo12⟩ := Kd.R_slice HO413.out; subst eo12))
 repeat (go_quiet (first | (go_at_call 70; (with_reducible refine (sleuthref1_term.calls k a0 0 t409 t410 t411 t414 _ A3.out).mono ?_); rintro e w9 ⟨v412, rfl, ho0, hb⟩; have HO413 := a_ (Kd.R_lower ho0 hS_); replace HB := a_ (below_step hB_ hb); (try clear hb); (try clear hb2); (try clear hk); (try clear hi); (try clear ho0)) | ((with_reducible refine gate_dst (N := 6) rfl ?_); refine boxE_ 6 #[.int .i64 0, .int .i64 0, .slice none 0 0, .int .i64 0] 103 ?_; intro gb415 hg w10 hbox hb; replace HO413 := a_ (Kd.R_below (hR_ HO413.out) hb); have BK415 := a_ (hbox); have GW415 := a_ ((gE_ hg : w.heap.size ≤ gb415)); have GE415 := a_ ((gE_ hg : w.heap.size ≤ gb415)); replace HB := a_ (below_step hB_ hb); clear hb hbox hg; obtain ⟨hcz11_0, hcz11_1, hcz11_2, hcz11_3, hfz11_0, hfz11_1, hfz11_2, hfz11_3⟩ := bx4_ BK415.out; obtain ⟨Ao12, co12, eo12⟩ := Kd.R_slice HO413.out; subst eo12)); try go_wp2_with (first | (go_at_call 70; (with_reducible refine (sleuthref1_term.calls k a0 0 t409 t410 t411 t414 _ A3.out).mono ?_); rintro e w9 ⟨v412, rfl, ho0, hb⟩; have HO413 := a_ (Kd.R_lower ho0 hS_); replace HB := a_ (below_step hB_ hb); (try clear hb); (try clear hb2); (try clear hk); (try clear hi); (try clear ho0)) | ((with_reducible refine gate_dst (N := 6) rfl ?_); refine boxE_ 6 #[.int .i64 0, .int .i64 0, .slice none 0 0, .int .i64 0] 103 ?_; intro gb415 hg w10 hbox hb; replace HO413 := a_ (Kd.R_below (hR_ HO413.out) hb); have BK415 := a_ (hbox); have GW415 := a_ ((gE_ hg : w.heap.size ≤ gb415)); have GE415 := a_ ((gE_ hg : w.heap.size ≤ gb415)); replace HB := a_ (below_step hB_ hb); clear hb hbox hg; obtain ⟨hcz11_0, hcz11_1, hcz11_2, hcz11_3, hfz11_0, hfz11_1, hfz11_2, hfz11_3⟩ := bx4_ BK415.out; obtain ⟨Ao12, co12, eo12⟩ := Kd.R_slice HO413.out; subst eo12)))
 refine bodyPost_ret (results_list (rs := [.tmp 2, .tmp 3, .tmp 4, .tmp 5]) rfl (by simp) (.tmp (.tmp (.tmp (.tmp .nil))))) rfl ?_
 exact ⟨_, hV_, by first | exact Kd.R_nil _ _ _ _ _ | exact Kd.N_nil _ _ _ _ _ | exact Kd.V_nil _ _ _ _ _ | exact Kd.Q_nil _ _ _ _ _ | exact Kd.S_nil _ _ _ _ _, hC_⟩

def sleuthref1_TermMay.f (k : Nat) (a0 : ByteArray) : Option (Bool) := (sleuthref1_Cut.f k a0).bind fun bt416 => (some (bt416.2.2.2 == 0))
theorem sleuthref1_TermMay.mono : ∀ a0 k, LeO (sleuthref1_TermMay.f k a0) (sleuthref1_TermMay.f (k + 1) a0) := by
 intro a0 k
 unfold sleuthref1_TermMay.f
 repeat' first
  | (with_reducible exact sleuthref1_Cut.mono _ _)
  | (with_reducible exact LeO.refl _)
  | (with_reducible exact LeO.none _)
  | (with_reducible refine LeO.ite ?_ ?_)
  | (with_reducible refine LeO.bind ?_ (fun _ => ?_))
  | exact sleuthref1_Cut.mono _ _
  | exact LeO.none _
  | refine LeO.ite ?_ ?_
  | refine LeO.bind ?_ (fun _ => ?_)
theorem sleuthref1_TermMay.calls (k : Nat) (a0 : ByteArray) (r : Bool) (w : World) (h : sleuthref1_TermMay.f k a0 = some r) :
 Calls Tryz.prog 57 #[.string a0] w fun e w' => e = .returned (.bool r) ∧ Below w.heap.size w w' := by
 have HB := a_ (Below.refl w.heap.size w)
 have H := h; unfold sleuthref1_TermMay.f at H
 clear h
 replace H := Option.bind_eq_some_iff.mp H
 obtain ⟨⟨t416, t417, t418, t419⟩, A20, H⟩ := H
 try dsimp only at H
 have A2 := a_ A20
 clear A20
 obtain rfl := Option.some.inj H
 go_enter Tryz.func57, Tryz.ntmps57
 go_wp2_with (first | ((with_reducible refine gate_callee (f := 67) rfl ?_); refine goesL_ (some 9) rfl rfl Tryz.func67 (by kernel_rfl) rfl #[.string a0] rfl hL_ ?_; (with_reducible refine (sleuthref1_Cut.calls k a0 t416 t417 t418 t419 _ A2.out).mono ?_); rintro e w3 ⟨v420, rfl, ho0, hb⟩; refine ⟨_, rfl, ?_⟩; have HO421 := a_ (Kd.R_lower ho0 hS_); replace HB := a_ (below_step hB_ hb); (try clear hb); (try clear hb2); (try clear hk); (try clear hi); (try clear ho0)))
 go_ret
 exact ⟨hV_, hC_⟩

def sleuthref12_texts.l0 : Nat → Int → Int → Int → List ByteArray → ByteArray → Option (Bool)
 | 0, _, _, _, _, _ => none
 | k + 1, x3, x423000, x423001, x423002, x423003 => if x3 < (x423002.length : Int) then (if 0 ≤ x3 then ((sleuthref1_TermMay.f k (rdOf ByteArray.empty x423002 x3)).bind fun t424 => (if t424 = true then (sleuthref12_texts.l0 k (wrap64 (x3 + 1)) x423000 x423001 x423002 x423003) else (some false))) else (none)) else ((sleuthref12_upTo.f x423000 0 7).bind fun t425 => (if t425 = true then (if (x423002.length : Int) ≤ 3 then ((sleuthref1_TermMay.f k x423003).bind fun t426 => (some t426)) else (some false)) else (some false)))
def sleuthref12_texts.f (k : Nat) (a0_0 : Int) (a0_1 : Int) (l0_2 : List ByteArray) (a0_3 : ByteArray) : Option (Bool) := sleuthref12_texts.l0 k 0 a0_0 a0_1 l0_2 a0_3
theorem sleuthref12_texts.mono_l : ∀ k, (∀ y0 y1 y2 y3 y4, LeO (sleuthref12_texts.l0 k y0 y1 y2 y3 y4) (sleuthref12_texts.l0 (k + 1) y0 y1 y2 y3 y4))
 | 0 => fun _ _ _ _ _ r h => by simp [sleuthref12_texts.l0] at h
 | k + 1 => by
  have ih0 := sleuthref12_texts.mono_l k
  · intro y0 y1 y2 y3 y4
    unfold sleuthref12_texts.l0
    repeat' first
    | (with_reducible exact ih0 _ _ _ _ _)
    | (with_reducible exact sleuthref1_TermMay.mono _ _)
    | (with_reducible exact LeO.refl _)
    | (with_reducible exact LeO.none _)
    | (with_reducible refine LeO.ite ?_ ?_)
    | (with_reducible refine LeO.bind ?_ (fun _ => ?_))
    | exact ih0 _ _ _ _ _
    | exact sleuthref1_TermMay.mono _ _
    | exact LeO.none _
    | refine LeO.ite ?_ ?_
    | refine LeO.bind ?_ (fun _ => ?_)
theorem sleuthref12_texts.mono : ∀ a0 a1 a2 a3 k, LeO (sleuthref12_texts.f k a0 a1 a2 a3) (sleuthref12_texts.f (k + 1) a0 a1 a2 a3) := by
 intro a0 a1 a2 a3 k
 have ih0 := sleuthref12_texts.mono_l k
 unfold sleuthref12_texts.f
 repeat' first
  | (with_reducible exact ih0 _ _ _ _ _)
  | (with_reducible exact sleuthref1_TermMay.mono _ _)
  | (with_reducible exact LeO.refl _)
  | (with_reducible exact LeO.none _)
  | (with_reducible refine LeO.ite ?_ ?_)
  | (with_reducible refine LeO.bind ?_ (fun _ => ?_))
  | exact ih0 _ _ _ _ _
  | exact sleuthref1_TermMay.mono _ _
  | exact LeO.none _
  | refine LeO.ite ?_ ?_
  | refine LeO.bind ?_ (fun _ => ?_)
theorem sleuthref12_texts.calls (k : Nat) (a0_0 : Int) (a0_1 : Int) (A0_2 : Option Addr) (c0_2 : Nat) (l0_2 : List ByteArray) (a0_3 : ByteArray) (r : Bool) (w : World) (hr0_2 : Kd.C Kd.string w A0_2 l0_2.length l0_2) (hc0_2 : l0_2.length ≤ c0_2) (h : sleuthref12_texts.f k a0_0 a0_1 l0_2 a0_3 = some r) :
 Calls Tryz.prog 48 #[.agg #[.int .i64 a0_0, .int .i64 a0_1, .slice A0_2 l0_2.length c0_2, .string a0_3]] w fun e w' => e = .returned (.bool r) ∧ Below w.heap.size w w' := by
 have hu66 := Tryz.underlying66
 have HR0_2 := a_ hr0_2
 have HC0_2 := a_ hc0_2
 clear hr0_2 hc0_2
 have HB := a_ (Below.refl w.heap.size w)
 have H : (sleuthref12_texts.l0 k 0 a0_0 a0_1 l0_2 a0_3) = some r := h
 clear h
 have H' := a_ H
 clear H
 go_enter Tryz.func48, Tryz.ntmps48
 go_wp2_with (first | ((with_reducible refine gate_dst (N := 1) rfl ?_); (try (refine gate_guard (by rfl) ?_; dsimp only)); refine boxE_ 1 #[.int .i64 a0_0, .int .i64 a0_1, .slice A0_2 l0_2.length c0_2, .string a0_3] 66 ?_; intro gb422 hg w2 hbox hb; have BK422 := a_ (hbox); have GW422 := a_ ((gE_ hg : w.heap.size ≤ gb422)); have GE422 := a_ ((gE_ hg : w.heap.size ≤ gb422)); replace HB := a_ (below_step hB_ hb); clear hb hbox hg))
 (try simp only [Act.put, List.setIfInBounds_toArray, List.set_cons_zero, List.set_cons_succ])
 go_loopg [3] k (fun kq v3 w' => ∃ (x3_1 : Int), v3 = .int .i64 x3_1 ∧ Aside0 (sleuthref12_texts.l0 kq x3_1 a0_0 a0_1 l0_2 a0_3 = some r) ∧ Aside0 (kq ≤ k) ∧ Aside0 (w'.heap[gb422]? = some (.cells #[.int .i64 a0_0, .int .i64 a0_1, (.slice A0_2 l0_2.length c0_2), .string a0_3] 66 (0, 0))) ∧ Aside0 (Below w.heap.size w w'))
 case atStart => exact ⟨(0), hW_, H', ⟨Nat.le_refl _⟩, ⟨(hK_ BK422.out)⟩, ⟨hC_⟩⟩
 case round =>
  clear H'
  try clear p2
  obtain ⟨x3_1, rfl, HA, HK1, BK422, HB⟩ := hrel
  cases gk with
  | zero => exact absurd HA.out (by simp [sleuthref12_texts.l0])
  | succ k1 =>
   have H := HA.out
   clear HA
   simp only [sleuthref12_texts.l0] at H
   by_cases c3 : x3_1 < (l0_2.length : Int)
   case pos =>
    rw [if_pos c3] at H
    have c3b0 : decide (x3_1 < (l0_2.length : Int)) = true := decide_eq_true c3
    clear c3
    replace H := ifI_ H; obtain ⟨c4, H⟩ := H
    have c4b0 : decide (0 ≤ x3_1) = true := decide_eq_true c4
    clear c4
    replace H := Option.bind_eq_some_iff.mp H
    obtain ⟨t424, A50, H⟩ := H
    try dsimp only at H
    have A5 := a_ A50
    clear A50
    by_cases c6 : t424 = true
    case neg =>
     replace c6 := Bool.eq_false_iff.mpr c6
     subst c6
     rw [if_neg (show ¬ (false = true) by decide)] at H
     obtain rfl := Option.some.inj H
     obtain ⟨hcz9_0, hcz9_1, hcz9_2, hcz9_3, hfz9_0, hfz9_1, hfz9_2, hfz9_3⟩ := bx4_ BK422.out
     have p423 : 0 ≤ (x3_1 : Int) := of_decide_eq_true hA_
     have q423 : x3_1 < (l0_2.length : Int) := of_decide_eq_true hA_
     obtain ⟨ad423, e423, hx423_0⟩ := Kd.at_string HR0_2.out x3_1 p423 q423
     cases e423
     replace hx423_0 := cl_ HB.out hx423_0
     replace p423 := eq_true p423
     replace q423 := eq_true q423
     go_wp2_with (first | ((with_reducible refine gate_callee (f := 57) rfl ?_); refine goesL_ (some 16) rfl rfl Tryz.func57 (by kernel_rfl) rfl #[.string (rdOf ByteArray.empty l0_2 x3_1)] rfl hL_ ?_; (with_reducible refine (sleuthref1_TermMay.calls k1 (rdOf ByteArray.empty l0_2 x3_1) false _ A5.out).mono ?_); rintro e w10 ⟨rfl, hb⟩; refine ⟨_, rfl, ?_⟩; replace BK422 := a_ (bB_ BK422.out hb); replace HB := a_ (below_step hC_ hb); (try clear hb); (try clear hb2); (try clear hk); (try clear hi)))
     go_ret
     exact ⟨hV_, hC_⟩
    subst c6
    rw [if_pos rfl] at H
    have H' := a_ H
    clear H
    obtain ⟨hcz7_0, hcz7_1, hcz7_2, hcz7_3, hfz7_0, hfz7_1, hfz7_2, hfz7_3⟩ := bx4_ BK422.out
    have p423 : 0 ≤ (x3_1 : Int) := of_decide_eq_true hA_
    have q423 : x3_1 < (l0_2.length : Int) := of_decide_eq_true hA_
    obtain ⟨ad423, e423, hx423_0⟩ := Kd.at_string HR0_2.out x3_1 p423 q423
    cases e423
    replace hx423_0 := cl_ HB.out hx423_0
    replace p423 := eq_true p423
    replace q423 := eq_true q423
    go_wp2_with (first | ((with_reducible refine gate_callee (f := 57) rfl ?_); refine goesL_ (some 16) rfl rfl Tryz.func57 (by kernel_rfl) rfl #[.string (rdOf ByteArray.empty l0_2 x3_1)] rfl hL_ ?_; (with_reducible refine (sleuthref1_TermMay.calls k1 (rdOf ByteArray.empty l0_2 x3_1) true _ A5.out).mono ?_); rintro e w8 ⟨rfl, hb⟩; refine ⟨_, rfl, ?_⟩; replace BK422 := a_ (bB_ BK422.out hb); replace HB := a_ (below_step hC_ hb); (try clear hb); (try clear hb2); (try clear hk); (try clear hi)))
    go_roundg k1
    case measure => have := HK1.out; omega
    case rel => exact ⟨(wrap64 (x3_1 + 1)), hW_, H', ⟨by have := HK1.out; omega⟩, ⟨(hK_ BK422.out)⟩, ⟨hC_⟩⟩
   rw [if_neg c3] at H
   have c3b0 : decide (x3_1 < (l0_2.length : Int)) = false := decide_eq_false c3
   clear c3
   replace H := Option.bind_eq_some_iff.mp H
   obtain ⟨t425, A110, H⟩ := H
   try dsimp only at H
   have A11 := a_ A110
   clear A110
   by_cases c12 : t425 = true
   case neg =>
    replace c12 := Bool.eq_false_iff.mpr c12
    subst c12
    rw [if_neg (show ¬ (false = true) by decide)] at H
    obtain rfl := Option.some.inj H
    obtain ⟨hcz18_0, hcz18_1, hcz18_2, hcz18_3, hfz18_0, hfz18_1, hfz18_2, hfz18_3⟩ := bx4_ BK422.out
    go_wp2_with (first | ((with_reducible refine gate_callee (f := 32) rfl ?_); refine goesL_ _ rfl rfl Tryz.func32 (by kernel_rfl) rfl #[.int .i64 a0_0, .int .i64 0, .int .i64 7] rfl hL_ ?_; (with_reducible refine (sleuthref12_upTo.calls a0_0 0 7 false _ A11.out).mono ?_); rintro e w' ⟨rfl, ⟨nd, rfl⟩⟩; refine ⟨_, rfl, ?_⟩))
    go_ret
    exact ⟨hV_, hC_⟩

   subst c12
   rw [if_pos rfl] at H
   by_cases c13 : (l0_2.length : Int) ≤ 3
   case neg =>
    rw [if_neg c13] at H
    have c13b0 : decide ((l0_2.length : Int) ≤ 3) = false := decide_eq_false c13
    have c13b1 : decide (l0_2.length ≤ 3) = false := decide_eq_false (by omega)
    clear c13
    obtain rfl := Option.some.inj H
    obtain ⟨hcz17_0, hcz17_1, hcz17_2, hcz17_3, hfz17_0, hfz17_1, hfz17_2, hfz17_3⟩ := bx4_ BK422.out
    go_wp2_with (first | ((with_reducible refine gate_callee (f := 32) rfl ?_); refine goesL_ _ rfl rfl Tryz.func32 (by kernel_rfl) rfl #[.int .i64 a0_0, .int .i64 0, .int .i64 7] rfl hL_ ?_; (with_reducible refine (sleuthref12_upTo.calls a0_0 0 7 true _ A11.out).mono ?_); rintro e w' ⟨rfl, ⟨nd, rfl⟩⟩; refine ⟨_, rfl, ?_⟩))
    go_ret
    exact ⟨hV_, hC_⟩
   rw [if_pos c13] at H
   have c13b0 : decide ((l0_2.length : Int) ≤ 3) = true := decide_eq_true c13
   have c13b1 : decide (l0_2.length ≤ 3) = true := decide_eq_true (by omega)
   clear c13
   replace H := Option.bind_eq_some_iff.mp H
   obtain ⟨t426, A140, H⟩ := H
   try dsimp only at H
   have A14 := a_ A140
   clear A140
   obtain rfl := Option.some.inj H
   obtain ⟨hcz15_0, hcz15_1, hcz15_2, hcz15_3, hfz15_0, hfz15_1, hfz15_2, hfz15_3⟩ := bx4_ BK422.out
   go_wp2_with (first | ((with_reducible refine gate_callee (f := 32) rfl ?_); refine goesL_ _ rfl rfl Tryz.func32 (by kernel_rfl) rfl #[.int .i64 a0_0, .int .i64 0, .int .i64 7] rfl hL_ ?_; (with_reducible refine (sleuthref12_upTo.calls a0_0 0 7 true _ A11.out).mono ?_); rintro e w' ⟨rfl, ⟨nd, rfl⟩⟩; refine ⟨_, rfl, ?_⟩) | (go_at_call 57; (with_reducible refine (sleuthref1_TermMay.calls k1 a0_3 t426 _ A14.out).mono ?_); rintro e w16 ⟨rfl, hb⟩; replace BK422 := a_ (bB_ BK422.out hb); replace HB := a_ (below_step hC_ hb); (try clear hb); (try clear hb2); (try clear hk); (try clear hi)))
   go_ret
   exact ⟨hV_, hC_⟩
end Go.Proofs.YtbnljapgnfmmoaaGreatDoor.G
end
