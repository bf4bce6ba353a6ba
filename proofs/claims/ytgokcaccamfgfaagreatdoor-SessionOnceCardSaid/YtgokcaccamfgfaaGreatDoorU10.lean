/- Parts of this proof, one behind the other: G38, G39. -/
import Derived.Test.YtgokcaccamfgfaaGreatDoorU2
import Derived.Test.YtgokcaccamfgfaaGreatDoorG0
import Derived.Test.YtgokcaccamfgfaaGreatDoorU8
import Derived.Test.YtgokcaccamfgfaaGreatDoorU9
import Derived.Test.YtgokcaccamfgfaaGreatDoorU5
import Derived.Test.YtgokcaccamfgfaaGreatDoorU7
section
-- Laid by the session's own driver gp.py over the kit's printer. Not trusted: Lean checks it.
namespace Go.Proofs.YtgokcaccamfgfaaGreatDoor.G
open Go.RowKit Go.Proofs.YtgokcaccamfgfaaGreatDoorW.PrintWords Go.Proofs.YtgokcaccamfgfaaGreatDoorW.PrintLast Go.Proofs.YtgokcaccamfgfaaGreatDoorW.PrintMore
set_option maxHeartbeats 8000000
set_option maxRecDepth 100000
attribute [local go_sem] max2_int min2_int max_two min_two max_three min_three max_four min_four   -- for this text's walks alone
set_option linter.unusedVariables false
set_option linter.unusedSimpArgs false

mutual
def sleuthref12_byHalves.l0 : Nat → List (S64) → List Int → Int → Int → Option (Int × Int)
 | 0, _, _, _, _ => none
 | k + 1, x0, x1, x5, x6 => if x6 < (x0.length : Int) then (if 0 ≤ x6 then (if x6 < (x1.length : Int) then (if (rd x1 x6) = 2 then (sleuthref12_byHalves.l0 k x0 x1 x6 (wrap64 (x6 + 1))) else (sleuthref12_byHalves.l0 k x0 x1 x5 (wrap64 (x6 + 1)))) else (none)) else (none)) else (if 0 ≤ (x0.length : Int) then (if ((x0.length : Int) : Int).toNat ≤ 281474976710656 then (if ((x0.length : Int) : Int).toNat ≤ 35184372088832 then (sleuthref12_byHalves.l1 k x0 x1 x5 (List.replicate ((x0.length : Int) : Int).toNat false) (List.replicate ((x0.length : Int) : Int).toNat 0) 0 (wrap64 (x5 + 1))) else (none)) else (none)) else (none))
def sleuthref12_byHalves.l1 : Nat → List (S64) → List Int → Int → List Bool → List Int → Int → Int → Option (Int × Int)
 | 0, _, _, _, _, _, _, _ => none
 | k + 1, x0, x1, x5, x7, x8, x9, x10 => if x10 < (x0.length : Int) then (if 0 ≤ x10 then (if ((rd_T64 x0 x10).f1) = x5 then (if x10 < (x1.length : Int) then (if x10 < (x7.length : Int) then ((some (x7.set (x10 : Int).toNat ((rd x1 x10) != 1) : List Bool)).bind fun y371 => (if rdOf false y371 x10 = true then (if (rd x1 x10) = 0 then (if x10 < (x8.length : Int) then (sleuthref12_byHalves.l1 k x0 x1 x5 y371 (x8.set (x10 : Int).toNat 1) (wrap64 (x9 + 1)) (wrap64 (x10 + 1))) else (none)) else (sleuthref12_byHalves.l1 k x0 x1 x5 y371 x8 x9 (wrap64 (x10 + 1)))) else (sleuthref12_byHalves.l1 k x0 x1 x5 y371 x8 x9 (wrap64 (x10 + 1))))) else (none)) else (none)) else (if 0 ≤ ((rd_T64 x0 x10).f1) then (if ((rd_T64 x0 x10).f1) < (x7.length : Int) then (if rdOf false x7 ((rd_T64 x0 x10).f1) = true then (if x10 < (x1.length : Int) then (if x10 < (x7.length : Int) then ((some (x7.set (x10 : Int).toNat ((rd x1 x10) != 1) : List Bool)).bind fun y377 => (if rdOf false y377 x10 = true then (if (rd x1 x10) = 0 then (if x10 < (x8.length : Int) then (sleuthref12_byHalves.l1 k x0 x1 x5 y377 (x8.set (x10 : Int).toNat 1) (wrap64 (x9 + 1)) (wrap64 (x10 + 1))) else (none)) else (sleuthref12_byHalves.l1 k x0 x1 x5 y377 x8 x9 (wrap64 (x10 + 1)))) else (sleuthref12_byHalves.l1 k x0 x1 x5 y377 x8 x9 (wrap64 (x10 + 1))))) else (none)) else (none)) else (if x10 < (x7.length : Int) then ((some (x7.set (x10 : Int).toNat false : List Bool)).bind fun y381 => (if rdOf false y381 x10 = true then (if x10 < (x1.length : Int) then (if (rd x1 x10) = 0 then (if x10 < (x8.length : Int) then (sleuthref12_byHalves.l1 k x0 x1 x5 y381 (x8.set (x10 : Int).toNat 1) (wrap64 (x9 + 1)) (wrap64 (x10 + 1))) else (none)) else (sleuthref12_byHalves.l1 k x0 x1 x5 y381 x8 x9 (wrap64 (x10 + 1)))) else (none)) else (sleuthref12_byHalves.l1 k x0 x1 x5 y381 x8 x9 (wrap64 (x10 + 1))))) else (none))) else (none)) else (none))) else (none)) else (sleuthref12_byHalves.l2 k x0 x1 x5 x7 x8 x9 (wrap64 ((x0.length : Int) - 1)))
def sleuthref12_byHalves.l2 : Nat → List (S64) → List Int → Int → List Bool → List Int → Int → Int → Option (Int × Int)
 | 0, _, _, _, _, _, _, _ => none
 | k + 1, x0, x1, x5, x7, x8, x9, x12 => if x12 > x5 then (if 0 ≤ x12 then (if x12 < (x7.length : Int) then (if rdOf false x7 x12 = true then (if x12 < (x0.length : Int) then (if ((rd_T64 x0 x12).f1) > x5 then (if 0 ≤ ((rd_T64 x0 x12).f1) then (if ((rd_T64 x0 x12).f1) < (x8.length : Int) then (if x12 < (x8.length : Int) then (sleuthref12_byHalves.l2 k x0 x1 x5 x7 (x8.set (((rd_T64 x0 x12).f1) : Int).toNat (wrap64 ((rd x8 ((rd_T64 x0 x12).f1)) + (rd x8 x12)))) x9 (wrap64 (x12 - 1))) else (none)) else (none)) else (none)) else (sleuthref12_byHalves.l2 k x0 x1 x5 x7 x8 x9 (wrap64 (x12 - 1)))) else (none)) else (sleuthref12_byHalves.l2 k x0 x1 x5 x7 x8 x9 (wrap64 (x12 - 1)))) else (none)) else (none)) else (sleuthref12_byHalves.l3 k x0 x1 x5 x7 x8 x9 (-1) 0 (wrap64 (x5 + 1)))
def sleuthref12_byHalves.l3 : Nat → List (S64) → List Int → Int → List Bool → List Int → Int → Int → Int → Int → Option (Int × Int)
 | 0, _, _, _, _, _, _, _, _, _ => none
 | k + 1, x0, x1, x5, x7, x8, x9, x13, x14, x15 => if x15 < (x0.length : Int) then (if 0 ≤ x15 then (if x15 < (x7.length : Int) then (if rdOf false x7 x15 = true then (if x15 < (x1.length : Int) then (sleuthref12_byHalves.j4 k x0 x1 x5 x7 x8 x9 x13 x14 x15 ((rd x1 x15) != 0)) else (none)) else (sleuthref12_byHalves.j4 k x0 x1 x5 x7 x8 x9 x13 x14 x15 true)) else (none)) else (none)) else (if x13 ≥ 0 then (some (0, x13)) else ((sleuthref12_verdict.f k x0 x1 x5).bind fun bt392 => (some (bt392.1, bt392.2))))
def sleuthref12_byHalves.j4 : Nat → List (S64) → List Int → Int → List Bool → List Int → Int → Int → Int → Int → Bool → Option (Int × Int)
 | 0, _, _, _, _, _, _, _, _, _, _ => none
 | k + 1, x0, x1, x5, x7, x8, x9, x13, x14, x15, x151 => if x151 = true then (sleuthref12_byHalves.l3 k x0 x1 x5 x7 x8 x9 x13 x14 (wrap64 (x15 + 1))) else (if 0 ≤ x15 then (if x15 < (x8.length : Int) then (if x13 < 0 then (sleuthref12_byHalves.l3 k x0 x1 x5 x7 x8 x9 x15 (mx (wrap64 ((wrap64 (2 * (rd x8 x15))) - x9)) (wrap64 (x9 - (wrap64 (2 * (rd x8 x15)))))) (wrap64 (x15 + 1))) else (if (mx (wrap64 ((wrap64 (2 * (rd x8 x15))) - x9)) (wrap64 (x9 - (wrap64 (2 * (rd x8 x15)))))) < x14 then (sleuthref12_byHalves.l3 k x0 x1 x5 x7 x8 x9 x15 (mx (wrap64 ((wrap64 (2 * (rd x8 x15))) - x9)) (wrap64 (x9 - (wrap64 (2 * (rd x8 x15)))))) (wrap64 (x15 + 1))) else (sleuthref12_byHalves.l3 k x0 x1 x5 x7 x8 x9 x13 x14 (wrap64 (x15 + 1))))) else (none)) else (none))
end
def sleuthref12_byHalves.f (k : Nat) (l0 : List (S64)) (l1 : List Int) : Option (Int × Int) := if 0 < (l1.length : Int) then (if (rd l1 0) = 2 then (sleuthref12_byHalves.l0 k l0 l1 0 0) else ((sleuthref12_rooted.f (rd l1 0)).bind fun bt360 => (some (bt360.1, bt360.2)))) else (none)
theorem sleuthref12_byHalves.mono_l : ∀ k, (∀ y0 y1 y2 y3, LeO (sleuthref12_byHalves.l0 k y0 y1 y2 y3) (sleuthref12_byHalves.l0 (k + 1) y0 y1 y2 y3)) ∧ (∀ y0 y1 y2 y3 y4 y5 y6, LeO (sleuthref12_byHalves.l1 k y0 y1 y2 y3 y4 y5 y6) (sleuthref12_byHalves.l1 (k + 1) y0 y1 y2 y3 y4 y5 y6)) ∧ (∀ y0 y1 y2 y3 y4 y5 y6, LeO (sleuthref12_byHalves.l2 k y0 y1 y2 y3 y4 y5 y6) (sleuthref12_byHalves.l2 (k + 1) y0 y1 y2 y3 y4 y5 y6)) ∧ (∀ y0 y1 y2 y3 y4 y5 y6 y7 y8, LeO (sleuthref12_byHalves.l3 k y0 y1 y2 y3 y4 y5 y6 y7 y8) (sleuthref12_byHalves.l3 (k + 1) y0 y1 y2 y3 y4 y5 y6 y7 y8)) ∧ (∀ y0 y1 y2 y3 y4 y5 y6 y7 y8 y9, LeO (sleuthref12_byHalves.j4 k y0 y1 y2 y3 y4 y5 y6 y7 y8 y9) (sleuthref12_byHalves.j4 (k + 1) y0 y1 y2 y3 y4 y5 y6 y7 y8 y9))
 | 0 => ⟨fun _ _ _ _ r h => by simp [sleuthref12_byHalves.l0] at h, fun _ _ _ _ _ _ _ r h => by simp [sleuthref12_byHalves.l1] at h, fun _ _ _ _ _ _ _ r h => by simp [sleuthref12_byHalves.l2] at h, fun _ _ _ _ _ _ _ _ _ r h => by simp [sleuthref12_byHalves.l3] at h, fun _ _ _ _ _ _ _ _ _ _ r h => by simp [sleuthref12_byHalves.j4] at h⟩
 | k + 1 => by
  obtain ⟨ih0, ih1, ih2, ih3, ih4⟩ := sleuthref12_byHalves.mono_l k
  refine ⟨?_, ?_, ?_, ?_, ?_⟩
  · intro y0 y1 y2 y3
    unfold sleuthref12_byHalves.l0
    repeat' first
    | (with_reducible exact ih0 _ _ _ _)
    | (with_reducible exact ih1 _ _ _ _ _ _ _)
    | (with_reducible exact ih2 _ _ _ _ _ _ _)
    | (with_reducible exact ih3 _ _ _ _ _ _ _ _ _)
    | (with_reducible exact ih4 _ _ _ _ _ _ _ _ _ _)
    | (with_reducible exact sleuthref12_verdict.mono _ _ _ _)
    | (with_reducible exact LeO.refl _)
    | (with_reducible exact LeO.none _)
    | (with_reducible refine LeO.ite ?_ ?_)
    | (with_reducible refine LeO.bind ?_ (fun _ => ?_))
    | exact ih0 _ _ _ _
    | exact ih1 _ _ _ _ _ _ _
    | exact ih2 _ _ _ _ _ _ _
    | exact ih3 _ _ _ _ _ _ _ _ _
    | exact ih4 _ _ _ _ _ _ _ _ _ _
    | exact sleuthref12_verdict.mono _ _ _ _
    | exact LeO.none _
    | refine LeO.ite ?_ ?_
    | refine LeO.bind ?_ (fun _ => ?_)
  · intro y0 y1 y2 y3 y4 y5 y6
    unfold sleuthref12_byHalves.l1
    repeat' first
    | (with_reducible exact ih0 _ _ _ _)
    | (with_reducible exact ih1 _ _ _ _ _ _ _)
    | (with_reducible exact ih2 _ _ _ _ _ _ _)
    | (with_reducible exact ih3 _ _ _ _ _ _ _ _ _)
    | (with_reducible exact ih4 _ _ _ _ _ _ _ _ _ _)
    | (with_reducible exact sleuthref12_verdict.mono _ _ _ _)
    | (with_reducible exact LeO.refl _)
    | (with_reducible exact LeO.none _)
    | (with_reducible refine LeO.ite ?_ ?_)
    | (with_reducible refine LeO.bind ?_ (fun _ => ?_))
    | exact ih0 _ _ _ _
    | exact ih1 _ _ _ _ _ _ _
    | exact ih2 _ _ _ _ _ _ _
    | exact ih3 _ _ _ _ _ _ _ _ _
    | exact ih4 _ _ _ _ _ _ _ _ _ _
    | exact sleuthref12_verdict.mono _ _ _ _
    | exact LeO.none _
    | refine LeO.ite ?_ ?_
    | refine LeO.bind ?_ (fun _ => ?_)
  · intro y0 y1 y2 y3 y4 y5 y6
    unfold sleuthref12_byHalves.l2
    repeat' first
    | (with_reducible exact ih0 _ _ _ _)
    | (with_reducible exact ih1 _ _ _ _ _ _ _)
    | (with_reducible exact ih2 _ _ _ _ _ _ _)
    | (with_reducible exact ih3 _ _ _ _ _ _ _ _ _)
    | (with_reducible exact ih4 _ _ _ _ _ _ _ _ _ _)
    | (with_reducible exact sleuthref12_verdict.mono _ _ _ _)
    | (with_reducible exact LeO.refl _)
    | (with_reducible exact LeO.none _)
    | (with_reducible refine LeO.ite ?_ ?_)
    | (with_reducible refine LeO.bind ?_ (fun _ => ?_))
    | exact ih0 _ _ _ _
    | exact ih1 _ _ _ _ _ _ _
    | exact ih2 _ _ _ _ _ _ _
    | exact ih3 _ _ _ _ _ _ _ _ _
    | exact ih4 _ _ _ _ _ _ _ _ _ _
    | exact sleuthref12_verdict.mono _ _ _ _
    | exact LeO.none _
    | refine LeO.ite ?_ ?_
    | refine LeO.bind ?_ (fun _ => ?_)
  · intro y0 y1 y2 y3 y4 y5 y6 y7 y8
    unfold sleuthref12_byHalves.l3
    repeat' first
    | (with_reducible exact ih0 _ _ _ _)
    | (with_reducible exact ih1 _ _ _ _ _ _ _)
    | (with_reducible exact ih2 _ _ _ _ _ _ _)
    | (with_reducible exact ih3 _ _ _ _ _ _ _ _ _)
    | (with_reducible exact ih4 _ _ _ _ _ _ _ _ _ _)
    | (with_reducible exact sleuthref12_verdict.mono _ _ _ _)
    | (with_reducible exact LeO.refl _)
    | (with_reducible exact LeO.none _)
    | (with_reducible refine LeO.ite ?_ ?_)
    | (with_reducible refine LeO.bind ?_ (fun _ => ?_))
    | exact ih0 _ _ _ _
    | exact ih1 _ _ _ _ _ _ _
    | exact ih2 _ _ _ _ _ _ _
    | exact ih3 _ _ _ _ _ _ _ _ _
    | exact ih4 _ _ _ _ _ _ _ _ _ _
    | exact sleuthref12_verdict.mono _ _ _ _
    | exact LeO.none _
    | refine LeO.ite ?_ ?_
    | refine LeO.bind ?_ (fun _ => ?_)
  · intro y0 y1 y2 y3 y4 y5 y6 y7 y8 y9
    unfold sleuthref12_byHalves.j4
    repeat' first
    | (with_reducible exact ih0 _ _ _ _)
    | (with_reducible exact ih1 _ _ _ _ _ _ _)
    | (with_reducible exact ih2 _ _ _ _ _ _ _)
    | (with_reducible exact ih3 _ _ _ _ _ _ _ _ _)
    | (with_reducible exact ih4 _ _ _ _ _ _ _ _ _ _)
    | (with_reducible exact sleuthref12_verdict.mono _ _ _ _)
    | (with_reducible exact LeO.refl _)
    | (with_reducible exact LeO.none _)
    | (with_reducible refine LeO.ite ?_ ?_)
    | (with_reducible refine LeO.bind ?_ (fun _ => ?_))
    | exact ih0 _ _ _ _
    | exact ih1 _ _ _ _ _ _ _
    | exact ih2 _ _ _ _ _ _ _
    | exact ih3 _ _ _ _ _ _ _ _ _
    | exact ih4 _ _ _ _ _ _ _ _ _ _
    | exact sleuthref12_verdict.mono _ _ _ _
    | exact LeO.none _
    | refine LeO.ite ?_ ?_
    | refine LeO.bind ?_ (fun _ => ?_)
theorem sleuthref12_byHalves.mono : ∀ a0 a1 k, LeO (sleuthref12_byHalves.f k a0 a1) (sleuthref12_byHalves.f (k + 1) a0 a1) := by
 intro a0 a1 k
 obtain ⟨ih0, ih1, ih2, ih3, ih4⟩ := sleuthref12_byHalves.mono_l k
 unfold sleuthref12_byHalves.f
 repeat' first
  | (with_reducible exact ih0 _ _ _ _)
  | (with_reducible exact ih1 _ _ _ _ _ _ _)
  | (with_reducible exact ih2 _ _ _ _ _ _ _)
  | (with_reducible exact ih3 _ _ _ _ _ _ _ _ _)
  | (with_reducible exact ih4 _ _ _ _ _ _ _ _ _ _)
  | (with_reducible exact sleuthref12_verdict.mono _ _ _ _)
  | (with_reducible exact LeO.refl _)
  | (with_reducible exact LeO.none _)
  | (with_reducible refine LeO.ite ?_ ?_)
  | (with_reducible refine LeO.bind ?_ (fun _ => ?_))
  | exact ih0 _ _ _ _
  | exact ih1 _ _ _ _ _ _ _
  | exact ih2 _ _ _ _ _ _ _
  | exact ih3 _ _ _ _ _ _ _ _ _
  | exact ih4 _ _ _ _ _ _ _ _ _ _
  | exact sleuthref12_verdict.mono _ _ _ _
  | exact LeO.none _
  | refine LeO.ite ?_ ?_
  | refine LeO.bind ?_ (fun _ => ?_)
def sleuthref12_byHalves.T24 : Bool × List (List Nat × List Nat) := (true, [([], []), ([], []), ([], []), ([1, 2], [1, 2]), ([3], [3]), ([4], [4]), ([], []), ([], []), ([], []), ([7, 8], [7, 8]), ([9], [9]), ([10], [10]), ([6, 11], [6, 11]), ([12], [12]), ([], []), ([], []), ([14, 15], [14, 15]), ([16], [16]), ([13, 17], [13, 17]), ([0, 5, 0, 1, 2, 3, 4, 5, 6, 7, 8, 9, 10, 11, 12, 13, 14, 15, 16, 17, 18], [0, 5]), ([19, 18, 0, 1, 2, 3, 4, 5, 6, 7, 8, 9, 10, 11, 12, 13, 14, 15, 16, 17, 18], [18, 19])])
def sleuthref12_byHalves.B24 : List Nat := [0, 0, 0, 6, 14, 30, 0, 0, 0, 384, 896, 1920, 4032, 8128, 0, 0, 49152, 114688, 262080, 524287, 1048575]
theorem sleuthref12_byHalves.tab24 : rtab .any (opsOf Tryz.f46 24) = sleuthref12_byHalves.T24 := by kernel_rfl
theorem sleuthref12_byHalves.bits24 : waitsOk sleuthref12_byHalves.T24.2 sleuthref12_byHalves.B24 = true := by kernel_rfl
def sleuthref12_byHalves.T30 : Bool × List (List Nat × List Nat) := (true, [([], []), ([], []), ([0, 1], [0, 1]), ([2], [2]), ([3], [3]), ([], []), ([4, 5], [4, 5]), ([], []), ([], []), ([], []), ([8, 9], [8, 9]), ([10], [10]), ([11], [11]), ([7, 12], [7, 12]), ([6, 13], [6, 13]), ([14, 0, 1, 2, 3, 4, 5, 6, 7, 8, 9, 10, 11, 12, 13, 14], [14])])
def sleuthref12_byHalves.B30 : List Nat := [0, 0, 3, 7, 15, 0, 63, 0, 0, 0, 768, 1792, 3840, 8064, 16383, 32767]
theorem sleuthref12_byHalves.tab30 : rtab .any (opsOf Tryz.f46 30) = sleuthref12_byHalves.T30 := by kernel_rfl
theorem sleuthref12_byHalves.bits30 : waitsOk sleuthref12_byHalves.T30.2 sleuthref12_byHalves.B30 = true := by kernel_rfl
theorem sleuthref12_byHalves.calls (k : Nat) (A0 : Option Addr) (c0 : Nat) (l0 : List (S64)) (A1 : Option Addr) (c1 : Nat) (l1 : List Int) (r1 : Int) (r2 : Int) (w : World) (hr0 : Kd.C k64 w A0 l0.length l0) (hc0 : l0.length ≤ c0) (hr1 : Kd.C (Kd.int .i64) w A1 l1.length l1) (hc1 : l1.length ≤ c1) (h : sleuthref12_byHalves.f k l0 l1 = some (r1, r2)) :
 Calls Tryz.prog 46 #[.slice A0 l0.length c0, .slice A1 l1.length c1] w fun e w' => e = .returned (.agg #[.int .i64 r1, .int .i64 r2]) ∧ Below w.heap.size w w' := by
 have hu34 := Tryz.underlying34
 have HR0 := a_ hr0
 have HC0 := a_ hc0
 clear hr0 hc0
 have HR1 := a_ hr1
 have HC1 := a_ hc1
 clear hr1 hc1
 have HB := a_ (Below.refl w.heap.size w)
 have H : (if 0 < (l1.length : Int) then (if (rd l1 0) = 2 then (sleuthref12_byHalves.l0 k l0 l1 0 0) else ((sleuthref12_rooted.f (rd l1 0)).bind fun bt360 => (some (bt360.1, bt360.2)))) else (none)) = some (r1, r2) := h
 clear h
 replace H := ifI_ H; obtain ⟨c3, H⟩ := H
 have c3b0 : decide (0 < (l1.length : Int)) = true := decide_eq_true c3
 have c3b1 : decide (0 < l1.length) = true := decide_eq_true (by omega)
 clear c3
 by_cases c4 : (rd l1 0) = 2
 case neg =>
  rw [if_neg c4] at H
  have c4b0 : ((rd l1 0) == 2) = false := beq_eq_false_iff_ne.mpr c4
  have c4b1 : ((rd l1 0) != 2) = true := bne_iff_ne.mpr c4
  replace H := Option.bind_eq_some_iff.mp H
  obtain ⟨⟨t360, t361⟩, A1210, H⟩ := H
  replace H : (some (t360, t361)) = some (r1, r2) := H
  have A121 := a_ A1210
  clear A1210
  simp only [Option.some.injEq, Prod.mk.injEq] at H
  obtain ⟨rfl, rfl⟩ := H
  go_enter Tryz.func46, Tryz.ntmps46
  go_wp2_with (first | ((with_reducible refine gate_dst (N := 4) rfl ?_); refine boxE_ 4 #[.int .i64 0, .int .i64 0] 34 ?_; intro gb357 hg w122 hbox hb; have BK357 := a_ (hbox); have GW357 := a_ ((gE_ hg : w.heap.size ≤ gb357)); have GE357 := a_ ((gE_ hg : w.heap.size ≤ gb357)); replace HB := a_ (below_step hB_ hb); clear hb hbox hg; have p358 : 0 ≤ (0 : Int) := (by omega); have q358 : 0 < (l1.length : Int) := of_decide_eq_true hA_; obtain ⟨ad358, e358, hx358_0⟩ := Kd.at_int HR1.out 0 p358 q358; cases e358; have qi358 : (0 < l1.length) = True := eq_true (by omega); (try rw [show ((0 : Int)).toNat = 0 from rfl] at hx358_0); (try rw [Addr.add_zero'] at hx358_0); replace hx358_0 := cl_ HB.out hx358_0; replace p358 := eq_true p358; replace q358 := eq_true q358; have p359 : 0 ≤ (0 : Int) := (by omega); have q359 : 0 < (l1.length : Int) := of_decide_eq_true hA_; obtain ⟨ad359, e359, hx359_0⟩ := Kd.at_int HR1.out 0 p359 q359; obtain rfl : ad358 = ad359 := (by injection e359); have qi359 : (0 < l1.length) = True := eq_true (by omega); (try rw [show ((0 : Int)).toNat = 0 from rfl] at hx359_0); (try rw [Addr.add_zero'] at hx359_0); replace hx359_0 := cl_ HB.out hx359_0; replace p359 := eq_true p359; replace q359 := eq_true q359) | ((with_reducible refine gate_callee (f := 62) rfl ?_); refine goesL_ (some 24) rfl rfl Tryz.func62 (by kernel_rfl) rfl #[.int .i64 (rd l1 0)] rfl hL_ ?_; (with_reducible refine (sleuthref12_rooted.calls (rd l1 0) t360 t361 _ A121.out).mono ?_); rintro e w123 ⟨rfl, hb⟩; refine ⟨_, rfl, ?_⟩; replace BK357 := a_ (bB_ BK357.out hb); replace HB := a_ (below_step hC_ hb); (try clear hb); (try clear hb2); (try clear hk); (try clear hi); obtain ⟨hcz124_0, hcz124_1, hfz124_0, hfz124_1⟩ := bx2_ BK357.out))
  refine bodyPost_ret (results_cell_row rfl _ _ gb357 34 #[.int .i64 t360, .int .i64 t361] (0, 0) _ rfl (bP_ (bP_ (hK_ BK357.out))) Tryz.underlying34 rfl (by kernel_rfl)) rfl ?_
  exact ⟨hV_, hC_⟩
 rw [if_pos c4] at H
 have c4b0 : ((rd l1 0) == 2) = true := beq_iff_eq.mpr c4
 have c4b1 : ((rd l1 0) != 2) = false := bne_eq_false_iff_eq.mpr c4
 clear c4
 have H' := a_ H
 clear H
 go_enter Tryz.func46, Tryz.ntmps46
 go_wp2_with (first | ((with_reducible refine gate_dst (N := 4) rfl ?_); refine boxE_ 4 #[.int .i64 0, .int .i64 0] 34 ?_; intro gb357 hg w5 hbox hb; have BK357 := a_ (hbox); have GW357 := a_ ((gE_ hg : w.heap.size ≤ gb357)); have GE357 := a_ ((gE_ hg : w.heap.size ≤ gb357)); replace HB := a_ (below_step hB_ hb); clear hb hbox hg; have p358 : 0 ≤ (0 : Int) := (by omega); have q358 : 0 < (l1.length : Int) := of_decide_eq_true hA_; obtain ⟨ad358, e358, hx358_0⟩ := Kd.at_int HR1.out 0 p358 q358; cases e358; have qi358 : (0 < l1.length) = True := eq_true (by omega); (try rw [show ((0 : Int)).toNat = 0 from rfl] at hx358_0); (try rw [Addr.add_zero'] at hx358_0); replace hx358_0 := cl_ HB.out hx358_0; replace p358 := eq_true p358; replace q358 := eq_true q358))
 (try simp only [Act.put, List.setIfInBounds_toArray, List.set_cons_zero, List.set_cons_succ])
 go_loopg [5, 6] k (fun kq v5 v6 w' => ∃ (x5_1 : Int) (x6_1 : Int), v5 = .int .i64 x5_1 ∧ v6 = .int .i64 x6_1 ∧ Aside0 (sleuthref12_byHalves.l0 kq l0 l1 x5_1 x6_1 = some (r1, r2)) ∧ Aside0 (kq ≤ k) ∧ Aside0 (w'.heap[gb357]? = some (.cells #[.int .i64 0, .int .i64 0] 34 (0, 0))) ∧ Aside0 (Below w.heap.size w w'))
 case atStart => exact ⟨(0), (0), hW_, hW_, H', ⟨Nat.le_refl _⟩, ⟨(hK_ BK357.out)⟩, ⟨hC_⟩⟩
 case round =>
  clear H'
  try clear c1
  try clear p2
  try clear c3
  try clear c3b0
  try clear c3b1
  try clear p3
  try clear q3
  try clear hx3
  try clear qi3
  try clear c4
  try clear c4b0
  try clear c4b1
  try clear hx358_0
  try clear p358
  try clear q358
  obtain ⟨x5_1, x6_1, rfl, rfl, HA, HK1, BK357, HB⟩ := hrel
  cases gk with
  | zero => exact absurd HA.out (by simp [sleuthref12_byHalves.l0])
  | succ k1 =>
   have H := HA.out
   clear HA
   simp only [sleuthref12_byHalves.l0] at H
   by_cases c6 : x6_1 < (l0.length : Int)
   case pos =>
    rw [if_pos c6] at H
    have c6b0 : decide (x6_1 < (l0.length : Int)) = true := decide_eq_true c6
    clear c6
    replace H := ifI_ H; obtain ⟨c7, H⟩ := H
    have c7b0 : decide (0 ≤ x6_1) = true := decide_eq_true c7
    clear c7
    replace H := ifI_ H; obtain ⟨c8, H⟩ := H
    have c8b0 : decide (x6_1 < (l1.length : Int)) = true := decide_eq_true c8
    clear c8
    by_cases c9 : (rd l1 x6_1) = 2
    case neg =>
     rw [if_neg c9] at H
     have c9b0 : ((rd l1 x6_1) == 2) = false := beq_eq_false_iff_ne.mpr c9
     have c9b1 : ((rd l1 x6_1) != 2) = true := bne_iff_ne.mpr c9
     have H' := a_ H
     clear H
     have p362 : 0 ≤ (x6_1 : Int) := of_decide_eq_true hA_
     have q362 : x6_1 < (l1.length : Int) := of_decide_eq_true hA_
     obtain ⟨ad362, e362, hx362_0⟩ := Kd.at_int HR1.out x6_1 p362 q362
     obtain rfl : ad358 = ad362 := (by injection e362)
     replace hx362_0 := cl_ HB.out hx362_0
     replace p362 := eq_true p362
     replace q362 := eq_true q362
     go_wp2
     go_roundg k1
     case measure => have := HK1.out; omega
     case rel => exact ⟨(x5_1), (wrap64 (x6_1 + 1)), hW_, hW_, H', ⟨by have := HK1.out; omega⟩, ⟨(hK_ BK357.out)⟩, ⟨hC_⟩⟩
    rw [if_pos c9] at H
    have c9b0 : ((rd l1 x6_1) == 2) = true := beq_iff_eq.mpr c9
    have c9b1 : ((rd l1 x6_1) != 2) = false := bne_eq_false_iff_eq.mpr c9
    clear c9
    have H' := a_ H
    clear H
    have p362 : 0 ≤ (x6_1 : Int) := of_decide_eq_true hA_
    have q362 : x6_1 < (l1.length : Int) := of_decide_eq_true hA_
    obtain ⟨ad362, e362, hx362_0⟩ := Kd.at_int HR1.out x6_1 p362 q362
    obtain rfl : ad358 = ad362 := (by injection e362)
    replace hx362_0 := cl_ HB.out hx362_0
    replace p362 := eq_true p362
    replace q362 := eq_true q362
    go_wp2
    go_roundg k1
    case measure => have := HK1.out; omega
    case rel => exact ⟨(x6_1), (wrap64 (x6_1 + 1)), hW_, hW_, H', ⟨by have := HK1.out; omega⟩, ⟨(hK_ BK357.out)⟩, ⟨hC_⟩⟩
   rw [if_neg c6] at H
   have c6b0 : decide (x6_1 < (l0.length : Int)) = false := decide_eq_false c6
   clear c6
   replace H := ifI_ H; obtain ⟨c10, H⟩ := H
   have c10b0 := eq_true c10
   have c10b1 : decide (0 ≤ (l0.length : Int)) = true := decide_eq_true c10
   clear c10
   replace H := ifI_ H; obtain ⟨c11, H⟩ := H
   have c11b0 := eq_true c11
   have c11b1 : decide (((l0.length : Int) : Int).toNat ≤ 281474976710656) = true := decide_eq_true c11
   clear c11
   obtain ⟨y363, hy363⟩ : ∃ y_ : List Bool, y_ = (List.replicate ((l0.length : Int) : Int).toNat false) := ⟨_, rfl⟩
   replace H : (if ((l0.length : Int) : Int).toNat ≤ 35184372088832 then (sleuthref12_byHalves.l1 k1 l0 l1 x5_1 y363 (List.replicate ((l0.length : Int) : Int).toNat 0) 0 (wrap64 (x5_1 + 1))) else (none)) = some (r1, r2) := by first | (rw [hy363]; with_reducible exact H) | (have H2_ := (Option.bind_some _ _).symm.trans H; rw [hy363]; with_reducible exact H2_) | (have H2_ := (Option.bind_some _ _).symm.trans H; with_reducible exact H2_) | with_reducible exact H | (rw [hy363]; exact H) | exact H
   have Ny363 := a_ hy363
   clear hy363
   replace H := ifI_ H; obtain ⟨c12, H⟩ := H
   have c12b0 := eq_true c12
   have c12b1 : decide (((l0.length : Int) : Int).toNat ≤ 35184372088832) = true := decide_eq_true c12
   clear c12
   obtain ⟨y366, hy366⟩ : ∃ y_ : List Int, y_ = (List.replicate ((l0.length : Int) : Int).toNat 0) := ⟨_, rfl⟩
   replace H : (sleuthref12_byHalves.l1 k1 l0 l1 x5_1 y363 y366 0 (wrap64 (x5_1 + 1))) = some (r1, r2) := by first | (rw [hy366]; with_reducible exact H) | (have H2_ := (Option.bind_some _ _).symm.trans H; rw [hy366]; with_reducible exact H2_) | (have H2_ := (Option.bind_some _ _).symm.trans H; with_reducible exact H2_) | with_reducible exact H | (rw [hy366]; exact H) | exact H
   have Ny366 := a_ hy366
   clear hy366
   have H' := a_ H
   clear H
   go_wp2_with (first | ((with_reducible refine gate_dst (N := 39) rfl ?_); refine Kd.R_make Kd.bool _ 4 rfl (N := 39) rfl 53 _ _ rfl (l0.length : Int) rfl rfl Tryz.underlying53 (.bool false) 1 info4 rfl (by decide) (by omega) false (ok := fun _ => True) (okp := fun _ => True) rfl (fun _ hk => hk) trivial (of_decide_eq_true hA_) (Nat.le_trans (Nat.mul_le_mul_right _ (of_decide_eq_true hA_ : (l0.length : Int).toNat ≤ 281474976710656)) (by omega)) (Below.refl _ _) (Nat.le_refl _) ?_; intro v364 w13 ho14 hb hg_ hnew_; clear hg_ hnew_; (first | rw [← Ny363.out] at ho14 | (simp only [Int.reduceToNat] at ho14; rw [← Ny363.out] at ho14)); have HO365 := a_ (Kd.R_lower ho14 (below_size hC_)); replace BK357 := a_ (bB_ BK357.out hb); replace HB := a_ (below_step hC_ hb); clear hb ho14) | ((with_reducible refine gate_dst (N := 42) rfl ?_); refine Kd.R_make (Kd.int .i64) _ 3 rfl (N := 42) rfl 27 _ _ rfl (l0.length : Int) rfl rfl Tryz.underlying27 (.int .i64 0) 8 info3 rfl (by decide) (by omega) 0 (ok := fun _ => True) (okp := fun _ => True) rfl (fun _ hk => hk) trivial (of_decide_eq_true hA_) (Nat.le_trans (Nat.mul_le_mul_right _ (of_decide_eq_true hA_ : (l0.length : Int).toNat ≤ 35184372088832)) (by omega)) (Below.refl _ _) (Nat.le_refl _) ?_; intro v367 w15 ho16 hb hg_ hnew_; clear hg_ hnew_; (first | rw [← Ny366.out] at ho16 | (simp only [Int.reduceToNat] at ho16; rw [← Ny366.out] at ho16)); replace HO365 := a_ (Kd.R_below (hR_ HO365.out) hb); have HO368 := a_ (Kd.R_lower ho16 (below_size hC_)); replace BK357 := a_ (bB_ BK357.out hb); replace HB := a_ (below_step hC_ hb); clear hb ho16))
   go_loopg [9, 10] k1 (fun kq v9 v10 w' => ∃ (x7_2 : List Bool) (x8_2 : List Int) (x9_2 : Int) (x10_2 : Int), v9 = .int .i64 x9_2 ∧ v10 = .int .i64 x10_2 ∧ Aside0 (sleuthref12_byHalves.l1 kq l0 l1 x5_1 x7_2 x8_2 x9_2 x10_2 = some (r1, r2)) ∧ Aside0 (kq ≤ k1) ∧ Aside0 (Kd.R Kd.bool 4 w' w.heap.size (fun _ => True) v364 x7_2) ∧ Aside0 (Kd.R (Kd.int .i64) 3 w' w.heap.size (fun _ => True) v367 x8_2) ∧ Aside0 (w'.heap[gb357]? = some (.cells #[.int .i64 0, .int .i64 0] 34 (0, 0))) ∧ Aside0 (Below w.heap.size w w'))
   case atStart => exact ⟨(y363), (y366), (0), (wrap64 (x5_1 + 1)), hW_, hW_, H', ⟨Nat.le_refl _⟩, ⟨hR_ HO365.out⟩, ⟨hR_ HO368.out⟩, ⟨(hK_ BK357.out)⟩, ⟨hC_⟩⟩
   case round =>
    clear H'
    try clear c1
    try clear p2
    try clear c3
    try clear c3b0
    try clear c3b1
    try clear p3
    try clear q3
    try clear hx3
    try clear qi3
    try clear c4
    try clear c4b0
    try clear c4b1
    try clear c6
    try clear c6b0
    try clear p6
    try clear c7
    try clear c7b0
    try clear c8
    try clear c8b0
    try clear c9
    try clear c9b0
    try clear c9b1
    try clear c10
    try clear c10b0
    try clear c10b1
    try clear c11
    try clear c11b0
    try clear c11b1
    try clear c12
    try clear c12b0
    try clear c12b1
    try clear hx358_0
    try clear hx362_0
    try clear p2
    try clear p3
    try clear p358
    try clear p362
    try clear q3
    try clear q358
    try clear q362
    obtain ⟨x7_2, x8_2, x9_2, x10_2, rfl, rfl, HA, HK2, HO_7, HO_8, BK357, HB⟩ := hrel
    cases gk with
    | zero => exact absurd HA.out (by simp [sleuthref12_byHalves.l1])
    | succ k2 =>
     have H := HA.out
     clear HA
     simp only [sleuthref12_byHalves.l1] at H
     by_cases c17 : x10_2 < (l0.length : Int)
     case pos =>
      rw [if_pos c17] at H
      have c17b0 : decide (x10_2 < (l0.length : Int)) = true := decide_eq_true c17
      clear c17
      replace H := ifI_ H; obtain ⟨c18, H⟩ := H
      have c18b0 : decide (0 ≤ x10_2) = true := decide_eq_true c18
      clear c18
      by_cases c19 : ((rd_T64 l0 x10_2).f1) = x5_1
      case pos =>
       rw [if_pos c19] at H
       have c19b0 : (((rd_T64 l0 x10_2).f1) == x5_1) = true := beq_iff_eq.mpr c19
       have c19b1 : (((rd_T64 l0 x10_2).f1) != x5_1) = false := bne_eq_false_iff_eq.mpr c19
       clear c19
       replace H := ifI_ H; obtain ⟨c20, H⟩ := H
       have c20b0 : decide (x10_2 < (l1.length : Int)) = true := decide_eq_true c20
       clear c20
       replace H := ifI_ H; obtain ⟨c21, H⟩ := H
       have c21b0 : decide (x10_2 < (x7_2.length : Int)) = true := decide_eq_true c21
       clear c21
       obtain ⟨y371, hy371⟩ : ∃ y_ : List Bool, y_ = (x7_2.set (x10_2 : Int).toNat ((rd l1 x10_2) != 1)) := ⟨_, rfl⟩
       replace H : (if rdOf false y371 x10_2 = true then (if (rd l1 x10_2) = 0 then (if x10_2 < (x8_2.length : Int) then (sleuthref12_byHalves.l1 k2 l0 l1 x5_1 y371 (x8_2.set (x10_2 : Int).toNat 1) (wrap64 (x9_2 + 1)) (wrap64 (x10_2 + 1))) else (none)) else (sleuthref12_byHalves.l1 k2 l0 l1 x5_1 y371 x8_2 x9_2 (wrap64 (x10_2 + 1)))) else (sleuthref12_byHalves.l1 k2 l0 l1 x5_1 y371 x8_2 x9_2 (wrap64 (x10_2 + 1)))) = some (r1, r2) := by first | (rw [hy371]; with_reducible exact H) | (have H2_ := (Option.bind_some _ _).symm.trans H; rw [hy371]; with_reducible exact H2_) | (have H2_ := (Option.bind_some _ _).symm.trans H; with_reducible exact H2_) | with_reducible exact H | (rw [hy371]; exact H) | exact H
       have Ny371 := a_ hy371
       clear hy371
       obtain ⟨bq23, hbq23⟩ : ∃ b_ : Bool, b_ = (rdOf false y371 x10_2) := ⟨_, rfl⟩
       replace H : (if bq23 = true then (if (rd l1 x10_2) = 0 then (if x10_2 < (x8_2.length : Int) then (sleuthref12_byHalves.l1 k2 l0 l1 x5_1 y371 (x8_2.set (x10_2 : Int).toNat 1) (wrap64 (x9_2 + 1)) (wrap64 (x10_2 + 1))) else (none)) else (sleuthref12_byHalves.l1 k2 l0 l1 x5_1 y371 x8_2 x9_2 (wrap64 (x10_2 + 1)))) else (sleuthref12_byHalves.l1 k2 l0 l1 x5_1 y371 x8_2 x9_2 (wrap64 (x10_2 + 1)))) = some (r1, r2) := by rw [← hbq23] at H; exact H
       have Nbq23 := a_ hbq23
       clear hbq23
       by_cases c24 : bq23 = true
       case neg =>
        replace c24 := Bool.eq_false_iff.mpr c24
        subst c24
        have H1 : (sleuthref12_byHalves.l1 k2 l0 l1 x5_1 y371 x8_2 x9_2 (wrap64 (x10_2 + 1))) = some (r1, r2) := by rw [if_neg (show ¬ (false = true) by decide)] at H; exact H
        clear H
        have H := H1
        clear H1
        have H' := a_ H
        clear H
        have p369 : 0 ≤ (x10_2 : Int) := of_decide_eq_true hA_
        have q369 : x10_2 < (l0.length : Int) := of_decide_eq_true hA_
        obtain ⟨ad369, A369_2, c369_2, e369, hx369_0, hx369_1, hx369_2, hx369_3, hl369_2, hi369_2⟩ := at_T64 HR0.out x10_2 p369 q369
        cases e369
        replace hx369_0 := cl_ HB.out hx369_0
        replace hx369_1 := cl_ HB.out hx369_1
        replace hx369_2 := cl_ HB.out hx369_2
        replace hx369_3 := cl_ HB.out hx369_3
        have HR369_2 := a_ hi369_2
        have HC369_2 := a_ hl369_2
        clear hi369_2 hl369_2
        replace p369 := eq_true p369
        replace q369 := eq_true q369
        have p370 : 0 ≤ (x10_2 : Int) := of_decide_eq_true hA_
        have q370 : x10_2 < (l1.length : Int) := of_decide_eq_true hA_
        obtain ⟨ad370, e370, hx370_0⟩ := Kd.at_int HR1.out x10_2 p370 q370
        obtain rfl : ad358 = ad370 := (by injection e370)
        replace hx370_0 := cl_ HB.out hx370_0
        replace p370 := eq_true p370
        replace q370 := eq_true q370
        have p22 : 0 ≤ (x10_2 : Int) := of_decide_eq_true hA_
        have q22 : (x10_2 : Int) < ((x7_2.length : Int) : Int) := of_decide_eq_true hA_
        obtain ⟨go22, co22, eo22, gb22, gl22, cl22, HG22⟩ := Kd.R_form HO_7.out (by omega)
        (first | cases eo22 | (injection eo22 with ea_ en_ ec_; (first | subst ea_ | (injection ea_ with ea_; subst ea_)); subst ec_; clear en_))
        have GB22 := a_ gb22
        have GG22 := a_ HG22
        clear gb22 gl22 HG22
        obtain ⟨hx22_0, hf22_0⟩ := Kd.R_celln false HO_7.out (x10_2 : Int) p22 q22
        replace p22 := eq_true p22
        replace q22 := eq_true q22
        have HP34 := Kd.R_putg HO_7.out (x10_2 : Int) ((rd l1 x10_2) != 1)
        go_wp2_with (first | ((with_reducible refine gate_store (t := 4) (p := 74) rfl ?_); refine store_event (t := 4) (p := 74) (v := ?vo_w35) (w1 := (wr.setCell ⟨go22, (x10_2 : Int).toNat, none⟩ (.bool ((rd l1 x10_2) != 1)))) ?hg ?ho ?hn ?hr ?_; (case ho => rfl); (case hg => rfl); (case hn => rfl); (case hr => first | (go_simp; done) | (go_simp; rfl)); intro w35 hw; have hg : wr.grownBy w35 (some go22) := (by rw [hw]; exact HP34.2); have hp_ : Kd.R Kd.bool 4 w35 w.heap.size (fun _ => True) (.slice (some ⟨go22, 0, none⟩) x7_2.length co22) y371 := (by rw [hw, Ny371.out]; exact HP34.1); clear HP34; replace HO_8 := a_ (Kd.R_over' (v := (.slice (some ⟨go22, 0, none⟩) x7_2.length co22)) (hR_ HO_8.out) (Kd.R_typed HO_7.out) (by decide) hg); replace BK357 := a_ (blk_grown (hK_ BK357.out) hg (Kd.R_ne HO_7.out BK357.out (by decide))); replace HO_7 := a_ (hp_); replace HB := a_ ((by rw [hw]; exact below_set (HB.out) GB22.out : Below w.heap.size w w35)); clear hg hw hp_; have p372 : 0 ≤ (x10_2 : Int) := of_decide_eq_true hA_; have q372 : x10_2 < (y371.length : Int) := (by have h_ : (x10_2 : Int) < ((x7_2.length : Int) : Int) := of_decide_eq_true hA_; first | (have e_ := (Kd.R_reads' HO_7.out).1; omega) | simpa only [Ny371.out, List.length_set] using h_); have ql372 : ((x10_2 : Int) < ((x7_2.length : Int) : Int)) = True := eq_true (of_decide_eq_true hA_); obtain ⟨ad372, e372, hx372_0⟩ := Kd.at_bool (Kd.R_reads' HO_7.out).2.2 x10_2 p372 q372; (try rw [← Nbq23.out] at hx372_0); obtain rfl : (⟨go22, 0, none⟩ : Addr) = ad372 := (by injection e372); (first | simp only [add_plain] at hx372_0 | simp only [add_at] at hx372_0 | simp only [Addr.add, Nat.zero_add] at hx372_0 | skip); replace p372 := eq_true p372; replace q372 := eq_true q372))
        go_roundg k2
        case measure => have := HK1.out; have := HK2.out; omega
        case rel => exact ⟨(y371), (x8_2), (x9_2), (wrap64 (x10_2 + 1)), hW_, hW_, H', ⟨by have := HK1.out; have := HK2.out; omega⟩, ⟨hR_ HO_7.out⟩, ⟨hR_ HO_8.out⟩, ⟨(hK_ BK357.out)⟩, ⟨hC_⟩⟩
       subst c24
       have H1 : (if (rd l1 x10_2) = 0 then (if x10_2 < (x8_2.length : Int) then (sleuthref12_byHalves.l1 k2 l0 l1 x5_1 y371 (x8_2.set (x10_2 : Int).toNat 1) (wrap64 (x9_2 + 1)) (wrap64 (x10_2 + 1))) else (none)) else (sleuthref12_byHalves.l1 k2 l0 l1 x5_1 y371 x8_2 x9_2 (wrap64 (x10_2 + 1)))) = some (r1, r2) := by rw [if_pos rfl] at H; exact H
       clear H
       have H := H1
       clear H1
       by_cases c25 : (rd l1 x10_2) = 0
       case neg =>
        rw [if_neg c25] at H
        have c25b0 : ((rd l1 x10_2) == 0) = false := beq_eq_false_iff_ne.mpr c25
        have c25b1 : ((rd l1 x10_2) != 0) = true := bne_iff_ne.mpr c25
        have H' := a_ H
        clear H
        have p369 : 0 ≤ (x10_2 : Int) := of_decide_eq_true hA_
        have q369 : x10_2 < (l0.length : Int) := of_decide_eq_true hA_
        obtain ⟨ad369, A369_2, c369_2, e369, hx369_0, hx369_1, hx369_2, hx369_3, hl369_2, hi369_2⟩ := at_T64 HR0.out x10_2 p369 q369
        cases e369
        replace hx369_0 := cl_ HB.out hx369_0
        replace hx369_1 := cl_ HB.out hx369_1
        replace hx369_2 := cl_ HB.out hx369_2
        replace hx369_3 := cl_ HB.out hx369_3
        have HR369_2 := a_ hi369_2
        have HC369_2 := a_ hl369_2
        clear hi369_2 hl369_2
        replace p369 := eq_true p369
        replace q369 := eq_true q369
        have p370 : 0 ≤ (x10_2 : Int) := of_decide_eq_true hA_
        have q370 : x10_2 < (l1.length : Int) := of_decide_eq_true hA_
        obtain ⟨ad370, e370, hx370_0⟩ := Kd.at_int HR1.out x10_2 p370 q370
        obtain rfl : ad358 = ad370 := (by injection e370)
        replace hx370_0 := cl_ HB.out hx370_0
        replace p370 := eq_true p370
        replace q370 := eq_true q370
        have p22 : 0 ≤ (x10_2 : Int) := of_decide_eq_true hA_
        have q22 : (x10_2 : Int) < ((x7_2.length : Int) : Int) := of_decide_eq_true hA_
        obtain ⟨go22, co22, eo22, gb22, gl22, cl22, HG22⟩ := Kd.R_form HO_7.out (by omega)
        (first | cases eo22 | (injection eo22 with ea_ en_ ec_; (first | subst ea_ | (injection ea_ with ea_; subst ea_)); subst ec_; clear en_))
        have GB22 := a_ gb22
        have GG22 := a_ HG22
        clear gb22 gl22 HG22
        obtain ⟨hx22_0, hf22_0⟩ := Kd.R_celln false HO_7.out (x10_2 : Int) p22 q22
        replace p22 := eq_true p22
        replace q22 := eq_true q22
        have HP32 := Kd.R_putg HO_7.out (x10_2 : Int) ((rd l1 x10_2) != 1)
        go_wp2_with (first | ((with_reducible refine gate_store (t := 4) (p := 74) rfl ?_); refine store_event (t := 4) (p := 74) (v := ?vo_w33) (w1 := (wr.setCell ⟨go22, (x10_2 : Int).toNat, none⟩ (.bool ((rd l1 x10_2) != 1)))) ?hg ?ho ?hn ?hr ?_; (case ho => rfl); (case hg => rfl); (case hn => rfl); (case hr => first | (go_simp; done) | (go_simp; rfl)); intro w33 hw; have hg : wr.grownBy w33 (some go22) := (by rw [hw]; exact HP32.2); have hp_ : Kd.R Kd.bool 4 w33 w.heap.size (fun _ => True) (.slice (some ⟨go22, 0, none⟩) x7_2.length co22) y371 := (by rw [hw, Ny371.out]; exact HP32.1); clear HP32; replace HO_8 := a_ (Kd.R_over' (v := (.slice (some ⟨go22, 0, none⟩) x7_2.length co22)) (hR_ HO_8.out) (Kd.R_typed HO_7.out) (by decide) hg); replace BK357 := a_ (blk_grown (hK_ BK357.out) hg (Kd.R_ne HO_7.out BK357.out (by decide))); replace HO_7 := a_ (hp_); replace HB := a_ ((by rw [hw]; exact below_set (HB.out) GB22.out : Below w.heap.size w w33)); clear hg hw hp_; have p372 : 0 ≤ (x10_2 : Int) := of_decide_eq_true hA_; have q372 : x10_2 < (y371.length : Int) := (by have h_ : (x10_2 : Int) < ((x7_2.length : Int) : Int) := of_decide_eq_true hA_; first | (have e_ := (Kd.R_reads' HO_7.out).1; omega) | simpa only [Ny371.out, List.length_set] using h_); have ql372 : ((x10_2 : Int) < ((x7_2.length : Int) : Int)) = True := eq_true (of_decide_eq_true hA_); obtain ⟨ad372, e372, hx372_0⟩ := Kd.at_bool (Kd.R_reads' HO_7.out).2.2 x10_2 p372 q372; (try rw [← Nbq23.out] at hx372_0); obtain rfl : (⟨go22, 0, none⟩ : Addr) = ad372 := (by injection e372); (first | simp only [add_plain] at hx372_0 | simp only [add_at] at hx372_0 | simp only [Addr.add, Nat.zero_add] at hx372_0 | skip); replace p372 := eq_true p372; replace q372 := eq_true q372; have p373 : 0 ≤ (x10_2 : Int) := of_decide_eq_true hA_; have q373 : x10_2 < (l1.length : Int) := of_decide_eq_true hA_; obtain ⟨ad373, e373, hx373_0⟩ := Kd.at_int HR1.out x10_2 p373 q373; obtain rfl : ad358 = ad373 := (by injection e373); replace hx373_0 := cl_ HB.out hx373_0; replace p373 := eq_true p373; replace q373 := eq_true q373))
        go_roundg k2
        case measure => have := HK1.out; have := HK2.out; omega
        case rel => exact ⟨(y371), (x8_2), (x9_2), (wrap64 (x10_2 + 1)), hW_, hW_, H', ⟨by have := HK1.out; have := HK2.out; omega⟩, ⟨hR_ HO_7.out⟩, ⟨hR_ HO_8.out⟩, ⟨(hK_ BK357.out)⟩, ⟨hC_⟩⟩
       rw [if_pos c25] at H
       have c25b0 : ((rd l1 x10_2) == 0) = true := beq_iff_eq.mpr c25
       have c25b1 : ((rd l1 x10_2) != 0) = false := bne_eq_false_iff_eq.mpr c25
       clear c25
       replace H := ifI_ H; obtain ⟨c26, H⟩ := H
       have c26b0 : decide (x10_2 < (x8_2.length : Int)) = true := decide_eq_true c26
       clear c26
       obtain ⟨y374, hy374⟩ : ∃ y_ : List Int, y_ = (x8_2.set (x10_2 : Int).toNat 1) := ⟨_, rfl⟩
       replace H : (sleuthref12_byHalves.l1 k2 l0 l1 x5_1 y371 y374 (wrap64 (x9_2 + 1)) (wrap64 (x10_2 + 1))) = some (r1, r2) := by first | (rw [hy374]; with_reducible exact H) | (have H2_ := (Option.bind_some _ _).symm.trans H; rw [hy374]; with_reducible exact H2_) | (have H2_ := (Option.bind_some _ _).symm.trans H; with_reducible exact H2_) | with_reducible exact H | (rw [hy374]; exact H) | exact H
       have Ny374 := a_ hy374
       clear hy374
       have H' := a_ H
       clear H
       have p369 : 0 ≤ (x10_2 : Int) := of_decide_eq_true hA_
       have q369 : x10_2 < (l0.length : Int) := of_decide_eq_true hA_
       obtain ⟨ad369, A369_2, c369_2, e369, hx369_0, hx369_1, hx369_2, hx369_3, hl369_2, hi369_2⟩ := at_T64 HR0.out x10_2 p369 q369
       cases e369
       replace hx369_0 := cl_ HB.out hx369_0
       replace hx369_1 := cl_ HB.out hx369_1
       replace hx369_2 := cl_ HB.out hx369_2
       replace hx369_3 := cl_ HB.out hx369_3
       have HR369_2 := a_ hi369_2
       have HC369_2 := a_ hl369_2
       clear hi369_2 hl369_2
       replace p369 := eq_true p369
       replace q369 := eq_true q369
       have p370 : 0 ≤ (x10_2 : Int) := of_decide_eq_true hA_
       have q370 : x10_2 < (l1.length : Int) := of_decide_eq_true hA_
       obtain ⟨ad370, e370, hx370_0⟩ := Kd.at_int HR1.out x10_2 p370 q370
       obtain rfl : ad358 = ad370 := (by injection e370)
       replace hx370_0 := cl_ HB.out hx370_0
       replace p370 := eq_true p370
       replace q370 := eq_true q370
       have p22 : 0 ≤ (x10_2 : Int) := of_decide_eq_true hA_
       have q22 : (x10_2 : Int) < ((x7_2.length : Int) : Int) := of_decide_eq_true hA_
       obtain ⟨go22, co22, eo22, gb22, gl22, cl22, HG22⟩ := Kd.R_form HO_7.out (by omega)
       (first | cases eo22 | (injection eo22 with ea_ en_ ec_; (first | subst ea_ | (injection ea_ with ea_; subst ea_)); subst ec_; clear en_))
       have GB22 := a_ gb22
       have GG22 := a_ HG22
       clear gb22 gl22 HG22
       obtain ⟨hx22_0, hf22_0⟩ := Kd.R_celln false HO_7.out (x10_2 : Int) p22 q22
       replace p22 := eq_true p22
       replace q22 := eq_true q22
       have HP28 := Kd.R_putg HO_7.out (x10_2 : Int) ((rd l1 x10_2) != 1)
       go_wp2_with (first | ((with_reducible refine gate_store (t := 4) (p := 74) rfl ?_); refine store_event (t := 4) (p := 74) (v := ?vo_w29) (w1 := (wr.setCell ⟨go22, (x10_2 : Int).toNat, none⟩ (.bool ((rd l1 x10_2) != 1)))) ?hg ?ho ?hn ?hr ?_; (case ho => rfl); (case hg => rfl); (case hn => rfl); (case hr => first | (go_simp; done) | (go_simp; rfl)); intro w29 hw; have hg : wr.grownBy w29 (some go22) := (by rw [hw]; exact HP28.2); have hp_ : Kd.R Kd.bool 4 w29 w.heap.size (fun _ => True) (.slice (some ⟨go22, 0, none⟩) x7_2.length co22) y371 := (by rw [hw, Ny371.out]; exact HP28.1); clear HP28; replace HO_8 := a_ (Kd.R_over' (v := (.slice (some ⟨go22, 0, none⟩) x7_2.length co22)) (hR_ HO_8.out) (Kd.R_typed HO_7.out) (by decide) hg); replace BK357 := a_ (blk_grown (hK_ BK357.out) hg (Kd.R_ne HO_7.out BK357.out (by decide))); replace HO_7 := a_ (hp_); replace HB := a_ ((by rw [hw]; exact below_set (HB.out) GB22.out : Below w.heap.size w w29)); clear hg hw hp_; have p372 : 0 ≤ (x10_2 : Int) := of_decide_eq_true hA_; have q372 : x10_2 < (y371.length : Int) := (by have h_ : (x10_2 : Int) < ((x7_2.length : Int) : Int) := of_decide_eq_true hA_; first | (have e_ := (Kd.R_reads' HO_7.out).1; omega) | simpa only [Ny371.out, List.length_set] using h_); have ql372 : ((x10_2 : Int) < ((x7_2.length : Int) : Int)) = True := eq_true (of_decide_eq_true hA_); obtain ⟨ad372, e372, hx372_0⟩ := Kd.at_bool (Kd.R_reads' HO_7.out).2.2 x10_2 p372 q372; (try rw [← Nbq23.out] at hx372_0); obtain rfl : (⟨go22, 0, none⟩ : Addr) = ad372 := (by injection e372); (first | simp only [add_plain] at hx372_0 | simp only [add_at] at hx372_0 | simp only [Addr.add, Nat.zero_add] at hx372_0 | skip); replace p372 := eq_true p372; replace q372 := eq_true q372; have p373 : 0 ≤ (x10_2 : Int) := of_decide_eq_true hA_; have q373 : x10_2 < (l1.length : Int) := of_decide_eq_true hA_; obtain ⟨ad373, e373, hx373_0⟩ := Kd.at_int HR1.out x10_2 p373 q373; obtain rfl : ad358 = ad373 := (by injection e373); replace hx373_0 := cl_ HB.out hx373_0; replace p373 := eq_true p373; replace q373 := eq_true q373; have p27 : 0 ≤ (x10_2 : Int) := of_decide_eq_true hA_; have q27 : (x10_2 : Int) < ((x8_2.length : Int) : Int) := of_decide_eq_true hA_; obtain ⟨go27, co27, eo27, gb27, gl27, cl27, HG27⟩ := Kd.R_form HO_8.out (by omega); (first | cases eo27 | (injection eo27 with ea_ en_ ec_; (first | subst ea_ | (injection ea_ with ea_; subst ea_)); subst ec_; clear en_)); have GB27 := a_ gb27; have GG27 := a_ HG27; clear gb27 gl27 HG27; obtain ⟨hx27_0, hf27_0⟩ := Kd.R_celln 0 HO_8.out (x10_2 : Int) p27 q27; replace p27 := eq_true p27; replace q27 := eq_true q27; obtain ⟨hy30_, hz30_⟩ := Kd.R_celln 0 HO_8.out (x10_2 : Int) (of_decide_eq_true hA_) (of_decide_eq_true hA_); have HP30 := Kd.R_putg HO_8.out (x10_2 : Int) 1) | ((with_reducible refine gate_store (t := 3) (p := 88) rfl ?_); refine store_event (t := 3) (p := 88) (v := ?vo_w31) (w1 := (w29.setCell ⟨go27, (x10_2 : Int).toNat, none⟩ (.int .i64 1))) ?hg ?ho ?hn ?hr ?_; (case ho => rfl); (case hg => rfl); (case hn => rfl); (case hr => first | (go_simp; done) | (go_simp; rfl)); intro w31 hw; have hg : w29.grownBy w31 (some go27) := (by rw [hw]; exact HP30.2); have hp_ : Kd.R (Kd.int .i64) 3 w31 w.heap.size (fun _ => True) (.slice (some ⟨go27, 0, none⟩) x8_2.length co27) y374 := (by rw [hw, Ny374.out]; exact HP30.1); clear HP30; replace HO_7 := a_ (Kd.R_over' (v := (.slice (some ⟨go27, 0, none⟩) x8_2.length co27)) (hR_ HO_7.out) (Kd.R_typed HO_8.out) (by decide) hg); replace BK357 := a_ (blk_grown (hK_ BK357.out) hg (Kd.R_ne HO_8.out BK357.out (by decide))); replace HO_8 := a_ (hp_); replace HB := a_ ((by rw [hw]; exact below_set (HB.out) GB27.out : Below w.heap.size w w31)); clear hg hw hp_))
       go_roundg k2
       case measure => have := HK1.out; have := HK2.out; omega
       case rel => exact ⟨(y371), (y374), (wrap64 (x9_2 + 1)), (wrap64 (x10_2 + 1)), hW_, hW_, H', ⟨by have := HK1.out; have := HK2.out; omega⟩, ⟨hR_ HO_7.out⟩, ⟨hR_ HO_8.out⟩, ⟨(hK_ BK357.out)⟩, ⟨hC_⟩⟩
      rw [if_neg c19] at H
      have c19b0 : (((rd_T64 l0 x10_2).f1) == x5_1) = false := beq_eq_false_iff_ne.mpr c19
      have c19b1 : (((rd_T64 l0 x10_2).f1) != x5_1) = true := bne_iff_ne.mpr c19
      replace H := ifI_ H; obtain ⟨c36, H⟩ := H
      have c36b0 : decide (0 ≤ ((rd_T64 l0 x10_2).f1)) = true := decide_eq_true c36
      clear c36
      replace H := ifI_ H; obtain ⟨c37, H⟩ := H
      have c37b0 : decide (((rd_T64 l0 x10_2).f1) < (x7_2.length : Int)) = true := decide_eq_true c37
      clear c37
      obtain ⟨bq38, hbq38⟩ : ∃ b_ : Bool, b_ = (rdOf false x7_2 ((rd_T64 l0 x10_2).f1)) := ⟨_, rfl⟩
      replace H : (if bq38 = true then (if x10_2 < (l1.length : Int) then (if x10_2 < (x7_2.length : Int) then ((some (x7_2.set (x10_2 : Int).toNat ((rd l1 x10_2) != 1) : List Bool)).bind fun y377 => (if rdOf false y377 x10_2 = true then (if (rd l1 x10_2) = 0 then (if x10_2 < (x8_2.length : Int) then (sleuthref12_byHalves.l1 k2 l0 l1 x5_1 y377 (x8_2.set (x10_2 : Int).toNat 1) (wrap64 (x9_2 + 1)) (wrap64 (x10_2 + 1))) else (none)) else (sleuthref12_byHalves.l1 k2 l0 l1 x5_1 y377 x8_2 x9_2 (wrap64 (x10_2 + 1)))) else (sleuthref12_byHalves.l1 k2 l0 l1 x5_1 y377 x8_2 x9_2 (wrap64 (x10_2 + 1))))) else (none)) else (none)) else (if x10_2 < (x7_2.length : Int) then ((some (x7_2.set (x10_2 : Int).toNat false : List Bool)).bind fun y381 => (if rdOf false y381 x10_2 = true then (if x10_2 < (l1.length : Int) then (if (rd l1 x10_2) = 0 then (if x10_2 < (x8_2.length : Int) then (sleuthref12_byHalves.l1 k2 l0 l1 x5_1 y381 (x8_2.set (x10_2 : Int).toNat 1) (wrap64 (x9_2 + 1)) (wrap64 (x10_2 + 1))) else (none)) else (sleuthref12_byHalves.l1 k2 l0 l1 x5_1 y381 x8_2 x9_2 (wrap64 (x10_2 + 1)))) else (none)) else (sleuthref12_byHalves.l1 k2 l0 l1 x5_1 y381 x8_2 x9_2 (wrap64 (x10_2 + 1))))) else (none))) = some (r1, r2) := by rw [← hbq38] at H; exact H
      have Nbq38 := a_ hbq38
      clear hbq38
      by_cases c39 : bq38 = true
      case neg =>
       replace c39 := Bool.eq_false_iff.mpr c39
       subst c39
       have H1 : (if x10_2 < (x7_2.length : Int) then ((some (x7_2.set (x10_2 : Int).toNat false : List Bool)).bind fun y381 => (if rdOf false y381 x10_2 = true then (if x10_2 < (l1.length : Int) then (if (rd l1 x10_2) = 0 then (if x10_2 < (x8_2.length : Int) then (sleuthref12_byHalves.l1 k2 l0 l1 x5_1 y381 (x8_2.set (x10_2 : Int).toNat 1) (wrap64 (x9_2 + 1)) (wrap64 (x10_2 + 1))) else (none)) else (sleuthref12_byHalves.l1 k2 l0 l1 x5_1 y381 x8_2 x9_2 (wrap64 (x10_2 + 1)))) else (none)) else (sleuthref12_byHalves.l1 k2 l0 l1 x5_1 y381 x8_2 x9_2 (wrap64 (x10_2 + 1))))) else (none)) = some (r1, r2) := by rw [if_neg (show ¬ (false = true) by decide)] at H; exact H
       clear H
       have H := H1
       clear H1
       replace H := ifI_ H; obtain ⟨c59, H⟩ := H
       have c59b0 : decide (x10_2 < (x7_2.length : Int)) = true := decide_eq_true c59
       clear c59
       obtain ⟨y381, hy381⟩ : ∃ y_ : List Bool, y_ = (x7_2.set (x10_2 : Int).toNat false) := ⟨_, rfl⟩
       replace H : (if rdOf false y381 x10_2 = true then (if x10_2 < (l1.length : Int) then (if (rd l1 x10_2) = 0 then (if x10_2 < (x8_2.length : Int) then (sleuthref12_byHalves.l1 k2 l0 l1 x5_1 y381 (x8_2.set (x10_2 : Int).toNat 1) (wrap64 (x9_2 + 1)) (wrap64 (x10_2 + 1))) else (none)) else (sleuthref12_byHalves.l1 k2 l0 l1 x5_1 y381 x8_2 x9_2 (wrap64 (x10_2 + 1)))) else (none)) else (sleuthref12_byHalves.l1 k2 l0 l1 x5_1 y381 x8_2 x9_2 (wrap64 (x10_2 + 1)))) = some (r1, r2) := by first | (rw [hy381]; with_reducible exact H) | (have H2_ := (Option.bind_some _ _).symm.trans H; rw [hy381]; with_reducible exact H2_) | (have H2_ := (Option.bind_some _ _).symm.trans H; with_reducible exact H2_) | with_reducible exact H | (rw [hy381]; exact H) | exact H
       have Ny381 := a_ hy381
       clear hy381
       obtain ⟨bq61, hbq61⟩ : ∃ b_ : Bool, b_ = (rdOf false y381 x10_2) := ⟨_, rfl⟩
       replace H : (if bq61 = true then (if x10_2 < (l1.length : Int) then (if (rd l1 x10_2) = 0 then (if x10_2 < (x8_2.length : Int) then (sleuthref12_byHalves.l1 k2 l0 l1 x5_1 y381 (x8_2.set (x10_2 : Int).toNat 1) (wrap64 (x9_2 + 1)) (wrap64 (x10_2 + 1))) else (none)) else (sleuthref12_byHalves.l1 k2 l0 l1 x5_1 y381 x8_2 x9_2 (wrap64 (x10_2 + 1)))) else (none)) else (sleuthref12_byHalves.l1 k2 l0 l1 x5_1 y381 x8_2 x9_2 (wrap64 (x10_2 + 1)))) = some (r1, r2) := by rw [← hbq61] at H; exact H
       have Nbq61 := a_ hbq61
       clear hbq61
       by_cases c62 : bq61 = true
       case neg =>
        replace c62 := Bool.eq_false_iff.mpr c62
        subst c62
        have H1 : (sleuthref12_byHalves.l1 k2 l0 l1 x5_1 y381 x8_2 x9_2 (wrap64 (x10_2 + 1))) = some (r1, r2) := by rw [if_neg (show ¬ (false = true) by decide)] at H; exact H
        clear H
        have H := H1
        clear H1
        have H' := a_ H
        clear H
        have p369 : 0 ≤ (x10_2 : Int) := of_decide_eq_true hA_
        have q369 : x10_2 < (l0.length : Int) := of_decide_eq_true hA_
        obtain ⟨ad369, A369_2, c369_2, e369, hx369_0, hx369_1, hx369_2, hx369_3, hl369_2, hi369_2⟩ := at_T64 HR0.out x10_2 p369 q369
        cases e369
        replace hx369_0 := cl_ HB.out hx369_0
        replace hx369_1 := cl_ HB.out hx369_1
        replace hx369_2 := cl_ HB.out hx369_2
        replace hx369_3 := cl_ HB.out hx369_3
        have HR369_2 := a_ hi369_2
        have HC369_2 := a_ hl369_2
        clear hi369_2 hl369_2
        replace p369 := eq_true p369
        replace q369 := eq_true q369
        obtain ⟨Ao75, co75, eo75⟩ := Kd.R_slice HO_7.out
        subst eo75
        have p375 : 0 ≤ (((rd_T64 l0 x10_2).f1) : Int) := of_decide_eq_true hA_
        have q375 : ((rd_T64 l0 x10_2).f1) < (x7_2.length : Int) := of_decide_eq_true hA_
        obtain ⟨ad375, e375, hx375_0⟩ := Kd.at_bool (Kd.R_reads' HO_7.out).2.2 ((rd_T64 l0 x10_2).f1) p375 q375
        (try rw [← Nbq38.out] at hx375_0)
        (try rw [← Nbq61.out] at hx375_0)
        cases e375
        replace p375 := eq_true p375
        replace q375 := eq_true q375
        have p60 : 0 ≤ (x10_2 : Int) := of_decide_eq_true hA_
        have q60 : (x10_2 : Int) < ((x7_2.length : Int) : Int) := of_decide_eq_true hA_
        obtain ⟨go60, co60, eo60, gb60, gl60, cl60, HG60⟩ := Kd.R_form HO_7.out (by omega)
        (first | cases eo60 | (injection eo60 with ea_ en_ ec_; (first | subst ea_ | (injection ea_ with ea_; subst ea_)); subst ec_; clear en_))
        have GB60 := a_ gb60
        have GG60 := a_ HG60
        clear gb60 gl60 HG60
        (first | simp only [add_plain] at hx375_0 | skip)
        obtain ⟨hx60_0, hf60_0⟩ := Kd.R_celln false HO_7.out (x10_2 : Int) p60 q60
        replace p60 := eq_true p60
        replace q60 := eq_true q60
        have HP76 := Kd.R_putg HO_7.out (x10_2 : Int) false
        go_wp2_with (first | ((with_reducible refine gate_store (t := 4) (p := 74) rfl ?_); refine store_event (t := 4) (p := 74) (v := ?vo_w77) (w1 := (wr.setCell ⟨go60, (x10_2 : Int).toNat, none⟩ (.bool false))) ?hg ?ho ?hn ?hr ?_; (case ho => rfl); (case hg => rfl); (case hn => rfl); (case hr => first | (go_simp; done) | (go_simp; rfl)); intro w77 hw; have hg : wr.grownBy w77 (some go60) := (by rw [hw]; exact HP76.2); have hp_ : Kd.R Kd.bool 4 w77 w.heap.size (fun _ => True) (.slice (some ⟨go60, 0, none⟩) x7_2.length co75) y381 := (by rw [hw, Ny381.out]; exact HP76.1); clear HP76; replace HO_8 := a_ (Kd.R_over' (v := (.slice (some ⟨go60, 0, none⟩) x7_2.length co75)) (hR_ HO_8.out) (Kd.R_typed HO_7.out) (by decide) hg); replace BK357 := a_ (blk_grown (hK_ BK357.out) hg (Kd.R_ne HO_7.out BK357.out (by decide))); replace HO_7 := a_ (hp_); replace HB := a_ ((by rw [hw]; exact below_set (HB.out) GB60.out : Below w.heap.size w w77)); clear hg hw hp_; have p382 : 0 ≤ (x10_2 : Int) := of_decide_eq_true hA_; have q382 : x10_2 < (y381.length : Int) := (by have h_ : (x10_2 : Int) < ((x7_2.length : Int) : Int) := of_decide_eq_true hA_; first | (have e_ := (Kd.R_reads' HO_7.out).1; omega) | simpa only [Ny381.out, List.length_set] using h_); have ql382 : ((x10_2 : Int) < ((x7_2.length : Int) : Int)) = True := eq_true (of_decide_eq_true hA_); obtain ⟨ad382, e382, hx382_0⟩ := Kd.at_bool (Kd.R_reads' HO_7.out).2.2 x10_2 p382 q382; (try rw [← Nbq38.out] at hx382_0); (try rw [← Nbq61.out] at hx382_0); obtain rfl : (⟨go60, 0, none⟩ : Addr) = ad382 := (by injection e382); (first | simp only [add_plain] at hx382_0 | simp only [add_at] at hx382_0 | simp only [Addr.add, Nat.zero_add] at hx382_0 | skip); replace p382 := eq_true p382; replace q382 := eq_true q382))
        go_roundg k2
        case measure => have := HK1.out; have := HK2.out; omega
        case rel => exact ⟨(y381), (x8_2), (x9_2), (wrap64 (x10_2 + 1)), hW_, hW_, H', ⟨by have := HK1.out; have := HK2.out; omega⟩, ⟨hR_ HO_7.out⟩, ⟨hR_ HO_8.out⟩, ⟨(hK_ BK357.out)⟩, ⟨hC_⟩⟩
       subst c62
       have H1 : (if x10_2 < (l1.length : Int) then (if (rd l1 x10_2) = 0 then (if x10_2 < (x8_2.length : Int) then (sleuthref12_byHalves.l1 k2 l0 l1 x5_1 y381 (x8_2.set (x10_2 : Int).toNat 1) (wrap64 (x9_2 + 1)) (wrap64 (x10_2 + 1))) else (none)) else (sleuthref12_byHalves.l1 k2 l0 l1 x5_1 y381 x8_2 x9_2 (wrap64 (x10_2 + 1)))) else (none)) = some (r1, r2) := by rw [if_pos rfl] at H; exact H
       clear H
       have H := H1
       clear H1
       replace H := ifI_ H; obtain ⟨c63, H⟩ := H
       have c63b0 : decide (x10_2 < (l1.length : Int)) = true := decide_eq_true c63
       clear c63
       by_cases c64 : (rd l1 x10_2) = 0
       case neg =>
        rw [if_neg c64] at H
        have c64b0 : ((rd l1 x10_2) == 0) = false := beq_eq_false_iff_ne.mpr c64
        have c64b1 : ((rd l1 x10_2) != 0) = true := bne_iff_ne.mpr c64
        have H' := a_ H
        clear H
        have p369 : 0 ≤ (x10_2 : Int) := of_decide_eq_true hA_
        have q369 : x10_2 < (l0.length : Int) := of_decide_eq_true hA_
        obtain ⟨ad369, A369_2, c369_2, e369, hx369_0, hx369_1, hx369_2, hx369_3, hl369_2, hi369_2⟩ := at_T64 HR0.out x10_2 p369 q369
        cases e369
        replace hx369_0 := cl_ HB.out hx369_0
        replace hx369_1 := cl_ HB.out hx369_1
        replace hx369_2 := cl_ HB.out hx369_2
        replace hx369_3 := cl_ HB.out hx369_3
        have HR369_2 := a_ hi369_2
        have HC369_2 := a_ hl369_2
        clear hi369_2 hl369_2
        replace p369 := eq_true p369
        replace q369 := eq_true q369
        obtain ⟨Ao72, co72, eo72⟩ := Kd.R_slice HO_7.out
        subst eo72
        have p375 : 0 ≤ (((rd_T64 l0 x10_2).f1) : Int) := of_decide_eq_true hA_
        have q375 : ((rd_T64 l0 x10_2).f1) < (x7_2.length : Int) := of_decide_eq_true hA_
        obtain ⟨ad375, e375, hx375_0⟩ := Kd.at_bool (Kd.R_reads' HO_7.out).2.2 ((rd_T64 l0 x10_2).f1) p375 q375
        (try rw [← Nbq38.out] at hx375_0)
        (try rw [← Nbq61.out] at hx375_0)
        cases e375
        replace p375 := eq_true p375
        replace q375 := eq_true q375
        have p60 : 0 ≤ (x10_2 : Int) := of_decide_eq_true hA_
        have q60 : (x10_2 : Int) < ((x7_2.length : Int) : Int) := of_decide_eq_true hA_
        obtain ⟨go60, co60, eo60, gb60, gl60, cl60, HG60⟩ := Kd.R_form HO_7.out (by omega)
        (first | cases eo60 | (injection eo60 with ea_ en_ ec_; (first | subst ea_ | (injection ea_ with ea_; subst ea_)); subst ec_; clear en_))
        have GB60 := a_ gb60
        have GG60 := a_ HG60
        clear gb60 gl60 HG60
        (first | simp only [add_plain] at hx375_0 | skip)
        obtain ⟨hx60_0, hf60_0⟩ := Kd.R_celln false HO_7.out (x10_2 : Int) p60 q60
        replace p60 := eq_true p60
        replace q60 := eq_true q60
        have HP73 := Kd.R_putg HO_7.out (x10_2 : Int) false
        go_wp2_with (first | ((with_reducible refine gate_store (t := 4) (p := 74) rfl ?_); refine store_event (t := 4) (p := 74) (v := ?vo_w74) (w1 := (wr.setCell ⟨go60, (x10_2 : Int).toNat, none⟩ (.bool false))) ?hg ?ho ?hn ?hr ?_; (case ho => rfl); (case hg => rfl); (case hn => rfl); (case hr => first | (go_simp; done) | (go_simp; rfl)); intro w74 hw; have hg : wr.grownBy w74 (some go60) := (by rw [hw]; exact HP73.2); have hp_ : Kd.R Kd.bool 4 w74 w.heap.size (fun _ => True) (.slice (some ⟨go60, 0, none⟩) x7_2.length co72) y381 := (by rw [hw, Ny381.out]; exact HP73.1); clear HP73; replace HO_8 := a_ (Kd.R_over' (v := (.slice (some ⟨go60, 0, none⟩) x7_2.length co72)) (hR_ HO_8.out) (Kd.R_typed HO_7.out) (by decide) hg); replace BK357 := a_ (blk_grown (hK_ BK357.out) hg (Kd.R_ne HO_7.out BK357.out (by decide))); replace HO_7 := a_ (hp_); replace HB := a_ ((by rw [hw]; exact below_set (HB.out) GB60.out : Below w.heap.size w w74)); clear hg hw hp_; have p382 : 0 ≤ (x10_2 : Int) := of_decide_eq_true hA_; have q382 : x10_2 < (y381.length : Int) := (by have h_ : (x10_2 : Int) < ((x7_2.length : Int) : Int) := of_decide_eq_true hA_; first | (have e_ := (Kd.R_reads' HO_7.out).1; omega) | simpa only [Ny381.out, List.length_set] using h_); have ql382 : ((x10_2 : Int) < ((x7_2.length : Int) : Int)) = True := eq_true (of_decide_eq_true hA_); obtain ⟨ad382, e382, hx382_0⟩ := Kd.at_bool (Kd.R_reads' HO_7.out).2.2 x10_2 p382 q382; (try rw [← Nbq38.out] at hx382_0); (try rw [← Nbq61.out] at hx382_0); obtain rfl : (⟨go60, 0, none⟩ : Addr) = ad382 := (by injection e382); (first | simp only [add_plain] at hx382_0 | simp only [add_at] at hx382_0 | simp only [Addr.add, Nat.zero_add] at hx382_0 | skip); replace p382 := eq_true p382; replace q382 := eq_true q382; have p383 : 0 ≤ (x10_2 : Int) := of_decide_eq_true hA_; have q383 : x10_2 < (l1.length : Int) := of_decide_eq_true hA_; obtain ⟨ad383, e383, hx383_0⟩ := Kd.at_int HR1.out x10_2 p383 q383; obtain rfl : ad358 = ad383 := (by injection e383); replace hx383_0 := cl_ HB.out hx383_0; replace p383 := eq_true p383; replace q383 := eq_true q383))
        go_roundg k2
        case measure => have := HK1.out; have := HK2.out; omega
        case rel => exact ⟨(y381), (x8_2), (x9_2), (wrap64 (x10_2 + 1)), hW_, hW_, H', ⟨by have := HK1.out; have := HK2.out; omega⟩, ⟨hR_ HO_7.out⟩, ⟨hR_ HO_8.out⟩, ⟨(hK_ BK357.out)⟩, ⟨hC_⟩⟩
       rw [if_pos c64] at H
       have c64b0 : ((rd l1 x10_2) == 0) = true := beq_iff_eq.mpr c64
       have c64b1 : ((rd l1 x10_2) != 0) = false := bne_eq_false_iff_eq.mpr c64
       clear c64
       replace H := ifI_ H; obtain ⟨c65, H⟩ := H
       have c65b0 : decide (x10_2 < (x8_2.length : Int)) = true := decide_eq_true c65
       clear c65
       obtain ⟨y384, hy384⟩ : ∃ y_ : List Int, y_ = (x8_2.set (x10_2 : Int).toNat 1) := ⟨_, rfl⟩
       replace H : (sleuthref12_byHalves.l1 k2 l0 l1 x5_1 y381 y384 (wrap64 (x9_2 + 1)) (wrap64 (x10_2 + 1))) = some (r1, r2) := by first | (rw [hy384]; with_reducible exact H) | (have H2_ := (Option.bind_some _ _).symm.trans H; rw [hy384]; with_reducible exact H2_) | (have H2_ := (Option.bind_some _ _).symm.trans H; with_reducible exact H2_) | with_reducible exact H | (rw [hy384]; exact H) | exact H
       have Ny384 := a_ hy384
       clear hy384
       have H' := a_ H
       clear H
       have p369 : 0 ≤ (x10_2 : Int) := of_decide_eq_true hA_
       have q369 : x10_2 < (l0.length : Int) := of_decide_eq_true hA_
       obtain ⟨ad369, A369_2, c369_2, e369, hx369_0, hx369_1, hx369_2, hx369_3, hl369_2, hi369_2⟩ := at_T64 HR0.out x10_2 p369 q369
       cases e369
       replace hx369_0 := cl_ HB.out hx369_0
       replace hx369_1 := cl_ HB.out hx369_1
       replace hx369_2 := cl_ HB.out hx369_2
       replace hx369_3 := cl_ HB.out hx369_3
       have HR369_2 := a_ hi369_2
       have HC369_2 := a_ hl369_2
       clear hi369_2 hl369_2
       replace p369 := eq_true p369
       replace q369 := eq_true q369
       obtain ⟨Ao67, co67, eo67⟩ := Kd.R_slice HO_7.out
       subst eo67
       have p375 : 0 ≤ (((rd_T64 l0 x10_2).f1) : Int) := of_decide_eq_true hA_
       have q375 : ((rd_T64 l0 x10_2).f1) < (x7_2.length : Int) := of_decide_eq_true hA_
       obtain ⟨ad375, e375, hx375_0⟩ := Kd.at_bool (Kd.R_reads' HO_7.out).2.2 ((rd_T64 l0 x10_2).f1) p375 q375
       (try rw [← Nbq38.out] at hx375_0)
       (try rw [← Nbq61.out] at hx375_0)
       cases e375
       replace p375 := eq_true p375
       replace q375 := eq_true q375
       have p60 : 0 ≤ (x10_2 : Int) := of_decide_eq_true hA_
       have q60 : (x10_2 : Int) < ((x7_2.length : Int) : Int) := of_decide_eq_true hA_
       obtain ⟨go60, co60, eo60, gb60, gl60, cl60, HG60⟩ := Kd.R_form HO_7.out (by omega)
       (first | cases eo60 | (injection eo60 with ea_ en_ ec_; (first | subst ea_ | (injection ea_ with ea_; subst ea_)); subst ec_; clear en_))
       have GB60 := a_ gb60
       have GG60 := a_ HG60
       clear gb60 gl60 HG60
       (first | simp only [add_plain] at hx375_0 | skip)
       obtain ⟨hx60_0, hf60_0⟩ := Kd.R_celln false HO_7.out (x10_2 : Int) p60 q60
       replace p60 := eq_true p60
       replace q60 := eq_true q60
       have HP68 := Kd.R_putg HO_7.out (x10_2 : Int) false
       go_wp2_with (first | ((with_reducible refine gate_store (t := 4) (p := 74) rfl ?_); refine store_event (t := 4) (p := 74) (v := ?vo_w69) (w1 := (wr.setCell ⟨go60, (x10_2 : Int).toNat, none⟩ (.bool false))) ?hg ?ho ?hn ?hr ?_; (case ho => rfl); (case hg => rfl); (case hn => rfl); (case hr => first | (go_simp; done) | (go_simp; rfl)); intro w69 hw; have hg : wr.grownBy w69 (some go60) := (by rw [hw]; exact HP68.2); have hp_ : Kd.R Kd.bool 4 w69 w.heap.size (fun _ => True) (.slice (some ⟨go60, 0, none⟩) x7_2.length co67) y381 := (by rw [hw, Ny381.out]; exact HP68.1); clear HP68; replace HO_8 := a_ (Kd.R_over' (v := (.slice (some ⟨go60, 0, none⟩) x7_2.length co67)) (hR_ HO_8.out) (Kd.R_typed HO_7.out) (by decide) hg); replace BK357 := a_ (blk_grown (hK_ BK357.out) hg (Kd.R_ne HO_7.out BK357.out (by decide))); replace HO_7 := a_ (hp_); replace HB := a_ ((by rw [hw]; exact below_set (HB.out) GB60.out : Below w.heap.size w w69)); clear hg hw hp_; have p382 : 0 ≤ (x10_2 : Int) := of_decide_eq_true hA_; have q382 : x10_2 < (y381.length : Int) := (by have h_ : (x10_2 : Int) < ((x7_2.length : Int) : Int) := of_decide_eq_true hA_; first | (have e_ := (Kd.R_reads' HO_7.out).1; omega) | simpa only [Ny381.out, List.length_set] using h_); have ql382 : ((x10_2 : Int) < ((x7_2.length : Int) : Int)) = True := eq_true (of_decide_eq_true hA_); obtain ⟨ad382, e382, hx382_0⟩ := Kd.at_bool (Kd.R_reads' HO_7.out).2.2 x10_2 p382 q382; (try rw [← Nbq38.out] at hx382_0); (try rw [← Nbq61.out] at hx382_0); obtain rfl : (⟨go60, 0, none⟩ : Addr) = ad382 := (by injection e382); (first | simp only [add_plain] at hx382_0 | simp only [add_at] at hx382_0 | simp only [Addr.add, Nat.zero_add] at hx382_0 | skip); replace p382 := eq_true p382; replace q382 := eq_true q382; have p383 : 0 ≤ (x10_2 : Int) := of_decide_eq_true hA_; have q383 : x10_2 < (l1.length : Int) := of_decide_eq_true hA_; obtain ⟨ad383, e383, hx383_0⟩ := Kd.at_int HR1.out x10_2 p383 q383; obtain rfl : ad358 = ad383 := (by injection e383); replace hx383_0 := cl_ HB.out hx383_0; replace p383 := eq_true p383; replace q383 := eq_true q383; have p66 : 0 ≤ (x10_2 : Int) := of_decide_eq_true hA_; have q66 : (x10_2 : Int) < ((x8_2.length : Int) : Int) := of_decide_eq_true hA_; obtain ⟨go66, co66, eo66, gb66, gl66, cl66, HG66⟩ := Kd.R_form HO_8.out (by omega); (first | cases eo66 | (injection eo66 with ea_ en_ ec_; (first | subst ea_ | (injection ea_ with ea_; subst ea_)); subst ec_; clear en_)); have GB66 := a_ gb66; have GG66 := a_ HG66; clear gb66 gl66 HG66; obtain ⟨hx66_0, hf66_0⟩ := Kd.R_celln 0 HO_8.out (x10_2 : Int) p66 q66; replace p66 := eq_true p66; replace q66 := eq_true q66; obtain ⟨hy70_, hz70_⟩ := Kd.R_celln 0 HO_8.out (x10_2 : Int) (of_decide_eq_true hA_) (of_decide_eq_true hA_); have HP70 := Kd.R_putg HO_8.out (x10_2 : Int) 1) | ((with_reducible refine gate_store (t := 3) (p := 88) rfl ?_); refine store_event (t := 3) (p := 88) (v := ?vo_w71) (w1 := (w69.setCell ⟨go66, (x10_2 : Int).toNat, none⟩ (.int .i64 1))) ?hg ?ho ?hn ?hr ?_; (case ho => rfl); (case hg => rfl); (case hn => rfl); (case hr => first | (go_simp; done) | (go_simp; rfl)); intro w71 hw; have hg : w69.grownBy w71 (some go66) := (by rw [hw]; exact HP70.2); have hp_ : Kd.R (Kd.int .i64) 3 w71 w.heap.size (fun _ => True) (.slice (some ⟨go66, 0, none⟩) x8_2.length co66) y384 := (by rw [hw, Ny384.out]; exact HP70.1); clear HP70; replace HO_7 := a_ (Kd.R_over' (v := (.slice (some ⟨go66, 0, none⟩) x8_2.length co66)) (hR_ HO_7.out) (Kd.R_typed HO_8.out) (by decide) hg); replace BK357 := a_ (blk_grown (hK_ BK357.out) hg (Kd.R_ne HO_8.out BK357.out (by decide))); replace HO_8 := a_ (hp_); replace HB := a_ ((by rw [hw]; exact below_set (HB.out) GB66.out : Below w.heap.size w w71)); clear hg hw hp_))
       go_roundg k2
       case measure => have := HK1.out; have := HK2.out; omega
       case rel => exact ⟨(y381), (y384), (wrap64 (x9_2 + 1)), (wrap64 (x10_2 + 1)), hW_, hW_, H', ⟨by have := HK1.out; have := HK2.out; omega⟩, ⟨hR_ HO_7.out⟩, ⟨hR_ HO_8.out⟩, ⟨(hK_ BK357.out)⟩, ⟨hC_⟩⟩
      subst c39
      have H1 : (if x10_2 < (l1.length : Int) then (if x10_2 < (x7_2.length : Int) then ((some (x7_2.set (x10_2 : Int).toNat ((rd l1 x10_2) != 1) : List Bool)).bind fun y377 => (if rdOf false y377 x10_2 = true then (if (rd l1 x10_2) = 0 then (if x10_2 < (x8_2.length : Int) then (sleuthref12_byHalves.l1 k2 l0 l1 x5_1 y377 (x8_2.set (x10_2 : Int).toNat 1) (wrap64 (x9_2 + 1)) (wrap64 (x10_2 + 1))) else (none)) else (sleuthref12_byHalves.l1 k2 l0 l1 x5_1 y377 x8_2 x9_2 (wrap64 (x10_2 + 1)))) else (sleuthref12_byHalves.l1 k2 l0 l1 x5_1 y377 x8_2 x9_2 (wrap64 (x10_2 + 1))))) else (none)) else (none)) = some (r1, r2) := by rw [if_pos rfl] at H; exact H
      clear H
      have H := H1
      clear H1
      replace H := ifI_ H; obtain ⟨c40, H⟩ := H
      have c40b0 : decide (x10_2 < (l1.length : Int)) = true := decide_eq_true c40
      clear c40
      replace H := ifI_ H; obtain ⟨c41, H⟩ := H
      have c41b0 : decide (x10_2 < (x7_2.length : Int)) = true := decide_eq_true c41
      clear c41
      obtain ⟨y377, hy377⟩ : ∃ y_ : List Bool, y_ = (x7_2.set (x10_2 : Int).toNat ((rd l1 x10_2) != 1)) := ⟨_, rfl⟩
      replace H : (if rdOf false y377 x10_2 = true then (if (rd l1 x10_2) = 0 then (if x10_2 < (x8_2.length : Int) then (sleuthref12_byHalves.l1 k2 l0 l1 x5_1 y377 (x8_2.set (x10_2 : Int).toNat 1) (wrap64 (x9_2 + 1)) (wrap64 (x10_2 + 1))) else (none)) else (sleuthref12_byHalves.l1 k2 l0 l1 x5_1 y377 x8_2 x9_2 (wrap64 (x10_2 + 1)))) else (sleuthref12_byHalves.l1 k2 l0 l1 x5_1 y377 x8_2 x9_2 (wrap64 (x10_2 + 1)))) = some (r1, r2) := by first | (rw [hy377]; with_reducible exact H) | (have H2_ := (Option.bind_some _ _).symm.trans H; rw [hy377]; with_reducible exact H2_) | (have H2_ := (Option.bind_some _ _).symm.trans H; with_reducible exact H2_) | with_reducible exact H | (rw [hy377]; exact H) | exact H
      have Ny377 := a_ hy377
      clear hy377
      obtain ⟨bq43, hbq43⟩ : ∃ b_ : Bool, b_ = (rdOf false y377 x10_2) := ⟨_, rfl⟩
      replace H : (if bq43 = true then (if (rd l1 x10_2) = 0 then (if x10_2 < (x8_2.length : Int) then (sleuthref12_byHalves.l1 k2 l0 l1 x5_1 y377 (x8_2.set (x10_2 : Int).toNat 1) (wrap64 (x9_2 + 1)) (wrap64 (x10_2 + 1))) else (none)) else (sleuthref12_byHalves.l1 k2 l0 l1 x5_1 y377 x8_2 x9_2 (wrap64 (x10_2 + 1)))) else (sleuthref12_byHalves.l1 k2 l0 l1 x5_1 y377 x8_2 x9_2 (wrap64 (x10_2 + 1)))) = some (r1, r2) := by rw [← hbq43] at H; exact H
      have Nbq43 := a_ hbq43
      clear hbq43
      by_cases c44 : bq43 = true
      case neg =>
       replace c44 := Bool.eq_false_iff.mpr c44
       subst c44
       have H1 : (sleuthref12_byHalves.l1 k2 l0 l1 x5_1 y377 x8_2 x9_2 (wrap64 (x10_2 + 1))) = some (r1, r2) := by rw [if_neg (show ¬ (false = true) by decide)] at H; exact H
       clear H
       have H := H1
       clear H1
       have H' := a_ H
       clear H
       have p369 : 0 ≤ (x10_2 : Int) := of_decide_eq_true hA_
       have q369 : x10_2 < (l0.length : Int) := of_decide_eq_true hA_
       obtain ⟨ad369, A369_2, c369_2, e369, hx369_0, hx369_1, hx369_2, hx369_3, hl369_2, hi369_2⟩ := at_T64 HR0.out x10_2 p369 q369
       cases e369
       replace hx369_0 := cl_ HB.out hx369_0
       replace hx369_1 := cl_ HB.out hx369_1
       replace hx369_2 := cl_ HB.out hx369_2
       replace hx369_3 := cl_ HB.out hx369_3
       have HR369_2 := a_ hi369_2
       have HC369_2 := a_ hl369_2
       clear hi369_2 hl369_2
       replace p369 := eq_true p369
       replace q369 := eq_true q369
       obtain ⟨Ao56, co56, eo56⟩ := Kd.R_slice HO_7.out
       subst eo56
       have p375 : 0 ≤ (((rd_T64 l0 x10_2).f1) : Int) := of_decide_eq_true hA_
       have q375 : ((rd_T64 l0 x10_2).f1) < (x7_2.length : Int) := of_decide_eq_true hA_
       obtain ⟨ad375, e375, hx375_0⟩ := Kd.at_bool (Kd.R_reads' HO_7.out).2.2 ((rd_T64 l0 x10_2).f1) p375 q375
       (try rw [← Nbq38.out] at hx375_0)
       (try rw [← Nbq43.out] at hx375_0)
       cases e375
       replace p375 := eq_true p375
       replace q375 := eq_true q375
       have p376 : 0 ≤ (x10_2 : Int) := of_decide_eq_true hA_
       have q376 : x10_2 < (l1.length : Int) := of_decide_eq_true hA_
       obtain ⟨ad376, e376, hx376_0⟩ := Kd.at_int HR1.out x10_2 p376 q376
       obtain rfl : ad358 = ad376 := (by injection e376)
       replace hx376_0 := cl_ HB.out hx376_0
       replace p376 := eq_true p376
       replace q376 := eq_true q376
       have p42 : 0 ≤ (x10_2 : Int) := of_decide_eq_true hA_
       have q42 : (x10_2 : Int) < ((x7_2.length : Int) : Int) := of_decide_eq_true hA_
       obtain ⟨go42, co42, eo42, gb42, gl42, cl42, HG42⟩ := Kd.R_form HO_7.out (by omega)
       (first | cases eo42 | (injection eo42 with ea_ en_ ec_; (first | subst ea_ | (injection ea_ with ea_; subst ea_)); subst ec_; clear en_))
       have GB42 := a_ gb42
       have GG42 := a_ HG42
       clear gb42 gl42 HG42
       (first | simp only [add_plain] at hx375_0 | skip)
       obtain ⟨hx42_0, hf42_0⟩ := Kd.R_celln false HO_7.out (x10_2 : Int) p42 q42
       replace p42 := eq_true p42
       replace q42 := eq_true q42
       have HP57 := Kd.R_putg HO_7.out (x10_2 : Int) ((rd l1 x10_2) != 1)
       go_wp2_with (first | ((with_reducible refine gate_store (t := 4) (p := 74) rfl ?_); refine store_event (t := 4) (p := 74) (v := ?vo_w58) (w1 := (wr.setCell ⟨go42, (x10_2 : Int).toNat, none⟩ (.bool ((rd l1 x10_2) != 1)))) ?hg ?ho ?hn ?hr ?_; (case ho => rfl); (case hg => rfl); (case hn => rfl); (case hr => first | (go_simp; done) | (go_simp; rfl)); intro w58 hw; have hg : wr.grownBy w58 (some go42) := (by rw [hw]; exact HP57.2); have hp_ : Kd.R Kd.bool 4 w58 w.heap.size (fun _ => True) (.slice (some ⟨go42, 0, none⟩) x7_2.length co56) y377 := (by rw [hw, Ny377.out]; exact HP57.1); clear HP57; replace HO_8 := a_ (Kd.R_over' (v := (.slice (some ⟨go42, 0, none⟩) x7_2.length co56)) (hR_ HO_8.out) (Kd.R_typed HO_7.out) (by decide) hg); replace BK357 := a_ (blk_grown (hK_ BK357.out) hg (Kd.R_ne HO_7.out BK357.out (by decide))); replace HO_7 := a_ (hp_); replace HB := a_ ((by rw [hw]; exact below_set (HB.out) GB42.out : Below w.heap.size w w58)); clear hg hw hp_; have p378 : 0 ≤ (x10_2 : Int) := of_decide_eq_true hA_; have q378 : x10_2 < (y377.length : Int) := (by have h_ : (x10_2 : Int) < ((x7_2.length : Int) : Int) := of_decide_eq_true hA_; first | (have e_ := (Kd.R_reads' HO_7.out).1; omega) | simpa only [Ny377.out, List.length_set] using h_); have ql378 : ((x10_2 : Int) < ((x7_2.length : Int) : Int)) = True := eq_true (of_decide_eq_true hA_); obtain ⟨ad378, e378, hx378_0⟩ := Kd.at_bool (Kd.R_reads' HO_7.out).2.2 x10_2 p378 q378; (try rw [← Nbq38.out] at hx378_0); (try rw [← Nbq43.out] at hx378_0); obtain rfl : (⟨go42, 0, none⟩ : Addr) = ad378 := (by injection e378); (first | simp only [add_plain] at hx378_0 | simp only [add_at] at hx378_0 | simp only [Addr.add, Nat.zero_add] at hx378_0 | skip); replace p378 := eq_true p378; replace q378 := eq_true q378))
       go_roundg k2
       case measure => have := HK1.out; have := HK2.out; omega
       case rel => exact ⟨(y377), (x8_2), (x9_2), (wrap64 (x10_2 + 1)), hW_, hW_, H', ⟨by have := HK1.out; have := HK2.out; omega⟩, ⟨hR_ HO_7.out⟩, ⟨hR_ HO_8.out⟩, ⟨(hK_ BK357.out)⟩, ⟨hC_⟩⟩
      subst c44
      have H1 : (if (rd l1 x10_2) = 0 then (if x10_2 < (x8_2.length : Int) then (sleuthref12_byHalves.l1 k2 l0 l1 x5_1 y377 (x8_2.set (x10_2 : Int).toNat 1) (wrap64 (x9_2 + 1)) (wrap64 (x10_2 + 1))) else (none)) else (sleuthref12_byHalves.l1 k2 l0 l1 x5_1 y377 x8_2 x9_2 (wrap64 (x10_2 + 1)))) = some (r1, r2) := by rw [if_pos rfl] at H; exact H
      clear H
      have H := H1
      clear H1
      by_cases c45 : (rd l1 x10_2) = 0
      case neg =>
       rw [if_neg c45] at H
       have c45b0 : ((rd l1 x10_2) == 0) = false := beq_eq_false_iff_ne.mpr c45
       have c45b1 : ((rd l1 x10_2) != 0) = true := bne_iff_ne.mpr c45
       have H' := a_ H
       clear H
       have p369 : 0 ≤ (x10_2 : Int) := of_decide_eq_true hA_
       have q369 : x10_2 < (l0.length : Int) := of_decide_eq_true hA_
       obtain ⟨ad369, A369_2, c369_2, e369, hx369_0, hx369_1, hx369_2, hx369_3, hl369_2, hi369_2⟩ := at_T64 HR0.out x10_2 p369 q369
       cases e369
       replace hx369_0 := cl_ HB.out hx369_0
       replace hx369_1 := cl_ HB.out hx369_1
       replace hx369_2 := cl_ HB.out hx369_2
       replace hx369_3 := cl_ HB.out hx369_3
       have HR369_2 := a_ hi369_2
       have HC369_2 := a_ hl369_2
       clear hi369_2 hl369_2
       replace p369 := eq_true p369
       replace q369 := eq_true q369
       obtain ⟨Ao53, co53, eo53⟩ := Kd.R_slice HO_7.out
       subst eo53
       have p375 : 0 ≤ (((rd_T64 l0 x10_2).f1) : Int) := of_decide_eq_true hA_
       have q375 : ((rd_T64 l0 x10_2).f1) < (x7_2.length : Int) := of_decide_eq_true hA_
       obtain ⟨ad375, e375, hx375_0⟩ := Kd.at_bool (Kd.R_reads' HO_7.out).2.2 ((rd_T64 l0 x10_2).f1) p375 q375
       (try rw [← Nbq38.out] at hx375_0)
       (try rw [← Nbq43.out] at hx375_0)
       cases e375
       replace p375 := eq_true p375
       replace q375 := eq_true q375
       have p376 : 0 ≤ (x10_2 : Int) := of_decide_eq_true hA_
       have q376 : x10_2 < (l1.length : Int) := of_decide_eq_true hA_
       obtain ⟨ad376, e376, hx376_0⟩ := Kd.at_int HR1.out x10_2 p376 q376
       obtain rfl : ad358 = ad376 := (by injection e376)
       replace hx376_0 := cl_ HB.out hx376_0
       replace p376 := eq_true p376
       replace q376 := eq_true q376
       have p42 : 0 ≤ (x10_2 : Int) := of_decide_eq_true hA_
       have q42 : (x10_2 : Int) < ((x7_2.length : Int) : Int) := of_decide_eq_true hA_
       obtain ⟨go42, co42, eo42, gb42, gl42, cl42, HG42⟩ := Kd.R_form HO_7.out (by omega)
       (first | cases eo42 | (injection eo42 with ea_ en_ ec_; (first | subst ea_ | (injection ea_ with ea_; subst ea_)); subst ec_; clear en_))
       have GB42 := a_ gb42
       have GG42 := a_ HG42
       clear gb42 gl42 HG42
       (first | simp only [add_plain] at hx375_0 | skip)
       obtain ⟨hx42_0, hf42_0⟩ := Kd.R_celln false HO_7.out (x10_2 : Int) p42 q42
       replace p42 := eq_true p42
       replace q42 := eq_true q42
       have HP54 := Kd.R_putg HO_7.out (x10_2 : Int) ((rd l1 x10_2) != 1)
       go_wp2_with (first | ((with_reducible refine gate_store (t := 4) (p := 74) rfl ?_); refine store_event (t := 4) (p := 74) (v := ?vo_w55) (w1 := (wr.setCell ⟨go42, (x10_2 : Int).toNat, none⟩ (.bool ((rd l1 x10_2) != 1)))) ?hg ?ho ?hn ?hr ?_; (case ho => rfl); (case hg => rfl); (case hn => rfl); (case hr => first | (go_simp; done) | (go_simp; rfl)); intro w55 hw; have hg : wr.grownBy w55 (some go42) := (by rw [hw]; exact HP54.2); have hp_ : Kd.R Kd.bool 4 w55 w.heap.size (fun _ => True) (.slice (some ⟨go42, 0, none⟩) x7_2.length co53) y377 := (by rw [hw, Ny377.out]; exact HP54.1); clear HP54; replace HO_8 := a_ (Kd.R_over' (v := (.slice (some ⟨go42, 0, none⟩) x7_2.length co53)) (hR_ HO_8.out) (Kd.R_typed HO_7.out) (by decide) hg); replace BK357 := a_ (blk_grown (hK_ BK357.out) hg (Kd.R_ne HO_7.out BK357.out (by decide))); replace HO_7 := a_ (hp_); replace HB := a_ ((by rw [hw]; exact below_set (HB.out) GB42.out : Below w.heap.size w w55)); clear hg hw hp_; have p378 : 0 ≤ (x10_2 : Int) := of_decide_eq_true hA_; have q378 : x10_2 < (y377.length : Int) := (by have h_ : (x10_2 : Int) < ((x7_2.length : Int) : Int) := of_decide_eq_true hA_; first | (have e_ := (Kd.R_reads' HO_7.out).1; omega) | simpa only [Ny377.out, List.length_set] using h_); have ql378 : ((x10_2 : Int) < ((x7_2.length : Int) : Int)) = True := eq_true (of_decide_eq_true hA_); obtain ⟨ad378, e378, hx378_0⟩ := Kd.at_bool (Kd.R_reads' HO_7.out).2.2 x10_2 p378 q378; (try rw [← Nbq38.out] at hx378_0); (try rw [← Nbq43.out] at hx378_0); obtain rfl : (⟨go42, 0, none⟩ : Addr) = ad378 := (by injection e378); (first | simp only [add_plain] at hx378_0 | simp only [add_at] at hx378_0 | simp only [Addr.add, Nat.zero_add] at hx378_0 | skip); replace p378 := eq_true p378; replace q378 := eq_true q378; have p379 : 0 ≤ (x10_2 : Int) := of_decide_eq_true hA_; have q379 : x10_2 < (l1.length : Int) := of_decide_eq_true hA_; obtain ⟨ad379, e379, hx379_0⟩ := Kd.at_int HR1.out x10_2 p379 q379; obtain rfl : ad358 = ad379 := (by injection e379); replace hx379_0 := cl_ HB.out hx379_0; replace p379 := eq_true p379; replace q379 := eq_true q379))
       go_roundg k2
       case measure => have := HK1.out; have := HK2.out; omega
       case rel => exact ⟨(y377), (x8_2), (x9_2), (wrap64 (x10_2 + 1)), hW_, hW_, H', ⟨by have := HK1.out; have := HK2.out; omega⟩, ⟨hR_ HO_7.out⟩, ⟨hR_ HO_8.out⟩, ⟨(hK_ BK357.out)⟩, ⟨hC_⟩⟩
      rw [if_pos c45] at H
      have c45b0 : ((rd l1 x10_2) == 0) = true := beq_iff_eq.mpr c45
      have c45b1 : ((rd l1 x10_2) != 0) = false := bne_eq_false_iff_eq.mpr c45
      clear c45
      replace H := ifI_ H; obtain ⟨c46, H⟩ := H
      have c46b0 : decide (x10_2 < (x8_2.length : Int)) = true := decide_eq_true c46
      clear c46
      obtain ⟨y380, hy380⟩ : ∃ y_ : List Int, y_ = (x8_2.set (x10_2 : Int).toNat 1) := ⟨_, rfl⟩
      replace H : (sleuthref12_byHalves.l1 k2 l0 l1 x5_1 y377 y380 (wrap64 (x9_2 + 1)) (wrap64 (x10_2 + 1))) = some (r1, r2) := by first | (rw [hy380]; with_reducible exact H) | (have H2_ := (Option.bind_some _ _).symm.trans H; rw [hy380]; with_reducible exact H2_) | (have H2_ := (Option.bind_some _ _).symm.trans H; with_reducible exact H2_) | with_reducible exact H | (rw [hy380]; exact H) | exact H
      have Ny380 := a_ hy380
      clear hy380
      have H' := a_ H
      clear H
      have p369 : 0 ≤ (x10_2 : Int) := of_decide_eq_true hA_
      have q369 : x10_2 < (l0.length : Int) := of_decide_eq_true hA_
      obtain ⟨ad369, A369_2, c369_2, e369, hx369_0, hx369_1, hx369_2, hx369_3, hl369_2, hi369_2⟩ := at_T64 HR0.out x10_2 p369 q369
      cases e369
      replace hx369_0 := cl_ HB.out hx369_0
      replace hx369_1 := cl_ HB.out hx369_1
      replace hx369_2 := cl_ HB.out hx369_2
      replace hx369_3 := cl_ HB.out hx369_3
      have HR369_2 := a_ hi369_2
      have HC369_2 := a_ hl369_2
      clear hi369_2 hl369_2
      replace p369 := eq_true p369
      replace q369 := eq_true q369
      obtain ⟨Ao48, co48, eo48⟩ := Kd.R_slice HO_7.out
      subst eo48
      have p375 : 0 ≤ (((rd_T64 l0 x10_2).f1) : Int) := of_decide_eq_true hA_
      have q375 : ((rd_T64 l0 x10_2).f1) < (x7_2.length : Int) := of_decide_eq_true hA_
      obtain ⟨ad375, e375, hx375_0⟩ := Kd.at_bool (Kd.R_reads' HO_7.out).2.2 ((rd_T64 l0 x10_2).f1) p375 q375
      (try rw [← Nbq38.out] at hx375_0)
      (try rw [← Nbq43.out] at hx375_0)
      cases e375
      replace p375 := eq_true p375
      replace q375 := eq_true q375
      have p376 : 0 ≤ (x10_2 : Int) := of_decide_eq_true hA_
      have q376 : x10_2 < (l1.length : Int) := of_decide_eq_true hA_
      obtain ⟨ad376, e376, hx376_0⟩ := Kd.at_int HR1.out x10_2 p376 q376
      obtain rfl : ad358 = ad376 := (by injection e376)
      replace hx376_0 := cl_ HB.out hx376_0
      replace p376 := eq_true p376
      replace q376 := eq_true q376
      have p42 : 0 ≤ (x10_2 : Int) := of_decide_eq_true hA_
      have q42 : (x10_2 : Int) < ((x7_2.length : Int) : Int) := of_decide_eq_true hA_
      obtain ⟨go42, co42, eo42, gb42, gl42, cl42, HG42⟩ := Kd.R_form HO_7.out (by omega)
      (first | cases eo42 | (injection eo42 with ea_ en_ ec_; (first | subst ea_ | (injection ea_ with ea_; subst ea_)); subst ec_; clear en_))
      have GB42 := a_ gb42
      have GG42 := a_ HG42
      clear gb42 gl42 HG42
      (first | simp only [add_plain] at hx375_0 | skip)
      obtain ⟨hx42_0, hf42_0⟩ := Kd.R_celln false HO_7.out (x10_2 : Int) p42 q42
      replace p42 := eq_true p42
      replace q42 := eq_true q42
      have HP49 := Kd.R_putg HO_7.out (x10_2 : Int) ((rd l1 x10_2) != 1)
      go_wp2_with (first | ((with_reducible refine gate_store (t := 4) (p := 74) rfl ?_); refine store_event (t := 4) (p := 74) (v := ?vo_w50) (w1 := (wr.setCell ⟨go42, (x10_2 : Int).toNat, none⟩ (.bool ((rd l1 x10_2) != 1)))) ?hg ?ho ?hn ?hr ?_; (case ho => rfl); (case hg => rfl); (case hn => rfl); (case hr => first | (go_simp; done) | (go_simp; rfl)); intro w50 hw; have hg : wr.grownBy w50 (some go42) := (by rw [hw]; exact HP49.2); have hp_ : Kd.R Kd.bool 4 w50 w.heap.size (fun _ => True) (.slice (some ⟨go42, 0, none⟩) x7_2.length co48) y377 := (by rw [hw, Ny377.out]; exact HP49.1); clear HP49; replace HO_8 := a_ (Kd.R_over' (v := (.slice (some ⟨go42, 0, none⟩) x7_2.length co48)) (hR_ HO_8.out) (Kd.R_typed HO_7.out) (by decide) hg); replace BK357 := a_ (blk_grown (hK_ BK357.out) hg (Kd.R_ne HO_7.out BK357.out (by decide))); replace HO_7 := a_ (hp_); replace HB := a_ ((by rw [hw]; exact below_set (HB.out) GB42.out : Below w.heap.size w w50)); clear hg hw hp_; have p378 : 0 ≤ (x10_2 : Int) := of_decide_eq_true hA_; have q378 : x10_2 < (y377.length : Int) := (by have h_ : (x10_2 : Int) < ((x7_2.length : Int) : Int) := of_decide_eq_true hA_; first | (have e_ := (Kd.R_reads' HO_7.out).1; omega) | simpa only [Ny377.out, List.length_set] using h_); have ql378 : ((x10_2 : Int) < ((x7_2.length : Int) : Int)) = True := eq_true (of_decide_eq_true hA_); obtain ⟨ad378, e378, hx378_0⟩ := Kd.at_bool (Kd.R_reads' HO_7.out).2.2 x10_2 p378 q378; (try rw [← Nbq38.out] at hx378_0); (try rw [← Nbq43.out] at hx378_0); obtain rfl : (⟨go42, 0, none⟩ : Addr) = ad378 := (by injection e378); (first | simp only [add_plain] at hx378_0 | simp only [add_at] at hx378_0 | simp only [Addr.add, Nat.zero_add] at hx378_0 | skip); replace p378 := eq_true p378; replace q378 := eq_true q378; have p379 : 0 ≤ (x10_2 : Int) := of_decide_eq_true hA_; have q379 : x10_2 < (l1.length : Int) := of_decide_eq_true hA_; obtain ⟨ad379, e379, hx379_0⟩ := Kd.at_int HR1.out x10_2 p379 q379; obtain rfl : ad358 = ad379 := (by injection e379); replace hx379_0 := cl_ HB.out hx379_0; replace p379 := eq_true p379; replace q379 := eq_true q379; have p47 : 0 ≤ (x10_2 : Int) := of_decide_eq_true hA_; have q47 : (x10_2 : Int) < ((x8_2.length : Int) : Int) := of_decide_eq_true hA_; obtain ⟨go47, co47, eo47, gb47, gl47, cl47, HG47⟩ := Kd.R_form HO_8.out (by omega); (first | cases eo47 | (injection eo47 with ea_ en_ ec_; (first | subst ea_ | (injection ea_ with ea_; subst ea_)); subst ec_; clear en_)); have GB47 := a_ gb47; have GG47 := a_ HG47; clear gb47 gl47 HG47; obtain ⟨hx47_0, hf47_0⟩ := Kd.R_celln 0 HO_8.out (x10_2 : Int) p47 q47; replace p47 := eq_true p47; replace q47 := eq_true q47; obtain ⟨hy51_, hz51_⟩ := Kd.R_celln 0 HO_8.out (x10_2 : Int) (of_decide_eq_true hA_) (of_decide_eq_true hA_); have HP51 := Kd.R_putg HO_8.out (x10_2 : Int) 1) | ((with_reducible refine gate_store (t := 3) (p := 88) rfl ?_); refine store_event (t := 3) (p := 88) (v := ?vo_w52) (w1 := (w50.setCell ⟨go47, (x10_2 : Int).toNat, none⟩ (.int .i64 1))) ?hg ?ho ?hn ?hr ?_; (case ho => rfl); (case hg => rfl); (case hn => rfl); (case hr => first | (go_simp; done) | (go_simp; rfl)); intro w52 hw; have hg : w50.grownBy w52 (some go47) := (by rw [hw]; exact HP51.2); have hp_ : Kd.R (Kd.int .i64) 3 w52 w.heap.size (fun _ => True) (.slice (some ⟨go47, 0, none⟩) x8_2.length co47) y380 := (by rw [hw, Ny380.out]; exact HP51.1); clear HP51; replace HO_7 := a_ (Kd.R_over' (v := (.slice (some ⟨go47, 0, none⟩) x8_2.length co47)) (hR_ HO_7.out) (Kd.R_typed HO_8.out) (by decide) hg); replace BK357 := a_ (blk_grown (hK_ BK357.out) hg (Kd.R_ne HO_8.out BK357.out (by decide))); replace HO_8 := a_ (hp_); replace HB := a_ ((by rw [hw]; exact below_set (HB.out) GB47.out : Below w.heap.size w w52)); clear hg hw hp_))
      go_roundg k2
      case measure => have := HK1.out; have := HK2.out; omega
      case rel => exact ⟨(y377), (y380), (wrap64 (x9_2 + 1)), (wrap64 (x10_2 + 1)), hW_, hW_, H', ⟨by have := HK1.out; have := HK2.out; omega⟩, ⟨hR_ HO_7.out⟩, ⟨hR_ HO_8.out⟩, ⟨(hK_ BK357.out)⟩, ⟨hC_⟩⟩
     rw [if_neg c17] at H
     have c17b0 : decide (x10_2 < (l0.length : Int)) = false := decide_eq_false c17
     clear c17
     have H' := a_ H
     clear H
     go_wp2
     go_loopg [12] k2 (fun kq v12 w' => ∃ (x8_3 : List Int) (x12_3 : Int), v12 = .int .i64 x12_3 ∧ Aside0 (sleuthref12_byHalves.l2 kq l0 l1 x5_1 x7_2 x8_3 x9_2 x12_3 = some (r1, r2)) ∧ Aside0 (kq ≤ k2) ∧ Aside0 (Kd.R Kd.bool 4 w' w.heap.size (fun _ => True) v364 x7_2) ∧ Aside0 (Kd.R (Kd.int .i64) 3 w' w.heap.size (fun _ => True) v367 x8_3) ∧ Aside0 (w'.heap[gb357]? = some (.cells #[.int .i64 0, .int .i64 0] 34 (0, 0))) ∧ Aside0 (Below w.heap.size w w'))
     case atStart => exact ⟨(x8_2), (wrap64 ((l0.length : Int) - 1)), hW_, H', ⟨Nat.le_refl _⟩, ⟨hR_ HO_7.out⟩, ⟨hR_ HO_8.out⟩, ⟨(hK_ BK357.out)⟩, ⟨hC_⟩⟩
     case round =>
      clear H'
      try clear c1
      try clear c2
      try clear p2
      try clear q2
      try clear hx2
      try clear hf2
      try clear c3
      try clear p3
      try clear q3
      try clear hx3
      try clear c4
      try clear p4
      try clear q4
      try clear hx4
      try clear hf4
      try clear c5
      try clear c6
      try clear p6
      try clear q6
      try clear hx6
      try clear hf6
      try clear c17
      try clear c17b0
      try clear c18
      try clear c18b0
      try clear c19
      try clear c19b0
      try clear c19b1
      try clear c20
      try clear c20b0
      try clear c21
      try clear c21b0
      try clear p22
      try clear q22
      try clear hx22
      try clear hf22
      try clear q23
      try clear c24
      try clear c25
      try clear c25b0
      try clear c25b1
      try clear c26
      try clear c26b0
      try clear p27
      try clear q27
      try clear hx27
      try clear hf27
      try clear p35
      try clear q35
      try clear hx35
      try clear c36
      try clear c36b0
      try clear p36
      try clear q36
      try clear hx36
      try clear c37
      try clear c37b0
      try clear p37
      try clear q37
      try clear hx37
      try clear p38
      try clear q38
      try clear hx38
      try clear c39
      try clear c40
      try clear c40b0
      try clear c41
      try clear c41b0
      try clear p42
      try clear q42
      try clear hx42
      try clear hf42
      try clear q43
      try clear c44
      try clear c45
      try clear c45b0
      try clear c45b1
      try clear c46
      try clear c46b0
      try clear p47
      try clear q47
      try clear hx47
      try clear hf47
      try clear c59
      try clear c59b0
      try clear p60
      try clear q60
      try clear hx60
      try clear hf60
      try clear q61
      try clear c62
      try clear c63
      try clear c63b0
      try clear c64
      try clear c64b0
      try clear c64b1
      try clear p64
      try clear c65
      try clear c65b0
      try clear p66
      try clear q66
      try clear hx66
      try clear hf66
      try clear hx22_0
      try clear hx27_0
      try clear hx358_0
      try clear hx362_0
      try clear hx369_0
      try clear hx369_1
      try clear hx369_2
      try clear hx369_3
      try clear hx370_0
      try clear hx372_0
      try clear hx373_0
      try clear hx375_0
      try clear hx376_0
      try clear hx378_0
      try clear hx379_0
      try clear hx382_0
      try clear hx383_0
      try clear hx42_0
      try clear hx47_0
      try clear hx60_0
      try clear hx66_0
      try clear p2
      try clear p22
      try clear p27
      try clear p3
      try clear p358
      try clear p362
      try clear p369
      try clear p370
      try clear p372
      try clear p373
      try clear p375
      try clear p376
      try clear p378
      try clear p379
      try clear p382
      try clear p383
      try clear p42
      try clear p47
      try clear p60
      try clear p66
      try clear q22
      try clear q27
      try clear q3
      try clear q358
      try clear q362
      try clear q369
      try clear q370
      try clear q372
      try clear q373
      try clear q375
      try clear q376
      try clear q378
      try clear q379
      try clear q382
      try clear q383
      try clear q42
      try clear q47
      try clear q60
      try clear q66
      obtain ⟨x8_3, x12_3, rfl, HA, HK3, HO_7, HO_8, BK357, HB⟩ := hrel
      cases gk with
      | zero => exact absurd HA.out (by simp [sleuthref12_byHalves.l2])
      | succ k3 =>
       have H := HA.out
       clear HA
       simp only [sleuthref12_byHalves.l2] at H
       by_cases c78 : x12_3 > x5_1
       case pos =>
        rw [if_pos c78] at H
        have c78b0 : decide (x5_1 < x12_3) = true := decide_eq_true c78
        clear c78
        replace H := ifI_ H; obtain ⟨c79, H⟩ := H
        have c79b0 : decide (0 ≤ x12_3) = true := decide_eq_true c79
        clear c79
        replace H := ifI_ H; obtain ⟨c80, H⟩ := H
        have c80b0 : decide (x12_3 < (x7_2.length : Int)) = true := decide_eq_true c80
        clear c80
        obtain ⟨bq81, hbq81⟩ : ∃ b_ : Bool, b_ = (rdOf false x7_2 x12_3) := ⟨_, rfl⟩
        replace H : (if bq81 = true then (if x12_3 < (l0.length : Int) then (if ((rd_T64 l0 x12_3).f1) > x5_1 then (if 0 ≤ ((rd_T64 l0 x12_3).f1) then (if ((rd_T64 l0 x12_3).f1) < (x8_3.length : Int) then (if x12_3 < (x8_3.length : Int) then (sleuthref12_byHalves.l2 k3 l0 l1 x5_1 x7_2 (x8_3.set (((rd_T64 l0 x12_3).f1) : Int).toNat (wrap64 ((rd x8_3 ((rd_T64 l0 x12_3).f1)) + (rd x8_3 x12_3)))) x9_2 (wrap64 (x12_3 - 1))) else (none)) else (none)) else (none)) else (sleuthref12_byHalves.l2 k3 l0 l1 x5_1 x7_2 x8_3 x9_2 (wrap64 (x12_3 - 1)))) else (none)) else (sleuthref12_byHalves.l2 k3 l0 l1 x5_1 x7_2 x8_3 x9_2 (wrap64 (x12_3 - 1)))) = some (r1, r2) := by rw [← hbq81] at H; exact H
        have Nbq81 := a_ hbq81
        clear hbq81
        by_cases c82 : bq81 = true
        case neg =>
         replace c82 := Bool.eq_false_iff.mpr c82
         subst c82
         have H1 : (sleuthref12_byHalves.l2 k3 l0 l1 x5_1 x7_2 x8_3 x9_2 (wrap64 (x12_3 - 1))) = some (r1, r2) := by rw [if_neg (show ¬ (false = true) by decide)] at H; exact H
         clear H
         have H := H1
         clear H1
         have H' := a_ H
         clear H
         obtain ⟨Ao94, co94, eo94⟩ := Kd.R_slice HO_7.out
         subst eo94
         have p385 : 0 ≤ (x12_3 : Int) := of_decide_eq_true hA_
         have q385 : x12_3 < (x7_2.length : Int) := of_decide_eq_true hA_
         obtain ⟨ad385, e385, hx385_0⟩ := Kd.at_bool (Kd.R_reads' HO_7.out).2.2 x12_3 p385 q385
         (try rw [← Nbq81.out] at hx385_0)
         cases e385
         replace p385 := eq_true p385
         replace q385 := eq_true q385
         go_wp2
         go_roundg k3
         case measure => have := HK1.out; have := HK2.out; have := HK3.out; omega
         case rel => exact ⟨(x8_3), (wrap64 (x12_3 - 1)), hW_, H', ⟨by have := HK1.out; have := HK2.out; have := HK3.out; omega⟩, ⟨hR_ HO_7.out⟩, ⟨hR_ HO_8.out⟩, ⟨(hK_ BK357.out)⟩, ⟨hC_⟩⟩
        subst c82
        have H1 : (if x12_3 < (l0.length : Int) then (if ((rd_T64 l0 x12_3).f1) > x5_1 then (if 0 ≤ ((rd_T64 l0 x12_3).f1) then (if ((rd_T64 l0 x12_3).f1) < (x8_3.length : Int) then (if x12_3 < (x8_3.length : Int) then (sleuthref12_byHalves.l2 k3 l0 l1 x5_1 x7_2 (x8_3.set (((rd_T64 l0 x12_3).f1) : Int).toNat (wrap64 ((rd x8_3 ((rd_T64 l0 x12_3).f1)) + (rd x8_3 x12_3)))) x9_2 (wrap64 (x12_3 - 1))) else (none)) else (none)) else (none)) else (sleuthref12_byHalves.l2 k3 l0 l1 x5_1 x7_2 x8_3 x9_2 (wrap64 (x12_3 - 1)))) else (none)) = some (r1, r2) := by rw [if_pos rfl] at H; exact H
        clear H
        have H := H1
        clear H1
        replace H := ifI_ H; obtain ⟨c83, H⟩ := H
        have c83b0 : decide (x12_3 < (l0.length : Int)) = true := decide_eq_true c83
        clear c83
        by_cases c84 : ((rd_T64 l0 x12_3).f1) > x5_1
        case neg =>
         rw [if_neg c84] at H
         have c84b0 : decide (x5_1 < ((rd_T64 l0 x12_3).f1)) = false := decide_eq_false c84
         clear c84
         have H' := a_ H
         clear H
         obtain ⟨Ao93, co93, eo93⟩ := Kd.R_slice HO_7.out
         subst eo93
         have p385 : 0 ≤ (x12_3 : Int) := of_decide_eq_true hA_
         have q385 : x12_3 < (x7_2.length : Int) := of_decide_eq_true hA_
         obtain ⟨ad385, e385, hx385_0⟩ := Kd.at_bool (Kd.R_reads' HO_7.out).2.2 x12_3 p385 q385
         (try rw [← Nbq81.out] at hx385_0)
         cases e385
         replace p385 := eq_true p385
         replace q385 := eq_true q385
         have p386 : 0 ≤ (x12_3 : Int) := of_decide_eq_true hA_
         have q386 : x12_3 < (l0.length : Int) := of_decide_eq_true hA_
         obtain ⟨ad386, A386_2, c386_2, e386, hx386_0, hx386_1, hx386_2, hx386_3, hl386_2, hi386_2⟩ := at_T64 HR0.out x12_3 p386 q386
         cases e386
         replace hx386_0 := cl_ HB.out hx386_0
         replace hx386_1 := cl_ HB.out hx386_1
         replace hx386_2 := cl_ HB.out hx386_2
         replace hx386_3 := cl_ HB.out hx386_3
         have HR386_2 := a_ hi386_2
         have HC386_2 := a_ hl386_2
         clear hi386_2 hl386_2
         replace p386 := eq_true p386
         replace q386 := eq_true q386
         go_wp2
         go_roundg k3
         case measure => have := HK1.out; have := HK2.out; have := HK3.out; omega
         case rel => exact ⟨(x8_3), (wrap64 (x12_3 - 1)), hW_, H', ⟨by have := HK1.out; have := HK2.out; have := HK3.out; omega⟩, ⟨hR_ HO_7.out⟩, ⟨hR_ HO_8.out⟩, ⟨(hK_ BK357.out)⟩, ⟨hC_⟩⟩
        rw [if_pos c84] at H
        have c84b0 : decide (x5_1 < ((rd_T64 l0 x12_3).f1)) = true := decide_eq_true c84
        clear c84
        replace H := ifI_ H; obtain ⟨c85, H⟩ := H
        have c85b0 : decide (0 ≤ ((rd_T64 l0 x12_3).f1)) = true := decide_eq_true c85
        clear c85
        replace H := ifI_ H; obtain ⟨c86, H⟩ := H
        have c86b0 : decide (((rd_T64 l0 x12_3).f1) < (x8_3.length : Int)) = true := decide_eq_true c86
        clear c86
        replace H := ifI_ H; obtain ⟨c87, H⟩ := H
        have c87b0 : decide (x12_3 < (x8_3.length : Int)) = true := decide_eq_true c87
        clear c87
        obtain ⟨y391, hy391⟩ : ∃ y_ : List Int, y_ = (x8_3.set (((rd_T64 l0 x12_3).f1) : Int).toNat (wrap64 ((rd x8_3 ((rd_T64 l0 x12_3).f1)) + (rd x8_3 x12_3)))) := ⟨_, rfl⟩
        replace H : (sleuthref12_byHalves.l2 k3 l0 l1 x5_1 x7_2 y391 x9_2 (wrap64 (x12_3 - 1))) = some (r1, r2) := by first | (rw [hy391]; with_reducible exact H) | (have H2_ := (Option.bind_some _ _).symm.trans H; rw [hy391]; with_reducible exact H2_) | (have H2_ := (Option.bind_some _ _).symm.trans H; with_reducible exact H2_) | with_reducible exact H | (rw [hy391]; exact H) | exact H
        have Ny391 := a_ hy391
        clear hy391
        have H' := a_ H
        clear H
        obtain ⟨Ao89, co89, eo89⟩ := Kd.R_slice HO_7.out
        subst eo89
        have p385 : 0 ≤ (x12_3 : Int) := of_decide_eq_true hA_
        have q385 : x12_3 < (x7_2.length : Int) := of_decide_eq_true hA_
        obtain ⟨ad385, e385, hx385_0⟩ := Kd.at_bool (Kd.R_reads' HO_7.out).2.2 x12_3 p385 q385
        (try rw [← Nbq81.out] at hx385_0)
        cases e385
        replace p385 := eq_true p385
        replace q385 := eq_true q385
        have p386 : 0 ≤ (x12_3 : Int) := of_decide_eq_true hA_
        have q386 : x12_3 < (l0.length : Int) := of_decide_eq_true hA_
        obtain ⟨ad386, A386_2, c386_2, e386, hx386_0, hx386_1, hx386_2, hx386_3, hl386_2, hi386_2⟩ := at_T64 HR0.out x12_3 p386 q386
        cases e386
        replace hx386_0 := cl_ HB.out hx386_0
        replace hx386_1 := cl_ HB.out hx386_1
        replace hx386_2 := cl_ HB.out hx386_2
        replace hx386_3 := cl_ HB.out hx386_3
        have HR386_2 := a_ hi386_2
        have HC386_2 := a_ hl386_2
        clear hi386_2 hl386_2
        replace p386 := eq_true p386
        replace q386 := eq_true q386
        try go_wp2
        replace HO_7 := a_ (Kd.R_drew HO_7.out)
        replace HO_8 := a_ (Kd.R_drew HO_8.out)
        replace BK357 := a_ (blk_drew BK357.out)
        replace HB := a_ (below_drew1 HB.out)
        have p387 : 0 ≤ (x12_3 : Int) := of_decide_eq_true hA_
        have q387 : x12_3 < (l0.length : Int) := of_decide_eq_true hA_
        obtain ⟨ad387, A387_2, c387_2, e387, hx387_0, hx387_1, hx387_2, hx387_3, hl387_2, hi387_2⟩ := at_T64 HR0.out x12_3 p387 q387
        have hw387_3 := hx387_3
        have hw387_2 := hx387_2
        have hw387_1 := hx387_1
        have hw387_0 := hx387_0
        obtain rfl : ad386 = ad387 := (by injection e387)
        replace hx387_0 := cl_ HB.out hx387_0
        replace hx387_1 := cl_ HB.out hx387_1
        replace hx387_2 := cl_ HB.out hx387_2
        replace hx387_3 := cl_ HB.out hx387_3
        have HR387_2 := a_ hi387_2
        have HC387_2 := a_ hl387_2
        clear hi387_2 hl387_2
        replace p387 := eq_true p387
        replace q387 := eq_true q387
        have p388 : 0 ≤ (x12_3 : Int) := of_decide_eq_true hA_
        have q388 : x12_3 < (l0.length : Int) := of_decide_eq_true hA_
        obtain ⟨ad388, A388_2, c388_2, e388, hx388_0, hx388_1, hx388_2, hx388_3, hl388_2, hi388_2⟩ := at_T64 HR0.out x12_3 p388 q388
        have hw388_3 := hx388_3
        have hw388_2 := hx388_2
        have hw388_1 := hx388_1
        have hw388_0 := hx388_0
        obtain rfl : ad386 = ad388 := (by injection e388)
        replace hx388_0 := cl_ HB.out hx388_0
        replace hx388_1 := cl_ HB.out hx388_1
        replace hx388_2 := cl_ HB.out hx388_2
        replace hx388_3 := cl_ HB.out hx388_3
        have HR388_2 := a_ hi388_2
        have HC388_2 := a_ hl388_2
        clear hi388_2 hl388_2
        replace p388 := eq_true p388
        replace q388 := eq_true q388
        have ea_ := Option.some.inj (hx387_2.symm.trans hx388_2)
        injection ea_ with ea_ en_ ec_
        subst ea_
        subst ec_
        clear en_
        obtain ⟨Ao91, co91, eo91⟩ := Kd.R_slice HO_8.out
        (first | subst eo91 | (injection eo91 with f1_ f2_ f3_; have f4_ := f1_.symm; have f5_ := f3_.symm; clear f1_ f2_ f3_; subst f4_; subst f5_))
        have p389 : 0 ≤ (((rd_T64 l0 x12_3).f1) : Int) := of_decide_eq_true hA_
        have q389 : ((rd_T64 l0 x12_3).f1) < (x8_3.length : Int) := of_decide_eq_true hA_
        obtain ⟨ad389, e389, hx389_0⟩ := Kd.at_int (Kd.R_reads' HO_8.out).2.2 ((rd_T64 l0 x12_3).f1) p389 q389
        cases e389
        replace p389 := eq_true p389
        replace q389 := eq_true q389
        have p390 : 0 ≤ (x12_3 : Int) := of_decide_eq_true hA_
        have q390 : x12_3 < (x8_3.length : Int) := of_decide_eq_true hA_
        obtain ⟨ad390, e390, hx390_0⟩ := Kd.at_int (Kd.R_reads' HO_8.out).2.2 x12_3 p390 q390
        obtain rfl : ad389 = ad390 := (by injection e390)
        replace p390 := eq_true p390
        replace q390 := eq_true q390
        have p88 : 0 ≤ (((rd_T64 l0 x12_3).f1) : Int) := of_decide_eq_true hA_
        have q88 : (((rd_T64 l0 x12_3).f1) : Int) < ((x8_3.length : Int) : Int) := of_decide_eq_true hA_
        obtain ⟨go88, co88, eo88, gb88, gl88, cl88, HG88⟩ := Kd.R_form HO_8.out (by omega)
        (first | cases eo88 | (injection eo88 with ea_ en_ ec_; (first | subst ea_ | (injection ea_ with ea_; subst ea_)); subst ec_; clear en_))
        have GB88 := a_ gb88
        have GG88 := a_ HG88
        clear gb88 gl88 HG88
        (first | simp only [add_plain] at hx389_0 | skip)
        (first | simp only [add_plain] at hx390_0 | skip)
        obtain ⟨hx88_0, hf88_0⟩ := Kd.R_celln 0 HO_8.out (((rd_T64 l0 x12_3).f1) : Int) p88 q88
        replace p88 := eq_true p88
        replace q88 := eq_true q88
        have HP92 := Kd.R_putn HO_8.out (((rd_T64 l0 x12_3).f1) : Int) (wrap64 ((rd x8_3 ((rd_T64 l0 x12_3).f1)) + (rd x8_3 x12_3)))
        rw [← Ny391.out] at HP92
        have HQ92 := a_ HP92
        clear HP92
        refine start_ (n := 21) (S := fun w' => w'.cell? (ad386.add ((x12_3).toNat * 4)) = some (.int .i64 ((rd_T64 l0 x12_3).f0)) ∧ w'.cell? ⟨(ad386.add ((x12_3).toNat * 4)).block, (ad386.add ((x12_3).toNat * 4)).off + 1, none⟩ = some (.int .i64 ((rd_T64 l0 x12_3).f1)) ∧ w'.cell? ⟨(ad386.add ((x12_3).toNat * 4)).block, (ad386.add ((x12_3).toNat * 4)).off + 2, none⟩ = some (.slice A387_2 ((rd_T64 l0 x12_3).f2).length c387_2) ∧ w'.cell? ⟨(ad386.add ((x12_3).toNat * 4)).block, (ad386.add ((x12_3).toNat * 4)).off + 3, none⟩ = some (.string ((rd_T64 l0 x12_3).f3)) ∧ w'.cell? (ad386.add ((x12_3).toNat * 4)) = some (.int .i64 ((rd_T64 l0 x12_3).f0)) ∧ w'.cell? ⟨(ad386.add ((x12_3).toNat * 4)).block, (ad386.add ((x12_3).toNat * 4)).off + 1, none⟩ = some (.int .i64 ((rd_T64 l0 x12_3).f1)) ∧ w'.cell? ⟨(ad386.add ((x12_3).toNat * 4)).block, (ad386.add ((x12_3).toNat * 4)).off + 2, none⟩ = some (.slice A387_2 ((rd_T64 l0 x12_3).f2).length c387_2) ∧ w'.cell? ⟨(ad386.add ((x12_3).toNat * 4)).block, (ad386.add ((x12_3).toNat * 4)).off + 3, none⟩ = some (.string ((rd_T64 l0 x12_3).f3)) ∧ w'.cell? ⟨go88, (((rd_T64 l0 x12_3).f1)).toNat, none⟩ = some (.int .i64 (rd x8_3 ((rd_T64 l0 x12_3).f1))) ∧ w'.cell? ⟨go88, (x12_3).toNat, none⟩ = some (.int .i64 (rd x8_3 x12_3))) (ds := [20]) #[false, false, false, false, false, false, false, false, false, false, false, false, false, false, false, false, false, false, false, false, false] (by kernel_rfl) rfl rfl ⟨(cl_ HB.out hw387_0), (cl_ HB.out hw387_1), (cl_ HB.out hw387_2), (cl_ HB.out hw387_3), (cl_ HB.out hw388_0), (cl_ HB.out hw388_1), (cl_ HB.out hw388_2), (cl_ HB.out hw388_3), hx389_0, hx390_0⟩ (fun hHeld => ?_); refine with_tabW sleuthref12_byHalves.tab24 sleuthref12_byHalves.bits24 (fun HT_ HW_ => ?_)
        generalize wr.drew = w90 at HO_7 HO_8 BK357 HB GG88 HQ92 HR387_2 HR388_2 hf88_0 hx387_0 hx387_1 hx387_2 hx387_3 hx388_0 hx388_1 hx388_2 hx388_3 hx389_0 hx390_0 hx88_0 hHeld ⊢
        refine pB_ 0 112 HT_.out ?_
        refine pB_ 1 113 HT_.out ?_
        refine pB_ 2 114 HT_.out ?_
        refine pB_ 3 115 HT_.out ?_
        refine pB_ 4 116 HT_.out ?_
        refine pB_ 6 118 HT_.out ?_
        refine pB_ 7 119 HT_.out ?_
        refine pB_ 8 120 HT_.out ?_
        refine pB_ 9 121 HT_.out ?_
        refine pB_ 10 122 HT_.out ?_
        refine pB_ 14 126 HT_.out ?_
        refine pB_ 15 127 HT_.out ?_
        refine pB_ 16 128 HT_.out ?_
        refine tB_ 5 117 HT_.out HW_.out hHeld ?_
        refine tB_ 11 123 HT_.out HW_.out hHeld ?_
        refine pB_ 12 124 HT_.out ?_
        refine tB_ 13 125 HT_.out HW_.out hHeld ?_
        refine tB_ 17 129 HT_.out HW_.out hHeld ?_
        refine pB_ 18 130 HT_.out ?_
        refine pB_ 19 131 HT_.out ?_
        refine last_ (i := 20) (N := none) #[true, true, true, true, true, true, true, true, true, true, true, true, true, true, true, true, true, true, true, true, true] rfl rfl (one_of HT_.out (by kernel_rfl)) (by decide) (fun K hK => ?_)
        refine skip_ (w1 := ?_) (by rfl) rfl ?_ ?_
        rotate_left
        · go_simp
          rfl
        refine hK.out _ _ ?_
        clear hK K
        refine done_ (done_of HT_.out (by kernel_rfl)) ?_
        try go_wp2
        go_roundg k3
        case measure => have := HK1.out; have := HK2.out; have := HK3.out; omega
        case rel => exact ⟨(y391), (wrap64 (x12_3 - 1)), hW_, H', ⟨by have := HK1.out; have := HK2.out; have := HK3.out; omega⟩, ⟨by (with_reducible repeat (first | apply Kd.R_alloc | apply Kd.R_drewN | apply Kd.R_drew)); exact Kd.R_mono (Kd.R_far (p := ⟨go88, (((rd_T64 l0 x12_3).f1) : Int).toNat, none⟩) (Kd.R_types HO_7.out GG88.out (by decide)) (fun _ hk => hk.2) (.int .i64 (wrap64 ((rd x8_3 ((rd_T64 l0 x12_3).f1)) + (rd x8_3 x12_3))))) (fun _ hk => trivial)⟩, ⟨hR_ HQ92.out⟩, ⟨by (with_reducible repeat (first | refine blk_drewN ?_ _ | refine blk_drew ?_ | refine blk_alloc ?_ _)); refine blk_far ?_ (by have h_ := Kd.R_ne HO_8.out BK357.out (by decide); intro e_; exact h_ (by rw [e_]; rfl)) _; (with_reducible repeat (first | refine blk_drewN ?_ _ | refine blk_drew ?_ | refine blk_alloc ?_ _)); exact BK357.out⟩, ⟨hC_⟩⟩
       rw [if_neg c78] at H
       have c78b0 : decide (x5_1 < x12_3) = false := decide_eq_false c78
       clear c78
       have H' := a_ H
       clear H
       go_wp2
       go_loopg [13, 14, 15] k3 (fun kq v13 v14 v15 w' => ∃ (x13_4 : Int) (x14_4 : Int) (x15_4 : Int), v13 = .int .i64 x13_4 ∧ v14 = .int .i64 x14_4 ∧ v15 = .int .i64 x15_4 ∧ Aside0 (sleuthref12_byHalves.l3 kq l0 l1 x5_1 x7_2 x8_3 x9_2 x13_4 x14_4 x15_4 = some (r1, r2)) ∧ Aside0 (kq ≤ k3) ∧ Aside0 (Kd.R Kd.bool 4 w' w.heap.size (fun _ => True) v364 x7_2) ∧ Aside0 (Kd.R (Kd.int .i64) 3 w' w.heap.size (fun _ => True) v367 x8_3) ∧ Aside0 (w'.heap[gb357]? = some (.cells #[.int .i64 0, .int .i64 0] 34 (0, 0))) ∧ Aside0 (Below w.heap.size w w'))
       case atStart => exact ⟨((-1)), (0), (wrap64 (x5_1 + 1)), hW_, hW_, hW_, H', ⟨Nat.le_refl _⟩, ⟨hR_ HO_7.out⟩, ⟨hR_ HO_8.out⟩, ⟨(hK_ BK357.out)⟩, ⟨hC_⟩⟩
       case round =>
        clear H'
        try clear c1
        try clear c2
        try clear p2
        try clear q2
        try clear hx2
        try clear hf2
        try clear c3
        try clear p3
        try clear q3
        try clear hx3
        try clear c4
        try clear p4
        try clear q4
        try clear hx4
        try clear hf4
        try clear c5
        try clear c6
        try clear p6
        try clear q6
        try clear hx6
        try clear hf6
        try clear c7
        try clear c8
        try clear p8
        try clear q8
        try clear hx8
        try clear hf8
        try clear c17
        try clear c17b0
        try clear c18
        try clear c18b0
        try clear c19
        try clear c19b0
        try clear c19b1
        try clear c20
        try clear c20b0
        try clear c21
        try clear c21b0
        try clear p22
        try clear q22
        try clear hx22
        try clear hf22
        try clear q23
        try clear c24
        try clear c25
        try clear c25b0
        try clear c25b1
        try clear c26
        try clear c26b0
        try clear p27
        try clear q27
        try clear hx27
        try clear hf27
        try clear p35
        try clear q35
        try clear hx35
        try clear c36
        try clear c36b0
        try clear p36
        try clear q36
        try clear hx36
        try clear c37
        try clear c37b0
        try clear p37
        try clear q37
        try clear hx37
        try clear c38
        try clear p38
        try clear q38
        try clear hx38
        try clear c39
        try clear p39
        try clear q39
        try clear hx39
        try clear c40
        try clear c40b0
        try clear c41
        try clear c41b0
        try clear p42
        try clear q42
        try clear hx42
        try clear hf42
        try clear q43
        try clear c44
        try clear c45
        try clear c45b0
        try clear c45b1
        try clear c46
        try clear c46b0
        try clear p47
        try clear q47
        try clear hx47
        try clear hf47
        try clear c59
        try clear c59b0
        try clear p60
        try clear q60
        try clear hx60
        try clear hf60
        try clear q61
        try clear c62
        try clear c63
        try clear c63b0
        try clear c64
        try clear c64b0
        try clear c64b1
        try clear p64
        try clear c65
        try clear c65b0
        try clear p66
        try clear q66
        try clear hx66
        try clear hf66
        try clear c78
        try clear c78b0
        try clear c79
        try clear c79b0
        try clear c80
        try clear c80b0
        try clear q81
        try clear c82
        try clear c83
        try clear c83b0
        try clear c84
        try clear c84b0
        try clear c85
        try clear c85b0
        try clear c86
        try clear c86b0
        try clear c87
        try clear c87b0
        try clear p88
        try clear q88
        try clear hx88
        try clear hf88
        try clear hx22_0
        try clear hx27_0
        try clear hx358_0
        try clear hx362_0
        try clear hx369_0
        try clear hx369_1
        try clear hx369_2
        try clear hx369_3
        try clear hx370_0
        try clear hx372_0
        try clear hx373_0
        try clear hx375_0
        try clear hx376_0
        try clear hx378_0
        try clear hx379_0
        try clear hx382_0
        try clear hx383_0
        try clear hx385_0
        try clear hx386_0
        try clear hx386_1
        try clear hx386_2
        try clear hx386_3
        try clear hx387_0
        try clear hx387_1
        try clear hx387_2
        try clear hx387_3
        try clear hx388_0
        try clear hx388_1
        try clear hx388_2
        try clear hx388_3
        try clear hx389_0
        try clear hx390_0
        try clear hx42_0
        try clear hx47_0
        try clear hx60_0
        try clear hx66_0
        try clear hx88_0
        try clear p2
        try clear p22
        try clear p27
        try clear p3
        try clear p35
        try clear p358
        try clear p36
        try clear p362
        try clear p369
        try clear p37
        try clear p370
        try clear p372
        try clear p373
        try clear p375
        try clear p376
        try clear p378
        try clear p379
        try clear p38
        try clear p382
        try clear p383
        try clear p385
        try clear p386
        try clear p387
        try clear p388
        try clear p389
        try clear p390
        try clear p4
        try clear p42
        try clear p47
        try clear p6
        try clear p60
        try clear p64
        try clear p66
        try clear p88
        try clear q2
        try clear q22
        try clear q23
        try clear q27
        try clear q3
        try clear q35
        try clear q358
        try clear q36
        try clear q362
        try clear q369
        try clear q37
        try clear q370
        try clear q372
        try clear q373
        try clear q375
        try clear q376
        try clear q378
        try clear q379
        try clear q38
        try clear q382
        try clear q383
        try clear q385
        try clear q386
        try clear q387
        try clear q388
        try clear q389
        try clear q390
        try clear q4
        try clear q42
        try clear q43
        try clear q47
        try clear q6
        try clear q60
        try clear q61
        try clear q66
        try clear q88
        obtain ⟨x13_4, x14_4, x15_4, rfl, rfl, rfl, HA, HK4, HO_7, HO_8, BK357, HB⟩ := hrel
        cases gk with
        | zero => exact absurd HA.out (by simp [sleuthref12_byHalves.l3])
        | succ k4 =>
         have H := HA.out
         clear HA
         simp only [sleuthref12_byHalves.l3] at H
         by_cases c95 : x15_4 < (l0.length : Int)
         case neg =>
          rw [if_neg c95] at H
          have c95b0 : decide (x15_4 < (l0.length : Int)) = false := decide_eq_false c95
          clear c95
          by_cases c116 : x13_4 ≥ 0
          case pos =>
           rw [if_pos c116] at H
           have c116b0 : decide (0 ≤ x13_4) = true := decide_eq_true c116
           clear c116
           simp only [Option.some.injEq, Prod.mk.injEq] at H
           obtain ⟨rfl, rfl⟩ := H
           obtain ⟨hcz117_0, hcz117_1, hfz117_0, hfz117_1⟩ := bx2_ BK357.out
           go_wp2
           refine bodyPost_ret (results_cell_row rfl _ _ gb357 34 #[.int .i64 0, .int .i64 x13_4] (0, 0) _ rfl (bP_ (bP_ (hK_ BK357.out))) Tryz.underlying34 rfl (by kernel_rfl)) rfl ?_
           exact ⟨hV_, hC_⟩
          rw [if_neg c116] at H
          have c116b0 : decide (0 ≤ x13_4) = false := decide_eq_false c116
          clear c116
          replace H := Option.bind_eq_some_iff.mp H
          obtain ⟨⟨t392, t393⟩, A1180, H⟩ := H
          replace H : (some (t392, t393)) = some (r1, r2) := H
          have A118 := a_ A1180
          clear A1180
          simp only [Option.some.injEq, Prod.mk.injEq] at H
          obtain ⟨rfl, rfl⟩ := H
          go_wp2_with (first | ((with_reducible refine gate_callee (f := 65) rfl ?_); refine goesL_ (some 183) rfl rfl Tryz.func65 (by kernel_rfl) rfl #[.slice A0 l0.length c0, .slice (some ad358) l1.length c1, .int .i64 x5_1] rfl hL_ ?_; (with_reducible refine (sleuthref12_verdict.calls k4 _ _ l0 _ _ l1 x5_1 t392 t393 _ ?side1 ?side2 ?side3 ?side4 A118.out).mono ?_); (case side1 => exact cB_ HR0.out); (case side2 => exact HC0.out); (case side3 => exact cB_ HR1.out); (case side4 => exact HC1.out); rintro e w119 ⟨rfl, hb⟩; refine ⟨_, rfl, ?_⟩; replace HO_7 := a_ (Kd.R_below (hR_ HO_7.out) hb); replace HO_8 := a_ (Kd.R_below (hR_ HO_8.out) hb); replace BK357 := a_ (bB_ BK357.out hb); replace HB := a_ (below_step hC_ hb); (try clear hb); (try clear hb2); (try clear hk); (try clear hi); obtain ⟨hcz120_0, hcz120_1, hfz120_0, hfz120_1⟩ := bx2_ BK357.out))
          refine bodyPost_ret (results_cell_row rfl _ _ gb357 34 #[.int .i64 t392, .int .i64 t393] (0, 0) _ rfl (bP_ (bP_ (hK_ BK357.out))) Tryz.underlying34 rfl (by kernel_rfl)) rfl ?_
          exact ⟨hV_, hC_⟩
         rw [if_pos c95] at H
         have c95b0 : decide (x15_4 < (l0.length : Int)) = true := decide_eq_true c95
         clear c95
         have HC96 := a_ H
         clear H
         go_upto_region 29 with (fail)
         go_cut [151] (fun v151 wc => ∃ (kq : Nat) (x151_95 : Bool), v151 = .bool x151_95 ∧ Aside0 (sleuthref12_byHalves.j4 kq l0 l1 x5_1 x7_2 x8_3 x9_2 x13_4 x14_4 x15_4 x151_95 = some (r1, r2)) ∧ Aside0 (kq ≤ k4) ∧ Aside0 (Kd.R Kd.bool 4 wc w.heap.size (fun _ => True) v364 x7_2) ∧ Aside0 (Kd.R (Kd.int .i64) 3 wc w.heap.size (fun _ => True) v367 x8_3) ∧ Aside0 (wc.heap[gb357]? = some (.cells #[.int .i64 0, .int .i64 0] 34 (0, 0))) ∧ Aside0 (Below w.heap.size w wc))
         case first =>
          have H := HC96.out
          clear HC96
          replace H := ifI_ H; obtain ⟨c97, H⟩ := H
          have c97b0 : decide (0 ≤ x15_4) = true := decide_eq_true c97
          clear c97
          (first | rw [c97b0] | (simp only [i64_w, i32_w]; rw [c97b0]) | skip)
          replace H := ifI_ H; obtain ⟨c98, H⟩ := H
          have c98b0 : decide (x15_4 < (x7_2.length : Int)) = true := decide_eq_true c98
          clear c98
          obtain ⟨bq99, hbq99⟩ : ∃ b_ : Bool, b_ = (rdOf false x7_2 x15_4) := ⟨_, rfl⟩
          replace H : (if bq99 = true then (if x15_4 < (l1.length : Int) then (sleuthref12_byHalves.j4 k4 l0 l1 x5_1 x7_2 x8_3 x9_2 x13_4 x14_4 x15_4 ((rd l1 x15_4) != 0)) else (none)) else (sleuthref12_byHalves.j4 k4 l0 l1 x5_1 x7_2 x8_3 x9_2 x13_4 x14_4 x15_4 true)) = some (r1, r2) := by rw [← hbq99] at H; exact H
          have Nbq99 := a_ hbq99
          clear hbq99
          by_cases c100 : bq99 = true
          case neg =>
           replace c100 := Bool.eq_false_iff.mpr c100
           subst c100
           have H1 : (sleuthref12_byHalves.j4 k4 l0 l1 x5_1 x7_2 x8_3 x9_2 x13_4 x14_4 x15_4 true) = some (r1, r2) := by rw [if_neg (show ¬ (false = true) by decide)] at H; exact H
           clear H
           have H := H1
           clear H1
           have H' := a_ H
           clear H
           obtain ⟨Ao103, co103, eo103⟩ := Kd.R_slice HO_7.out
           subst eo103
           have p394 : 0 ≤ (x15_4 : Int) := of_decide_eq_true hA_
           have q394 : x15_4 < (x7_2.length : Int) := of_decide_eq_true hA_
           obtain ⟨ad394, e394, hx394_0⟩ := Kd.at_bool (Kd.R_reads' HO_7.out).2.2 x15_4 p394 q394
           (try rw [← Nbq99.out] at hx394_0)
           cases e394
           replace p394 := eq_true p394
           replace q394 := eq_true q394
           go_wp2
           go_meet
           case rel => exact ⟨_, (true), hW_, H', ⟨by have := HK1.out; have := HK2.out; have := HK3.out; have := HK4.out; first | omega | exact Nat.le_refl _⟩, ⟨hR_ HO_7.out⟩, ⟨hR_ HO_8.out⟩, ⟨(hK_ BK357.out)⟩, ⟨hC_⟩⟩
          subst c100
          have H1 : (if x15_4 < (l1.length : Int) then (sleuthref12_byHalves.j4 k4 l0 l1 x5_1 x7_2 x8_3 x9_2 x13_4 x14_4 x15_4 ((rd l1 x15_4) != 0)) else (none)) = some (r1, r2) := by rw [if_pos rfl] at H; exact H
          clear H
          have H := H1
          clear H1
          replace H := ifI_ H; obtain ⟨c101, H⟩ := H
          have c101b0 : decide (x15_4 < (l1.length : Int)) = true := decide_eq_true c101
          clear c101
          have H' := a_ H
          clear H
          obtain ⟨Ao102, co102, eo102⟩ := Kd.R_slice HO_7.out
          subst eo102
          have p394 : 0 ≤ (x15_4 : Int) := of_decide_eq_true hA_
          have q394 : x15_4 < (x7_2.length : Int) := of_decide_eq_true hA_
          obtain ⟨ad394, e394, hx394_0⟩ := Kd.at_bool (Kd.R_reads' HO_7.out).2.2 x15_4 p394 q394
          (try rw [← Nbq99.out] at hx394_0)
          cases e394
          replace p394 := eq_true p394
          replace q394 := eq_true q394
          have p395 : 0 ≤ (x15_4 : Int) := of_decide_eq_true hA_
          have q395 : x15_4 < (l1.length : Int) := of_decide_eq_true hA_
          obtain ⟨ad395, e395, hx395_0⟩ := Kd.at_int HR1.out x15_4 p395 q395
          obtain rfl : ad358 = ad395 := (by injection e395)
          replace hx395_0 := cl_ HB.out hx395_0
          replace p395 := eq_true p395
          replace q395 := eq_true q395
          go_wp2
          go_meet
          case rel => exact ⟨_, (((rd l1 x15_4) != 0)), hW_, H', ⟨by have := HK1.out; have := HK2.out; have := HK3.out; have := HK4.out; first | omega | exact Nat.le_refl _⟩, ⟨hR_ HO_7.out⟩, ⟨hR_ HO_8.out⟩, ⟨(hK_ BK357.out)⟩, ⟨hC_⟩⟩
         case rest =>
          clear HC96
          try clear c1
          try clear c2
          try clear p2
          try clear q2
          try clear hx2
          try clear hf2
          try clear c3
          try clear p3
          try clear q3
          try clear hx3
          try clear c4
          try clear p4
          try clear q4
          try clear hx4
          try clear hf4
          try clear c5
          try clear c6
          try clear p6
          try clear q6
          try clear hx6
          try clear hf6
          try clear c7
          try clear c8
          try clear p8
          try clear q8
          try clear hx8
          try clear hf8
          try clear c9
          try clear q9
          try clear c10
          try clear c17
          try clear c17b0
          try clear c18
          try clear c18b0
          try clear c19
          try clear c19b0
          try clear c19b1
          try clear c20
          try clear c20b0
          try clear c21
          try clear c21b0
          try clear p22
          try clear q22
          try clear hx22
          try clear hf22
          try clear q23
          try clear c24
          try clear c25
          try clear c25b0
          try clear c25b1
          try clear c26
          try clear c26b0
          try clear p27
          try clear q27
          try clear hx27
          try clear hf27
          try clear p35
          try clear q35
          try clear hx35
          try clear c36
          try clear c36b0
          try clear p36
          try clear q36
          try clear hx36
          try clear c37
          try clear c37b0
          try clear p37
          try clear q37
          try clear hx37
          try clear c38
          try clear p38
          try clear q38
          try clear hx38
          try clear c39
          try clear p39
          try clear q39
          try clear hx39
          try clear c40
          try clear c40b0
          try clear c41
          try clear c41b0
          try clear p42
          try clear q42
          try clear hx42
          try clear hf42
          try clear q43
          try clear c44
          try clear c45
          try clear c45b0
          try clear c45b1
          try clear c46
          try clear c46b0
          try clear p47
          try clear q47
          try clear hx47
          try clear hf47
          try clear c59
          try clear c59b0
          try clear p60
          try clear q60
          try clear hx60
          try clear hf60
          try clear q61
          try clear c62
          try clear c63
          try clear c63b0
          try clear c64
          try clear c64b0
          try clear c64b1
          try clear p64
          try clear c65
          try clear c65b0
          try clear p66
          try clear q66
          try clear hx66
          try clear hf66
          try clear c78
          try clear c78b0
          try clear c79
          try clear c79b0
          try clear c80
          try clear c80b0
          try clear q81
          try clear c82
          try clear c83
          try clear c83b0
          try clear c84
          try clear c84b0
          try clear c85
          try clear c85b0
          try clear c86
          try clear c86b0
          try clear c87
          try clear c87b0
          try clear p88
          try clear q88
          try clear hx88
          try clear hf88
          try clear c95
          try clear c95b0
          try clear c97
          try clear c97b0
          try clear c98
          try clear c98b0
          try clear q99
          try clear c100
          try clear c101
          try clear c101b0
          try clear hx22_0
          try clear hx27_0
          try clear hx358_0
          try clear hx362_0
          try clear hx369_0
          try clear hx369_1
          try clear hx369_2
          try clear hx369_3
          try clear hx370_0
          try clear hx372_0
          try clear hx373_0
          try clear hx375_0
          try clear hx376_0
          try clear hx378_0
          try clear hx379_0
          try clear hx382_0
          try clear hx383_0
          try clear hx385_0
          try clear hx386_0
          try clear hx386_1
          try clear hx386_2
          try clear hx386_3
          try clear hx387_0
          try clear hx387_1
          try clear hx387_2
          try clear hx387_3
          try clear hx388_0
          try clear hx388_1
          try clear hx388_2
          try clear hx388_3
          try clear hx389_0
          try clear hx390_0
          try clear hx394_0
          try clear hx395_0
          try clear hx42_0
          try clear hx47_0
          try clear hx60_0
          try clear hx66_0
          try clear hx88_0
          try clear p2
          try clear p22
          try clear p27
          try clear p3
          try clear p35
          try clear p358
          try clear p36
          try clear p362
          try clear p369
          try clear p37
          try clear p370
          try clear p372
          try clear p373
          try clear p375
          try clear p376
          try clear p378
          try clear p379
          try clear p38
          try clear p382
          try clear p383
          try clear p385
          try clear p386
          try clear p387
          try clear p388
          try clear p389
          try clear p39
          try clear p390
          try clear p394
          try clear p395
          try clear p4
          try clear p42
          try clear p47
          try clear p6
          try clear p60
          try clear p64
          try clear p66
          try clear p8
          try clear p88
          try clear q2
          try clear q22
          try clear q23
          try clear q27
          try clear q3
          try clear q35
          try clear q358
          try clear q36
          try clear q362
          try clear q369
          try clear q37
          try clear q370
          try clear q372
          try clear q373
          try clear q375
          try clear q376
          try clear q378
          try clear q379
          try clear q38
          try clear q382
          try clear q383
          try clear q385
          try clear q386
          try clear q387
          try clear q388
          try clear q389
          try clear q39
          try clear q390
          try clear q394
          try clear q395
          try clear q4
          try clear q42
          try clear q43
          try clear q47
          try clear q6
          try clear q60
          try clear q61
          try clear q66
          try clear q8
          try clear q81
          try clear q88
          obtain ⟨kq, x151_95, rfl, HA, HJ95, HO_7, HO_8, BK357, HB⟩ := hcut
          cases kq with
          | zero => exact absurd HA.out (by simp [sleuthref12_byHalves.j4])
          | succ kj95 =>
           have H := HA.out
           clear HA
           simp only [sleuthref12_byHalves.j4] at H
           by_cases c104 : x151_95 = true
           case pos =>
            subst c104
            have H1 : (sleuthref12_byHalves.l3 kj95 l0 l1 x5_1 x7_2 x8_3 x9_2 x13_4 x14_4 (wrap64 (x15_4 + 1))) = some (r1, r2) := by rw [if_pos rfl] at H; exact H
            clear H
            have H := H1
            clear H1
            have H' := a_ H
            clear H
            go_wp2
            go_roundg kj95
            case measure => have := HK1.out; have := HK2.out; have := HK3.out; have := HK4.out; have := HJ95.out; omega
            case rel => exact ⟨(x13_4), (x14_4), (wrap64 (x15_4 + 1)), hW_, hW_, hW_, H', ⟨by have := HK1.out; have := HK2.out; have := HK3.out; have := HK4.out; have := HJ95.out; omega⟩, ⟨hR_ HO_7.out⟩, ⟨hR_ HO_8.out⟩, ⟨(hK_ BK357.out)⟩, ⟨hC_⟩⟩
           replace c104 := Bool.eq_false_iff.mpr c104
           subst c104
           have H1 : (if 0 ≤ x15_4 then (if x15_4 < (x8_3.length : Int) then (if x13_4 < 0 then (sleuthref12_byHalves.l3 kj95 l0 l1 x5_1 x7_2 x8_3 x9_2 x15_4 (mx (wrap64 ((wrap64 (2 * (rd x8_3 x15_4))) - x9_2)) (wrap64 (x9_2 - (wrap64 (2 * (rd x8_3 x15_4)))))) (wrap64 (x15_4 + 1))) else (if (mx (wrap64 ((wrap64 (2 * (rd x8_3 x15_4))) - x9_2)) (wrap64 (x9_2 - (wrap64 (2 * (rd x8_3 x15_4)))))) < x14_4 then (sleuthref12_byHalves.l3 kj95 l0 l1 x5_1 x7_2 x8_3 x9_2 x15_4 (mx (wrap64 ((wrap64 (2 * (rd x8_3 x15_4))) - x9_2)) (wrap64 (x9_2 - (wrap64 (2 * (rd x8_3 x15_4)))))) (wrap64 (x15_4 + 1))) else (sleuthref12_byHalves.l3 kj95 l0 l1 x5_1 x7_2 x8_3 x9_2 x13_4 x14_4 (wrap64 (x15_4 + 1))))) else (none)) else (none)) = some (r1, r2) := by rw [if_neg (show ¬ (false = true) by decide)] at H; exact H
           clear H
           have H := H1
           clear H1
           replace H := ifI_ H; obtain ⟨c105, H⟩ := H
           have c105b0 : decide (0 ≤ x15_4) = true := decide_eq_true c105
           clear c105
           replace H := ifI_ H; obtain ⟨c106, H⟩ := H
           have c106b0 : decide (x15_4 < (x8_3.length : Int)) = true := decide_eq_true c106
           clear c106
           obtain ⟨ji107, hji107⟩ : ∃ j_ : Int, (mx (wrap64 ((wrap64 (2 * (rd x8_3 x15_4))) - x9_2)) (wrap64 (x9_2 - (wrap64 (2 * (rd x8_3 x15_4)))))) = j_ := ⟨_, rfl⟩
           replace H : (if x13_4 < 0 then (sleuthref12_byHalves.l3 kj95 l0 l1 x5_1 x7_2 x8_3 x9_2 x15_4 ji107 (wrap64 (x15_4 + 1))) else (if (ji107) < x14_4 then (sleuthref12_byHalves.l3 kj95 l0 l1 x5_1 x7_2 x8_3 x9_2 x15_4 ji107 (wrap64 (x15_4 + 1))) else (sleuthref12_byHalves.l3 kj95 l0 l1 x5_1 x7_2 x8_3 x9_2 x13_4 x14_4 (wrap64 (x15_4 + 1))))) = some (r1, r2) := by first | (rw [hji107] at H; exact H) | (simp only [hji107] at H ⊢; exact H)
           have hji107_ : (if (wrap64 ((wrap64 (2 * (rd x8_3 x15_4))) - x9_2)) < (wrap64 (x9_2 - (wrap64 (2 * (rd x8_3 x15_4))))) then (wrap64 (x9_2 - (wrap64 (2 * (rd x8_3 x15_4))))) else (wrap64 ((wrap64 (2 * (rd x8_3 x15_4))) - x9_2))) = ji107 := hji107
           by_cases c108 : x13_4 < 0
           case pos =>
            rw [if_pos c108] at H
            have c108b0 : decide (x13_4 < 0) = true := decide_eq_true c108
            clear c108
            have H' := a_ H
            clear H
            try go_wp2
            replace HO_7 := a_ (Kd.R_drew HO_7.out)
            replace HO_8 := a_ (Kd.R_drew HO_8.out)
            replace BK357 := a_ (blk_drew BK357.out)
            replace HB := a_ (below_drew1 HB.out)
            obtain ⟨Ao110, co110, eo110⟩ := Kd.R_slice HO_8.out
            (first | subst eo110 | (injection eo110 with f1_ f2_ f3_; have f4_ := f1_.symm; have f5_ := f3_.symm; clear f1_ f2_ f3_; subst f4_; subst f5_))
            have p396 : 0 ≤ (x15_4 : Int) := of_decide_eq_true hA_
            have q396 : x15_4 < (x8_3.length : Int) := of_decide_eq_true hA_
            obtain ⟨ad396, e396, hx396_0⟩ := Kd.at_int (Kd.R_reads' HO_8.out).2.2 x15_4 p396 q396
            cases e396
            replace p396 := eq_true p396
            replace q396 := eq_true q396
            have p397 : 0 ≤ (x15_4 : Int) := of_decide_eq_true hA_
            have q397 : x15_4 < (x8_3.length : Int) := of_decide_eq_true hA_
            obtain ⟨ad397, e397, hx397_0⟩ := Kd.at_int (Kd.R_reads' HO_8.out).2.2 x15_4 p397 q397
            obtain rfl : ad396 = ad397 := (by injection e397)
            replace p397 := eq_true p397
            replace q397 := eq_true q397
            refine start_ (n := 16) (S := fun w' => w'.cell? (ad396.add (x15_4).toNat) = some (.int .i64 (rd x8_3 x15_4)) ∧ w'.cell? (ad396.add (x15_4).toNat) = some (.int .i64 (rd x8_3 x15_4))) (ds := []) #[false, false, false, false, false, false, false, false, false, false, false, false, false, false, false, false] (by kernel_rfl) rfl rfl ⟨hx396_0, hx397_0⟩ (fun hHeld => ?_); refine with_tabW sleuthref12_byHalves.tab30 sleuthref12_byHalves.bits30 (fun HT_ HW_ => ?_)
            generalize wc.drew = w109 at HO_7 HO_8 BK357 HB hx396_0 hx397_0 hHeld ⊢
            refine pB_ 0 152 HT_.out ?_
            refine pB_ 1 153 HT_.out ?_
            refine pB_ 2 154 HT_.out ?_
            refine pB_ 5 157 HT_.out ?_
            refine pB_ 7 159 HT_.out ?_
            refine pB_ 8 160 HT_.out ?_
            refine pB_ 9 161 HT_.out ?_
            refine pB_ 10 162 HT_.out ?_
            refine tB_ 3 155 HT_.out HW_.out hHeld ?_
            refine pB_ 4 156 HT_.out ?_
            refine pB_ 6 158 HT_.out ?_
            refine tB_ 11 163 HT_.out HW_.out hHeld ?_
            refine pB_ 12 164 HT_.out ?_
            refine pB_ 13 165 HT_.out ?_
            refine pB_ 14 166 HT_.out ?_
            refine pB_ 15 16 HT_.out ?_
            refine done_ (done_of HT_.out (by kernel_rfl)) ?_
            try go_wp2
            go_roundg kj95
            case measure => have := HK1.out; have := HK2.out; have := HK3.out; have := HK4.out; have := HJ95.out; omega
            case rel => exact ⟨(x15_4), (ji107), (wrap64 (x15_4 + 1)), hW_, (by first | rfl | (simp; done) | (simp only [← hji107] <;> (first | rfl | simp)) | (simp [*]; done)), hW_, H', ⟨by have := HK1.out; have := HK2.out; have := HK3.out; have := HK4.out; have := HJ95.out; omega⟩, ⟨hR_ HO_7.out⟩, ⟨hR_ HO_8.out⟩, ⟨(hK_ BK357.out)⟩, ⟨hC_⟩⟩
           rw [if_neg c108] at H
           have c108b0 : decide (x13_4 < 0) = false := decide_eq_false c108
           clear c108
           by_cases c111 : (ji107) < x14_4
           case neg =>
            rw [if_neg c111] at H
            have c111b0 : decide ((ji107) < x14_4) = false := decide_eq_false c111
            clear c111
            have H' := a_ H
            clear H
            try go_wp2
            replace HO_7 := a_ (Kd.R_drew HO_7.out)
            replace HO_8 := a_ (Kd.R_drew HO_8.out)
            replace BK357 := a_ (blk_drew BK357.out)
            replace HB := a_ (below_drew1 HB.out)
            obtain ⟨Ao115, co115, eo115⟩ := Kd.R_slice HO_8.out
            (first | subst eo115 | (injection eo115 with f1_ f2_ f3_; have f4_ := f1_.symm; have f5_ := f3_.symm; clear f1_ f2_ f3_; subst f4_; subst f5_))
            have p396 : 0 ≤ (x15_4 : Int) := of_decide_eq_true hA_
            have q396 : x15_4 < (x8_3.length : Int) := of_decide_eq_true hA_
            obtain ⟨ad396, e396, hx396_0⟩ := Kd.at_int (Kd.R_reads' HO_8.out).2.2 x15_4 p396 q396
            cases e396
            replace p396 := eq_true p396
            replace q396 := eq_true q396
            have p397 : 0 ≤ (x15_4 : Int) := of_decide_eq_true hA_
            have q397 : x15_4 < (x8_3.length : Int) := of_decide_eq_true hA_
            obtain ⟨ad397, e397, hx397_0⟩ := Kd.at_int (Kd.R_reads' HO_8.out).2.2 x15_4 p397 q397
            obtain rfl : ad396 = ad397 := (by injection e397)
            replace p397 := eq_true p397
            replace q397 := eq_true q397
            refine start_ (n := 16) (S := fun w' => w'.cell? (ad396.add (x15_4).toNat) = some (.int .i64 (rd x8_3 x15_4)) ∧ w'.cell? (ad396.add (x15_4).toNat) = some (.int .i64 (rd x8_3 x15_4))) (ds := []) #[false, false, false, false, false, false, false, false, false, false, false, false, false, false, false, false] (by kernel_rfl) rfl rfl ⟨hx396_0, hx397_0⟩ (fun hHeld => ?_); refine with_tabW sleuthref12_byHalves.tab30 sleuthref12_byHalves.bits30 (fun HT_ HW_ => ?_)
            generalize wc.drew = w114 at HO_7 HO_8 BK357 HB hx396_0 hx397_0 hHeld ⊢
            refine pB_ 0 152 HT_.out ?_
            refine pB_ 1 153 HT_.out ?_
            refine pB_ 2 154 HT_.out ?_
            refine pB_ 5 157 HT_.out ?_
            refine pB_ 7 159 HT_.out ?_
            refine pB_ 8 160 HT_.out ?_
            refine pB_ 9 161 HT_.out ?_
            refine pB_ 10 162 HT_.out ?_
            refine tB_ 3 155 HT_.out HW_.out hHeld ?_
            refine pB_ 4 156 HT_.out ?_
            refine pB_ 6 158 HT_.out ?_
            refine tB_ 11 163 HT_.out HW_.out hHeld ?_
            refine pB_ 12 164 HT_.out ?_
            refine pB_ 13 165 HT_.out ?_
            refine pB_ 14 166 HT_.out ?_
            refine pB_ 15 16 HT_.out ?_
            refine done_ (done_of HT_.out (by kernel_rfl)) ?_
            try go_wp2
            go_roundg kj95
            case measure => have := HK1.out; have := HK2.out; have := HK3.out; have := HK4.out; have := HJ95.out; omega
            case rel => exact ⟨(x13_4), (x14_4), (wrap64 (x15_4 + 1)), hW_, hW_, hW_, H', ⟨by have := HK1.out; have := HK2.out; have := HK3.out; have := HK4.out; have := HJ95.out; omega⟩, ⟨hR_ HO_7.out⟩, ⟨hR_ HO_8.out⟩, ⟨(hK_ BK357.out)⟩, ⟨hC_⟩⟩
           rw [if_pos c111] at H
           have c111b0 : decide ((ji107) < x14_4) = true := decide_eq_true c111
           clear c111
           have H' := a_ H
           clear H
           try go_wp2
           replace HO_7 := a_ (Kd.R_drew HO_7.out)
           replace HO_8 := a_ (Kd.R_drew HO_8.out)
           replace BK357 := a_ (blk_drew BK357.out)
           replace HB := a_ (below_drew1 HB.out)
           obtain ⟨Ao113, co113, eo113⟩ := Kd.R_slice HO_8.out
           (first | subst eo113 | (injection eo113 with f1_ f2_ f3_; have f4_ := f1_.symm; have f5_ := f3_.symm; clear f1_ f2_ f3_; subst f4_; subst f5_))
           have p396 : 0 ≤ (x15_4 : Int) := of_decide_eq_true hA_
           have q396 : x15_4 < (x8_3.length : Int) := of_decide_eq_true hA_
           obtain ⟨ad396, e396, hx396_0⟩ := Kd.at_int (Kd.R_reads' HO_8.out).2.2 x15_4 p396 q396
           cases e396
           replace p396 := eq_true p396
           replace q396 := eq_true q396
           have p397 : 0 ≤ (x15_4 : Int) := of_decide_eq_true hA_
           have q397 : x15_4 < (x8_3.length : Int) := of_decide_eq_true hA_
           obtain ⟨ad397, e397, hx397_0⟩ := Kd.at_int (Kd.R_reads' HO_8.out).2.2 x15_4 p397 q397
           obtain rfl : ad396 = ad397 := (by injection e397)
           replace p397 := eq_true p397
           replace q397 := eq_true q397
           refine start_ (n := 16) (S := fun w' => w'.cell? (ad396.add (x15_4).toNat) = some (.int .i64 (rd x8_3 x15_4)) ∧ w'.cell? (ad396.add (x15_4).toNat) = some (.int .i64 (rd x8_3 x15_4))) (ds := []) #[false, false, false, false, false, false, false, false, false, false, false, false, false, false, false, false] (by kernel_rfl) rfl rfl ⟨hx396_0, hx397_0⟩ (fun hHeld => ?_); refine with_tabW sleuthref12_byHalves.tab30 sleuthref12_byHalves.bits30 (fun HT_ HW_ => ?_)
           generalize wc.drew = w112 at HO_7 HO_8 BK357 HB hx396_0 hx397_0 hHeld ⊢
           refine pB_ 0 152 HT_.out ?_
           refine pB_ 1 153 HT_.out ?_
           refine pB_ 2 154 HT_.out ?_
           refine pB_ 5 157 HT_.out ?_
           refine pB_ 7 159 HT_.out ?_
           refine pB_ 8 160 HT_.out ?_
           refine pB_ 9 161 HT_.out ?_
           refine pB_ 10 162 HT_.out ?_
           refine tB_ 3 155 HT_.out HW_.out hHeld ?_
           refine pB_ 4 156 HT_.out ?_
           refine pB_ 6 158 HT_.out ?_
           refine tB_ 11 163 HT_.out HW_.out hHeld ?_
           refine pB_ 12 164 HT_.out ?_
           refine pB_ 13 165 HT_.out ?_
           refine pB_ 14 166 HT_.out ?_
           refine pB_ 15 16 HT_.out ?_
           refine done_ (done_of HT_.out (by kernel_rfl)) ?_
           try go_wp2
           go_roundg kj95
           case measure => have := HK1.out; have := HK2.out; have := HK3.out; have := HK4.out; have := HJ95.out; omega
           case rel => exact ⟨(x15_4), (ji107), (wrap64 (x15_4 + 1)), hW_, (by first | rfl | (simp; done) | (simp only [← hji107] <;> (first | rfl | simp)) | (simp [*]; done)), hW_, H', ⟨by have := HK1.out; have := HK2.out; have := HK3.out; have := HK4.out; have := HJ95.out; omega⟩, ⟨hR_ HO_7.out⟩, ⟨hR_ HO_8.out⟩, ⟨(hK_ BK357.out)⟩, ⟨hC_⟩⟩
end Go.Proofs.YtgokcaccamfgfaaGreatDoor.G
end
section
-- Laid by the session's own driver gp.py over the kit's printer. Not trusted: Lean checks it.
namespace Go.Proofs.YtgokcaccamfgfaaGreatDoor.G
open Go.RowKit Go.Proofs.YtgokcaccamfgfaaGreatDoorW.PrintWords Go.Proofs.YtgokcaccamfgfaaGreatDoorW.PrintLast Go.Proofs.YtgokcaccamfgfaaGreatDoorW.PrintMore
set_option maxHeartbeats 8000000
set_option maxRecDepth 100000
attribute [local go_sem] max2_int min2_int max_two min_two max_three min_three max_four min_four   -- for this text's walks alone
set_option linter.unusedVariables false
set_option linter.unusedSimpArgs false

def sleuthref12_asks.f (k : Nat) (l0 : List (S64)) (a1 : Int) (l2 : List Int) : Option (Int × Int) := if a1 = 0 then ((sleuthref12_topDown.f k l0 l2).bind fun bt399 => (some (bt399.1, bt399.2))) else ((sleuthref12_byHalves.f k l0 l2).bind fun bt401 => (some (bt401.1, bt401.2)))
theorem sleuthref12_asks.mono : ∀ a0 a1 a2 k, LeO (sleuthref12_asks.f k a0 a1 a2) (sleuthref12_asks.f (k + 1) a0 a1 a2) := by
 intro a0 a1 a2 k
 unfold sleuthref12_asks.f
 repeat' first
  | (with_reducible exact sleuthref12_byHalves.mono _ _ _)
  | (with_reducible exact sleuthref12_topDown.mono _ _ _)
  | (with_reducible exact LeO.refl _)
  | (with_reducible exact LeO.none _)
  | (with_reducible refine LeO.ite ?_ ?_)
  | (with_reducible refine LeO.bind ?_ (fun _ => ?_))
  | exact sleuthref12_byHalves.mono _ _ _
  | exact sleuthref12_topDown.mono _ _ _
  | exact LeO.none _
  | refine LeO.ite ?_ ?_
  | refine LeO.bind ?_ (fun _ => ?_)
theorem sleuthref12_asks.calls (k : Nat) (A0 : Option Addr) (c0 : Nat) (l0 : List (S64)) (a1 : Int) (A2 : Option Addr) (c2 : Nat) (l2 : List Int) (r1 : Int) (r2 : Int) (w : World) (hr0 : Kd.C k64 w A0 l0.length l0) (hc0 : l0.length ≤ c0) (hr2 : Kd.C (Kd.int .i64) w A2 l2.length l2) (hc2 : l2.length ≤ c2) (h : sleuthref12_asks.f k l0 a1 l2 = some (r1, r2)) :
 Calls Tryz.prog 32 #[.slice A0 l0.length c0, .int .i64 a1, .slice A2 l2.length c2] w fun e w' => e = .returned (.agg #[.int .i64 r1, .int .i64 r2]) ∧ Below w.heap.size w w' := by
 have hu34 := Tryz.underlying34
 have HR0 := a_ hr0
 have HC0 := a_ hc0
 clear hr0 hc0
 have HR2 := a_ hr2
 have HC2 := a_ hc2
 clear hr2 hc2
 have HB := a_ (Below.refl w.heap.size w)
 have H : (if a1 = 0 then ((sleuthref12_topDown.f k l0 l2).bind fun bt399 => (some (bt399.1, bt399.2))) else ((sleuthref12_byHalves.f k l0 l2).bind fun bt401 => (some (bt401.1, bt401.2)))) = some (r1, r2) := h
 clear h
 by_cases c4 : a1 = 0
 case neg =>
  rw [if_neg c4] at H
  have c4b0 : (a1 == 0) = false := beq_eq_false_iff_ne.mpr c4
  have c4b1 : (a1 != 0) = true := bne_iff_ne.mpr c4
  replace H := Option.bind_eq_some_iff.mp H
  obtain ⟨⟨t401, t402⟩, A90, H⟩ := H
  replace H : (some (t401, t402)) = some (r1, r2) := H
  have A9 := a_ A90
  clear A90
  simp only [Option.some.injEq, Prod.mk.injEq] at H
  obtain ⟨rfl, rfl⟩ := H
  go_enter Tryz.func32, Tryz.ntmps32
  go_wp2_with (first | ((with_reducible refine gate_dst (N := 6) rfl ?_); refine boxE_ 6 #[.int .i64 0, .int .i64 0] 34 ?_; intro gb398 hg w10 hbox hb; have BK398 := a_ (hbox); have GW398 := a_ ((gE_ hg : w.heap.size ≤ gb398)); have GE398 := a_ ((gE_ hg : w.heap.size ≤ gb398)); replace HB := a_ (below_step hB_ hb); clear hb hbox hg) | ((with_reducible refine gate_callee (f := 46) rfl ?_); refine goesL_ (some 14) rfl rfl Tryz.func46 (by kernel_rfl) rfl #[.slice A0 l0.length c0, .slice A2 l2.length c2] rfl hL_ ?_; (with_reducible refine (sleuthref12_byHalves.calls k _ _ l0 _ _ l2 t401 t402 _ ?side1 ?side2 ?side3 ?side4 A9.out).mono ?_); (case side1 => exact cB_ HR0.out); (case side2 => exact HC0.out); (case side3 => exact cB_ HR2.out); (case side4 => exact HC2.out); rintro e w11 ⟨rfl, hb⟩; refine ⟨_, rfl, ?_⟩; replace BK398 := a_ (bB_ BK398.out hb); replace HB := a_ (below_step hC_ hb); (try clear hb); (try clear hb2); (try clear hk); (try clear hi); obtain ⟨hcz12_0, hcz12_1, hfz12_0, hfz12_1⟩ := bx2_ BK398.out))
  refine bodyPost_ret (results_cell_row rfl _ _ gb398 34 #[.int .i64 t401, .int .i64 t402] (0, 0) _ rfl (bP_ (bP_ (hK_ BK398.out))) Tryz.underlying34 rfl (by kernel_rfl)) rfl ?_
  exact ⟨hV_, hC_⟩

 rw [if_pos c4] at H
 have c4b0 : (a1 == 0) = true := beq_iff_eq.mpr c4
 have c4b1 : (a1 != 0) = false := bne_eq_false_iff_eq.mpr c4
 clear c4
 replace H := Option.bind_eq_some_iff.mp H
 obtain ⟨⟨t399, t400⟩, A50, H⟩ := H
 replace H : (some (t399, t400)) = some (r1, r2) := H
 have A5 := a_ A50
 clear A50
 simp only [Option.some.injEq, Prod.mk.injEq] at H
 obtain ⟨rfl, rfl⟩ := H
 go_enter Tryz.func32, Tryz.ntmps32
 go_wp2_with (first | ((with_reducible refine gate_dst (N := 6) rfl ?_); refine boxE_ 6 #[.int .i64 0, .int .i64 0] 34 ?_; intro gb398 hg w6 hbox hb; have BK398 := a_ (hbox); have GW398 := a_ ((gE_ hg : w.heap.size ≤ gb398)); have GE398 := a_ ((gE_ hg : w.heap.size ≤ gb398)); replace HB := a_ (below_step hB_ hb); clear hb hbox hg) | ((with_reducible refine gate_callee (f := 45) rfl ?_); refine goesL_ (some 11) rfl rfl Tryz.func45 (by kernel_rfl) rfl #[.slice A0 l0.length c0, .slice A2 l2.length c2] rfl hL_ ?_; (with_reducible refine (sleuthref12_topDown.calls k _ _ l0 _ _ l2 t399 t400 _ ?side1 ?side2 ?side3 ?side4 A5.out).mono ?_); (case side1 => exact cB_ HR0.out); (case side2 => exact HC0.out); (case side3 => exact cB_ HR2.out); (case side4 => exact HC2.out); rintro e w7 ⟨rfl, hb⟩; refine ⟨_, rfl, ?_⟩; replace BK398 := a_ (bB_ BK398.out hb); replace HB := a_ (below_step hC_ hb); (try clear hb); (try clear hb2); (try clear hk); (try clear hi); obtain ⟨hcz8_0, hcz8_1, hfz8_0, hfz8_1⟩ := bx2_ BK398.out))
 refine bodyPost_ret (results_cell_row rfl _ _ gb398 34 #[.int .i64 t399, .int .i64 t400] (0, 0) _ rfl (bP_ (bP_ (hK_ BK398.out))) Tryz.underlying34 rfl (by kernel_rfl)) rfl ?_
 exact ⟨hV_, hC_⟩
end Go.Proofs.YtgokcaccamfgfaaGreatDoor.G
end
