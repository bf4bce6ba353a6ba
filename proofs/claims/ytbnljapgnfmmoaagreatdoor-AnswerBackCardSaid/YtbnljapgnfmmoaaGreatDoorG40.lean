-- Laid by the session's own driver gp.py over the kit's printer. Not trusted: Lean checks it.
import Derived.Test.YtbnljapgnfmmoaaGreatDoorU2
import Derived.Test.YtbnljapgnfmmoaaGreatDoorG0
import Derived.Test.YtbnljapgnfmmoaaGreatDoorU10
namespace Go.Proofs.YtbnljapgnfmmoaaGreatDoor.G
open Go.RowKit Go.Proofs.YtbnljapgnfmmoaaGreatDoorW.PrintWords Go.Proofs.YtbnljapgnfmmoaaGreatDoorW.PrintLast Go.Proofs.YtbnljapgnfmmoaaGreatDoorW.PrintMore
set_option maxHeartbeats 8000000
set_option maxRecDepth 100000
attribute [local go_sem] max2_int min2_int max_two min_two max_three min_three max_four min_four   -- for this text's walks alone
set_option linter.unusedVariables false
set_option linter.unusedSimpArgs false

mutual
def sleuthref12_byHalves.l0 : Nat → List (S66) → List Int → Int → Int → Option (Int × Int)
 | 0, _, _, _, _ => none
 | k + 1, x0, x1, x5, x6 => if x6 < (x0.length : Int) then (if 0 ≤ x6 then (if x6 < (x1.length : Int) then (if (rd x1 x6) = 2 then (sleuthref12_byHalves.l0 k x0 x1 x6 (wrap64 (x6 + 1))) else (sleuthref12_byHalves.l0 k x0 x1 x5 (wrap64 (x6 + 1)))) else (none)) else (none)) else (if 0 ≤ (x0.length : Int) then (if ((x0.length : Int) : Int).toNat ≤ 281474976710656 then (if ((x0.length : Int) : Int).toNat ≤ 35184372088832 then (sleuthref12_byHalves.l1 k x0 x1 x5 (List.replicate ((x0.length : Int) : Int).toNat false) (List.replicate ((x0.length : Int) : Int).toNat 0) 0 (wrap64 (x5 + 1))) else (none)) else (none)) else (none))
def sleuthref12_byHalves.l1 : Nat → List (S66) → List Int → Int → List Bool → List Int → Int → Int → Option (Int × Int)
 | 0, _, _, _, _, _, _, _ => none
 | k + 1, x0, x1, x5, x7, x8, x9, x10 => if x10 < (x0.length : Int) then (if 0 ≤ x10 then (if ((rd_T66 x0 x10).f1) = x5 then (if x10 < (x1.length : Int) then (if x10 < (x7.length : Int) then ((some (x7.set (x10 : Int).toNat ((rd x1 x10) != 1) : List Bool)).bind fun y380 => (if rdOf false y380 x10 = true then (if (rd x1 x10) = 0 then (if x10 < (x8.length : Int) then (sleuthref12_byHalves.l1 k x0 x1 x5 y380 (x8.set (x10 : Int).toNat 1) (wrap64 (x9 + 1)) (wrap64 (x10 + 1))) else (none)) else (sleuthref12_byHalves.l1 k x0 x1 x5 y380 x8 x9 (wrap64 (x10 + 1)))) else (sleuthref12_byHalves.l1 k x0 x1 x5 y380 x8 x9 (wrap64 (x10 + 1))))) else (none)) else (none)) else (if 0 ≤ ((rd_T66 x0 x10).f1) then (if ((rd_T66 x0 x10).f1) < (x7.length : Int) then (if rdOf false x7 ((rd_T66 x0 x10).f1) = true then (if x10 < (x1.length : Int) then (if x10 < (x7.length : Int) then ((some (x7.set (x10 : Int).toNat ((rd x1 x10) != 1) : List Bool)).bind fun y386 => (if rdOf false y386 x10 = true then (if (rd x1 x10) = 0 then (if x10 < (x8.length : Int) then (sleuthref12_byHalves.l1 k x0 x1 x5 y386 (x8.set (x10 : Int).toNat 1) (wrap64 (x9 + 1)) (wrap64 (x10 + 1))) else (none)) else (sleuthref12_byHalves.l1 k x0 x1 x5 y386 x8 x9 (wrap64 (x10 + 1)))) else (sleuthref12_byHalves.l1 k x0 x1 x5 y386 x8 x9 (wrap64 (x10 + 1))))) else (none)) else (none)) else (if x10 < (x7.length : Int) then ((some (x7.set (x10 : Int).toNat false : List Bool)).bind fun y390 => (if rdOf false y390 x10 = true then (if x10 < (x1.length : Int) then (if (rd x1 x10) = 0 then (if x10 < (x8.length : Int) then (sleuthref12_byHalves.l1 k x0 x1 x5 y390 (x8.set (x10 : Int).toNat 1) (wrap64 (x9 + 1)) (wrap64 (x10 + 1))) else (none)) else (sleuthref12_byHalves.l1 k x0 x1 x5 y390 x8 x9 (wrap64 (x10 + 1)))) else (none)) else (sleuthref12_byHalves.l1 k x0 x1 x5 y390 x8 x9 (wrap64 (x10 + 1))))) else (none))) else (none)) else (none))) else (none)) else (sleuthref12_byHalves.l2 k x0 x1 x5 x7 x8 x9 (wrap64 ((x0.length : Int) - 1)))
def sleuthref12_byHalves.l2 : Nat → List (S66) → List Int → Int → List Bool → List Int → Int → Int → Option (Int × Int)
 | 0, _, _, _, _, _, _, _ => none
 | k + 1, x0, x1, x5, x7, x8, x9, x12 => if x12 > x5 then (if 0 ≤ x12 then (if x12 < (x7.length : Int) then (if rdOf false x7 x12 = true then (if x12 < (x0.length : Int) then (if ((rd_T66 x0 x12).f1) > x5 then (if 0 ≤ ((rd_T66 x0 x12).f1) then (if ((rd_T66 x0 x12).f1) < (x8.length : Int) then (if x12 < (x8.length : Int) then (sleuthref12_byHalves.l2 k x0 x1 x5 x7 (x8.set (((rd_T66 x0 x12).f1) : Int).toNat (wrap64 ((rd x8 ((rd_T66 x0 x12).f1)) + (rd x8 x12)))) x9 (wrap64 (x12 - 1))) else (none)) else (none)) else (none)) else (sleuthref12_byHalves.l2 k x0 x1 x5 x7 x8 x9 (wrap64 (x12 - 1)))) else (none)) else (sleuthref12_byHalves.l2 k x0 x1 x5 x7 x8 x9 (wrap64 (x12 - 1)))) else (none)) else (none)) else (sleuthref12_byHalves.l3 k x0 x1 x5 x7 x8 x9 (-1) 0 (wrap64 (x5 + 1)))
def sleuthref12_byHalves.l3 : Nat → List (S66) → List Int → Int → List Bool → List Int → Int → Int → Int → Int → Option (Int × Int)
 | 0, _, _, _, _, _, _, _, _, _ => none
 | k + 1, x0, x1, x5, x7, x8, x9, x13, x14, x15 => if x15 < (x0.length : Int) then (if 0 ≤ x15 then (if x15 < (x7.length : Int) then (if rdOf false x7 x15 = true then (if x15 < (x1.length : Int) then (sleuthref12_byHalves.j4 k x0 x1 x5 x7 x8 x9 x13 x14 x15 ((rd x1 x15) != 0)) else (none)) else (sleuthref12_byHalves.j4 k x0 x1 x5 x7 x8 x9 x13 x14 x15 true)) else (none)) else (none)) else (if x13 ≥ 0 then (some (0, x13)) else ((sleuthref12_verdict.f k x0 x1 x5).bind fun bt401 => (some (bt401.1, bt401.2))))
def sleuthref12_byHalves.j4 : Nat → List (S66) → List Int → Int → List Bool → List Int → Int → Int → Int → Int → Bool → Option (Int × Int)
 | 0, _, _, _, _, _, _, _, _, _, _ => none
 | k + 1, x0, x1, x5, x7, x8, x9, x13, x14, x15, x151 => if x151 = true then (sleuthref12_byHalves.l3 k x0 x1 x5 x7 x8 x9 x13 x14 (wrap64 (x15 + 1))) else (if 0 ≤ x15 then (if x15 < (x8.length : Int) then (if x13 < 0 then (sleuthref12_byHalves.l3 k x0 x1 x5 x7 x8 x9 x15 (mx (wrap64 ((wrap64 (2 * (rd x8 x15))) - x9)) (wrap64 (x9 - (wrap64 (2 * (rd x8 x15)))))) (wrap64 (x15 + 1))) else (if (mx (wrap64 ((wrap64 (2 * (rd x8 x15))) - x9)) (wrap64 (x9 - (wrap64 (2 * (rd x8 x15)))))) < x14 then (sleuthref12_byHalves.l3 k x0 x1 x5 x7 x8 x9 x15 (mx (wrap64 ((wrap64 (2 * (rd x8 x15))) - x9)) (wrap64 (x9 - (wrap64 (2 * (rd x8 x15)))))) (wrap64 (x15 + 1))) else (sleuthref12_byHalves.l3 k x0 x1 x5 x7 x8 x9 x13 x14 (wrap64 (x15 + 1))))) else (none)) else (none))
end
def sleuthref12_byHalves.f (k : Nat) (l0 : List (S66)) (l1 : List Int) : Option (Int × Int) := if 0 < (l1.length : Int) then (if (rd l1 0) = 2 then (sleuthref12_byHalves.l0 k l0 l1 0 0) else ((sleuthref12_rooted.f (rd l1 0)).bind fun bt369 => (some (bt369.1, bt369.2)))) else (none)
theorem sleuthref12_byHalves.mono_l : ∀ k, (∀ y0 y1 y2 y3, LeO (sleuthref12_byHalves.l0 k y0 y1 y2 y3) (sleuthref12_byHalves.l0 (k + 1) y0 y1 y2 y3)) ∧ (∀ y0 y1 y2 y3 y4 y5 y6, LeO (sleuthref12_byHalves.l1 k y0 y1 y2 y3 y4 y5 y6) (sleuthref12_byHalves.l1 (k + 1) y0 y1 y2 y3 y4 y5 y6)) ∧ (∀ y0 y1 y2 y3 y4 y5 y6, LeO (sleuthref12_byHalves.l2 k y0 y1 y2 y3 y4 y5 y6) (sleuthref12_byHalves.l2 (k + 1) y0 y1 y2 y3 y4 y5 y6)) ∧ (∀ y0 y1 y2 y3 y4 y5 y6 y7 y8, LeO (sleuthref12_byHalves.l3 k y0 y1 y2 y3 y4 y5 y6 y7 y8) (sleuthref12_byHalves.l3 (k + 1) y0 y1 y2 y3 y4 y5 y6 y7 y8)) ∧ (∀ y0 y1 y2 y3 y4 y5 y6 y7 y8 y9, LeO (sleuthref12_byHalves.j4 k y0 y1 y2 y3 y4 y5 y6 y7 y8 y9) (sleuthref12_byHalves.j4 (k + 1) y0 y1 y2 y3 y4 y5 y6 y7 y8 y9))
 | 0 => ⟨fun _ _ _ _ r h => by simp [sleuthref12_byHalves.l0] at h, fun _ _ _ _ _ _ _ r h => by simp [sleuthref12_byHalves.l1] at h, fun _ _ _ _ _ _ _ r h => by simp [sleuthref12_byHalves.l2] at h, fun _ _ _ _ _ _ _ _ _ r h => by simp [sleuthref12_byHalves.l3] at h, fun _ _ _ _ _ _ _ _ _ _ r h => by simp [sleuthref12_byHalves.j4] at h⟩
 | k + 1 => by
  obtain ⟨ih0, ih1, ih2, ih3, ih4⟩ := sleuthref12_byHalves.mono_l k
  refine ⟨?_, ?_, ?_, ?_, ?_⟩
  · intro y0 y1 y2 y3
    unfold sleuthref12_byHalves.l0
    repeat' first
    | (with_reducible exact ih0 _ _ _ _)
    | (with_reducible exact ih1 _ _ _ _ _ _ _)
    | (with_reducible exact ih2 _ _ _ _ _ _ _)
    | (with_reducible exact ih3 _ _ _ _ _ _ _ _ _)
    | (with_reducible exact ih4 _ _ _ _ _ _ _ _ _ _)
    | (with_reducible exact sleuthref12_verdict.mono _ _ _ _)
    | (with_reducible exact LeO.refl _)
    | (with_reducible exact LeO.none _)
    | (with_reducible refine LeO.ite ?_ ?_)
    | (with_reducible refine LeO.bind ?_ (fun _ => ?_))
    | exact ih0 _ _ _ _
    | exact ih1 _ _ _ _ _ _ _
    | exact ih2 _ _ _ _ _ _ _
    | exact ih3 _ _ _ _ _ _ _ _ _
    | exact ih4 _ _ _ _ _ _ _ _ _ _
    | exact sleuthref12_verdict.mono _ _ _ _
    | exact LeO.none _
    | refine LeO.ite ?_ ?_
    | refine LeO.bind ?_ (fun _ => ?_)
  · intro y0 y1 y2 y3 y4 y5 y6
    unfold sleuthref12_byHalves.l1
    repeat' first
    | (with_reducible exact ih0 _ _ _ _)
    | (with_reducible exact ih1 _ _ _ _ _ _ _)
    | (with_reducible exact ih2 _ _ _ _ _ _ _)
    | (with_reducible exact ih3 _ _ _ _ _ _ _ _ _)
    | (with_reducible exact ih4 _ _ _ _ _ _ _ _ _ _)
    | (with_reducible exact sleuthref12_verdict.mono _ _ _ _)
    | (with_reducible exact LeO.refl _)
    | (with_reducible exact LeO.none _)
    | (with_reducible refine LeO.ite ?_ ?_)
    | (with_reducible refine LeO.bind ?_ (fun _ => ?_))
    | exact ih0 _ _ _ _
    | exact ih1 _ _ _ _ _ _ _
    | exact ih2 _ _ _ _ _ _ _
    | exact ih3 _ _ _ _ _ _ _ _ _
    | exact ih4 _ _ _ _ _ _ _ _ _ _
    | exact sleuthref12_verdict.mono _ _ _ _
    | exact LeO.none _
    | refine LeO.ite ?_ ?_
    | refine LeO.bind ?_ (fun _ => ?_)
  · intro y0 y1 y2 y3 y4 y5 y6
    unfold sleuthref12_byHalves.l2
    repeat' first
    | (with_reducible exact ih0 _ _ _ _)
    | (with_reducible exact ih1 _ _ _ _ _ _ _)
    | (with_reducible exact ih2 _ _ _ _ _ _ _)
    | (with_reducible exact ih3 _ _ _ _ _ _ _ _ _)
    | (with_reducible exact ih4 _ _ _ _ _ _ _ _ _ _)
    | (with_reducible exact sleuthref12_verdict.mono _ _ _ _)
    | (with_reducible exact LeO.refl _)
    | (with_reducible exact LeO.none _)
    | (with_reducible refine LeO.ite ?_ ?_)
    | (with_reducible refine LeO.bind ?_ (fun _ => ?_))
    | exact ih0 _ _ _ _
    | exact ih1 _ _ _ _ _ _ _
    | exact ih2 _ _ _ _ _ _ _
    | exact ih3 _ _ _ _ _ _ _ _ _
    | exact ih4 _ _ _ _ _ _ _ _ _ _
    | exact sleuthref12_verdict.mono _ _ _ _
    | exact LeO.none _
    | refine LeO.ite ?_ ?_
    | refine LeO.bind ?_ (fun _ => ?_)
  · intro y0 y1 y2 y3 y4 y5 y6 y7 y8
    unfold sleuthref12_byHalves.l3
    repeat' first
    | (with_reducible exact ih0 _ _ _ _)
    | (with_reducible exact ih1 _ _ _ _ _ _ _)
    | (with_reducible exact ih2 _ _ _ _ _ _ _)
    | (with_reducible exact ih3 _ _ _ _ _ _ _ _ _)
    | (with_reducible exact ih4 _ _ _ _ _ _ _ _ _ _)
    | (with_reducible exact sleuthref12_verdict.mono _ _ _ _)
    | (with_reducible exact LeO.refl _)
    | (with_reducible exact LeO.none _)
    | (with_reducible refine LeO.ite ?_ ?_)
    | (with_reducible refine LeO.bind ?_ (fun _ => ?_))
    | exact ih0 _ _ _ _
    | exact ih1 _ _ _ _ _ _ _
    | exact ih2 _ _ _ _ _ _ _
    | exact ih3 _ _ _ _ _ _ _ _ _
    | exact ih4 _ _ _ _ _ _ _ _ _ _
    | exact sleuthref12_verdict.mono _ _ _ _
    | exact LeO.none _
    | refine LeO.ite ?_ ?_
    | refine LeO.bind ?_ (fun _ => ?_)
  · intro y0 y1 y2 y3 y4 y5 y6 y7 y8 y9
    unfold sleuthref12_byHalves.j4
    repeat' first
    | (with_reducible exact ih0 _ _ _ _)
    | (with_reducible exact ih1 _ _ _ _ _ _ _)
    | (with_reducible exact ih2 _ _ _ _ _ _ _)
    | (with_reducible exact ih3 _ _ _ _ _ _ _ _ _)
    | (with_reducible exact ih4 _ _ _ _ _ _ _ _ _ _)
    | (with_reducible exact sleuthref12_verdict.mono _ _ _ _)
    | (with_reducible exact LeO.refl _)
    | (with_reducible exact LeO.none _)
    | (with_reducible refine LeO.ite ?_ ?_)
    | (with_reducible refine LeO.bind ?_ (fun _ => ?_))
    | exact ih0 _ _ _ _
    | exact ih1 _ _ _ _ _ _ _
    | exact ih2 _ _ _ _ _ _ _
    | exact ih3 _ _ _ _ _ _ _ _ _
    | exact ih4 _ _ _ _ _ _ _ _ _ _
    | exact sleuthref12_verdict.mono _ _ _ _
    | exact LeO.none _
    | refine LeO.ite ?_ ?_
    | refine LeO.bind ?_ (fun _ => ?_)
theorem sleuthref12_byHalves.mono : ∀ a0 a1 k, LeO (sleuthref12_byHalves.f k a0 a1) (sleuthref12_byHalves.f (k + 1) a0 a1) := by
 intro a0 a1 k
 obtain ⟨ih0, ih1, ih2, ih3, ih4⟩ := sleuthref12_byHalves.mono_l k
 unfold sleuthref12_byHalves.f
 repeat' first
  | (with_reducible exact ih0 _ _ _ _)
  | (with_reducible exact ih1 _ _ _ _ _ _ _)
  | (with_reducible exact ih2 _ _ _ _ _ _ _)
  | (with_reducible exact ih3 _ _ _ _ _ _ _ _ _)
  | (with_reducible exact ih4 _ _ _ _ _ _ _ _ _ _)
  | (with_reducible exact sleuthref12_verdict.mono _ _ _ _)
  | (with_reducible exact LeO.refl _)
  | (with_reducible exact LeO.none _)
  | (with_reducible refine LeO.ite ?_ ?_)
  | (with_reducible refine LeO.bind ?_ (fun _ => ?_))
  | exact ih0 _ _ _ _
  | exact ih1 _ _ _ _ _ _ _
  | exact ih2 _ _ _ _ _ _ _
  | exact ih3 _ _ _ _ _ _ _ _ _
  | exact ih4 _ _ _ _ _ _ _ _ _ _
  | exact sleuthref12_verdict.mono _ _ _ _
  | exact LeO.none _
  | refine LeO.ite ?_ ?_
  | refine LeO.bind ?_ (fun _ => ?_)
def sleuthref12_byHalves.T24 : Bool × List (List Nat × List Nat) := (true, [([], []), ([], []), ([], []), ([1, 2], [1, 2]), ([3], [3]), ([4], [4]), ([], []), ([], []), ([], []), ([7, 8], [7, 8]), ([9], [9]), ([10], [10]), ([6, 11], [6, 11]), ([12], [12]), ([], []), ([], []), ([14, 15], [14, 15]), ([16], [16]), ([13, 17], [13, 17]), ([0, 5, 0, 1, 2, 3, 4, 5, 6, 7, 8, 9, 10, 11, 12, 13, 14, 15, 16, 17, 18], [0, 5]), ([19, 18, 0, 1, 2, 3, 4, 5, 6, 7, 8, 9, 10, 11, 12, 13, 14, 15, 16, 17, 18], [18, 19])])
def sleuthref12_byHalves.B24 : List Nat := [0, 0, 0, 6, 14, 30, 0, 0, 0, 384, 896, 1920, 4032, 8128, 0, 0, 49152, 114688, 262080, 524287, 1048575]
theorem sleuthref12_byHalves.tab24 : rtab .any (opsOf Tryz.f47 24) = sleuthref12_byHalves.T24 := by kernel_rfl
theorem sleuthref12_byHalves.bits24 : waitsOk sleuthref12_byHalves.T24.2 sleuthref12_byHalves.B24 = true := by kernel_rfl
def sleuthref12_byHalves.T30 : Bool × List (List Nat × List Nat) := (true, [([], []), ([], []), ([0, 1], [0, 1]), ([2], [2]), ([3], [3]), ([], []), ([4, 5], [4, 5]), ([], []), ([], []), ([], []), ([8, 9], [8, 9]), ([10], [10]), ([11], [11]), ([7, 12], [7, 12]), ([6, 13], [6, 13]), ([14, 0, 1, 2, 3, 4, 5, 6, 7, 8, 9, 10, 11, 12, 13, 14], [14])])
def sleuthref12_byHalves.B30 : List Nat := [0, 0, 3, 7, 15, 0, 63, 0, 0, 0, 768, 1792, 3840, 8064, 16383, 32767]
theorem sleuthref12_byHalves.tab30 : rtab .any (opsOf Tryz.f47 30) = sleuthref12_byHalves.T30 := by kernel_rfl
theorem sleuthref12_byHalves.bits30 : waitsOk sleuthref12_byHalves.T30.2 sleuthref12_byHalves.B30 = true := by kernel_rfl
theorem sleuthref12_byHalves.calls (k : Nat) (A0 : Option Addr) (c0 : Nat) (l0 : List (S66)) (A1 : Option Addr) (c1 : Nat) (l1 : List Int) (r1 : Int) (r2 : Int) (w : World) (hr0 : Kd.C k66 w A0 l0.length l0) (hc0 : l0.length ≤ c0) (hr1 : Kd.C (Kd.int .i64) w A1 l1.length l1) (hc1 : l1.length ≤ c1) (h : sleuthref12_byHalves.f k l0 l1 = some (r1, r2)) :
 Calls Tryz.prog 47 #[.slice A0 l0.length c0, .slice A1 l1.length c1] w fun e w' => e = .returned (.agg #[.int .i64 r1, .int .i64 r2]) ∧ Below w.heap.size w w' := by
 have hu49 := Tryz.underlying49
 have HR0 := a_ hr0
 have HC0 := a_ hc0
 clear hr0 hc0
 have HR1 := a_ hr1
 have HC1 := a_ hc1
 clear hr1 hc1
 have HB := a_ (Below.refl w.heap.size w)
 have H := h; unfold sleuthref12_byHalves.f at H
 clear h
 replace H := ifI_ H; obtain ⟨c3, H⟩ := H
 have c3b0 : decide (0 < (l1.length : Int)) = true := decide_eq_true c3
 have c3b1 : decide (0 < l1.length) = true := decide_eq_true (by omega)
 clear c3
 by_cases c4 : (rd l1 0) = 2
 case neg =>
  rw [if_neg c4] at H
  have c4b0 : ((rd l1 0) == 2) = false := beq_eq_false_iff_ne.mpr c4
  have c4b1 : ((rd l1 0) != 2) = true := bne_iff_ne.mpr c4
  replace H := Option.bind_eq_some_iff.mp H
  obtain ⟨⟨t369, t370⟩, A1210, H⟩ := H
  try dsimp only at H
  have A121 := a_ A1210
  clear A1210
  simp only [Option.some.injEq, Prod.mk.injEq] at H
  obtain ⟨rfl, rfl⟩ := H
  go_enter Tryz.func47, Tryz.ntmps47
  go_wp2_with (first | ((with_reducible refine gate_dst (N := 4) rfl ?_); refine boxE_ 4 #[.int .i64 0, .int .i64 0] 49 ?_; intro gb366 hg w122 hbox hb; have BK366 := a_ (hbox); have GW366 := a_ ((gE_ hg : w.heap.size ≤ gb366)); have GE366 := a_ ((gE_ hg : w.heap.size ≤ gb366)); replace HB := a_ (below_step hB_ hb); clear hb hbox hg; have p367 : 0 ≤ (0 : Int) := (by omega); have q367 : 0 < (l1.length : Int) := of_decide_eq_true hA_; obtain ⟨ad367, e367, hx367_0⟩ := Kd.at_int HR1.out 0 p367 q367; cases e367; have qi367 : (0 < l1.length) = True := eq_true (by omega); (try rw [show ((0 : Int)).toNat = 0 from rfl] at hx367_0); (try rw [Addr.add_zero'] at hx367_0); replace hx367_0 := cl_ HB.out hx367_0; replace p367 := eq_true p367; replace q367 := eq_true q367; have p368 : 0 ≤ (0 : Int) := (by omega); have q368 : 0 < (l1.length : Int) := of_decide_eq_true hA_; obtain ⟨ad368, e368, hx368_0⟩ := Kd.at_int HR1.out 0 p368 q368; obtain rfl : ad367 = ad368 := (by injection e368); have qi368 : (0 < l1.length) = True := eq_true (by omega); (try rw [show ((0 : Int)).toNat = 0 from rfl] at hx368_0); (try rw [Addr.add_zero'] at hx368_0); replace hx368_0 := cl_ HB.out hx368_0; replace p368 := eq_true p368; replace q368 := eq_true q368) | ((with_reducible refine gate_callee (f := 53) rfl ?_); refine goesL_ (some 24) rfl rfl Tryz.func53 (by kernel_rfl) rfl #[.int .i64 (rd l1 0)] rfl hL_ ?_; (with_reducible refine (sleuthref12_rooted.calls (rd l1 0) t369 t370 _ A121.out).mono ?_); rintro e w123 ⟨rfl, hb⟩; refine ⟨_, rfl, ?_⟩; replace BK366 := a_ (bB_ BK366.out hb); replace HB := a_ (below_step hC_ hb); (try clear hb); (try clear hb2); (try clear hk); (try clear hi); obtain ⟨hcz124_0, hcz124_1, hfz124_0, hfz124_1⟩ := bx2_ BK366.out))
  refine bodyPost_ret (results_cell_row rfl _ _ gb366 49 #[.int .i64 t369, .int .i64 t370] (0, 0) _ rfl (bP_ (bP_ (hK_ BK366.out))) Tryz.underlying49 rfl (by kernel_rfl)) rfl ?_
  exact ⟨hV_, hC_⟩
 rw [if_pos c4] at H
 have c4b0 : ((rd l1 0) == 2) = true := beq_iff_eq.mpr c4
 have c4b1 : ((rd l1 0) != 2) = false := bne_eq_false_iff_eq.mpr c4
 clear c4
 have H' := a_ H
 clear H
 go_enter Tryz.func47, Tryz.ntmps47
 go_wp2_with (first | ((with_reducible refine gate_dst (N := 4) rfl ?_); refine boxE_ 4 #[.int .i64 0, .int .i64 0] 49 ?_; intro gb366 hg w5 hbox hb; have BK366 := a_ (hbox); have GW366 := a_ ((gE_ hg : w.heap.size ≤ gb366)); have GE366 := a_ ((gE_ hg : w.heap.size ≤ gb366)); replace HB := a_ (below_step hB_ hb); clear hb hbox hg; have p367 : 0 ≤ (0 : Int) := (by omega); have q367 : 0 < (l1.length : Int) := of_decide_eq_true hA_; obtain ⟨ad367, e367, hx367_0⟩ := Kd.at_int HR1.out 0 p367 q367; cases e367; have qi367 : (0 < l1.length) = True := eq_true (by omega); (try rw [show ((0 : Int)).toNat = 0 from rfl] at hx367_0); (try rw [Addr.add_zero'] at hx367_0); replace hx367_0 := cl_ HB.out hx367_0; replace p367 := eq_true p367; replace q367 := eq_true q367))
 (try simp only [Act.put, List.setIfInBounds_toArray, List.set_cons_zero, List.set_cons_succ])
 go_loopg [5, 6] k (fun kq v5 v6 w' => ∃ (x5_1 : Int) (x6_1 : Int), v5 = .int .i64 x5_1 ∧ v6 = .int .i64 x6_1 ∧ Aside0 (sleuthref12_byHalves.l0 kq l0 l1 x5_1 x6_1 = some (r1, r2)) ∧ Aside0 (kq ≤ k) ∧ Aside0 (w'.heap[gb366]? = some (.cells #[.int .i64 0, .int .i64 0] 49 (0, 0))) ∧ Aside0 (Below w.heap.size w w'))
 case atStart => exact ⟨(0), (0), hW_, hW_, H', ⟨Nat.le_refl _⟩, ⟨(hK_ BK366.out)⟩, ⟨hC_⟩⟩
 case round =>
  clear H'
  try clear c1
  try clear p2
  try clear c3
  try clear c3b0
  try clear c3b1
  try clear p3
  try clear q3
  try clear hx3
  try clear qi3
  try clear c4
  try clear c4b0
  try clear c4b1
  try clear hx367_0
  try clear p367
  try clear q367
  obtain ⟨x5_1, x6_1, rfl, rfl, HA, HK1, BK366, HB⟩ := hrel
  cases gk with
  | zero => exact absurd HA.out (by simp [sleuthref12_byHalves.l0])
  | succ k1 =>
   have H := HA.out
   clear HA
   simp only [sleuthref12_byHalves.l0] at H
   by_cases c6 : x6_1 < (l0.length : Int)
   case pos =>
    rw [if_pos c6] at H
    have c6b0 : decide (x6_1 < (l0.length : Int)) = true := decide_eq_true c6
    clear c6
    replace H := ifI_ H; obtain ⟨c7, H⟩ := H
    have c7b0 : decide (0 ≤ x6_1) = true := decide_eq_true c7
    clear c7
    replace H := ifI_ H; obtain ⟨c8, H⟩ := H
    have c8b0 : decide (x6_1 < (l1.length : Int)) = true := decide_eq_true c8
    clear c8
    by_cases c9 : (rd l1 x6_1) = 2
    case neg =>
     rw [if_neg c9] at H
     have c9b0 : ((rd l1 x6_1) == 2) = false := beq_eq_false_iff_ne.mpr c9
     have c9b1 : ((rd l1 x6_1) != 2) = true := bne_iff_ne.mpr c9
     have H' := a_ H
     clear H
     have p371 : 0 ≤ (x6_1 : Int) := of_decide_eq_true hA_
     have q371 : x6_1 < (l1.length : Int) := of_decide_eq_true hA_
     obtain ⟨ad371, e371, hx371_0⟩ := Kd.at_int HR1.out x6_1 p371 q371
     obtain rfl : ad367 = ad371 := (by injection e371)
     replace hx371_0 := cl_ HB.out hx371_0
     replace p371 := eq_true p371
     replace q371 := eq_true q371
     go_wp2
     go_roundg k1
     case measure => have := HK1.out; omega
     case rel => exact ⟨(x5_1), (wrap64 (x6_1 + 1)), hW_, hW_, H', ⟨by have := HK1.out; omega⟩, ⟨(hK_ BK366.out)⟩, ⟨hC_⟩⟩
    rw [if_pos c9] at H
    have c9b0 : ((rd l1 x6_1) == 2) = true := beq_iff_eq.mpr c9
    have c9b1 : ((rd l1 x6_1) != 2) = false := bne_eq_false_iff_eq.mpr c9
    clear c9
    have H' := a_ H
    clear H
    have p371 : 0 ≤ (x6_1 : Int) := of_decide_eq_true hA_
    have q371 : x6_1 < (l1.length : Int) := of_decide_eq_true hA_
    obtain ⟨ad371, e371, hx371_0⟩ := Kd.at_int HR1.out x6_1 p371 q371
    obtain rfl : ad367 = ad371 := (by injection e371)
    replace hx371_0 := cl_ HB.out hx371_0
    replace p371 := eq_true p371
    replace q371 := eq_true q371
    go_wp2
    go_roundg k1
    case measure => have := HK1.out; omega
    case rel => exact ⟨(x6_1), (wrap64 (x6_1 + 1)), hW_, hW_, H', ⟨by have := HK1.out; omega⟩, ⟨(hK_ BK366.out)⟩, ⟨hC_⟩⟩
   rw [if_neg c6] at H
   have c6b0 : decide (x6_1 < (l0.length : Int)) = false := decide_eq_false c6
   clear c6
   replace H := ifI_ H; obtain ⟨c10, H⟩ := H
   have c10b0 := eq_true c10
   have c10b1 : decide (0 ≤ (l0.length : Int)) = true := decide_eq_true c10
   clear c10
   replace H := ifI_ H; obtain ⟨c11, H⟩ := H
   have c11b0 := eq_true c11
   have c11b1 : decide (((l0.length : Int) : Int).toNat ≤ 281474976710656) = true := decide_eq_true c11
   clear c11
   obtain ⟨y372, hy372⟩ : ∃ y_ : List Bool, y_ = (List.replicate ((l0.length : Int) : Int).toNat false) := ⟨_, rfl⟩
   replace H : (if ((l0.length : Int) : Int).toNat ≤ 35184372088832 then (sleuthref12_byHalves.l1 k1 l0 l1 x5_1 y372 (List.replicate ((l0.length : Int) : Int).toNat 0) 0 (wrap64 (x5_1 + 1))) else (none)) = some (r1, r2) := by first | (rw [hy372]; with_reducible exact H) | (have H2_ := (Option.bind_some _ _).symm.trans H; rw [hy372]; with_reducible exact H2_) | (have H2_ := (Option.bind_some _ _).symm.trans H; with_reducible exact H2_) | with_reducible exact H | (rw [hy372]; exact H) | exact H
   have Ny372 := a_ hy372
   clear hy372
   replace H := ifI_ H; obtain ⟨c12, H⟩ := H
   have c12b0 := eq_true c12
   have c12b1 : decide (((l0.length : Int) : Int).toNat ≤ 35184372088832) = true := decide_eq_true c12
   clear c12
   obtain ⟨y375, hy375⟩ : ∃ y_ : List Int, y_ = (List.replicate ((l0.length : Int) : Int).toNat 0) := ⟨_, rfl⟩
   replace H : (sleuthref12_byHalves.l1 k1 l0 l1 x5_1 y372 y375 0 (wrap64 (x5_1 + 1))) = some (r1, r2) := by first | (rw [hy375]; with_reducible exact H) | (have H2_ := (Option.bind_some _ _).symm.trans H; rw [hy375]; with_reducible exact H2_) | (have H2_ := (Option.bind_some _ _).symm.trans H; with_reducible exact H2_) | with_reducible exact H | (rw [hy375]; exact H) | exact H
   have Ny375 := a_ hy375
   clear hy375
   have H' := a_ H
   clear H
   go_wp2_with (first | ((with_reducible refine gate_dst (N := 39) rfl ?_); refine Kd.R_make Kd.bool _ 4 rfl (N := 39) rfl 85 _ _ rfl (l0.length : Int) rfl rfl Tryz.underlying85 (.bool false) 1 info4 rfl (by decide) (by omega) false (ok := fun _ => True) (okp := fun _ => True) rfl (fun _ hk => hk) trivial (of_decide_eq_true hA_) (Nat.le_trans (Nat.mul_le_mul_right _ (of_decide_eq_true hA_ : (l0.length : Int).toNat ≤ 281474976710656)) (by omega)) (Below.refl _ _) (Nat.le_refl _) ?_; intro v373 w13 ho14 hb hg_ hnew_; clear hg_ hnew_; (first | rw [← Ny372.out] at ho14 | (simp only [Int.reduceToNat] at ho14; rw [← Ny372.out] at ho14)); have HO374 := a_ (Kd.R_lower ho14 (below_size hC_)); replace BK366 := a_ (bB_ BK366.out hb); replace HB := a_ (below_step hC_ hb); clear hb ho14) | ((with_reducible refine gate_dst (N := 42) rfl ?_); refine Kd.R_make (Kd.int .i64) _ 3 rfl (N := 42) rfl 41 _ _ rfl (l0.length : Int) rfl rfl Tryz.underlying41 (.int .i64 0) 8 info3 rfl (by decide) (by omega) 0 (ok := fun _ => True) (okp := fun _ => True) rfl (fun _ hk => hk) trivial (of_decide_eq_true hA_) (Nat.le_trans (Nat.mul_le_mul_right _ (of_decide_eq_true hA_ : (l0.length : Int).toNat ≤ 35184372088832)) (by omega)) (Below.refl _ _) (Nat.le_refl _) ?_; intro v376 w15 ho16 hb hg_ hnew_; clear hg_ hnew_; (first | rw [← Ny375.out] at ho16 | (simp only [Int.reduceToNat] at ho16; rw [← Ny375.out] at ho16)); replace HO374 := a_ (Kd.R_below (hR_ HO374.out) hb); have HO377 := a_ (Kd.R_lower ho16 (below_size hC_)); replace BK366 := a_ (bB_ BK366.out hb); replace HB := a_ (below_step hC_ hb); clear hb ho16))
   go_loopg [9, 10] k1 (fun kq v9 v10 w' => ∃ (x7_2 : List Bool) (x8_2 : List Int) (x9_2 : Int) (x10_2 : Int), v9 = .int .i64 x9_2 ∧ v10 = .int .i64 x10_2 ∧ Aside0 (sleuthref12_byHalves.l1 kq l0 l1 x5_1 x7_2 x8_2 x9_2 x10_2 = some (r1, r2)) ∧ Aside0 (kq ≤ k1) ∧ Aside0 (Kd.R Kd.bool 4 w' w.heap.size (fun _ => True) v373 x7_2) ∧ Aside0 (Kd.R (Kd.int .i64) 3 w' w.heap.size (fun _ => True) v376 x8_2) ∧ Aside0 (w'.heap[gb366]? = some (.cells #[.int .i64 0, .int .i64 0] 49 (0, 0))) ∧ Aside0 (Below w.heap.size w w'))
   case atStart => exact ⟨(y372), (y375), (0), (wrap64 (x5_1 + 1)), hW_, hW_, H', ⟨Nat.le_refl _⟩, ⟨hR_ HO374.out⟩, ⟨hR_ HO377.out⟩, ⟨(hK_ BK366.out)⟩, ⟨hC_⟩⟩
   case round =>
    clear H'
    try clear c1
    try clear p2
    try clear c3
    try clear c3b0
    try clear c3b1
    try clear p3
    try clear q3
    try clear hx3
    try clear qi3
    try clear c4
    try clear c4b0
    try clear c4b1
    try clear c6
    try clear c6b0
    try clear p6
    try clear c7
    try clear c7b0
    try clear c8
    try clear c8b0
    try clear c9
    try clear c9b0
    try clear c9b1
    try clear c10
    try clear c10b0
    try clear c10b1
    try clear c11
    try clear c11b0
    try clear c11b1
    try clear c12
    try clear c12b0
    try clear c12b1
    try clear hx367_0
    try clear hx371_0
    try clear p2
    try clear p3
    try clear p367
    try clear p371
    try clear q3
    try clear q367
    try clear q371
    obtain ⟨x7_2, x8_2, x9_2, x10_2, rfl, rfl, HA, HK2, HO_7, HO_8, BK366, HB⟩ := hrel
    cases gk with
    | zero => exact absurd HA.out (by simp [sleuthref12_byHalves.l1])
    | succ k2 =>
     have H := HA.out
     clear HA
     simp only [sleuthref12_byHalves.l1] at H
     by_cases c17 : x10_2 < (l0.length : Int)
     case pos =>
      rw [if_pos c17] at H
      have c17b0 : decide (x10_2 < (l0.length : Int)) = true := decide_eq_true c17
      clear c17
      replace H := ifI_ H; obtain ⟨c18, H⟩ := H
      have c18b0 : decide (0 ≤ x10_2) = true := decide_eq_true c18
      clear c18
      by_cases c19 : ((rd_T66 l0 x10_2).f1) = x5_1
      case pos =>
       rw [if_pos c19] at H
       have c19b0 : (((rd_T66 l0 x10_2).f1) == x5_1) = true := beq_iff_eq.mpr c19
       have c19b1 : (((rd_T66 l0 x10_2).f1) != x5_1) = false := bne_eq_false_iff_eq.mpr c19
       clear c19
       replace H := ifI_ H; obtain ⟨c20, H⟩ := H
       have c20b0 : decide (x10_2 < (l1.length : Int)) = true := decide_eq_true c20
       clear c20
       replace H := ifI_ H; obtain ⟨c21, H⟩ := H
       have c21b0 : decide (x10_2 < (x7_2.length : Int)) = true := decide_eq_true c21
       clear c21
       obtain ⟨y380, hy380⟩ : ∃ y_ : List Bool, y_ = (x7_2.set (x10_2 : Int).toNat ((rd l1 x10_2) != 1)) := ⟨_, rfl⟩
       replace H : (if rdOf false y380 x10_2 = true then (if (rd l1 x10_2) = 0 then (if x10_2 < (x8_2.length : Int) then (sleuthref12_byHalves.l1 k2 l0 l1 x5_1 y380 (x8_2.set (x10_2 : Int).toNat 1) (wrap64 (x9_2 + 1)) (wrap64 (x10_2 + 1))) else (none)) else (sleuthref12_byHalves.l1 k2 l0 l1 x5_1 y380 x8_2 x9_2 (wrap64 (x10_2 + 1)))) else (sleuthref12_byHalves.l1 k2 l0 l1 x5_1 y380 x8_2 x9_2 (wrap64 (x10_2 + 1)))) = some (r1, r2) := by first | (rw [hy380]; with_reducible exact H) | (have H2_ := (Option.bind_some _ _).symm.trans H; rw [hy380]; with_reducible exact H2_) | (have H2_ := (Option.bind_some _ _).symm.trans H; with_reducible exact H2_) | with_reducible exact H | (rw [hy380]; exact H) | exact H
       have Ny380 := a_ hy380
       clear hy380
       obtain ⟨bq23, hbq23⟩ : ∃ b_ : Bool, b_ = (rdOf false y380 x10_2) := ⟨_, rfl⟩
       replace H : (if bq23 = true then (if (rd l1 x10_2) = 0 then (if x10_2 < (x8_2.length : Int) then (sleuthref12_byHalves.l1 k2 l0 l1 x5_1 y380 (x8_2.set (x10_2 : Int).toNat 1) (wrap64 (x9_2 + 1)) (wrap64 (x10_2 + 1))) else (none)) else (sleuthref12_byHalves.l1 k2 l0 l1 x5_1 y380 x8_2 x9_2 (wrap64 (x10_2 + 1)))) else (sleuthref12_byHalves.l1 k2 l0 l1 x5_1 y380 x8_2 x9_2 (wrap64 (x10_2 + 1)))) = some (r1, r2) := by rw [← hbq23] at H; exact H
       have Nbq23 := a_ hbq23
       clear hbq23
       by_cases c24 : bq23 = true
       case neg =>
        replace c24 := Bool.eq_false_iff.mpr c24
        subst c24
        rw [if_neg (show ¬ (false = true) by decide)] at H
        have H' := a_ H
        clear H
        have p378 : 0 ≤ (x10_2 : Int) := of_decide_eq_true hA_
        have q378 : x10_2 < (l0.length : Int) := of_decide_eq_true hA_
        obtain ⟨ad378, A378_2, c378_2, e378, hx378_0, hx378_1, hx378_2, hx378_3, hl378_2, hi378_2⟩ := at_T66 HR0.out x10_2 p378 q378
        cases e378
        replace hx378_0 := cl_ HB.out hx378_0
        replace hx378_1 := cl_ HB.out hx378_1
        replace hx378_2 := cl_ HB.out hx378_2
        replace hx378_3 := cl_ HB.out hx378_3
        have HR378_2 := a_ hi378_2
        have HC378_2 := a_ hl378_2
        clear hi378_2 hl378_2
        replace p378 := eq_true p378
        replace q378 := eq_true q378
        have p379 : 0 ≤ (x10_2 : Int) := of_decide_eq_true hA_
        have q379 : x10_2 < (l1.length : Int) := of_decide_eq_true hA_
        obtain ⟨ad379, e379, hx379_0⟩ := Kd.at_int HR1.out x10_2 p379 q379
        obtain rfl : ad367 = ad379 := (by injection e379)
        replace hx379_0 := cl_ HB.out hx379_0
        replace p379 := eq_true p379
        replace q379 := eq_true q379
        have p22 : 0 ≤ (x10_2 : Int) := of_decide_eq_true hA_
        have q22 : (x10_2 : Int) < ((x7_2.length : Int) : Int) := of_decide_eq_true hA_
        obtain ⟨go22, co22, eo22, gb22, gl22, cl22, HG22⟩ := Kd.R_form HO_7.out (by omega)
        (first | cases eo22 | (injection eo22 with ea_ en_ ec_; (first | subst ea_ | (injection ea_ with ea_; subst ea_)); subst ec_; clear en_))
        have GB22 := a_ gb22
        have GG22 := a_ HG22
        clear gb22 gl22 HG22
        obtain ⟨hx22_0, hf22_0⟩ := Kd.R_celln false HO_7.out (x10_2 : Int) p22 q22
        replace p22 := eq_true p22
        replace q22 := eq_true q22
        have HP34 := Kd.R_putg HO_7.out (x10_2 : Int) ((rd l1 x10_2) != 1)
        go_wp2_with (first | ((with_reducible refine gate_store (t := 4) (p := 74) rfl ?_); refine store_event (t := 4) (p := 74) (v := ?vo_w35) (w1 := (wr.setCell ⟨go22, (x10_2 : Int).toNat, none⟩ (.bool ((rd l1 x10_2) != 1)))) ?hg ?ho ?hn ?hr ?_; (case ho => rfl); (case hg => rfl); (case hn => rfl); (case hr => first | (go_simp; done) | (go_simp; rfl)); intro w35 hw; have hg : wr.grownBy w35 (some go22) := (by rw [hw]; exact HP34.2); have hp_ : Kd.R Kd.bool 4 w35 w.heap.size (fun _ => True) (.slice (some ⟨go22, 0, none⟩) x7_2.length co22) y380 := (by rw [hw, Ny380.out]; exact HP34.1); clear HP34; replace HO_8 := a_ (Kd.R_over' (v := (.slice (some ⟨go22, 0, none⟩) x7_2.length co22)) (hR_ HO_8.out) (Kd.R_typed HO_7.out) (by decide) hg); replace BK366 := a_ (blk_grown (hK_ BK366.out) hg (Kd.R_ne HO_7.out BK366.out (by decide))); replace HO_7 := a_ (hp_); replace HB := a_ ((by rw [hw]; exact below_set (HB.out) GB22.out : Below w.heap.size w w35)); clear hg hw hp_; have p381 : 0 ≤ (x10_2 : Int) := of_decide_eq_true hA_; have q381 : x10_2 < (y380.length : Int) := (by have h_ : (x10_2 : Int) < ((x7_2.length : Int) : Int) := of_decide_eq_true hA_; first | (have e_ := (Kd.R_reads' HO_7.out).1; omega) | simpa only [Ny380.out, List.length_set] using h_); have ql381 : ((x10_2 : Int) < ((x7_2.length : Int) : Int)) = True := eq_true (of_decide_eq_true hA_); obtain ⟨ad381, e381, hx381_0⟩ := Kd.at_bool (Kd.R_reads' HO_7.out).2.2 x10_2 p381 q381; (try rw [← Nbq23.out] at hx381_0); obtain rfl : (⟨go22, 0, none⟩ : Addr) = ad381 := (by injection e381); (first | simp only [add_plain] at hx381_0 | simp only [add_at] at hx381_0 | simp only [Addr.add, Nat.zero_add] at hx381_0 | skip); replace p381 := eq_true p381; replace q381 := eq_true q381))
        go_roundg k2
        case measure => have := HK1.out; have := HK2.out; omega
        case rel => exact ⟨(y380), (x8_2), (x9_2), (wrap64 (x10_2 + 1)), hW_, hW_, H', ⟨by have := HK1.out; have := HK2.out; omega⟩, ⟨hR_ HO_7.out⟩, ⟨hR_ HO_8.out⟩, ⟨(hK_ BK366.out)⟩, ⟨hC_⟩⟩
       subst c24
       rw [if_pos rfl] at H
       by_cases c25 : (rd l1 x10_2) = 0
       case neg =>
        rw [if_neg c25] at H
        have c25b0 : ((rd l1 x10_2) == 0) = false := beq_eq_false_iff_ne.mpr c25
        have c25b1 : ((rd l1 x10_2) != 0) = true := bne_iff_ne.mpr c25
        have H' := a_ H
        clear H
        have p378 : 0 ≤ (x10_2 : Int) := of_decide_eq_true hA_
        have q378 : x10_2 < (l0.length : Int) := of_decide_eq_true hA_
        obtain ⟨ad378, A378_2, c378_2, e378, hx378_0, hx378_1, hx378_2, hx378_3, hl378_2, hi378_2⟩ := at_T66 HR0.out x10_2 p378 q378
        cases e378
        replace hx378_0 := cl_ HB.out hx378_0
        replace hx378_1 := cl_ HB.out hx378_1
        replace hx378_2 := cl_ HB.out hx378_2
        replace hx378_3 := cl_ HB.out hx378_3
        have HR378_2 := a_ hi378_2
        have HC378_2 := a_ hl378_2
        clear hi378_2 hl378_2
        replace p378 := eq_true p378
        replace q378 := eq_true q378
        have p379 : 0 ≤ (x10_2 : Int) := of_decide_eq_true hA_
        have q379 : x10_2 < (l1.length : Int) := of_decide_eq_true hA_
        obtain ⟨ad379, e379, hx379_0⟩ := Kd.at_int HR1.out x10_2 p379 q379
        obtain rfl : ad367 = ad379 := (by injection e379)
        replace hx379_0 := cl_ HB.out hx379_0
        replace p379 := eq_true p379
        replace q379 := eq_true q379
        have p22 : 0 ≤ (x10_2 : Int) := of_decide_eq_true hA_
        have q22 : (x10_2 : Int) < ((x7_2.length : Int) : Int) := of_decide_eq_true hA_
        obtain ⟨go22, co22, eo22, gb22, gl22, cl22, HG22⟩ := Kd.R_form HO_7.out (by omega)
        (first | cases eo22 | (injection eo22 with ea_ en_ ec_; (first | subst ea_ | (injection ea_ with ea_; subst ea_)); subst ec_; clear en_))
        have GB22 := a_ gb22
        have GG22 := a_ HG22
        clear gb22 gl22 HG22
        obtain ⟨hx22_0, hf22_0⟩ := Kd.R_celln false HO_7.out (x10_2 : Int) p22 q22
        replace p22 := eq_true p22
        replace q22 := eq_true q22
        have HP32 := Kd.R_putg HO_7.out (x10_2 : Int) ((rd l1 x10_2) != 1)
        go_wp2_with (first | ((with_reducible refine gate_store (t := 4) (p := 74) rfl ?_); refine store_event (t := 4) (p := 74) (v := ?vo_w33) (w1 := (wr.setCell ⟨go22, (x10_2 : Int).toNat, none⟩ (.bool ((rd l1 x10_2) != 1)))) ?hg ?ho ?hn ?hr ?_; (case ho => rfl); (case hg => rfl); (case hn => rfl); (case hr => first | (go_simp; done) | (go_simp; rfl)); intro w33 hw; have hg : wr.grownBy w33 (some go22) := (by rw [hw]; exact HP32.2); have hp_ : Kd.R Kd.bool 4 w33 w.heap.size (fun _ => True) (.slice (some ⟨go22, 0, none⟩) x7_2.length co22) y380 := (by rw [hw, Ny380.out]; exact HP32.1); clear HP32; replace HO_8 := a_ (Kd.R_over' (v := (.slice (some ⟨go22, 0, none⟩) x7_2.length co22)) (hR_ HO_8.out) (Kd.R_typed HO_7.out) (by decide) hg); replace BK366 := a_ (blk_grown (hK_ BK366.out) hg (Kd.R_ne HO_7.out BK366.out (by decide))); replace HO_7 := a_ (hp_); replace HB := a_ ((by rw [hw]; exact below_set (HB.out) GB22.out : Below w.heap.size w w33)); clear hg hw hp_; have p381 : 0 ≤ (x10_2 : Int) := of_decide_eq_true hA_; have q381 : x10_2 < (y380.length : Int) := (by have h_ : (x10_2 : Int) < ((x7_2.length : Int) : Int) := of_decide_eq_true hA_; first | (have e_ := (Kd.R_reads' HO_7.out).1; omega) | simpa only [Ny380.out, List.length_set] using h_); have ql381 : ((x10_2 : Int) < ((x7_2.length : Int) : Int)) = True := eq_true (of_decide_eq_true hA_); obtain ⟨ad381, e381, hx381_0⟩ := Kd.at_bool (Kd.R_reads' HO_7.out).2.2 x10_2 p381 q381; (try rw [← Nbq23.out] at hx381_0); obtain rfl : (⟨go22, 0, none⟩ : Addr) = ad381 := (by injection e381); (first | simp only [add_plain] at hx381_0 | simp only [add_at] at hx381_0 | simp only [Addr.add, Nat.zero_add] at hx381_0 | skip); replace p381 := eq_true p381; replace q381 := eq_true q381; have p382 : 0 ≤ (x10_2 : Int) := of_decide_eq_true hA_; have q382 : x10_2 < (l1.length : Int) := of_decide_eq_true hA_; obtain ⟨ad382, e382, hx382_0⟩ := Kd.at_int HR1.out x10_2 p382 q382; obtain rfl : ad367 = ad382 := (by injection e382); replace hx382_0 := cl_ HB.out hx382_0; replace p382 := eq_true p382; replace q382 := eq_true q382))
        go_roundg k2
        case measure => have := HK1.out; have := HK2.out; omega
        case rel => exact ⟨(y380), (x8_2), (x9_2), (wrap64 (x10_2 + 1)), hW_, hW_, H', ⟨by have := HK1.out; have := HK2.out; omega⟩, ⟨hR_ HO_7.out⟩, ⟨hR_ HO_8.out⟩, ⟨(hK_ BK366.out)⟩, ⟨hC_⟩⟩
       rw [if_pos c25] at H
       have c25b0 : ((rd l1 x10_2) == 0) = true := beq_iff_eq.mpr c25
       have c25b1 : ((rd l1 x10_2) != 0) = false := bne_eq_false_iff_eq.mpr c25
       clear c25
       replace H := ifI_ H; obtain ⟨c26, H⟩ := H
       have c26b0 : decide (x10_2 < (x8_2.length : Int)) = true := decide_eq_true c26
       clear c26
       obtain ⟨y383, hy383⟩ : ∃ y_ : List Int, y_ = (x8_2.set (x10_2 : Int).toNat 1) := ⟨_, rfl⟩
       replace H : (sleuthref12_byHalves.l1 k2 l0 l1 x5_1 y380 y383 (wrap64 (x9_2 + 1)) (wrap64 (x10_2 + 1))) = some (r1, r2) := by first | (rw [hy383]; with_reducible exact H) | (have H2_ := (Option.bind_some _ _).symm.trans H; rw [hy383]; with_reducible exact H2_) | (have H2_ := (Option.bind_some _ _).symm.trans H; with_reducible exact H2_) | with_reducible exact H | (rw [hy383]; exact H) | exact H
       have Ny383 := a_ hy383
       clear hy383
       have H' := a_ H
       clear H
       have p378 : 0 ≤ (x10_2 : Int) := of_decide_eq_true hA_
       have q378 : x10_2 < (l0.length : Int) := of_decide_eq_true hA_
       obtain ⟨ad378, A378_2, c378_2, e378, hx378_0, hx378_1, hx378_2, hx378_3, hl378_2, hi378_2⟩ := at_T66 HR0.out x10_2 p378 q378
       cases e378
       replace hx378_0 := cl_ HB.out hx378_0
       replace hx378_1 := cl_ HB.out hx378_1
       replace hx378_2 := cl_ HB.out hx378_2
       replace hx378_3 := cl_ HB.out hx378_3
       have HR378_2 := a_ hi378_2
       have HC378_2 := a_ hl378_2
       clear hi378_2 hl378_2
       replace p378 := eq_true p378
       replace q378 := eq_true q378
       have p379 : 0 ≤ (x10_2 : Int) := of_decide_eq_true hA_
       have q379 : x10_2 < (l1.length : Int) := of_decide_eq_true hA_
       obtain ⟨ad379, e379, hx379_0⟩ := Kd.at_int HR1.out x10_2 p379 q379
       obtain rfl : ad367 = ad379 := (by injection e379)
       replace hx379_0 := cl_ HB.out hx379_0
       replace p379 := eq_true p379
       replace q379 := eq_true q379
       have p22 : 0 ≤ (x10_2 : Int) := of_decide_eq_true hA_
       have q22 : (x10_2 : Int) < ((x7_2.length : Int) : Int) := of_decide_eq_true hA_
       obtain ⟨go22, co22, eo22, gb22, gl22, cl22, HG22⟩ := Kd.R_form HO_7.out (by omega)
       (first | cases eo22 | (injection eo22 with ea_ en_ ec_; (first | subst ea_ | (injection ea_ with ea_; subst ea_)); subst ec_; clear en_))
       have GB22 := a_ gb22
       have GG22 := a_ HG22
       clear gb22 gl22 HG22
       obtain ⟨hx22_0, hf22_0⟩ := Kd.R_celln false HO_7.out (x10_2 : Int) p22 q22
       replace p22 := eq_true p22
       replace q22 := eq_true q22
       have HP28 := Kd.R_putg HO_7.out (x10_2 : Int) ((rd l1 x10_2) != 1)
       go_wp2_with (first | ((with_reducible refine gate_store (t := 4) (p := 74) rfl ?_); refine store_event (t := 4) (p := 74) (v := ?vo_w29) (w1 := (wr.setCell ⟨go22, (x10_2 : Int).toNat, none⟩ (.bool ((rd l1 x10_2) != 1)))) ?hg ?ho ?hn ?hr ?_; (case ho => rfl); (case hg => rfl); (case hn => rfl); (case hr => first | (go_simp; done) | (go_simp; rfl)); intro w29 hw; have hg : wr.grownBy w29 (some go22) := (by rw [hw]; exact HP28.2); have hp_ : Kd.R Kd.bool 4 w29 w.heap.size (fun _ => True) (.slice (some ⟨go22, 0, none⟩) x7_2.length co22) y380 := (by rw [hw, Ny380.out]; exact HP28.1); clear HP28; replace HO_8 := a_ (Kd.R_over' (v := (.slice (some ⟨go22, 0, none⟩) x7_2.length co22)) (hR_ HO_8.out) (Kd.R_typed HO_7.out) (by decide) hg); replace BK366 := a_ (blk_grown (hK_ BK366.out) hg (Kd.R_ne HO_7.out BK366.out (by decide))); replace HO_7 := a_ (hp_); replace HB := a_ ((by rw [hw]; exact below_set (HB.out) GB22.out : Below w.heap.size w w29)); clear hg hw hp_; have p381 : 0 ≤ (x10_2 : Int) := of_decide_eq_true hA_; have q381 : x10_2 < (y380.length : Int) := (by have h_ : (x10_2 : Int) < ((x7_2.length : Int) : Int) := of_decide_eq_true hA_; first | (have e_ := (Kd.R_reads' HO_7.out).1; omega) | simpa only [Ny380.out, List.length_set] using h_); have ql381 : ((x10_2 : Int) < ((x7_2.length : Int) : Int)) = True := eq_true (of_decide_eq_true hA_); obtain ⟨ad381, e381, hx381_0⟩ := Kd.at_bool (Kd.R_reads' HO_7.out).2.2 x10_2 p381 q381; (try rw [← Nbq23.out] at hx381_0); obtain rfl : (⟨go22, 0, none⟩ : Addr) = ad381 := (by injection e381); (first | simp only [add_plain] at hx381_0 | simp only [add_at] at hx381_0 | simp only [Addr.add, Nat.zero_add] at hx381_0 | skip); replace p381 := eq_true p381; replace q381 := eq_true q381; have p382 : 0 ≤ (x10_2 : Int) := of_decide_eq_true hA_; have q382 : x10_2 < (l1.length : Int) := of_decide_eq_true hA_; obtain ⟨ad382, e382, hx382_0⟩ := Kd.at_int HR1.out x10_2 p382 q382; obtain rfl : ad367 = ad382 := (by injection e382); replace hx382_0 := cl_ HB.out hx382_0; replace p382 := eq_true p382; replace q382 := eq_true q382; have p27 : 0 ≤ (x10_2 : Int) := of_decide_eq_true hA_; have q27 : (x10_2 : Int) < ((x8_2.length : Int) : Int) := of_decide_eq_true hA_; obtain ⟨go27, co27, eo27, gb27, gl27, cl27, HG27⟩ := Kd.R_form HO_8.out (by omega); (first | cases eo27 | (injection eo27 with ea_ en_ ec_; (first | subst ea_ | (injection ea_ with ea_; subst ea_)); subst ec_; clear en_)); have GB27 := a_ gb27; have GG27 := a_ HG27; clear gb27 gl27 HG27; obtain ⟨hx27_0, hf27_0⟩ := Kd.R_celln 0 HO_8.out (x10_2 : Int) p27 q27; replace p27 := eq_true p27; replace q27 := eq_true q27; obtain ⟨hy30_, hz30_⟩ := Kd.R_celln 0 HO_8.out (x10_2 : Int) (of_decide_eq_true hA_) (of_decide_eq_true hA_); have HP30 := Kd.R_putg HO_8.out (x10_2 : Int) 1) | ((with_reducible refine gate_store (t := 3) (p := 88) rfl ?_); refine store_event (t := 3) (p := 88) (v := ?vo_w31) (w1 := (w29.setCell ⟨go27, (x10_2 : Int).toNat, none⟩ (.int .i64 1))) ?hg ?ho ?hn ?hr ?_; (case ho => rfl); (case hg => rfl); (case hn => rfl); (case hr => first | (go_simp; done) | (go_simp; rfl)); intro w31 hw; have hg : w29.grownBy w31 (some go27) := (by rw [hw]; exact HP30.2); have hp_ : Kd.R (Kd.int .i64) 3 w31 w.heap.size (fun _ => True) (.slice (some ⟨go27, 0, none⟩) x8_2.length co27) y383 := (by rw [hw, Ny383.out]; exact HP30.1); clear HP30; replace HO_7 := a_ (Kd.R_over' (v := (.slice (some ⟨go27, 0, none⟩) x8_2.length co27)) (hR_ HO_7.out) (Kd.R_typed HO_8.out) (by decide) hg); replace BK366 := a_ (blk_grown (hK_ BK366.out) hg (Kd.R_ne HO_8.out BK366.out (by decide))); replace HO_8 := a_ (hp_); replace HB := a_ ((by rw [hw]; exact below_set (HB.out) GB27.out : Below w.heap.size w w31)); clear hg hw hp_))
       go_roundg k2
       case measure => have := HK1.out; have := HK2.out; omega
       case rel => exact ⟨(y380), (y383), (wrap64 (x9_2 + 1)), (wrap64 (x10_2 + 1)), hW_, hW_, H', ⟨by have := HK1.out; have := HK2.out; omega⟩, ⟨hR_ HO_7.out⟩, ⟨hR_ HO_8.out⟩, ⟨(hK_ BK366.out)⟩, ⟨hC_⟩⟩
      rw [if_neg c19] at H
      have c19b0 : (((rd_T66 l0 x10_2).f1) == x5_1) = false := beq_eq_false_iff_ne.mpr c19
      have c19b1 : (((rd_T66 l0 x10_2).f1) != x5_1) = true := bne_iff_ne.mpr c19
      replace H := ifI_ H; obtain ⟨c36, H⟩ := H
      have c36b0 : decide (0 ≤ ((rd_T66 l0 x10_2).f1)) = true := decide_eq_true c36
      clear c36
      replace H := ifI_ H; obtain ⟨c37, H⟩ := H
      have c37b0 : decide (((rd_T66 l0 x10_2).f1) < (x7_2.length : Int)) = true := decide_eq_true c37
      clear c37
      obtain ⟨bq38, hbq38⟩ : ∃ b_ : Bool, b_ = (rdOf false x7_2 ((rd_T66 l0 x10_2).f1)) := ⟨_, rfl⟩
      replace H : (if bq38 = true then (if x10_2 < (l1.length : Int) then (if x10_2 < (x7_2.length : Int) then ((some (x7_2.set (x10_2 : Int).toNat ((rd l1 x10_2) != 1) : List Bool)).bind fun y386 => (if rdOf false y386 x10_2 = true then (if (rd l1 x10_2) = 0 then (if x10_2 < (x8_2.length : Int) then (sleuthref12_byHalves.l1 k2 l0 l1 x5_1 y386 (x8_2.set (x10_2 : Int).toNat 1) (wrap64 (x9_2 + 1)) (wrap64 (x10_2 + 1))) else (none)) else (sleuthref12_byHalves.l1 k2 l0 l1 x5_1 y386 x8_2 x9_2 (wrap64 (x10_2 + 1)))) else (sleuthref12_byHalves.l1 k2 l0 l1 x5_1 y386 x8_2 x9_2 (wrap64 (x10_2 + 1))))) else (none)) else (none)) else (if x10_2 < (x7_2.length : Int) then ((some (x7_2.set (x10_2 : Int).toNat false : List Bool)).bind fun y390 => (if rdOf false y390 x10_2 = true then (if x10_2 < (l1.length : Int) then (if (rd l1 x10_2) = 0 then (if x10_2 < (x8_2.length : Int) then (sleuthref12_byHalves.l1 k2 l0 l1 x5_1 y390 (x8_2.set (x10_2 : Int).toNat 1) (wrap64 (x9_2 + 1)) (wrap64 (x10_2 + 1))) else (none)) else (sleuthref12_byHalves.l1 k2 l0 l1 x5_1 y390 x8_2 x9_2 (wrap64 (x10_2 + 1)))) else (none)) else (sleuthref12_byHalves.l1 k2 l0 l1 x5_1 y390 x8_2 x9_2 (wrap64 (x10_2 + 1))))) else (none))) = some (r1, r2) := by rw [← hbq38] at H; exact H
      have Nbq38 := a_ hbq38
      clear hbq38
      by_cases c39 : bq38 = true
      case neg =>
       replace c39 := Bool.eq_false_iff.mpr c39
       subst c39
       rw [if_neg (show ¬ (false = true) by decide)] at H
       replace H := ifI_ H; obtain ⟨c59, H⟩ := H
       have c59b0 : decide (x10_2 < (x7_2.length : Int)) = true := decide_eq_true c59
       clear c59
       obtain ⟨y390, hy390⟩ : ∃ y_ : List Bool, y_ = (x7_2.set (x10_2 : Int).toNat false) := ⟨_, rfl⟩
       replace H : (if rdOf false y390 x10_2 = true then (if x10_2 < (l1.length : Int) then (if (rd l1 x10_2) = 0 then (if x10_2 < (x8_2.length : Int) then (sleuthref12_byHalves.l1 k2 l0 l1 x5_1 y390 (x8_2.set (x10_2 : Int).toNat 1) (wrap64 (x9_2 + 1)) (wrap64 (x10_2 + 1))) else (none)) else (sleuthref12_byHalves.l1 k2 l0 l1 x5_1 y390 x8_2 x9_2 (wrap64 (x10_2 + 1)))) else (none)) else (sleuthref12_byHalves.l1 k2 l0 l1 x5_1 y390 x8_2 x9_2 (wrap64 (x10_2 + 1)))) = some (r1, r2) := by first | (rw [hy390]; with_reducible exact H) | (have H2_ := (Option.bind_some _ _).symm.trans H; rw [hy390]; with_reducible exact H2_) | (have H2_ := (Option.bind_some _ _).symm.trans H; with_reducible exact H2_) | with_reducible exact H | (rw [hy390]; exact H) | exact H
       have Ny390 := a_ hy390
       clear hy390
       obtain ⟨bq61, hbq61⟩ : ∃ b_ : Bool, b_ = (rdOf false y390 x10_2) := ⟨_, rfl⟩
       replace H : (if bq61 = true then (if x10_2 < (l1.length : Int) then (if (rd l1 x10_2) = 0 then (if x10_2 < (x8_2.length : Int) then (sleuthref12_byHalves.l1 k2 l0 l1 x5_1 y390 (x8_2.set (x10_2 : Int).toNat 1) (wrap64 (x9_2 + 1)) (wrap64 (x10_2 + 1))) else (none)) else (sleuthref12_byHalves.l1 k2 l0 l1 x5_1 y390 x8_2 x9_2 (wrap64 (x10_2 + 1)))) else (none)) else (sleuthref12_byHalves.l1 k2 l0 l1 x5_1 y390 x8_2 x9_2 (wrap64 (x10_2 + 1)))) = some (r1, r2) := by rw [← hbq61] at H; exact H
       have Nbq61 := a_ hbq61
       clear hbq61
       by_cases c62 : bq61 = true
       case neg =>
        replace c62 := Bool.eq_false_iff.mpr c62
        subst c62
        rw [if_neg (show ¬ (false = true) by decide)] at H
        have H' := a_ H
        clear H
        have p378 : 0 ≤ (x10_2 : Int) := of_decide_eq_true hA_
        have q378 : x10_2 < (l0.length : Int) := of_decide_eq_true hA_
        obtain ⟨ad378, A378_2, c378_2, e378, hx378_0, hx378_1, hx378_2, hx378_3, hl378_2, hi378_2⟩ := at_T66 HR0.out x10_2 p378 q378
        cases e378
        replace hx378_0 := cl_ HB.out hx378_0
        replace hx378_1 := cl_ HB.out hx378_1
        replace hx378_2 := cl_ HB.out hx378_2
        replace hx378_3 := cl_ HB.out hx378_3
        have HR378_2 := a_ hi378_2
        have HC378_2 := a_ hl378_2
        clear hi378_2 hl378_2
        replace p378 := eq_true p378
        replace q378 := eq_true q378
        obtain ⟨Ao75, co75, eo75⟩ := Kd.R_slice HO_7.out
        subst eo75
        have p384 : 0 ≤ (((rd_T66 l0 x10_2).f1) : Int) := of_decide_eq_true hA_
        have q384 : ((rd_T66 l0 x10_2).f1) < (x7_2.length : Int) := of_decide_eq_true hA_
        obtain ⟨ad384, e384, hx384_0⟩ := Kd.at_bool (Kd.R_reads' HO_7.out).2.2 ((rd_T66 l0 x10_2).f1) p384 q384
        (try rw [← Nbq38.out] at hx384_0)
        (try rw [← Nbq61.out] at hx384_0)
        cases e384
        replace p384 := eq_true p384
        replace q384 := eq_true q384
        have p60 : 0 ≤ (x10_2 : Int) := of_decide_eq_true hA_
        have q60 : (x10_2 : Int) < ((x7_2.length : Int) : Int) := of_decide_eq_true hA_
        obtain ⟨go60, co60, eo60, gb60, gl60, cl60, HG60⟩ := Kd.R_form HO_7.out (by omega)
        (first | cases eo60 | (injection eo60 with ea_ en_ ec_; (first | subst ea_ | (injection ea_ with ea_; subst ea_)); subst ec_; clear en_))
        have GB60 := a_ gb60
        have GG60 := a_ HG60
        clear gb60 gl60 HG60
        (first | simp only [add_plain] at hx384_0 | skip)
        obtain ⟨hx60_0, hf60_0⟩ := Kd.R_celln false HO_7.out (x10_2 : Int) p60 q60
        replace p60 := eq_true p60
        replace q60 := eq_true q60
        have HP76 := Kd.R_putg HO_7.out (x10_2 : Int) false
        go_wp2_with (first | ((with_reducible refine gate_store (t := 4) (p := 74) rfl ?_); refine store_event (t := 4) (p := 74) (v := ?vo_w77) (w1 := (wr.setCell ⟨go60, (x10_2 : Int).toNat, none⟩ (.bool false))) ?hg ?ho ?hn ?hr ?_; (case ho => rfl); (case hg => rfl); (case hn => rfl); (case hr => first | (go_simp; done) | (go_simp; rfl)); intro w77 hw; have hg : wr.grownBy w77 (some go60) := (by rw [hw]; exact HP76.2); have hp_ : Kd.R Kd.bool 4 w77 w.heap.size (fun _ => True) (.slice (some ⟨go60, 0, none⟩) x7_2.length co75) y390 := (by rw [hw, Ny390.out]; exact HP76.1); clear HP76; replace HO_8 := a_ (Kd.R_over' (v := (.slice (some ⟨go60, 0, none⟩) x7_2.length co75)) (hR_ HO_8.out) (Kd.R_typed HO_7.out) (by decide) hg); replace BK366 := a_ (blk_grown (hK_ BK366.out) hg (Kd.R_ne HO_7.out BK366.out (by decide))); replace HO_7 := a_ (hp_); replace HB := a_ ((by rw [hw]; exact below_set (HB.out) GB60.out : Below w.heap.size w w77)); clear hg hw hp_; have p391 : 0 ≤ (x10_2 : Int) := of_decide_eq_true hA_; have q391 : x10_2 < (y390.length : Int) := (by have h_ : (x10_2 : Int) < ((x7_2.length : Int) : Int) := of_decide_eq_true hA_; first | (have e_ := (Kd.R_reads' HO_7.out).1; omega) | simpa only [Ny390.out, List.length_set] using h_); have ql391 : ((x10_2 : Int) < ((x7_2.length : Int) : Int)) = True := eq_true (of_decide_eq_true hA_); obtain ⟨ad391, e391, hx391_0⟩ := Kd.at_bool (Kd.R_reads' HO_7.out).2.2 x10_2 p391 q391; (try rw [← Nbq38.out] at hx391_0); (try rw [← Nbq61.out] at hx391_0); obtain rfl : (⟨go60, 0, none⟩ : Addr) = ad391 := (by injection e391); (first | simp only [add_plain] at hx391_0 | simp only [add_at] at hx391_0 | simp only [Addr.add, Nat.zero_add] at hx391_0 | skip); replace p391 := eq_true p391; replace q391 := eq_true q391))
        go_roundg k2
        case measure => have := HK1.out; have := HK2.out; omega
        case rel => exact ⟨(y390), (x8_2), (x9_2), (wrap64 (x10_2 + 1)), hW_, hW_, H', ⟨by have := HK1.out; have := HK2.out; omega⟩, ⟨hR_ HO_7.out⟩, ⟨hR_ HO_8.out⟩, ⟨(hK_ BK366.out)⟩, ⟨hC_⟩⟩
       subst c62
       rw [if_pos rfl] at H
       replace H := ifI_ H; obtain ⟨c63, H⟩ := H
       have c63b0 : decide (x10_2 < (l1.length : Int)) = true := decide_eq_true c63
       clear c63
       by_cases c64 : (rd l1 x10_2) = 0
       case neg =>
        rw [if_neg c64] at H
        have c64b0 : ((rd l1 x10_2) == 0) = false := beq_eq_false_iff_ne.mpr c64
        have c64b1 : ((rd l1 x10_2) != 0) = true := bne_iff_ne.mpr c64
        have H' := a_ H
        clear H
        have p378 : 0 ≤ (x10_2 : Int) := of_decide_eq_true hA_
        have q378 : x10_2 < (l0.length : Int) := of_decide_eq_true hA_
        obtain ⟨ad378, A378_2, c378_2, e378, hx378_0, hx378_1, hx378_2, hx378_3, hl378_2, hi378_2⟩ := at_T66 HR0.out x10_2 p378 q378
        cases e378
        replace hx378_0 := cl_ HB.out hx378_0
        replace hx378_1 := cl_ HB.out hx378_1
        replace hx378_2 := cl_ HB.out hx378_2
        replace hx378_3 := cl_ HB.out hx378_3
        have HR378_2 := a_ hi378_2
        have HC378_2 := a_ hl378_2
        clear hi378_2 hl378_2
        replace p378 := eq_true p378
        replace q378 := eq_true q378
        obtain ⟨Ao72, co72, eo72⟩ := Kd.R_slice HO_7.out
        subst eo72
        have p384 : 0 ≤ (((rd_T66 l0 x10_2).f1) : Int) := of_decide_eq_true hA_
        have q384 : ((rd_T66 l0 x10_2).f1) < (x7_2.length : Int) := of_decide_eq_true hA_
        obtain ⟨ad384, e384, hx384_0⟩ := Kd.at_bool (Kd.R_reads' HO_7.out).2.2 ((rd_T66 l0 x10_2).f1) p384 q384
        (try rw [← Nbq38.out] at hx384_0)
        (try rw [← Nbq61.out] at hx384_0)
        cases e384
        replace p384 := eq_true p384
        replace q384 := eq_true q384
        have p60 : 0 ≤ (x10_2 : Int) := of_decide_eq_true hA_
        have q60 : (x10_2 : Int) < ((x7_2.length : Int) : Int) := of_decide_eq_true hA_
        obtain ⟨go60, co60, eo60, gb60, gl60, cl60, HG60⟩ := Kd.R_form HO_7.out (by omega)
        (first | cases eo60 | (injection eo60 with ea_ en_ ec_; (first | subst ea_ | (injection ea_ with ea_; subst ea_)); subst ec_; clear en_))
        have GB60 := a_ gb60
        have GG60 := a_ HG60
        clear gb60 gl60 HG60
        (first | simp only [add_plain] at hx384_0 | skip)
        obtain ⟨hx60_0, hf60_0⟩ := Kd.R_celln false HO_7.out (x10_2 : Int) p60 q60
        replace p60 := eq_true p60
        replace q60 := eq_true q60
        have HP73 := Kd.R_putg HO_7.out (x10_2 : Int) false
        go_wp2_with (first | ((with_reducible refine gate_store (t := 4) (p := 74) rfl ?_); refine store_event (t := 4) (p := 74) (v := ?vo_w74) (w1 := (wr.setCell ⟨go60, (x10_2 : Int).toNat, none⟩ (.bool false))) ?hg ?ho ?hn ?hr ?_; (case ho => rfl); (case hg => rfl); (case hn => rfl); (case hr => first | (go_simp; done) | (go_simp; rfl)); intro w74 hw; have hg : wr.grownBy w74 (some go60) := (by rw [hw]; exact HP73.2); have hp_ : Kd.R Kd.bool 4 w74 w.heap.size (fun _ => True) (.slice (some ⟨go60, 0, none⟩) x7_2.length co72) y390 := (by rw [hw, Ny390.out]; exact HP73.1); clear HP73; replace HO_8 := a_ (Kd.R_over' (v := (.slice (some ⟨go60, 0, none⟩) x7_2.length co72)) (hR_ HO_8.out) (Kd.R_typed HO_7.out) (by decide) hg); replace BK366 := a_ (blk_grown (hK_ BK366.out) hg (Kd.R_ne HO_7.out BK366.out (by decide))); replace HO_7 := a_ (hp_); replace HB := a_ ((by rw [hw]; exact below_set (HB.out) GB60.out : Below w.heap.size w w74)); clear hg hw hp_; have p391 : 0 ≤ (x10_2 : Int) := of_decide_eq_true hA_; have q391 : x10_2 < (y390.length : Int) := (by have h_ : (x10_2 : Int) < ((x7_2.length : Int) : Int) := of_decide_eq_true hA_; first | (have e_ := (Kd.R_reads' HO_7.out).1; omega) | simpa only [Ny390.out, List.length_set] using h_); have ql391 : ((x10_2 : Int) < ((x7_2.length : Int) : Int)) = True := eq_true (of_decide_eq_true hA_); obtain ⟨ad391, e391, hx391_0⟩ := Kd.at_bool (Kd.R_reads' HO_7.out).2.2 x10_2 p391 q391; (try rw [← Nbq38.out] at hx391_0); (try rw [← Nbq61.out] at hx391_0); obtain rfl : (⟨go60, 0, none⟩ : Addr) = ad391 := (by injection e391); (first | simp only [add_plain] at hx391_0 | simp only [add_at] at hx391_0 | simp only [Addr.add, Nat.zero_add] at hx391_0 | skip); replace p391 := eq_true p391; replace q391 := eq_true q391; have p392 : 0 ≤ (x10_2 : Int) := of_decide_eq_true hA_; have q392 : x10_2 < (l1.length : Int) := of_decide_eq_true hA_; obtain ⟨ad392, e392, hx392_0⟩ := Kd.at_int HR1.out x10_2 p392 q392; obtain rfl : ad367 = ad392 := (by injection e392); replace hx392_0 := cl_ HB.out hx392_0; replace p392 := eq_true p392; replace q392 := eq_true q392))
        go_roundg k2
        case measure => have := HK1.out; have := HK2.out; omega
        case rel => exact ⟨(y390), (x8_2), (x9_2), (wrap64 (x10_2 + 1)), hW_, hW_, H', ⟨by have := HK1.out; have := HK2.out; omega⟩, ⟨hR_ HO_7.out⟩, ⟨hR_ HO_8.out⟩, ⟨(hK_ BK366.out)⟩, ⟨hC_⟩⟩
       rw [if_pos c64] at H
       have c64b0 : ((rd l1 x10_2) == 0) = true := beq_iff_eq.mpr c64
       have c64b1 : ((rd l1 x10_2) != 0) = false := bne_eq_false_iff_eq.mpr c64
       clear c64
       replace H := ifI_ H; obtain ⟨c65, H⟩ := H
       have c65b0 : decide (x10_2 < (x8_2.length : Int)) = true := decide_eq_true c65
       clear c65
       obtain ⟨y393, hy393⟩ : ∃ y_ : List Int, y_ = (x8_2.set (x10_2 : Int).toNat 1) := ⟨_, rfl⟩
       replace H : (sleuthref12_byHalves.l1 k2 l0 l1 x5_1 y390 y393 (wrap64 (x9_2 + 1)) (wrap64 (x10_2 + 1))) = some (r1, r2) := by first | (rw [hy393]; with_reducible exact H) | (have H2_ := (Option.bind_some _ _).symm.trans H; rw [hy393]; with_reducible exact H2_) | (have H2_ := (Option.bind_some _ _).symm.trans H; with_reducible exact H2_) | with_reducible exact H | (rw [hy393]; exact H) | exact H
       have Ny393 := a_ hy393
       clear hy393
       have H' := a_ H
       clear H
       have p378 : 0 ≤ (x10_2 : Int) := of_decide_eq_true hA_
       have q378 : x10_2 < (l0.length : Int) := of_decide_eq_true hA_
       obtain ⟨ad378, A378_2, c378_2, e378, hx378_0, hx378_1, hx378_2, hx378_3, hl378_2, hi378_2⟩ := at_T66 HR0.out x10_2 p378 q378
       cases e378
       replace hx378_0 := cl_ HB.out hx378_0
       replace hx378_1 := cl_ HB.out hx378_1
       replace hx378_2 := cl_ HB.out hx378_2
       replace hx378_3 := cl_ HB.out hx378_3
       have HR378_2 := a_ hi378_2
       have HC378_2 := a_ hl378_2
       clear hi378_2 hl378_2
       replace p378 := eq_true p378
       replace q378 := eq_true q378
       obtain ⟨Ao67, co67, eo67⟩ := Kd.R_slice HO_7.out
       subst eo67
       have p384 : 0 ≤ (((rd_T66 l0 x10_2).f1) : Int) := of_decide_eq_true hA_
       have q384 : ((rd_T66 l0 x10_2).f1) < (x7_2.length : Int) := of_decide_eq_true hA_
       obtain ⟨ad384, e384, hx384_0⟩ := Kd.at_bool (Kd.R_reads' HO_7.out).2.2 ((rd_T66 l0 x10_2).f1) p384 q384
       (try rw [← Nbq38.out] at hx384_0)
       (try rw [← Nbq61.out] at hx384_0)
       cases e384
       replace p384 := eq_true p384
       replace q384 := eq_true q384
       have p60 : 0 ≤ (x10_2 : Int) := of_decide_eq_true hA_
       have q60 : (x10_2 : Int) < ((x7_2.length : Int) : Int) := of_decide_eq_true hA_
       obtain ⟨go60, co60, eo60, gb60, gl60, cl60, HG60⟩ := Kd.R_form HO_7.out (by omega)
       (first | cases eo60 | (injection eo60 with ea_ en_ ec_; (first | subst ea_ | (injection ea_ with ea_; subst ea_)); subst ec_; clear en_))
       have GB60 := a_ gb60
       have GG60 := a_ HG60
       clear gb60 gl60 HG60
       (first | simp only [add_plain] at hx384_0 | skip)
       obtain ⟨hx60_0, hf60_0⟩ := Kd.R_celln false HO_7.out (x10_2 : Int) p60 q60
       replace p60 := eq_true p60
       replace q60 := eq_true q60
       have HP68 := Kd.R_putg HO_7.out (x10_2 : Int) false
       go_wp2_with (first | ((with_reducible refine gate_store (t := 4) (p := 74) rfl ?_); refine store_event (t := 4) (p := 74) (v := ?vo_w69) (w1 := (wr.setCell ⟨go60, (x10_2 : Int).toNat, none⟩ (.bool false))) ?hg ?ho ?hn ?hr ?_; (case ho => rfl); (case hg => rfl); (case hn => rfl); (case hr => first | (go_simp; done) | (go_simp; rfl)); intro w69 hw; have hg : wr.grownBy w69 (some go60) := (by rw [hw]; exact HP68.2); have hp_ : Kd.R Kd.bool 4 w69 w.heap.size (fun _ => True) (.slice (some ⟨go60, 0, none⟩) x7_2.length co67) y390 := (by rw [hw, Ny390.out]; exact HP68.1); clear HP68; replace HO_8 := a_ (Kd.R_over' (v := (.slice (some ⟨go60, 0, none⟩) x7_2.length co67)) (hR_ HO_8.out) (Kd.R_typed HO_7.out) (by decide) hg); replace BK366 := a_ (blk_grown (hK_ BK366.out) hg (Kd.R_ne HO_7.out BK366.out (by decide))); replace HO_7 := a_ (hp_); replace HB := a_ ((by rw [hw]; exact below_set (HB.out) GB60.out : Below w.heap.size w w69)); clear hg hw hp_; have p391 : 0 ≤ (x10_2 : Int) := of_decide_eq_true hA_; have q391 : x10_2 < (y390.length : Int) := (by have h_ : (x10_2 : Int) < ((x7_2.length : Int) : Int) := of_decide_eq_true hA_; first | (have e_ := (Kd.R_reads' HO_7.out).1; omega) | simpa only [Ny390.out, List.length_set] using h_); have ql391 : ((x10_2 : Int) < ((x7_2.length : Int) : Int)) = True := eq_true (of_decide_eq_true hA_); obtain ⟨ad391, e391, hx391_0⟩ := Kd.at_bool (Kd.R_reads' HO_7.out).2.2 x10_2 p391 q391; (try rw [← Nbq38.out] at hx391_0); (try rw [← Nbq61.out] at hx391_0); obtain rfl : (⟨go60, 0, none⟩ : Addr) = ad391 := (by injection e391); (first | simp only [add_plain] at hx391_0 | simp only [add_at] at hx391_0 | simp only [Addr.add, Nat.zero_add] at hx391_0 | skip); replace p391 := eq_true p391; replace q391 := eq_true q391; have p392 : 0 ≤ (x10_2 : Int) := of_decide_eq_true hA_; have q392 : x10_2 < (l1.length : Int) := of_decide_eq_true hA_; obtain ⟨ad392, e392, hx392_0⟩ := Kd.at_int HR1.out x10_2 p392 q392; obtain rfl : ad367 = ad392 := (by injection e392); replace hx392_0 := cl_ HB.out hx392_0; replace p392 := eq_true p392; replace q392 := eq_true q392; have p66 : 0 ≤ (x10_2 : Int) := of_decide_eq_true hA_; have q66 : (x10_2 : Int) < ((x8_2.length : Int) : Int) := of_decide_eq_true hA_; obtain ⟨go66, co66, eo66, gb66, gl66, cl66, HG66⟩ := Kd.R_form HO_8.out (by omega); (first | cases eo66 | (injection eo66 with ea_ en_ ec_; (first | subst ea_ | (injection ea_ with ea_; subst ea_)); subst ec_; clear en_)); have GB66 := a_ gb66; have GG66 := a_ HG66; clear gb66 gl66 HG66; obtain ⟨hx66_0, hf66_0⟩ := Kd.R_celln 0 HO_8.out (x10_2 : Int) p66 q66; replace p66 := eq_true p66; replace q66 := eq_true q66; obtain ⟨hy70_, hz70_⟩ := Kd.R_celln 0 HO_8.out (x10_2 : Int) (of_decide_eq_true hA_) (of_decide_eq_true hA_); have HP70 := Kd.R_putg HO_8.out (x10_2 : Int) 1) | ((with_reducible refine gate_store (t := 3) (p := 88) rfl ?_); refine store_event (t := 3) (p := 88) (v := ?vo_w71) (w1 := (w69.setCell ⟨go66, (x10_2 : Int).toNat, none⟩ (.int .i64 1))) ?hg ?ho ?hn ?hr ?_; (case ho => rfl); (case hg => rfl); (case hn => rfl); (case hr => first | (go_simp; done) | (go_simp; rfl)); intro w71 hw; have hg : w69.grownBy w71 (some go66) := (by rw [hw]; exact HP70.2); have hp_ : Kd.R (Kd.int .i64) 3 w71 w.heap.size (fun _ => True) (.slice (some ⟨go66, 0, none⟩) x8_2.length co66) y393 := (by rw [hw, Ny393.out]; exact HP70.1); clear HP70; replace HO_7 := a_ (Kd.R_over' (v := (.slice (some ⟨go66, 0, none⟩) x8_2.length co66)) (hR_ HO_7.out) (Kd.R_typed HO_8.out) (by decide) hg); replace BK366 := a_ (blk_grown (hK_ BK366.out) hg (Kd.R_ne HO_8.out BK366.out (by decide))); replace HO_8 := a_ (hp_); replace HB := a_ ((by rw [hw]; exact below_set (HB.out) GB66.out : Below w.heap.size w w71)); clear hg hw hp_))
       go_roundg k2
       case measure => have := HK1.out; have := HK2.out; omega
       case rel => exact ⟨(y390), (y393), (wrap64 (x9_2 + 1)), (wrap64 (x10_2 + 1)), hW_, hW_, H', ⟨by have := HK1.out; have := HK2.out; omega⟩, ⟨hR_ HO_7.out⟩, ⟨hR_ HO_8.out⟩, ⟨(hK_ BK366.out)⟩, ⟨hC_⟩⟩
      subst c39
      rw [if_pos rfl] at H
      replace H := ifI_ H; obtain ⟨c40, H⟩ := H
      have c40b0 : decide (x10_2 < (l1.length : Int)) = true := decide_eq_true c40
      clear c40
      replace H := ifI_ H; obtain ⟨c41, H⟩ := H
      have c41b0 : decide (x10_2 < (x7_2.length : Int)) = true := decide_eq_true c41
      clear c41
      obtain ⟨y386, hy386⟩ : ∃ y_ : List Bool, y_ = (x7_2.set (x10_2 : Int).toNat ((rd l1 x10_2) != 1)) := ⟨_, rfl⟩
      replace H : (if rdOf false y386 x10_2 = true then (if (rd l1 x10_2) = 0 then (if x10_2 < (x8_2.length : Int) then (sleuthref12_byHalves.l1 k2 l0 l1 x5_1 y386 (x8_2.set (x10_2 : Int).toNat 1) (wrap64 (x9_2 + 1)) (wrap64 (x10_2 + 1))) else (none)) else (sleuthref12_byHalves.l1 k2 l0 l1 x5_1 y386 x8_2 x9_2 (wrap64 (x10_2 + 1)))) else (sleuthref12_byHalves.l1 k2 l0 l1 x5_1 y386 x8_2 x9_2 (wrap64 (x10_2 + 1)))) = some (r1, r2) := by first | (rw [hy386]; with_reducible exact H) | (have H2_ := (Option.bind_some _ _).symm.trans H; rw [hy386]; with_reducible exact H2_) | (have H2_ := (Option.bind_some _ _).symm.trans H; with_reducible exact H2_) | with_reducible exact H | (rw [hy386]; exact H) | exact H
      have Ny386 := a_ hy386
      clear hy386
      obtain ⟨bq43, hbq43⟩ : ∃ b_ : Bool, b_ = (rdOf false y386 x10_2) := ⟨_, rfl⟩
      replace H : (if bq43 = true then (if (rd l1 x10_2) = 0 then (if x10_2 < (x8_2.length : Int) then (sleuthref12_byHalves.l1 k2 l0 l1 x5_1 y386 (x8_2.set (x10_2 : Int).toNat 1) (wrap64 (x9_2 + 1)) (wrap64 (x10_2 + 1))) else (none)) else (sleuthref12_byHalves.l1 k2 l0 l1 x5_1 y386 x8_2 x9_2 (wrap64 (x10_2 + 1)))) else (sleuthref12_byHalves.l1 k2 l0 l1 x5_1 y386 x8_2 x9_2 (wrap64 (x10_2 + 1)))) = some (r1, r2) := by rw [← hbq43] at H; exact H
      have Nbq43 := a_ hbq43
      clear hbq43
      by_cases c44 : bq43 = true
      case neg =>
       replace c44 := Bool.eq_false_iff.mpr c44
       subst c44
       rw [if_neg (show ¬ (false = true) by decide)] at H
       have H' := a_ H
       clear H
       have p378 : 0 ≤ (x10_2 : Int) := of_decide_eq_true hA_
       have q378 : x10_2 < (l0.length : Int) := of_decide_eq_true hA_
       obtain ⟨ad378, A378_2, c378_2, e378, hx378_0, hx378_1, hx378_2, hx378_3, hl378_2, hi378_2⟩ := at_T66 HR0.out x10_2 p378 q378
       cases e378
       replace hx378_0 := cl_ HB.out hx378_0
       replace hx378_1 := cl_ HB.out hx378_1
       replace hx378_2 := cl_ HB.out hx378_2
       replace hx378_3 := cl_ HB.out hx378_3
       have HR378_2 := a_ hi378_2
       have HC378_2 := a_ hl378_2
       clear hi378_2 hl378_2
       replace p378 := eq_true p378
       replace q378 := eq_true q378
       obtain ⟨Ao56, co56, eo56⟩ := Kd.R_slice HO_7.out
       subst eo56
       have p384 : 0 ≤ (((rd_T66 l0 x10_2).f1) : Int) := of_decide_eq_true hA_
       have q384 : ((rd_T66 l0 x10_2).f1) < (x7_2.length : Int) := of_decide_eq_true hA_
       obtain ⟨ad384, e384, hx384_0⟩ := Kd.at_bool (Kd.R_reads' HO_7.out).2.2 ((rd_T66 l0 x10_2).f1) p384 q384
       (try rw [← Nbq38.out] at hx384_0)
       (try rw [← Nbq43.out] at hx384_0)
       cases e384
       replace p384 := eq_true p384
       replace q384 := eq_true q384
       have p385 : 0 ≤ (x10_2 : Int) := of_decide_eq_true hA_
       have q385 : x10_2 < (l1.length : Int) := of_decide_eq_true hA_
       obtain ⟨ad385, e385, hx385_0⟩ := Kd.at_int HR1.out x10_2 p385 q385
       obtain rfl : ad367 = ad385 := (by injection e385)
       replace hx385_0 := cl_ HB.out hx385_0
       replace p385 := eq_true p385
       replace q385 := eq_true q385
       have p42 : 0 ≤ (x10_2 : Int) := of_decide_eq_true hA_
       have q42 : (x10_2 : Int) < ((x7_2.length : Int) : Int) := of_decide_eq_true hA_
       obtain ⟨go42, co42, eo42, gb42, gl42, cl42, HG42⟩ := Kd.R_form HO_7.out (by omega)
       (first | cases eo42 | (injection eo42 with ea_ en_ ec_; (first | subst ea_ | (injection ea_ with ea_; subst ea_)); subst ec_; clear en_))
       have GB42 := a_ gb42
       have GG42 := a_ HG42
       clear gb42 gl42 HG42
       (first | simp only [add_plain] at hx384_0 | skip)
       obtain ⟨hx42_0, hf42_0⟩ := Kd.R_celln false HO_7.out (x10_2 : Int) p42 q42
       replace p42 := eq_true p42
       replace q42 := eq_true q42
       have HP57 := Kd.R_putg HO_7.out (x10_2 : Int) ((rd l1 x10_2) != 1)
       go_wp2_with (first | ((with_reducible refine gate_store (t := 4) (p := 74) rfl ?_); refine store_event (t := 4) (p := 74) (v := ?vo_w58) (w1 := (wr.setCell ⟨go42, (x10_2 : Int).toNat, none⟩ (.bool ((rd l1 x10_2) != 1)))) ?hg ?ho ?hn ?hr ?_; (case ho => rfl); (case hg => rfl); (case hn => rfl); (case hr => first | (go_simp; done) | (go_simp; rfl)); intro w58 hw; have hg : wr.grownBy w58 (some go42) := (by rw [hw]; exact HP57.2); have hp_ : Kd.R Kd.bool 4 w58 w.heap.size (fun _ => True) (.slice (some ⟨go42, 0, none⟩) x7_2.length co56) y386 := (by rw [hw, Ny386.out]; exact HP57.1); clear HP57; replace HO_8 := a_ (Kd.R_over' (v := (.slice (some ⟨go42, 0, none⟩) x7_2.length co56)) (hR_ HO_8.out) (Kd.R_typed HO_7.out) (by decide) hg); replace BK366 := a_ (blk_grown (hK_ BK366.out) hg (Kd.R_ne HO_7.out BK366.out (by decide))); replace HO_7 := a_ (hp_); replace HB := a_ ((by rw [hw]; exact below_set (HB.out) GB42.out : Below w.heap.size w w58)); clear hg hw hp_; have p387 : 0 ≤ (x10_2 : Int) := of_decide_eq_true hA_; have q387 : x10_2 < (y386.length : Int) := (by have h_ : (x10_2 : Int) < ((x7_2.length : Int) : Int) := of_decide_eq_true hA_; first | (have e_ := (Kd.R_reads' HO_7.out).1; omega) | simpa only [Ny386.out, List.length_set] using h_); have ql387 : ((x10_2 : Int) < ((x7_2.length : Int) : Int)) = True := eq_true (of_decide_eq_true hA_); obtain ⟨ad387, e387, hx387_0⟩ := Kd.at_bool (Kd.R_reads' HO_7.out).2.2 x10_2 p387 q387; (try rw [← Nbq38.out] at hx387_0); (try rw [← Nbq43.out] at hx387_0); obtain rfl : (⟨go42, 0, none⟩ : Addr) = ad387 := (by injection e387); (first | simp only [add_plain] at hx387_0 | simp only [add_at] at hx387_0 | simp only [Addr.add, Nat.zero_add] at hx387_0 | skip); replace p387 := eq_true p387; replace q387 := eq_true q387))
       go_roundg k2
       case measure => have := HK1.out; have := HK2.out; omega
       case rel => exact ⟨(y386), (x8_2), (x9_2), (wrap64 (x10_2 + 1)), hW_, hW_, H', ⟨by have := HK1.out; have := HK2.out; omega⟩, ⟨hR_ HO_7.out⟩, ⟨hR_ HO_8.out⟩, ⟨(hK_ BK366.out)⟩, ⟨hC_⟩⟩
      subst c44
      rw [if_pos rfl] at H
      by_cases c45 : (rd l1 x10_2) = 0
      case neg =>
       rw [if_neg c45] at H
       have c45b0 : ((rd l1 x10_2) == 0) = false := beq_eq_false_iff_ne.mpr c45
       have c45b1 : ((rd l1 x10_2) != 0) = true := bne_iff_ne.mpr c45
       have H' := a_ H
       clear H
       have p378 : 0 ≤ (x10_2 : Int) := of_decide_eq_true hA_
       have q378 : x10_2 < (l0.length : Int) := of_decide_eq_true hA_
       obtain ⟨ad378, A378_2, c378_2, e378, hx378_0, hx378_1, hx378_2, hx378_3, hl378_2, hi378_2⟩ := at_T66 HR0.out x10_2 p378 q378
       cases e378
       replace hx378_0 := cl_ HB.out hx378_0
       replace hx378_1 := cl_ HB.out hx378_1
       replace hx378_2 := cl_ HB.out hx378_2
       replace hx378_3 := cl_ HB.out hx378_3
       have HR378_2 := a_ hi378_2
       have HC378_2 := a_ hl378_2
       clear hi378_2 hl378_2
       replace p378 := eq_true p378
       replace q378 := eq_true q378
       obtain ⟨Ao53, co53, eo53⟩ := Kd.R_slice HO_7.out
       subst eo53
       have p384 : 0 ≤ (((rd_T66 l0 x10_2).f1) : Int) := of_decide_eq_true hA_
       have q384 : ((rd_T66 l0 x10_2).f1) < (x7_2.length : Int) := of_decide_eq_true hA_
       obtain ⟨ad384, e384, hx384_0⟩ := Kd.at_bool (Kd.R_reads' HO_7.out).2.2 ((rd_T66 l0 x10_2).f1) p384 q384
       (try rw [← Nbq38.out] at hx384_0)
       (try rw [← Nbq43.out] at hx384_0)
       cases e384
       replace p384 := eq_true p384
       replace q384 := eq_true q384
       have p385 : 0 ≤ (x10_2 : Int) := of_decide_eq_true hA_
       have q385 : x10_2 < (l1.length : Int) := of_decide_eq_true hA_
       obtain ⟨ad385, e385, hx385_0⟩ := Kd.at_int HR1.out x10_2 p385 q385
       obtain rfl : ad367 = ad385 := (by injection e385)
       replace hx385_0 := cl_ HB.out hx385_0
       replace p385 := eq_true p385
       replace q385 := eq_true q385
       have p42 : 0 ≤ (x10_2 : Int) := of_decide_eq_true hA_
       have q42 : (x10_2 : Int) < ((x7_2.length : Int) : Int) := of_decide_eq_true hA_
       obtain ⟨go42, co42, eo42, gb42, gl42, cl42, HG42⟩ := Kd.R_form HO_7.out (by omega)
       (first | cases eo42 | (injection eo42 with ea_ en_ ec_; (first | subst ea_ | (injection ea_ with ea_; subst ea_)); subst ec_; clear en_))
       have GB42 := a_ gb42
       have GG42 := a_ HG42
       clear gb42 gl42 HG42
       (first | simp only [add_plain] at hx384_0 | skip)
       obtain ⟨hx42_0, hf42_0⟩ := Kd.R_celln false HO_7.out (x10_2 : Int) p42 q42
       replace p42 := eq_true p42
       replace q42 := eq_true q42
       have HP54 := Kd.R_putg HO_7.out (x10_2 : Int) ((rd l1 x10_2) != 1)
       go_wp2_with (first | ((with_reducible refine gate_store (t := 4) (p := 74) rfl ?_); refine store_event (t := 4) (p := 74) (v := ?vo_w55) (w1 := (wr.setCell ⟨go42, (x10_2 : Int).toNat, none⟩ (.bool ((rd l1 x10_2) != 1)))) ?hg ?ho ?hn ?hr ?_; (case ho => rfl); (case hg => rfl); (case hn => rfl); (case hr => first | (go_simp; done) | (go_simp; rfl)); intro w55 hw; have hg : wr.grownBy w55 (some go42) := (by rw [hw]; exact HP54.2); have hp_ : Kd.R Kd.bool 4 w55 w.heap.size (fun _ => True) (.slice (some ⟨go42, 0, none⟩) x7_2.length co53) y386 := (by rw [hw, Ny386.out]; exact HP54.1); clear HP54; replace HO_8 := a_ (Kd.R_over' (v := (.slice (some ⟨go42, 0, none⟩) x7_2.length co53)) (hR_ HO_8.out) (Kd.R_typed HO_7.out) (by decide) hg); replace BK366 := a_ (blk_grown (hK_ BK366.out) hg (Kd.R_ne HO_7.out BK366.out (by decide))); replace HO_7 := a_ (hp_); replace HB := a_ ((by rw [hw]; exact below_set (HB.out) GB42.out : Below w.heap.size w w55)); clear hg hw hp_; have p387 : 0 ≤ (x10_2 : Int) := of_decide_eq_true hA_; have q387 : x10_2 < (y386.length : Int) := (by have h_ : (x10_2 : Int) < ((x7_2.length : Int) : Int) := of_decide_eq_true hA_; first | (have e_ := (Kd.R_reads' HO_7.out).1; omega) | simpa only [Ny386.out, List.length_set] using h_); have ql387 : ((x10_2 : Int) < ((x7_2.length : Int) : Int)) = True := eq_true (of_decide_eq_true hA_); obtain ⟨ad387, e387, hx387_0⟩ := Kd.at_bool (Kd.R_reads' HO_7.out).2.2 x10_2 p387 q387; (try rw [← Nbq38.out] at hx387_0); (try rw [← Nbq43.out] at hx387_0); obtain rfl : (⟨go42, 0, none⟩ : Addr) = ad387 := (by injection e387); (first | simp only [add_plain] at hx387_0 | simp only [add_at] at hx387_0 | simp only [Addr.add, Nat.zero_add] at hx387_0 | skip); replace p387 := eq_true p387; replace q387 := eq_true q387; have p388 : 0 ≤ (x10_2 : Int) := of_decide_eq_true hA_; have q388 : x10_2 < (l1.length : Int) := of_decide_eq_true hA_; obtain ⟨ad388, e388, hx388_0⟩ := Kd.at_int HR1.out x10_2 p388 q388; obtain rfl : ad367 = ad388 := (by injection e388); replace hx388_0 := cl_ HB.out hx388_0; replace p388 := eq_true p388; replace q388 := eq_true q388))
       go_roundg k2
       case measure => have := HK1.out; have := HK2.out; omega
       case rel => exact ⟨(y386), (x8_2), (x9_2), (wrap64 (x10_2 + 1)), hW_, hW_, H', ⟨by have := HK1.out; have := HK2.out; omega⟩, ⟨hR_ HO_7.out⟩, ⟨hR_ HO_8.out⟩, ⟨(hK_ BK366.out)⟩, ⟨hC_⟩⟩
      rw [if_pos c45] at H
      have c45b0 : ((rd l1 x10_2) == 0) = true := beq_iff_eq.mpr c45
      have c45b1 : ((rd l1 x10_2) != 0) = false := bne_eq_false_iff_eq.mpr c45
      clear c45
      replace H := ifI_ H; obtain ⟨c46, H⟩ := H
      have c46b0 : decide (x10_2 < (x8_2.length : Int)) = true := decide_eq_true c46
      clear c46
      obtain ⟨y389, hy389⟩ : ∃ y_ : List Int, y_ = (x8_2.set (x10_2 : Int).toNat 1) := ⟨_, rfl⟩
      replace H : (sleuthref12_byHalves.l1 k2 l0 l1 x5_1 y386 y389 (wrap64 (x9_2 + 1)) (wrap64 (x10_2 + 1))) = some (r1, r2) := by first | (rw [hy389]; with_reducible exact H) | (have H2_ := (Option.bind_some _ _).symm.trans H; rw [hy389]; with_reducible exact H2_) | (have H2_ := (Option.bind_some _ _).symm.trans H; with_reducible exact H2_) | with_reducible exact H | (rw [hy389]; exact H) | exact H
      have Ny389 := a_ hy389
      clear hy389
      have H' := a_ H
      clear H
      have p378 : 0 ≤ (x10_2 : Int) := of_decide_eq_true hA_
      have q378 : x10_2 < (l0.length : Int) := of_decide_eq_true hA_
      obtain ⟨ad378, A378_2, c378_2, e378, hx378_0, hx378_1, hx378_2, hx378_3, hl378_2, hi378_2⟩ := at_T66 HR0.out x10_2 p378 q378
      cases e378
      replace hx378_0 := cl_ HB.out hx378_0
      replace hx378_1 := cl_ HB.out hx378_1
      replace hx378_2 := cl_ HB.out hx378_2
      replace hx378_3 := cl_ HB.out hx378_3
      have HR378_2 := a_ hi378_2
      have HC378_2 := a_ hl378_2
      clear hi378_2 hl378_2
      replace p378 := eq_true p378
      replace q378 := eq_true q378
      obtain ⟨Ao48, co48, eo48⟩ := Kd.R_slice HO_7.out
      subst eo48
      have p384 : 0 ≤ (((rd_T66 l0 x10_2).f1) : Int) := of_decide_eq_true hA_
      have q384 : ((rd_T66 l0 x10_2).f1) < (x7_2.length : Int) := of_decide_eq_true hA_
      obtain ⟨ad384, e384, hx384_0⟩ := Kd.at_bool (Kd.R_reads' HO_7.out).2.2 ((rd_T66 l0 x10_2).f1) p384 q384
      (try rw [← Nbq38.out] at hx384_0)
      (try rw [← Nbq43.out] at hx384_0)
      cases e384
      replace p384 := eq_true p384
      replace q384 := eq_true q384
      have p385 : 0 ≤ (x10_2 : Int) := of_decide_eq_true hA_
      have q385 : x10_2 < (l1.length : Int) := of_decide_eq_true hA_
      obtain ⟨ad385, e385, hx385_0⟩ := Kd.at_int HR1.out x10_2 p385 q385
      obtain rfl : ad367 = ad385 := (by injection e385)
      replace hx385_0 := cl_ HB.out hx385_0
      replace p385 := eq_true p385
      replace q385 := eq_true q385
      have p42 : 0 ≤ (x10_2 : Int) := of_decide_eq_true hA_
      have q42 : (x10_2 : Int) < ((x7_2.length : Int) : Int) := of_decide_eq_true hA_
      obtain ⟨go42, co42, eo42, gb42, gl42, cl42, HG42⟩ := Kd.R_form HO_7.out (by omega)
      (first | cases eo42 | (injection eo42 with ea_ en_ ec_; (first | subst ea_ | (injection ea_ with ea_; subst ea_)); subst ec_; clear en_))
      have GB42 := a_ gb42
      have GG42 := a_ HG42
      clear gb42 gl42 HG42
      (first | simp only [add_plain] at hx384_0 | skip)
      obtain ⟨hx42_0, hf42_0⟩ := Kd.R_celln false HO_7.out (x10_2 : Int) p42 q42
      replace p42 := eq_true p42
      replace q42 := eq_true q42
      have HP49 := Kd.R_putg HO_7.out (x10_2 : Int) ((rd l1 x10_2) != 1)
      go_wp2_with (first | ((with_reducible refine gate_store (t := 4) (p := 74) rfl ?_); refine store_event (t := 4) (p := 74) (v := ?vo_w50) (w1 := (wr.setCell ⟨go42, (x10_2 : Int).toNat, none⟩ (.bool ((rd l1 x10_2) != 1)))) ?hg ?ho ?hn ?hr ?_; (case ho => rfl); (case hg => rfl); (case hn => rfl); (case hr => first | (go_simp; done) | (go_simp; rfl)); intro w50 hw; have hg : wr.grownBy w50 (some go42) := (by rw [hw]; exact HP49.2); have hp_ : Kd.R Kd.bool 4 w50 w.heap.size (fun _ => True) (.slice (some ⟨go42, 0, none⟩) x7_2.length co48) y386 := (by rw [hw, Ny386.out]; exact HP49.1); clear HP49; replace HO_8 := a_ (Kd.R_over' (v := (.slice (some ⟨go42, 0, none⟩) x7_2.length co48)) (hR_ HO_8.out) (Kd.R_typed HO_7.out) (by decide) hg); replace BK366 := a_ (blk_grown (hK_ BK366.out) hg (Kd.R_ne HO_7.out BK366.out (by decide))); replace HO_7 := a_ (hp_); replace HB := a_ ((by rw [hw]; exact below_set (HB.out) GB42.out : Below w.heap.size w w50)); clear hg hw hp_; have p387 : 0 ≤ (x10_2 : Int) := of_decide_eq_true hA_; have q387 : x10_2 < (y386.length : Int) := (by have h_ : (x10_2 : Int) < ((x7_2.length : Int) : Int) := of_decide_eq_true hA_; first | (have e_ := (Kd.R_reads' HO_7.out).1; omega) | simpa only [Ny386.out, List.length_set] using h_); have ql387 : ((x10_2 : Int) < ((x7_2.length : Int) : Int)) = True := eq_true (of_decide_eq_true hA_); obtain ⟨ad387, e387, hx387_0⟩ := Kd.at_bool (Kd.R_reads' HO_7.out).2.2 x10_2 p387 q387; (try rw [← Nbq38.out] at hx387_0); (try rw [← Nbq43.out] at hx387_0); obtain rfl : (⟨go42, 0, none⟩ : Addr) = ad387 := (by injection e387); (first | simp only [add_plain] at hx387_0 | simp only [add_at] at hx387_0 | simp only [Addr.add, Nat.zero_add] at hx387_0 | skip); replace p387 := eq_true p387; replace q387 := eq_true q387; have p388 : 0 ≤ (x10_2 : Int) := of_decide_eq_true hA_; have q388 : x10_2 < (l1.length : Int) := of_decide_eq_true hA_; obtain ⟨ad388, e388, hx388_0⟩ := Kd.at_int HR1.out x10_2 p388 q388; obtain rfl : ad367 = ad388 := (by injection e388); replace hx388_0 := cl_ HB.out hx388_0; replace p388 := eq_true p388; replace q388 := eq_true q388; have p47 : 0 ≤ (x10_2 : Int) := of_decide_eq_true hA_; have q47 : (x10_2 : Int) < ((x8_2.length : Int) : Int) := of_decide_eq_true hA_; obtain ⟨go47, co47, eo47, gb47, gl47, cl47, HG47⟩ := Kd.R_form HO_8.out (by omega); (first | cases eo47 | (injection eo47 with ea_ en_ ec_; (first | subst ea_ | (injection ea_ with ea_; subst ea_)); subst ec_; clear en_)); have GB47 := a_ gb47; have GG47 := a_ HG47; clear gb47 gl47 HG47; obtain ⟨hx47_0, hf47_0⟩ := Kd.R_celln 0 HO_8.out (x10_2 : Int) p47 q47; replace p47 := eq_true p47; replace q47 := eq_true q47; obtain ⟨hy51_, hz51_⟩ := Kd.R_celln 0 HO_8.out (x10_2 : Int) (of_decide_eq_true hA_) (of_decide_eq_true hA_); have HP51 := Kd.R_putg HO_8.out (x10_2 : Int) 1) | ((with_reducible refine gate_store (t := 3) (p := 88) rfl ?_); refine store_event (t := 3) (p := 88) (v := ?vo_w52) (w1 := (w50.setCell ⟨go47, (x10_2 : Int).toNat, none⟩ (.int .i64 1))) ?hg ?ho ?hn ?hr ?_; (case ho => rfl); (case hg => rfl); (case hn => rfl); (case hr => first | (go_simp; done) | (go_simp; rfl)); intro w52 hw; have hg : w50.grownBy w52 (some go47) := (by rw [hw]; exact HP51.2); have hp_ : Kd.R (Kd.int .i64) 3 w52 w.heap.size (fun _ => True) (.slice (some ⟨go47, 0, none⟩) x8_2.length co47) y389 := (by rw [hw, Ny389.out]; exact HP51.1); clear HP51; replace HO_7 := a_ (Kd.R_over' (v := (.slice (some ⟨go47, 0, none⟩) x8_2.length co47)) (hR_ HO_7.out) (Kd.R_typed HO_8.out) (by decide) hg); replace BK366 := a_ (blk_grown (hK_ BK366.out) hg (Kd.R_ne HO_8.out BK366.out (by decide))); replace HO_8 := a_ (hp_); replace HB := a_ ((by rw [hw]; exact below_set (HB.out) GB47.out : Below w.heap.size w w52)); clear hg hw hp_))
      go_roundg k2
      case measure => have := HK1.out; have := HK2.out; omega
      case rel => exact ⟨(y386), (y389), (wrap64 (x9_2 + 1)), (wrap64 (x10_2 + 1)), hW_, hW_, H', ⟨by have := HK1.out; have := HK2.out; omega⟩, ⟨hR_ HO_7.out⟩, ⟨hR_ HO_8.out⟩, ⟨(hK_ BK366.out)⟩, ⟨hC_⟩⟩
     rw [if_neg c17] at H
     have c17b0 : decide (x10_2 < (l0.length : Int)) = false := decide_eq_false c17
     clear c17
     have H' := a_ H
     clear H
     go_wp2
     go_loopg [12] k2 (fun kq v12 w' => ∃ (x8_3 : List Int) (x12_3 : Int), v12 = .int .i64 x12_3 ∧ Aside0 (sleuthref12_byHalves.l2 kq l0 l1 x5_1 x7_2 x8_3 x9_2 x12_3 = some (r1, r2)) ∧ Aside0 (kq ≤ k2) ∧ Aside0 (Kd.R Kd.bool 4 w' w.heap.size (fun _ => True) v373 x7_2) ∧ Aside0 (Kd.R (Kd.int .i64) 3 w' w.heap.size (fun _ => True) v376 x8_3) ∧ Aside0 (w'.heap[gb366]? = some (.cells #[.int .i64 0, .int .i64 0] 49 (0, 0))) ∧ Aside0 (Below w.heap.size w w'))
     case atStart => exact ⟨(x8_2), (wrap64 ((l0.length : Int) - 1)), hW_, H', ⟨Nat.le_refl _⟩, ⟨hR_ HO_7.out⟩, ⟨hR_ HO_8.out⟩, ⟨(hK_ BK366.out)⟩, ⟨hC_⟩⟩
     case round =>
      clear H'
      try clear c1
      try clear c2
      try clear p2
      try clear q2
      try clear hx2
      try clear hf2
      try clear c3
      try clear p3
      try clear q3
      try clear hx3
      try clear c4
      try clear p4
      try clear q4
      try clear hx4
      try clear hf4
      try clear c5
      try clear c6
      try clear p6
      try clear q6
      try clear hx6
      try clear hf6
      try clear c17
      try clear c17b0
      try clear c18
      try clear c18b0
      try clear c19
      try clear c19b0
      try clear c19b1
      try clear c20
      try clear c20b0
      try clear c21
      try clear c21b0
      try clear p22
      try clear q22
      try clear hx22
      try clear hf22
      try clear q23
      try clear c24
      try clear c25
      try clear c25b0
      try clear c25b1
      try clear c26
      try clear c26b0
      try clear p27
      try clear q27
      try clear hx27
      try clear hf27
      try clear c36
      try clear c36b0
      try clear p36
      try clear q36
      try clear hx36
      try clear c37
      try clear c37b0
      try clear p37
      try clear q37
      try clear hx37
      try clear p38
      try clear q38
      try clear hx38
      try clear c39
      try clear p39
      try clear q39
      try clear hx39
      try clear c40
      try clear c40b0
      try clear c41
      try clear c41b0
      try clear p42
      try clear q42
      try clear hx42
      try clear hf42
      try clear q43
      try clear c44
      try clear c45
      try clear c45b0
      try clear c45b1
      try clear c46
      try clear c46b0
      try clear p47
      try clear q47
      try clear hx47
      try clear hf47
      try clear c59
      try clear c59b0
      try clear p60
      try clear q60
      try clear hx60
      try clear hf60
      try clear q61
      try clear c62
      try clear c63
      try clear c63b0
      try clear c64
      try clear c64b0
      try clear c64b1
      try clear p64
      try clear c65
      try clear c65b0
      try clear p66
      try clear q66
      try clear hx66
      try clear hf66
      try clear hx22_0
      try clear hx27_0
      try clear hx367_0
      try clear hx371_0
      try clear hx378_0
      try clear hx378_1
      try clear hx378_2
      try clear hx378_3
      try clear hx379_0
      try clear hx381_0
      try clear hx382_0
      try clear hx384_0
      try clear hx385_0
      try clear hx387_0
      try clear hx388_0
      try clear hx391_0
      try clear hx392_0
      try clear hx42_0
      try clear hx47_0
      try clear hx60_0
      try clear hx66_0
      try clear p2
      try clear p22
      try clear p27
      try clear p3
      try clear p367
      try clear p371
      try clear p378
      try clear p379
      try clear p381
      try clear p382
      try clear p384
      try clear p385
      try clear p387
      try clear p388
      try clear p391
      try clear p392
      try clear p42
      try clear p47
      try clear p60
      try clear p66
      try clear q22
      try clear q27
      try clear q3
      try clear q367
      try clear q371
      try clear q378
      try clear q379
      try clear q381
      try clear q382
      try clear q384
      try clear q385
      try clear q387
      try clear q388
      try clear q391
      try clear q392
      try clear q42
      try clear q47
      try clear q60
      try clear q66
      obtain ⟨x8_3, x12_3, rfl, HA, HK3, HO_7, HO_8, BK366, HB⟩ := hrel
      cases gk with
      | zero => exact absurd HA.out (by simp [sleuthref12_byHalves.l2])
      | succ k3 =>
       have H := HA.out
       clear HA
       simp only [sleuthref12_byHalves.l2] at H
       by_cases c78 : x12_3 > x5_1
       case pos =>
        rw [if_pos c78] at H
        have c78b0 : decide (x5_1 < x12_3) = true := decide_eq_true c78
        clear c78
        replace H := ifI_ H; obtain ⟨c79, H⟩ := H
        have c79b0 : decide (0 ≤ x12_3) = true := decide_eq_true c79
        clear c79
        replace H := ifI_ H; obtain ⟨c80, H⟩ := H
        have c80b0 : decide (x12_3 < (x7_2.length : Int)) = true := decide_eq_true c80
        clear c80
        obtain ⟨bq81, hbq81⟩ : ∃ b_ : Bool, b_ = (rdOf false x7_2 x12_3) := ⟨_, rfl⟩
        replace H : (if bq81 = true then (if x12_3 < (l0.length : Int) then (if ((rd_T66 l0 x12_3).f1) > x5_1 then (if 0 ≤ ((rd_T66 l0 x12_3).f1) then (if ((rd_T66 l0 x12_3).f1) < (x8_3.length : Int) then (if x12_3 < (x8_3.length : Int) then (sleuthref12_byHalves.l2 k3 l0 l1 x5_1 x7_2 (x8_3.set (((rd_T66 l0 x12_3).f1) : Int).toNat (wrap64 ((rd x8_3 ((rd_T66 l0 x12_3).f1)) + (rd x8_3 x12_3)))) x9_2 (wrap64 (x12_3 - 1))) else (none)) else (none)) else (none)) else (sleuthref12_byHalves.l2 k3 l0 l1 x5_1 x7_2 x8_3 x9_2 (wrap64 (x12_3 - 1)))) else (none)) else (sleuthref12_byHalves.l2 k3 l0 l1 x5_1 x7_2 x8_3 x9_2 (wrap64 (x12_3 - 1)))) = some (r1, r2) := by rw [← hbq81] at H; exact H
        have Nbq81 := a_ hbq81
        clear hbq81
        by_cases c82 : bq81 = true
        case neg =>
         replace c82 := Bool.eq_false_iff.mpr c82
         subst c82
         rw [if_neg (show ¬ (false = true) by decide)] at H
         have H' := a_ H
         clear H
         obtain ⟨Ao94, co94, eo94⟩ := Kd.R_slice HO_7.out
         subst eo94
         have p394 : 0 ≤ (x12_3 : Int) := of_decide_eq_true hA_
         have q394 : x12_3 < (x7_2.length : Int) := of_decide_eq_true hA_
         obtain ⟨ad394, e394, hx394_0⟩ := Kd.at_bool (Kd.R_reads' HO_7.out).2.2 x12_3 p394 q394
         (try rw [← Nbq81.out] at hx394_0)
         cases e394
         replace p394 := eq_true p394
         replace q394 := eq_true q394
         go_wp2
         go_roundg k3
         case measure => have := HK1.out; have := HK2.out; have := HK3.out; omega
         case rel => exact ⟨(x8_3), (wrap64 (x12_3 - 1)), hW_, H', ⟨by have := HK1.out; have := HK2.out; have := HK3.out; omega⟩, ⟨hR_ HO_7.out⟩, ⟨hR_ HO_8.out⟩, ⟨(hK_ BK366.out)⟩, ⟨hC_⟩⟩
        subst c82
        rw [if_pos rfl] at H
        replace H := ifI_ H; obtain ⟨c83, H⟩ := H
        have c83b0 : decide (x12_3 < (l0.length : Int)) = true := decide_eq_true c83
        clear c83
        by_cases c84 : ((rd_T66 l0 x12_3).f1) > x5_1
        case neg =>
         rw [if_neg c84] at H
         have c84b0 : decide (x5_1 < ((rd_T66 l0 x12_3).f1)) = false := decide_eq_false c84
         clear c84
         have H' := a_ H
         clear H
         obtain ⟨Ao93, co93, eo93⟩ := Kd.R_slice HO_7.out
         subst eo93
         have p394 : 0 ≤ (x12_3 : Int) := of_decide_eq_true hA_
         have q394 : x12_3 < (x7_2.length : Int) := of_decide_eq_true hA_
         obtain ⟨ad394, e394, hx394_0⟩ := Kd.at_bool (Kd.R_reads' HO_7.out).2.2 x12_3 p394 q394
         (try rw [← Nbq81.out] at hx394_0)
         cases e394
         replace p394 := eq_true p394
         replace q394 := eq_true q394
         have p395 : 0 ≤ (x12_3 : Int) := of_decide_eq_true hA_
         have q395 : x12_3 < (l0.length : Int) := of_decide_eq_true hA_
         obtain ⟨ad395, A395_2, c395_2, e395, hx395_0, hx395_1, hx395_2, hx395_3, hl395_2, hi395_2⟩ := at_T66 HR0.out x12_3 p395 q395
         cases e395
         replace hx395_0 := cl_ HB.out hx395_0
         replace hx395_1 := cl_ HB.out hx395_1
         replace hx395_2 := cl_ HB.out hx395_2
         replace hx395_3 := cl_ HB.out hx395_3
         have HR395_2 := a_ hi395_2
         have HC395_2 := a_ hl395_2
         clear hi395_2 hl395_2
         replace p395 := eq_true p395
         replace q395 := eq_true q395
         go_wp2
         go_roundg k3
         case measure => have := HK1.out; have := HK2.out; have := HK3.out; omega
         case rel => exact ⟨(x8_3), (wrap64 (x12_3 - 1)), hW_, H', ⟨by have := HK1.out; have := HK2.out; have := HK3.out; omega⟩, ⟨hR_ HO_7.out⟩, ⟨hR_ HO_8.out⟩, ⟨(hK_ BK366.out)⟩, ⟨hC_⟩⟩
        rw [if_pos c84] at H
        have c84b0 : decide (x5_1 < ((rd_T66 l0 x12_3).f1)) = true := decide_eq_true c84
        clear c84
        replace H := ifI_ H; obtain ⟨c85, H⟩ := H
        have c85b0 : decide (0 ≤ ((rd_T66 l0 x12_3).f1)) = true := decide_eq_true c85
        clear c85
        replace H := ifI_ H; obtain ⟨c86, H⟩ := H
        have c86b0 : decide (((rd_T66 l0 x12_3).f1) < (x8_3.length : Int)) = true := decide_eq_true c86
        clear c86
        replace H := ifI_ H; obtain ⟨c87, H⟩ := H
        have c87b0 : decide (x12_3 < (x8_3.length : Int)) = true := decide_eq_true c87
        clear c87
        obtain ⟨y400, hy400⟩ : ∃ y_ : List Int, y_ = (x8_3.set (((rd_T66 l0 x12_3).f1) : Int).toNat (wrap64 ((rd x8_3 ((rd_T66 l0 x12_3).f1)) + (rd x8_3 x12_3)))) := ⟨_, rfl⟩
        replace H : (sleuthref12_byHalves.l2 k3 l0 l1 x5_1 x7_2 y400 x9_2 (wrap64 (x12_3 - 1))) = some (r1, r2) := by first | (rw [hy400]; with_reducible exact H) | (have H2_ := (Option.bind_some _ _).symm.trans H; rw [hy400]; with_reducible exact H2_) | (have H2_ := (Option.bind_some _ _).symm.trans H; with_reducible exact H2_) | with_reducible exact H | (rw [hy400]; exact H) | exact H
        have Ny400 := a_ hy400
        clear hy400
        have H' := a_ H
        clear H
        obtain ⟨Ao89, co89, eo89⟩ := Kd.R_slice HO_7.out
        subst eo89
        have p394 : 0 ≤ (x12_3 : Int) := of_decide_eq_true hA_
        have q394 : x12_3 < (x7_2.length : Int) := of_decide_eq_true hA_
        obtain ⟨ad394, e394, hx394_0⟩ := Kd.at_bool (Kd.R_reads' HO_7.out).2.2 x12_3 p394 q394
        (try rw [← Nbq81.out] at hx394_0)
        cases e394
        replace p394 := eq_true p394
        replace q394 := eq_true q394
        have p395 : 0 ≤ (x12_3 : Int) := of_decide_eq_true hA_
        have q395 : x12_3 < (l0.length : Int) := of_decide_eq_true hA_
        obtain ⟨ad395, A395_2, c395_2, e395, hx395_0, hx395_1, hx395_2, hx395_3, hl395_2, hi395_2⟩ := at_T66 HR0.out x12_3 p395 q395
        cases e395
        replace hx395_0 := cl_ HB.out hx395_0
        replace hx395_1 := cl_ HB.out hx395_1
        replace hx395_2 := cl_ HB.out hx395_2
        replace hx395_3 := cl_ HB.out hx395_3
        have HR395_2 := a_ hi395_2
        have HC395_2 := a_ hl395_2
        clear hi395_2 hl395_2
        replace p395 := eq_true p395
        replace q395 := eq_true q395
        try go_wp2
        replace HO_7 := a_ (Kd.R_drew HO_7.out)
        replace HO_8 := a_ (Kd.R_drew HO_8.out)
        replace BK366 := a_ (blk_drew BK366.out)
        replace HB := a_ (below_drew1 HB.out)
        have p396 : 0 ≤ (x12_3 : Int) := of_decide_eq_true hA_
        have q396 : x12_3 < (l0.length : Int) := of_decide_eq_true hA_
        obtain ⟨ad396, A396_2, c396_2, e396, hx396_0, hx396_1, hx396_2, hx396_3, hl396_2, hi396_2⟩ := at_T66 HR0.out x12_3 p396 q396
        have hw396_3 := hx396_3
        have hw396_2 := hx396_2
        have hw396_1 := hx396_1
        have hw396_0 := hx396_0
        obtain rfl : ad395 = ad396 := (by injection e396)
        replace hx396_0 := cl_ HB.out hx396_0
        replace hx396_1 := cl_ HB.out hx396_1
        replace hx396_2 := cl_ HB.out hx396_2
        replace hx396_3 := cl_ HB.out hx396_3
        have HR396_2 := a_ hi396_2
        have HC396_2 := a_ hl396_2
        clear hi396_2 hl396_2
        replace p396 := eq_true p396
        replace q396 := eq_true q396
        have p397 : 0 ≤ (x12_3 : Int) := of_decide_eq_true hA_
        have q397 : x12_3 < (l0.length : Int) := of_decide_eq_true hA_
        obtain ⟨ad397, A397_2, c397_2, e397, hx397_0, hx397_1, hx397_2, hx397_3, hl397_2, hi397_2⟩ := at_T66 HR0.out x12_3 p397 q397
        have hw397_3 := hx397_3
        have hw397_2 := hx397_2
        have hw397_1 := hx397_1
        have hw397_0 := hx397_0
        obtain rfl : ad395 = ad397 := (by injection e397)
        replace hx397_0 := cl_ HB.out hx397_0
        replace hx397_1 := cl_ HB.out hx397_1
        replace hx397_2 := cl_ HB.out hx397_2
        replace hx397_3 := cl_ HB.out hx397_3
        have HR397_2 := a_ hi397_2
        have HC397_2 := a_ hl397_2
        clear hi397_2 hl397_2
        replace p397 := eq_true p397
        replace q397 := eq_true q397
        have ea_ := Option.some.inj (hx396_2.symm.trans hx397_2)
        injection ea_ with ea_ en_ ec_
        subst ea_
        subst ec_
        clear en_
        obtain ⟨Ao91, co91, eo91⟩ := Kd.R_slice HO_8.out
        (first | subst eo91 | (injection eo91 with f1_ f2_ f3_; have f4_ := f1_.symm; have f5_ := f3_.symm; clear f1_ f2_ f3_; subst f4_; subst f5_))
        have p398 : 0 ≤ (((rd_T66 l0 x12_3).f1) : Int) := of_decide_eq_true hA_
        have q398 : ((rd_T66 l0 x12_3).f1) < (x8_3.length : Int) := of_decide_eq_true hA_
        obtain ⟨ad398, e398, hx398_0⟩ := Kd.at_int (Kd.R_reads' HO_8.out).2.2 ((rd_T66 l0 x12_3).f1) p398 q398
        cases e398
        replace p398 := eq_true p398
        replace q398 := eq_true q398
        have p399 : 0 ≤ (x12_3 : Int) := of_decide_eq_true hA_
        have q399 : x12_3 < (x8_3.length : Int) := of_decide_eq_true hA_
        obtain ⟨ad399, e399, hx399_0⟩ := Kd.at_int (Kd.R_reads' HO_8.out).2.2 x12_3 p399 q399
        obtain rfl : ad398 = ad399 := (by injection e399)
        replace p399 := eq_true p399
        replace q399 := eq_true q399
        have p88 : 0 ≤ (((rd_T66 l0 x12_3).f1) : Int) := of_decide_eq_true hA_
        have q88 : (((rd_T66 l0 x12_3).f1) : Int) < ((x8_3.length : Int) : Int) := of_decide_eq_true hA_
        obtain ⟨go88, co88, eo88, gb88, gl88, cl88, HG88⟩ := Kd.R_form HO_8.out (by omega)
        (first | cases eo88 | (injection eo88 with ea_ en_ ec_; (first | subst ea_ | (injection ea_ with ea_; subst ea_)); subst ec_; clear en_))
        have GB88 := a_ gb88
        have GG88 := a_ HG88
        clear gb88 gl88 HG88
        (first | simp only [add_plain] at hx398_0 | skip)
        (first | simp only [add_plain] at hx399_0 | skip)
        obtain ⟨hx88_0, hf88_0⟩ := Kd.R_celln 0 HO_8.out (((rd_T66 l0 x12_3).f1) : Int) p88 q88
        replace p88 := eq_true p88
        replace q88 := eq_true q88
        have HP92 := Kd.R_putn HO_8.out (((rd_T66 l0 x12_3).f1) : Int) (wrap64 ((rd x8_3 ((rd_T66 l0 x12_3).f1)) + (rd x8_3 x12_3)))
        rw [← Ny400.out] at HP92
        have HQ92 := a_ HP92
        clear HP92
        refine start_ (n := 21) (S := fun w' => w'.cell? (ad395.add ((x12_3).toNat * 4)) = some (.int .i64 ((rd_T66 l0 x12_3).f0)) ∧ w'.cell? ⟨(ad395.add ((x12_3).toNat * 4)).block, (ad395.add ((x12_3).toNat * 4)).off + 1, none⟩ = some (.int .i64 ((rd_T66 l0 x12_3).f1)) ∧ w'.cell? ⟨(ad395.add ((x12_3).toNat * 4)).block, (ad395.add ((x12_3).toNat * 4)).off + 2, none⟩ = some (.slice A396_2 ((rd_T66 l0 x12_3).f2).length c396_2) ∧ w'.cell? ⟨(ad395.add ((x12_3).toNat * 4)).block, (ad395.add ((x12_3).toNat * 4)).off + 3, none⟩ = some (.string ((rd_T66 l0 x12_3).f3)) ∧ w'.cell? (ad395.add ((x12_3).toNat * 4)) = some (.int .i64 ((rd_T66 l0 x12_3).f0)) ∧ w'.cell? ⟨(ad395.add ((x12_3).toNat * 4)).block, (ad395.add ((x12_3).toNat * 4)).off + 1, none⟩ = some (.int .i64 ((rd_T66 l0 x12_3).f1)) ∧ w'.cell? ⟨(ad395.add ((x12_3).toNat * 4)).block, (ad395.add ((x12_3).toNat * 4)).off + 2, none⟩ = some (.slice A396_2 ((rd_T66 l0 x12_3).f2).length c396_2) ∧ w'.cell? ⟨(ad395.add ((x12_3).toNat * 4)).block, (ad395.add ((x12_3).toNat * 4)).off + 3, none⟩ = some (.string ((rd_T66 l0 x12_3).f3)) ∧ w'.cell? ⟨go88, (((rd_T66 l0 x12_3).f1)).toNat, none⟩ = some (.int .i64 (rd x8_3 ((rd_T66 l0 x12_3).f1))) ∧ w'.cell? ⟨go88, (x12_3).toNat, none⟩ = some (.int .i64 (rd x8_3 x12_3))) (ds := [20]) #[false, false, false, false, false, false, false, false, false, false, false, false, false, false, false, false, false, false, false, false, false] (by kernel_rfl) rfl rfl ⟨(cl_ HB.out hw396_0), (cl_ HB.out hw396_1), (cl_ HB.out hw396_2), (cl_ HB.out hw396_3), (cl_ HB.out hw397_0), (cl_ HB.out hw397_1), (cl_ HB.out hw397_2), (cl_ HB.out hw397_3), hx398_0, hx399_0⟩ (fun hHeld => ?_); refine with_tabW sleuthref12_byHalves.tab24 sleuthref12_byHalves.bits24 (fun HT_ HW_ => ?_)
        generalize wr.drew = w90 at HO_7 HO_8 BK366 HB GG88 HQ92 HR396_2 HR397_2 hf88_0 hx396_0 hx396_1 hx396_2 hx396_3 hx397_0 hx397_1 hx397_2 hx397_3 hx398_0 hx399_0 hx88_0 hHeld ⊢
        refine pB_ 0 112 HT_.out ?_
        refine pB_ 1 113 HT_.out ?_
        refine pB_ 2 114 HT_.out ?_
        refine pB_ 3 115 HT_.out ?_
        refine pB_ 4 116 HT_.out ?_
        refine pB_ 6 118 HT_.out ?_
        refine pB_ 7 119 HT_.out ?_
        refine pB_ 8 120 HT_.out ?_
        refine pB_ 9 121 HT_.out ?_
        refine pB_ 10 122 HT_.out ?_
        refine pB_ 14 126 HT_.out ?_
        refine pB_ 15 127 HT_.out ?_
        refine pB_ 16 128 HT_.out ?_
        refine tB_ 5 117 HT_.out HW_.out hHeld ?_
        refine tB_ 11 123 HT_.out HW_.out hHeld ?_
        refine pB_ 12 124 HT_.out ?_
        refine tB_ 13 125 HT_.out HW_.out hHeld ?_
        refine tB_ 17 129 HT_.out HW_.out hHeld ?_
        refine pB_ 18 130 HT_.out ?_
        refine pB_ 19 131 HT_.out ?_
        refine last_ (i := 20) (N := none) #[true, true, true, true, true, true, true, true, true, true, true, true, true, true, true, true, true, true, true, true, true] rfl rfl (one_of HT_.out (by kernel_rfl)) (by decide) (fun K hK => ?_)
        refine skip_ (w1 := ?_) (by rfl) rfl ?_ ?_
        rotate_left
        · go_simp
          rfl
        refine hK.out _ _ ?_
        clear hK K
        refine done_ (done_of HT_.out (by kernel_rfl)) ?_
        try go_wp2
        go_roundg k3
        case measure => have := HK1.out; have := HK2.out; have := HK3.out; omega
        case rel => exact ⟨(y400), (wrap64 (x12_3 - 1)), hW_, H', ⟨by have := HK1.out; have := HK2.out; have := HK3.out; omega⟩, ⟨by (with_reducible repeat (first | apply Kd.R_alloc | apply Kd.R_drewN | apply Kd.R_drew)); exact Kd.R_mono (Kd.R_far (p := ⟨go88, (((rd_T66 l0 x12_3).f1) : Int).toNat, none⟩) (Kd.R_types HO_7.out GG88.out (by decide)) (fun _ hk => hk.2) (.int .i64 (wrap64 ((rd x8_3 ((rd_T66 l0 x12_3).f1)) + (rd x8_3 x12_3))))) (fun _ hk => trivial)⟩, ⟨hR_ HQ92.out⟩, ⟨by (with_reducible repeat (first | refine blk_drewN ?_ _ | refine blk_drew ?_ | refine blk_alloc ?_ _)); refine blk_far ?_ (by have h_ := Kd.R_ne HO_8.out BK366.out (by decide); intro e_; exact h_ (by rw [e_]; rfl)) _; (with_reducible repeat (first | refine blk_drewN ?_ _ | refine blk_drew ?_ | refine blk_alloc ?_ _)); exact BK366.out⟩, ⟨hC_⟩⟩
       rw [if_neg c78] at H
       have c78b0 : decide (x5_1 < x12_3) = false := decide_eq_false c78
       clear c78
       have H' := a_ H
       clear H
       go_wp2
       go_loopg [13, 14, 15] k3 (fun kq v13 v14 v15 w' => ∃ (x13_4 : Int) (x14_4 : Int) (x15_4 : Int), v13 = .int .i64 x13_4 ∧ v14 = .int .i64 x14_4 ∧ v15 = .int .i64 x15_4 ∧ Aside0 (sleuthref12_byHalves.l3 kq l0 l1 x5_1 x7_2 x8_3 x9_2 x13_4 x14_4 x15_4 = some (r1, r2)) ∧ Aside0 (kq ≤ k3) ∧ Aside0 (Kd.R Kd.bool 4 w' w.heap.size (fun _ => True) v373 x7_2) ∧ Aside0 (Kd.R (Kd.int .i64) 3 w' w.heap.size (fun _ => True) v376 x8_3) ∧ Aside0 (w'.heap[gb366]? = some (.cells #[.int .i64 0, .int .i64 0] 49 (0, 0))) ∧ Aside0 (Below w.heap.size w w'))
       case atStart => exact ⟨((-1)), (0), (wrap64 (x5_1 + 1)), hW_, hW_, hW_, H', ⟨Nat.le_refl _⟩, ⟨hR_ HO_7.out⟩, ⟨hR_ HO_8.out⟩, ⟨(hK_ BK366.out)⟩, ⟨hC_⟩⟩
       case round =>
        clear H'
        try clear c1
        try clear c2
        try clear p2
        try clear q2
        try clear hx2
        try clear hf2
        try clear c3
        try clear p3
        try clear q3
        try clear hx3
        try clear c4
        try clear p4
        try clear q4
        try clear hx4
        try clear hf4
        try clear c5
        try clear c6
        try clear p6
        try clear q6
        try clear hx6
        try clear hf6
        try clear c7
        try clear c8
        try clear p8
        try clear q8
        try clear hx8
        try clear hf8
        try clear c17
        try clear c17b0
        try clear c18
        try clear c18b0
        try clear c19
        try clear c19b0
        try clear c19b1
        try clear c20
        try clear c20b0
        try clear c21
        try clear c21b0
        try clear p22
        try clear q22
        try clear hx22
        try clear hf22
        try clear q23
        try clear c24
        try clear c25
        try clear c25b0
        try clear c25b1
        try clear c26
        try clear c26b0
        try clear p27
        try clear q27
        try clear hx27
        try clear hf27
        try clear c36
        try clear c36b0
        try clear p36
        try clear q36
        try clear hx36
        try clear c37
        try clear c37b0
        try clear p37
        try clear q37
        try clear hx37
        try clear p38
        try clear q38
        try clear hx38
        try clear c39
        try clear p39
        try clear q39
        try clear hx39
        try clear c40
        try clear c40b0
        try clear c41
        try clear c41b0
        try clear p42
        try clear q42
        try clear hx42
        try clear hf42
        try clear q43
        try clear c44
        try clear c45
        try clear c45b0
        try clear c45b1
        try clear c46
        try clear c46b0
        try clear p47
        try clear q47
        try clear hx47
        try clear hf47
        try clear c59
        try clear c59b0
        try clear p60
        try clear q60
        try clear hx60
        try clear hf60
        try clear q61
        try clear c62
        try clear c63
        try clear c63b0
        try clear c64
        try clear c64b0
        try clear c64b1
        try clear p64
        try clear c65
        try clear c65b0
        try clear p66
        try clear q66
        try clear hx66
        try clear hf66
        try clear c78
        try clear c78b0
        try clear c79
        try clear c79b0
        try clear c80
        try clear c80b0
        try clear q81
        try clear c82
        try clear c83
        try clear c83b0
        try clear c84
        try clear c84b0
        try clear c85
        try clear c85b0
        try clear c86
        try clear c86b0
        try clear c87
        try clear c87b0
        try clear p88
        try clear q88
        try clear hx88
        try clear hf88
        try clear hx22_0
        try clear hx27_0
        try clear hx367_0
        try clear hx371_0
        try clear hx378_0
        try clear hx378_1
        try clear hx378_2
        try clear hx378_3
        try clear hx379_0
        try clear hx381_0
        try clear hx382_0
        try clear hx384_0
        try clear hx385_0
        try clear hx387_0
        try clear hx388_0
        try clear hx391_0
        try clear hx392_0
        try clear hx394_0
        try clear hx395_0
        try clear hx395_1
        try clear hx395_2
        try clear hx395_3
        try clear hx396_0
        try clear hx396_1
        try clear hx396_2
        try clear hx396_3
        try clear hx397_0
        try clear hx397_1
        try clear hx397_2
        try clear hx397_3
        try clear hx398_0
        try clear hx399_0
        try clear hx42_0
        try clear hx47_0
        try clear hx60_0
        try clear hx66_0
        try clear hx88_0
        try clear p2
        try clear p22
        try clear p27
        try clear p3
        try clear p36
        try clear p367
        try clear p37
        try clear p371
        try clear p378
        try clear p379
        try clear p38
        try clear p381
        try clear p382
        try clear p384
        try clear p385
        try clear p387
        try clear p388
        try clear p39
        try clear p391
        try clear p392
        try clear p394
        try clear p395
        try clear p396
        try clear p397
        try clear p398
        try clear p399
        try clear p4
        try clear p42
        try clear p47
        try clear p6
        try clear p60
        try clear p64
        try clear p66
        try clear p88
        try clear q2
        try clear q22
        try clear q23
        try clear q27
        try clear q3
        try clear q36
        try clear q367
        try clear q37
        try clear q371
        try clear q378
        try clear q379
        try clear q38
        try clear q381
        try clear q382
        try clear q384
        try clear q385
        try clear q387
        try clear q388
        try clear q39
        try clear q391
        try clear q392
        try clear q394
        try clear q395
        try clear q396
        try clear q397
        try clear q398
        try clear q399
        try clear q4
        try clear q42
        try clear q43
        try clear q47
        try clear q6
        try clear q60
        try clear q61
        try clear q66
        try clear q88
        obtain ⟨x13_4, x14_4, x15_4, rfl, rfl, rfl, HA, HK4, HO_7, HO_8, BK366, HB⟩ := hrel
        cases gk with
        | zero => exact absurd HA.out (by simp [sleuthref12_byHalves.l3])
        | succ k4 =>
         have H := HA.out
         clear HA
         simp only [sleuthref12_byHalves.l3] at H
         by_cases c95 : x15_4 < (l0.length : Int)
         case neg =>
          rw [if_neg c95] at H
          have c95b0 : decide (x15_4 < (l0.length : Int)) = false := decide_eq_false c95
          clear c95
          by_cases c116 : x13_4 ≥ 0
          case pos =>
           rw [if_pos c116] at H
           have c116b0 : decide (0 ≤ x13_4) = true := decide_eq_true c116
           clear c116
           simp only [Option.some.injEq, Prod.mk.injEq] at H
           obtain ⟨rfl, rfl⟩ := H
           obtain ⟨hcz117_0, hcz117_1, hfz117_0, hfz117_1⟩ := bx2_ BK366.out
           go_wp2
           refine bodyPost_ret (results_cell_row rfl _ _ gb366 49 #[.int .i64 0, .int .i64 x13_4] (0, 0) _ rfl (bP_ (bP_ (hK_ BK366.out))) Tryz.underlying49 rfl (by kernel_rfl)) rfl ?_
           exact ⟨hV_, hC_⟩
          rw [if_neg c116] at H
          have c116b0 : decide (0 ≤ x13_4) = false := decide_eq_false c116
          clear c116
          replace H := Option.bind_eq_some_iff.mp H
          obtain ⟨⟨t401, t402⟩, A1180, H⟩ := H
          try dsimp only at H
          have A118 := a_ A1180
          clear A1180
          simp only [Option.some.injEq, Prod.mk.injEq] at H
          obtain ⟨rfl, rfl⟩ := H
          go_wp2_with (first | ((with_reducible refine gate_callee (f := 56) rfl ?_); refine goesL_ (some 183) rfl rfl Tryz.func56 (by kernel_rfl) rfl #[.slice A0 l0.length c0, .slice (some ad367) l1.length c1, .int .i64 x5_1] rfl hL_ ?_; (with_reducible refine (sleuthref12_verdict.calls k4 _ _ l0 _ _ l1 x5_1 t401 t402 _ ?side1 ?side2 ?side3 ?side4 A118.out).mono ?_); (case side1 => exact cB_ HR0.out); (case side2 => exact HC0.out); (case side3 => exact cB_ HR1.out); (case side4 => exact HC1.out); rintro e w119 ⟨rfl, hb⟩; refine ⟨_, rfl, ?_⟩; replace HO_7 := a_ (Kd.R_below (hR_ HO_7.out) hb); replace HO_8 := a_ (Kd.R_below (hR_ HO_8.out) hb); replace BK366 := a_ (bB_ BK366.out hb); replace HB := a_ (below_step hC_ hb); (try clear hb); (try clear hb2); (try clear hk); (try clear hi); obtain ⟨hcz120_0, hcz120_1, hfz120_0, hfz120_1⟩ := bx2_ BK366.out))
          refine bodyPost_ret (results_cell_row rfl _ _ gb366 49 #[.int .i64 t401, .int .i64 t402] (0, 0) _ rfl (bP_ (bP_ (hK_ BK366.out))) Tryz.underlying49 rfl (by kernel_rfl)) rfl ?_
          exact ⟨hV_, hC_⟩
         rw [if_pos c95] at H
         have c95b0 : decide (x15_4 < (l0.length : Int)) = true := decide_eq_true c95
         clear c95
         have HC96 := a_ H
         clear H
         go_upto_region 29 with (fail)
         go_cut [151] (fun v151 wc => ∃ (kq : Nat) (x151_95 : Bool), v151 = .bool x151_95 ∧ Aside0 (sleuthref12_byHalves.j4 kq l0 l1 x5_1 x7_2 x8_3 x9_2 x13_4 x14_4 x15_4 x151_95 = some (r1, r2)) ∧ Aside0 (kq ≤ k4) ∧ Aside0 (Kd.R Kd.bool 4 wc w.heap.size (fun _ => True) v373 x7_2) ∧ Aside0 (Kd.R (Kd.int .i64) 3 wc w.heap.size (fun _ => True) v376 x8_3) ∧ Aside0 (wc.heap[gb366]? = some (.cells #[.int .i64 0, .int .i64 0] 49 (0, 0))) ∧ Aside0 (Below w.heap.size w wc))
         case first =>
          have H := HC96.out
          clear HC96
          replace H := ifI_ H; obtain ⟨c97, H⟩ := H
          have c97b0 : decide (0 ≤ x15_4) = true := decide_eq_true c97
          clear c97
          (first | rw [c97b0] | (simp only [i64_w, i32_w]; rw [c97b0]) | skip)
          replace H := ifI_ H; obtain ⟨c98, H⟩ := H
          have c98b0 : decide (x15_4 < (x7_2.length : Int)) = true := decide_eq_true c98
          clear c98
          obtain ⟨bq99, hbq99⟩ : ∃ b_ : Bool, b_ = (rdOf false x7_2 x15_4) := ⟨_, rfl⟩
          replace H : (if bq99 = true then (if x15_4 < (l1.length : Int) then (sleuthref12_byHalves.j4 k4 l0 l1 x5_1 x7_2 x8_3 x9_2 x13_4 x14_4 x15_4 ((rd l1 x15_4) != 0)) else (none)) else (sleuthref12_byHalves.j4 k4 l0 l1 x5_1 x7_2 x8_3 x9_2 x13_4 x14_4 x15_4 true)) = some (r1, r2) := by rw [← hbq99] at H; exact H
          have Nbq99 := a_ hbq99
          clear hbq99
          by_cases c100 : bq99 = true
          case neg =>
           replace c100 := Bool.eq_false_iff.mpr c100
           subst c100
           rw [if_neg (show ¬ (false = true) by decide)] at H
           have H' := a_ H
           clear H
           obtain ⟨Ao103, co103, eo103⟩ := Kd.R_slice HO_7.out
           subst eo103
           have p403 : 0 ≤ (x15_4 : Int) := of_decide_eq_true hA_
           have q403 : x15_4 < (x7_2.length : Int) := of_decide_eq_true hA_
           obtain ⟨ad403, e403, hx403_0⟩ := Kd.at_bool (Kd.R_reads' HO_7.out).2.2 x15_4 p403 q403
           (try rw [← Nbq99.out] at hx403_0)
           cases e403
           replace p403 := eq_true p403
           replace q403 := eq_true q403
           go_wp2
           go_meet
           case rel => exact ⟨_, (true), hW_, H', ⟨by have := HK1.out; have := HK2.out; have := HK3.out; have := HK4.out; first | omega | exact Nat.le_refl _⟩, ⟨hR_ HO_7.out⟩, ⟨hR_ HO_8.out⟩, ⟨(hK_ BK366.out)⟩, ⟨hC_⟩⟩
          subst c100
          rw [if_pos rfl] at H
          replace H := ifI_ H; obtain ⟨c101, H⟩ := H
          have c101b0 : decide (x15_4 < (l1.length : Int)) = true := decide_eq_true c101
          clear c101
          have H' := a_ H
          clear H
          obtain ⟨Ao102, co102, eo102⟩ := Kd.R_slice HO_7.out
          subst eo102
          have p403 : 0 ≤ (x15_4 : Int) := of_decide_eq_true hA_
          have q403 : x15_4 < (x7_2.length : Int) := of_decide_eq_true hA_
          obtain ⟨ad403, e403, hx403_0⟩ := Kd.at_bool (Kd.R_reads' HO_7.out).2.2 x15_4 p403 q403
          (try rw [← Nbq99.out] at hx403_0)
          cases e403
          replace p403 := eq_true p403
          replace q403 := eq_true q403
          have p404 : 0 ≤ (x15_4 : Int) := of_decide_eq_true hA_
          have q404 : x15_4 < (l1.length : Int) := of_decide_eq_true hA_
          obtain ⟨ad404, e404, hx404_0⟩ := Kd.at_int HR1.out x15_4 p404 q404
          obtain rfl : ad367 = ad404 := (by injection e404)
          replace hx404_0 := cl_ HB.out hx404_0
          replace p404 := eq_true p404
          replace q404 := eq_true q404
          go_wp2
          go_meet
          case rel => exact ⟨_, (((rd l1 x15_4) != 0)), hW_, H', ⟨by have := HK1.out; have := HK2.out; have := HK3.out; have := HK4.out; first | omega | exact Nat.le_refl _⟩, ⟨hR_ HO_7.out⟩, ⟨hR_ HO_8.out⟩, ⟨(hK_ BK366.out)⟩, ⟨hC_⟩⟩
         case rest =>
          clear HC96
          try clear c1
          try clear c2
          try clear p2
          try clear q2
          try clear hx2
          try clear hf2
          try clear c3
          try clear p3
          try clear q3
          try clear hx3
          try clear c4
          try clear p4
          try clear q4
          try clear hx4
          try clear hf4
          try clear c5
          try clear c6
          try clear p6
          try clear q6
          try clear hx6
          try clear hf6
          try clear c7
          try clear c8
          try clear p8
          try clear q8
          try clear hx8
          try clear hf8
          try clear c9
          try clear q9
          try clear c10
          try clear c17
          try clear c17b0
          try clear c18
          try clear c18b0
          try clear c19
          try clear c19b0
          try clear c19b1
          try clear c20
          try clear c20b0
          try clear c21
          try clear c21b0
          try clear p22
          try clear q22
          try clear hx22
          try clear hf22
          try clear q23
          try clear c24
          try clear c25
          try clear c25b0
          try clear c25b1
          try clear c26
          try clear c26b0
          try clear p27
          try clear q27
          try clear hx27
          try clear hf27
          try clear c36
          try clear c36b0
          try clear p36
          try clear q36
          try clear hx36
          try clear c37
          try clear c37b0
          try clear p37
          try clear q37
          try clear hx37
          try clear p38
          try clear q38
          try clear hx38
          try clear c39
          try clear p39
          try clear q39
          try clear hx39
          try clear c40
          try clear c40b0
          try clear p40
          try clear q40
          try clear hx40
          try clear c41
          try clear c41b0
          try clear p42
          try clear q42
          try clear hx42
          try clear hf42
          try clear q43
          try clear c44
          try clear c45
          try clear c45b0
          try clear c45b1
          try clear c46
          try clear c46b0
          try clear p47
          try clear q47
          try clear hx47
          try clear hf47
          try clear c59
          try clear c59b0
          try clear p60
          try clear q60
          try clear hx60
          try clear hf60
          try clear q61
          try clear c62
          try clear c63
          try clear c63b0
          try clear c64
          try clear c64b0
          try clear c64b1
          try clear p64
          try clear c65
          try clear c65b0
          try clear p66
          try clear q66
          try clear hx66
          try clear hf66
          try clear c78
          try clear c78b0
          try clear c79
          try clear c79b0
          try clear c80
          try clear c80b0
          try clear q81
          try clear c82
          try clear c83
          try clear c83b0
          try clear c84
          try clear c84b0
          try clear c85
          try clear c85b0
          try clear c86
          try clear c86b0
          try clear c87
          try clear c87b0
          try clear p88
          try clear q88
          try clear hx88
          try clear hf88
          try clear c95
          try clear c95b0
          try clear c97
          try clear c97b0
          try clear c98
          try clear c98b0
          try clear q99
          try clear c100
          try clear c101
          try clear c101b0
          try clear hx22_0
          try clear hx27_0
          try clear hx367_0
          try clear hx371_0
          try clear hx378_0
          try clear hx378_1
          try clear hx378_2
          try clear hx378_3
          try clear hx379_0
          try clear hx381_0
          try clear hx382_0
          try clear hx384_0
          try clear hx385_0
          try clear hx387_0
          try clear hx388_0
          try clear hx391_0
          try clear hx392_0
          try clear hx394_0
          try clear hx395_0
          try clear hx395_1
          try clear hx395_2
          try clear hx395_3
          try clear hx396_0
          try clear hx396_1
          try clear hx396_2
          try clear hx396_3
          try clear hx397_0
          try clear hx397_1
          try clear hx397_2
          try clear hx397_3
          try clear hx398_0
          try clear hx399_0
          try clear hx403_0
          try clear hx404_0
          try clear hx42_0
          try clear hx47_0
          try clear hx60_0
          try clear hx66_0
          try clear hx88_0
          try clear p2
          try clear p22
          try clear p27
          try clear p3
          try clear p36
          try clear p367
          try clear p37
          try clear p371
          try clear p378
          try clear p379
          try clear p38
          try clear p381
          try clear p382
          try clear p384
          try clear p385
          try clear p387
          try clear p388
          try clear p39
          try clear p391
          try clear p392
          try clear p394
          try clear p395
          try clear p396
          try clear p397
          try clear p398
          try clear p399
          try clear p4
          try clear p403
          try clear p404
          try clear p42
          try clear p47
          try clear p6
          try clear p60
          try clear p64
          try clear p66
          try clear p8
          try clear p88
          try clear q2
          try clear q22
          try clear q23
          try clear q27
          try clear q3
          try clear q36
          try clear q367
          try clear q37
          try clear q371
          try clear q378
          try clear q379
          try clear q38
          try clear q381
          try clear q382
          try clear q384
          try clear q385
          try clear q387
          try clear q388
          try clear q39
          try clear q391
          try clear q392
          try clear q394
          try clear q395
          try clear q396
          try clear q397
          try clear q398
          try clear q399
          try clear q4
          try clear q403
          try clear q404
          try clear q42
          try clear q43
          try clear q47
          try clear q6
          try clear q60
          try clear q61
          try clear q66
          try clear q8
          try clear q81
          try clear q88
          obtain ⟨kq, x151_95, rfl, HA, HJ95, HO_7, HO_8, BK366, HB⟩ := hcut
          cases kq with
          | zero => exact absurd HA.out (by simp [sleuthref12_byHalves.j4])
          | succ kj95 =>
           have H := HA.out
           clear HA
           simp only [sleuthref12_byHalves.j4] at H
           by_cases c104 : x151_95 = true
           case pos =>
            subst c104
            rw [if_pos rfl] at H
            have H' := a_ H
            clear H
            go_wp2
            go_roundg kj95
            case measure => have := HK1.out; have := HK2.out; have := HK3.out; have := HK4.out; have := HJ95.out; omega
            case rel => exact ⟨(x13_4), (x14_4), (wrap64 (x15_4 + 1)), hW_, hW_, hW_, H', ⟨by have := HK1.out; have := HK2.out; have := HK3.out; have := HK4.out; have := HJ95.out; omega⟩, ⟨hR_ HO_7.out⟩, ⟨hR_ HO_8.out⟩, ⟨(hK_ BK366.out)⟩, ⟨hC_⟩⟩
           replace c104 := Bool.eq_false_iff.mpr c104
           subst c104
           rw [if_neg (show ¬ (false = true) by decide)] at H
           replace H := ifI_ H; obtain ⟨c105, H⟩ := H
           have c105b0 : decide (0 ≤ x15_4) = true := decide_eq_true c105
           clear c105
           replace H := ifI_ H; obtain ⟨c106, H⟩ := H
           have c106b0 : decide (x15_4 < (x8_3.length : Int)) = true := decide_eq_true c106
           clear c106
           obtain ⟨ji107, hji107⟩ : ∃ j_ : Int, (mx (wrap64 ((wrap64 (2 * (rd x8_3 x15_4))) - x9_2)) (wrap64 (x9_2 - (wrap64 (2 * (rd x8_3 x15_4)))))) = j_ := ⟨_, rfl⟩
           replace H : (if x13_4 < 0 then (sleuthref12_byHalves.l3 kj95 l0 l1 x5_1 x7_2 x8_3 x9_2 x15_4 ji107 (wrap64 (x15_4 + 1))) else (if (ji107) < x14_4 then (sleuthref12_byHalves.l3 kj95 l0 l1 x5_1 x7_2 x8_3 x9_2 x15_4 ji107 (wrap64 (x15_4 + 1))) else (sleuthref12_byHalves.l3 kj95 l0 l1 x5_1 x7_2 x8_3 x9_2 x13_4 x14_4 (wrap64 (x15_4 + 1))))) = some (r1, r2) := by first | (rw [hji107] at H; exact H) | (simp only [hji107] at H ⊢; exact H)
           have hji107_ : (if (wrap64 ((wrap64 (2 * (rd x8_3 x15_4))) - x9_2)) < (wrap64 (x9_2 - (wrap64 (2 * (rd x8_3 x15_4))))) then (wrap64 (x9_2 - (wrap64 (2 * (rd x8_3 x15_4))))) else (wrap64 ((wrap64 (2 * (rd x8_3 x15_4))) - x9_2))) = ji107 := hji107
           by_cases c108 : x13_4 < 0
           case pos =>
            rw [if_pos c108] at H
            have c108b0 : decide (x13_4 < 0) = true := decide_eq_true c108
            clear c108
            have H' := a_ H
            clear H
            try go_wp2
            replace HO_7 := a_ (Kd.R_drew HO_7.out)
            replace HO_8 := a_ (Kd.R_drew HO_8.out)
            replace BK366 := a_ (blk_drew BK366.out)
            replace HB := a_ (below_drew1 HB.out)
            obtain ⟨Ao110, co110, eo110⟩ := Kd.R_slice HO_8.out
            (first | subst eo110 | (injection eo110 with f1_ f2_ f3_; have f4_ := f1_.symm; have f5_ := f3_.symm; clear f1_ f2_ f3_; subst f4_; subst f5_))
            have p405 : 0 ≤ (x15_4 : Int) := of_decide_eq_true hA_
            have q405 : x15_4 < (x8_3.length : Int) := of_decide_eq_true hA_
            obtain ⟨ad405, e405, hx405_0⟩ := Kd.at_int (Kd.R_reads' HO_8.out).2.2 x15_4 p405 q405
            cases e405
            replace p405 := eq_true p405
            replace q405 := eq_true q405
            have p406 : 0 ≤ (x15_4 : Int) := of_decide_eq_true hA_
            have q406 : x15_4 < (x8_3.length : Int) := of_decide_eq_true hA_
            obtain ⟨ad406, e406, hx406_0⟩ := Kd.at_int (Kd.R_reads' HO_8.out).2.2 x15_4 p406 q406
            obtain rfl : ad405 = ad406 := (by injection e406)
            replace p406 := eq_true p406
            replace q406 := eq_true q406
            refine start_ (n := 16) (S := fun w' => w'.cell? (ad405.add (x15_4).toNat) = some (.int .i64 (rd x8_3 x15_4)) ∧ w'.cell? (ad405.add (x15_4).toNat) = some (.int .i64 (rd x8_3 x15_4))) (ds := []) #[false, false, false, false, false, false, false, false, false, false, false, false, false, false, false, false] (by kernel_rfl) rfl rfl ⟨hx405_0, hx406_0⟩ (fun hHeld => ?_); refine with_tabW sleuthref12_byHalves.tab30 sleuthref12_byHalves.bits30 (fun HT_ HW_ => ?_)
            generalize wc.drew = w109 at HO_7 HO_8 BK366 HB hx405_0 hx406_0 hHeld ⊢
            refine pB_ 0 152 HT_.out ?_
            refine pB_ 1 153 HT_.out ?_
            refine pB_ 2 154 HT_.out ?_
            refine pB_ 5 157 HT_.out ?_
            refine pB_ 7 159 HT_.out ?_
            refine pB_ 8 160 HT_.out ?_
            refine pB_ 9 161 HT_.out ?_
            refine pB_ 10 162 HT_.out ?_
            refine tB_ 3 155 HT_.out HW_.out hHeld ?_
            refine pB_ 4 156 HT_.out ?_
            refine pB_ 6 158 HT_.out ?_
            refine tB_ 11 163 HT_.out HW_.out hHeld ?_
            refine pB_ 12 164 HT_.out ?_
            refine pB_ 13 165 HT_.out ?_
            refine pB_ 14 166 HT_.out ?_
            refine pB_ 15 16 HT_.out ?_
            refine done_ (done_of HT_.out (by kernel_rfl)) ?_
            try go_wp2
            go_roundg kj95
            case measure => have := HK1.out; have := HK2.out; have := HK3.out; have := HK4.out; have := HJ95.out; omega
            case rel => exact ⟨(x15_4), (ji107), (wrap64 (x15_4 + 1)), hW_, (by first | rfl | (simp; done) | (simp only [← hji107] <;> (first | rfl | simp)) | (simp [*]; done)), hW_, H', ⟨by have := HK1.out; have := HK2.out; have := HK3.out; have := HK4.out; have := HJ95.out; omega⟩, ⟨hR_ HO_7.out⟩, ⟨hR_ HO_8.out⟩, ⟨(hK_ BK366.out)⟩, ⟨hC_⟩⟩
           rw [if_neg c108] at H
           have c108b0 : decide (x13_4 < 0) = false := decide_eq_false c108
           clear c108
           by_cases c111 : (ji107) < x14_4
           case neg =>
            rw [if_neg c111] at H
            have c111b0 : decide ((ji107) < x14_4) = false := decide_eq_false c111
            clear c111
            have H' := a_ H
            clear H
            try go_wp2
            replace HO_7 := a_ (Kd.R_drew HO_7.out)
            replace HO_8 := a_ (Kd.R_drew HO_8.out)
            replace BK366 := a_ (blk_drew BK366.out)
            replace HB := a_ (below_drew1 HB.out)
            obtain ⟨Ao115, co115, eo115⟩ := Kd.R_slice HO_8.out
            (first | subst eo115 | (injection eo115 with f1_ f2_ f3_; have f4_ := f1_.symm; have f5_ := f3_.symm; clear f1_ f2_ f3_; subst f4_; subst f5_))
            have p405 : 0 ≤ (x15_4 : Int) := of_decide_eq_true hA_
            have q405 : x15_4 < (x8_3.length : Int) := of_decide_eq_true hA_
            obtain ⟨ad405, e405, hx405_0⟩ := Kd.at_int (Kd.R_reads' HO_8.out).2.2 x15_4 p405 q405
            cases e405
            replace p405 := eq_true p405
            replace q405 := eq_true q405
            have p406 : 0 ≤ (x15_4 : Int) := of_decide_eq_true hA_
            have q406 : x15_4 < (x8_3.length : Int) := of_decide_eq_true hA_
            obtain ⟨ad406, e406, hx406_0⟩ := Kd.at_int (Kd.R_reads' HO_8.out).2.2 x15_4 p406 q406
            obtain rfl : ad405 = ad406 := (by injection e406)
            replace p406 := eq_true p406
            replace q406 := eq_true q406
            refine start_ (n := 16) (S := fun w' => w'.cell? (ad405.add (x15_4).toNat) = some (.int .i64 (rd x8_3 x15_4)) ∧ w'.cell? (ad405.add (x15_4).toNat) = some (.int .i64 (rd x8_3 x15_4))) (ds := []) #[false, false, false, false, false, false, false, false, false, false, false, false, false, false, false, false] (by kernel_rfl) rfl rfl ⟨hx405_0, hx406_0⟩ (fun hHeld => ?_); refine with_tabW sleuthref12_byHalves.tab30 sleuthref12_byHalves.bits30 (fun HT_ HW_ => ?_)
            generalize wc.drew = w114 at HO_7 HO_8 BK366 HB hx405_0 hx406_0 hHeld ⊢
            refine pB_ 0 152 HT_.out ?_
            refine pB_ 1 153 HT_.out ?_
            refine pB_ 2 154 HT_.out ?_
            refine pB_ 5 157 HT_.out ?_
            refine pB_ 7 159 HT_.out ?_
            refine pB_ 8 160 HT_.out ?_
            refine pB_ 9 161 HT_.out ?_
            refine pB_ 10 162 HT_.out ?_
            refine tB_ 3 155 HT_.out HW_.out hHeld ?_
            refine pB_ 4 156 HT_.out ?_
            refine pB_ 6 158 HT_.out ?_
            refine tB_ 11 163 HT_.out HW_.out hHeld ?_
            refine pB_ 12 164 HT_.out ?_
            refine pB_ 13 165 HT_.out ?_
            refine pB_ 14 166 HT_.out ?_
            refine pB_ 15 16 HT_.out ?_
            refine done_ (done_of HT_.out (by kernel_rfl)) ?_
            try go_wp2
            go_roundg kj95
            case measure => have := HK1.out; have := HK2.out; have := HK3.out; have := HK4.out; have := HJ95.out; omega
            case rel => exact ⟨(x13_4), (x14_4), (wrap64 (x15_4 + 1)), hW_, hW_, hW_, H', ⟨by have := HK1.out; have := HK2.out; have := HK3.out; have := HK4.out; have := HJ95.out; omega⟩, ⟨hR_ HO_7.out⟩, ⟨hR_ HO_8.out⟩, ⟨(hK_ BK366.out)⟩, ⟨hC_⟩⟩
           rw [if_pos c111] at H
           have c111b0 : decide ((ji107) < x14_4) = true := decide_eq_true c111
           clear c111
           have H' := a_ H
           clear H
           try go_wp2
           replace HO_7 := a_ (Kd.R_drew HO_7.out)
           replace HO_8 := a_ (Kd.R_drew HO_8.out)
           replace BK366 := a_ (blk_drew BK366.out)
           replace HB := a_ (below_drew1 HB.out)
           obtain ⟨Ao113, co113, eo113⟩ := Kd.R_slice HO_8.out
           (first | subst eo113 | (injection eo113 with f1_ f2_ f3_; have f4_ := f1_.symm; have f5_ := f3_.symm; clear f1_ f2_ f3_; subst f4_; subst f5_))
           have p405 : 0 ≤ (x15_4 : Int) := of_decide_eq_true hA_
           have q405 : x15_4 < (x8_3.length : Int) := of_decide_eq_true hA_
           obtain ⟨ad405, e405, hx405_0⟩ := Kd.at_int (Kd.R_reads' HO_8.out).2.2 x15_4 p405 q405
           cases e405
           replace p405 := eq_true p405
           replace q405 := eq_true q405
           have p406 : 0 ≤ (x15_4 : Int) := of_decide_eq_true hA_
           have q406 : x15_4 < (x8_3.length : Int) := of_decide_eq_true hA_
           obtain ⟨ad406, e406, hx406_0⟩ := Kd.at_int (Kd.R_reads' HO_8.out).2.2 x15_4 p406 q406
           obtain rfl : ad405 = ad406 := (by injection e406)
           replace p406 := eq_true p406
           replace q406 := eq_true q406
           refine start_ (n := 16) (S := fun w' => w'.cell? (ad405.add (x15_4).toNat) = some (.int .i64 (rd x8_3 x15_4)) ∧ w'.cell? (ad405.add (x15_4).toNat) = some (.int .i64 (rd x8_3 x15_4))) (ds := []) #[false, false, false, false, false, false, false, false, false, false, false, false, false, false, false, false] (by kernel_rfl) rfl rfl ⟨hx405_0, hx406_0⟩ (fun hHeld => ?_); refine with_tabW sleuthref12_byHalves.tab30 sleuthref12_byHalves.bits30 (fun HT_ HW_ => ?_)
           generalize wc.drew = w112 at HO_7 HO_8 BK366 HB hx405_0 hx406_0 hHeld ⊢
           refine pB_ 0 152 HT_.out ?_
           refine pB_ 1 153 HT_.out ?_
           refine pB_ 2 154 HT_.out ?_
           refine pB_ 5 157 HT_.out ?_
           refine pB_ 7 159 HT_.out ?_
           refine pB_ 8 160 HT_.out ?_
           refine pB_ 9 161 HT_.out ?_
           refine pB_ 10 162 HT_.out ?_
           refine tB_ 3 155 HT_.out HW_.out hHeld ?_
           refine pB_ 4 156 HT_.out ?_
           refine pB_ 6 158 HT_.out ?_
           refine tB_ 11 163 HT_.out HW_.out hHeld ?_
           refine pB_ 12 164 HT_.out ?_
           refine pB_ 13 165 HT_.out ?_
           refine pB_ 14 166 HT_.out ?_
           refine pB_ 15 16 HT_.out ?_
           refine done_ (done_of HT_.out (by kernel_rfl)) ?_
           try go_wp2
           go_roundg kj95
           case measure => have := HK1.out; have := HK2.out; have := HK3.out; have := HK4.out; have := HJ95.out; omega
           case rel => exact ⟨(x15_4), (ji107), (wrap64 (x15_4 + 1)), hW_, (by first | rfl | (simp; done) | (simp only [← hji107] <;> (first | rfl | simp)) | (simp [*]; done)), hW_, H', ⟨by have := HK1.out; have := HK2.out; have := HK3.out; have := HK4.out; have := HJ95.out; omega⟩, ⟨hR_ HO_7.out⟩, ⟨hR_ HO_8.out⟩, ⟨(hK_ BK366.out)⟩, ⟨hC_⟩⟩
end Go.Proofs.YtbnljapgnfmmoaaGreatDoor.G
