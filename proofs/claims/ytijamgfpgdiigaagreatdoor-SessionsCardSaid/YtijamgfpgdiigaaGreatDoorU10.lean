/- Parts of this proof, one behind the other: G43, NextRef. -/
import Derived.Test.YtijamgfpgdiigaaGreatDoorU2
import Derived.Test.YtijamgfpgdiigaaGreatDoorG0
import Derived.Test.YtijamgfpgdiigaaGreatDoorU9
section
namespace Go.Proofs.YtijamgfpgdiigaaGreatDoor.G
open Go.RowKit Go.Proofs.YtijamgfpgdiigaaGreatDoorW.PrintWords Go.Proofs.YtijamgfpgdiigaaGreatDoorW.PrintLast Go.Proofs.YtijamgfpgdiigaaGreatDoorW.PrintMore
set_option maxHeartbeats 8000000
set_option maxRecDepth 100000
attribute [local go_sem] max2_int min2_int max_two min_two max_three min_three max_four min_four   -- for this text's walks alone
set_option linter.unusedVariables false
set_option linter.unusedSimpArgs false

mutual
def sleuthref12_byHalves.l0 : Nat → List (S57) → List Int → Int → Int → Option (Int × Int)
 | 0, _, _, _, _ => none
 | k + 1, x0, x1, x5, x6 => if x6 < (x0.length : Int) then (if 0 ≤ x6 then (if x6 < (x1.length : Int) then (if (rd x1 x6) = 2 then (sleuthref12_byHalves.l0 k x0 x1 x6 (wrap64 (x6 + 1))) else (sleuthref12_byHalves.l0 k x0 x1 x5 (wrap64 (x6 + 1)))) else (none)) else (none)) else (if 0 ≤ (x0.length : Int) then (if ((x0.length : Int) : Int).toNat ≤ 281474976710656 then (if ((x0.length : Int) : Int).toNat ≤ 35184372088832 then (sleuthref12_byHalves.l1 k x0 x1 x5 (List.replicate ((x0.length : Int) : Int).toNat false) (List.replicate ((x0.length : Int) : Int).toNat 0) 0 (wrap64 (x5 + 1))) else (none)) else (none)) else (none))
def sleuthref12_byHalves.l1 : Nat → List (S57) → List Int → Int → List Bool → List Int → Int → Int → Option (Int × Int)
 | 0, _, _, _, _, _, _, _ => none
 | k + 1, x0, x1, x5, x7, x8, x9, x10 => if x10 < (x0.length : Int) then (if 0 ≤ x10 then (if ((rd_T57 x0 x10).f1) = x5 then (if x10 < (x1.length : Int) then (if x10 < (x7.length : Int) then ((some (x7.set (x10 : Int).toNat ((rd x1 x10) != 1) : List Bool)).bind fun y373 => (if rdOf false y373 x10 = true then (if (rd x1 x10) = 0 then (if x10 < (x8.length : Int) then (sleuthref12_byHalves.l1 k x0 x1 x5 y373 (x8.set (x10 : Int).toNat 1) (wrap64 (x9 + 1)) (wrap64 (x10 + 1))) else (none)) else (sleuthref12_byHalves.l1 k x0 x1 x5 y373 x8 x9 (wrap64 (x10 + 1)))) else (sleuthref12_byHalves.l1 k x0 x1 x5 y373 x8 x9 (wrap64 (x10 + 1))))) else (none)) else (none)) else (if 0 ≤ ((rd_T57 x0 x10).f1) then (if ((rd_T57 x0 x10).f1) < (x7.length : Int) then (if rdOf false x7 ((rd_T57 x0 x10).f1) = true then (if x10 < (x1.length : Int) then (if x10 < (x7.length : Int) then ((some (x7.set (x10 : Int).toNat ((rd x1 x10) != 1) : List Bool)).bind fun y379 => (if rdOf false y379 x10 = true then (if (rd x1 x10) = 0 then (if x10 < (x8.length : Int) then (sleuthref12_byHalves.l1 k x0 x1 x5 y379 (x8.set (x10 : Int).toNat 1) (wrap64 (x9 + 1)) (wrap64 (x10 + 1))) else (none)) else (sleuthref12_byHalves.l1 k x0 x1 x5 y379 x8 x9 (wrap64 (x10 + 1)))) else (sleuthref12_byHalves.l1 k x0 x1 x5 y379 x8 x9 (wrap64 (x10 + 1))))) else (none)) else (none)) else (if x10 < (x7.length : Int) then ((some (x7.set (x10 : Int).toNat false : List Bool)).bind fun y383 => (if rdOf false y383 x10 = true then (if x10 < (x1.length : Int) then (if (rd x1 x10) = 0 then (if x10 < (x8.length : Int) then (sleuthref12_byHalves.l1 k x0 x1 x5 y383 (x8.set (x10 : Int).toNat 1) (wrap64 (x9 + 1)) (wrap64 (x10 + 1))) else (none)) else (sleuthref12_byHalves.l1 k x0 x1 x5 y383 x8 x9 (wrap64 (x10 + 1)))) else (none)) else (sleuthref12_byHalves.l1 k x0 x1 x5 y383 x8 x9 (wrap64 (x10 + 1))))) else (none))) else (none)) else (none))) else (none)) else (sleuthref12_byHalves.l2 k x0 x1 x5 x7 x8 x9 (wrap64 ((x0.length : Int) - 1)))
def sleuthref12_byHalves.l2 : Nat → List (S57) → List Int → Int → List Bool → List Int → Int → Int → Option (Int × Int)
 | 0, _, _, _, _, _, _, _ => none
 | k + 1, x0, x1, x5, x7, x8, x9, x12 => if x12 > x5 then (if 0 ≤ x12 then (if x12 < (x7.length : Int) then (if rdOf false x7 x12 = true then (if x12 < (x0.length : Int) then (if ((rd_T57 x0 x12).f1) > x5 then (if 0 ≤ ((rd_T57 x0 x12).f1) then (if ((rd_T57 x0 x12).f1) < (x8.length : Int) then (if x12 < (x8.length : Int) then (sleuthref12_byHalves.l2 k x0 x1 x5 x7 (x8.set (((rd_T57 x0 x12).f1) : Int).toNat (wrap64 ((rd x8 ((rd_T57 x0 x12).f1)) + (rd x8 x12)))) x9 (wrap64 (x12 - 1))) else (none)) else (none)) else (none)) else (sleuthref12_byHalves.l2 k x0 x1 x5 x7 x8 x9 (wrap64 (x12 - 1)))) else (none)) else (sleuthref12_byHalves.l2 k x0 x1 x5 x7 x8 x9 (wrap64 (x12 - 1)))) else (none)) else (none)) else (sleuthref12_byHalves.l3 k x0 x1 x5 x7 x8 x9 (-1) 0 (wrap64 (x5 + 1)))
def sleuthref12_byHalves.l3 : Nat → List (S57) → List Int → Int → List Bool → List Int → Int → Int → Int → Int → Option (Int × Int)
 | 0, _, _, _, _, _, _, _, _, _ => none
 | k + 1, x0, x1, x5, x7, x8, x9, x13, x14, x15 => if x15 < (x0.length : Int) then (if 0 ≤ x15 then (if x15 < (x7.length : Int) then (if rdOf false x7 x15 = true then (if x15 < (x1.length : Int) then (sleuthref12_byHalves.j4 k x0 x1 x5 x7 x8 x9 x13 x14 x15 ((rd x1 x15) != 0)) else (none)) else (sleuthref12_byHalves.j4 k x0 x1 x5 x7 x8 x9 x13 x14 x15 true)) else (none)) else (none)) else (if x13 ≥ 0 then (some (0, x13)) else ((sleuthref12_verdict.f k x0 x1 x5).bind fun bt394 => (some (bt394.1, bt394.2))))
def sleuthref12_byHalves.j4 : Nat → List (S57) → List Int → Int → List Bool → List Int → Int → Int → Int → Int → Bool → Option (Int × Int)
 | 0, _, _, _, _, _, _, _, _, _, _ => none
 | k + 1, x0, x1, x5, x7, x8, x9, x13, x14, x15, x151 => if x151 = true then (sleuthref12_byHalves.l3 k x0 x1 x5 x7 x8 x9 x13 x14 (wrap64 (x15 + 1))) else (if 0 ≤ x15 then (if x15 < (x8.length : Int) then (if x13 < 0 then (sleuthref12_byHalves.l3 k x0 x1 x5 x7 x8 x9 x15 (mx (wrap64 ((wrap64 (2 * (rd x8 x15))) - x9)) (wrap64 (x9 - (wrap64 (2 * (rd x8 x15)))))) (wrap64 (x15 + 1))) else (if (mx (wrap64 ((wrap64 (2 * (rd x8 x15))) - x9)) (wrap64 (x9 - (wrap64 (2 * (rd x8 x15)))))) < x14 then (sleuthref12_byHalves.l3 k x0 x1 x5 x7 x8 x9 x15 (mx (wrap64 ((wrap64 (2 * (rd x8 x15))) - x9)) (wrap64 (x9 - (wrap64 (2 * (rd x8 x15)))))) (wrap64 (x15 + 1))) else (sleuthref12_byHalves.l3 k x0 x1 x5 x7 x8 x9 x13 x14 (wrap64 (x15 + 1))))) else (none)) else (none))
end
def sleuthref12_byHalves.f (k : Nat) (l0 : List (S57)) (l1 : List Int) : Option (Int × Int) := if 0 < (l1.length : Int) then (if (rd l1 0) = 2 then (sleuthref12_byHalves.l0 k l0 l1 0 0) else ((sleuthref12_rooted.f (rd l1 0)).bind fun bt362 => (some (bt362.1, bt362.2)))) else (none)
def sleuthref12_byHalves.T24 : Bool × List (List Nat × List Nat) := (true, [([], []), ([], []), ([], []), ([1, 2], [1, 2]), ([3], [3]), ([4], [4]), ([], []), ([], []), ([], []), ([7, 8], [7, 8]), ([9], [9]), ([10], [10]), ([6, 11], [6, 11]), ([12], [12]), ([], []), ([], []), ([14, 15], [14, 15]), ([16], [16]), ([13, 17], [13, 17]), ([0, 5, 0, 1, 2, 3, 4, 5, 6, 7, 8, 9, 10, 11, 12, 13, 14, 15, 16, 17, 18], [0, 5]), ([19, 18, 0, 1, 2, 3, 4, 5, 6, 7, 8, 9, 10, 11, 12, 13, 14, 15, 16, 17, 18], [18, 19])])
def sleuthref12_byHalves.B24 : List Nat := [0, 0, 0, 6, 14, 30, 0, 0, 0, 384, 896, 1920, 4032, 8128, 0, 0, 49152, 114688, 262080, 524287, 1048575]
theorem sleuthref12_byHalves.tab24 : rtab .any (opsOf Tryz.f38 24) = sleuthref12_byHalves.T24 := by kernel_rfl
theorem sleuthref12_byHalves.bits24 : waitsOk sleuthref12_byHalves.T24.2 sleuthref12_byHalves.B24 = true := by kernel_rfl
def sleuthref12_byHalves.T30 : Bool × List (List Nat × List Nat) := (true, [([], []), ([], []), ([0, 1], [0, 1]), ([2], [2]), ([3], [3]), ([], []), ([4, 5], [4, 5]), ([], []), ([], []), ([], []), ([8, 9], [8, 9]), ([10], [10]), ([11], [11]), ([7, 12], [7, 12]), ([6, 13], [6, 13]), ([14, 0, 1, 2, 3, 4, 5, 6, 7, 8, 9, 10, 11, 12, 13, 14], [14])])
def sleuthref12_byHalves.B30 : List Nat := [0, 0, 3, 7, 15, 0, 63, 0, 0, 0, 768, 1792, 3840, 8064, 16383, 32767]
theorem sleuthref12_byHalves.tab30 : rtab .any (opsOf Tryz.f38 30) = sleuthref12_byHalves.T30 := by kernel_rfl
theorem sleuthref12_byHalves.bits30 : waitsOk sleuthref12_byHalves.T30.2 sleuthref12_byHalves.B30 = true := by kernel_rfl
theorem sleuthref12_byHalves.calls (k : Nat) (A0 : Option Addr) (c0 : Nat) (l0 : List (S57)) (A1 : Option Addr) (c1 : Nat) (l1 : List Int) (r1 : Int) (r2 : Int) (w : World) (hr0 : Kd.C k57 w A0 l0.length l0) (hc0 : l0.length ≤ c0) (hr1 : Kd.C (Kd.int .i64) w A1 l1.length l1) (hc1 : l1.length ≤ c1) (h : sleuthref12_byHalves.f k l0 l1 = some (r1, r2)) :
 Calls Tryz.prog 38 #[.slice A0 l0.length c0, .slice A1 l1.length c1] w fun e w' => e = .returned (.agg #[.int .i64 r1, .int .i64 r2]) ∧ Below w.heap.size w w' := by
 have hu48 := Tryz.underlying48
 have HR0 := a_ hr0
 have HC0 := a_ hc0
 clear hr0 hc0
 have HR1 := a_ hr1
 have HC1 := a_ hc1
 clear hr1 hc1
 have HB := a_ (Below.refl w.heap.size w)
 have H := h; unfold sleuthref12_byHalves.f at H
 clear h
 replace H := ifI_ H; obtain ⟨c3, H⟩ := H
 have c3b0 : decide (0 < (l1.length : Int)) = true := decide_eq_true c3
 have c3b1 : decide (0 < l1.length) = true := decide_eq_true (by omega)
 clear c3
 by_cases c4 : (rd l1 0) = 2
 case neg =>
  rw [if_neg c4] at H
  have c4b0 : ((rd l1 0) == 2) = false := beq_eq_false_iff_ne.mpr c4
  have c4b1 : ((rd l1 0) != 2) = true := bne_iff_ne.mpr c4
  replace H := Option.bind_eq_some_iff.mp H
  obtain ⟨⟨t0, t1⟩, A1210, H⟩ := H
  try dsimp only at H
  have A121 := a_ A1210
  clear A1210
  simp only [Option.some.injEq, Prod.mk.injEq] at H
  obtain ⟨rfl, rfl⟩ := H
  go_enter Tryz.func38, Tryz.ntmps38
  go_wp2_with (first | ((with_reducible refine gate_dst (N := 4) rfl ?_); refine boxE_ 4 #[.int .i64 0, .int .i64 0] 48 ?_; intro g0 hg w10 hbox hb; have B0 := a_ (hbox); have E0 := a_ ((gE_ hg : w.heap.size ≤ g0)); replace HB := a_ (below_step hB_ hb); clear hb hbox hg; have p360 : 0 ≤ (0 : Int) := (by omega); have q360 : 0 < (l1.length : Int) := of_decide_eq_true hA_; obtain ⟨d0, e360, h8⟩ := Kd.at_int HR1.out 0 p360 q360; cases e360; have qi360 : (0 < l1.length) = True := eq_true (by omega); (try rw [show ((0 : Int)).toNat = 0 from rfl] at h8); (try rw [Addr.add_zero'] at h8); replace h8 := cl_ HB.out h8; replace p360 := eq_true p360; replace q360 := eq_true q360; have p361 : 0 ≤ (0 : Int) := (by omega); have q361 : 0 < (l1.length : Int) := of_decide_eq_true hA_; obtain ⟨d16, e361, h35⟩ := Kd.at_int HR1.out 0 p361 q361; obtain rfl : d0 = d16 := (by injection e361); have qi361 : (0 < l1.length) = True := eq_true (by omega); (try rw [show ((0 : Int)).toNat = 0 from rfl] at h35); (try rw [Addr.add_zero'] at h35); replace h35 := cl_ HB.out h35; replace p361 := eq_true p361; replace q361 := eq_true q361) | ((with_reducible refine gate_callee (f := 51) rfl ?_); refine goesL_ (some 24) rfl rfl Tryz.func51 (by kernel_rfl) rfl #[.int .i64 (rd l1 0)] rfl hL_ ?_; (with_reducible refine (sleuthref12_rooted.calls (rd l1 0) t0 t1 _ A121.out).mono ?_); rintro e w11 ⟨rfl, hb⟩; refine ⟨_, rfl, ?_⟩; replace B0 := a_ (bB_ B0.out hb); replace HB := a_ (below_step hC_ hb); (try clear hb); (try clear hb2); (try clear hk); (try clear hi); obtain ⟨z0, z1, f4, f5⟩ := bx2_ B0.out))
  refine bodyPost_ret (results_cell_row rfl _ _ g0 48 #[.int .i64 t0, .int .i64 t1] (0, 0) _ rfl (bP_ (bP_ (hK_ B0.out))) Tryz.underlying48 rfl (by kernel_rfl)) rfl ?_
  exact ⟨hV_, hC_⟩
 rw [if_pos c4] at H
 have c4b0 : ((rd l1 0) == 2) = true := beq_iff_eq.mpr c4
 have c4b1 : ((rd l1 0) != 2) = false := bne_eq_false_iff_eq.mpr c4
 clear c4
 have H' := a_ H
 clear H
 go_enter Tryz.func38, Tryz.ntmps38
 go_wp2_with (first | ((with_reducible refine gate_dst (N := 4) rfl ?_); refine boxE_ 4 #[.int .i64 0, .int .i64 0] 48 ?_; intro g0 hg w5 hbox hb; have B0 := a_ (hbox); have E0 := a_ ((gE_ hg : w.heap.size ≤ g0)); replace HB := a_ (below_step hB_ hb); clear hb hbox hg; have p360 : 0 ≤ (0 : Int) := (by omega); have q360 : 0 < (l1.length : Int) := of_decide_eq_true hA_; obtain ⟨d0, e360, h8⟩ := Kd.at_int HR1.out 0 p360 q360; cases e360; have qi360 : (0 < l1.length) = True := eq_true (by omega); (try rw [show ((0 : Int)).toNat = 0 from rfl] at h8); (try rw [Addr.add_zero'] at h8); replace h8 := cl_ HB.out h8; replace p360 := eq_true p360; replace q360 := eq_true q360))
 (try simp only [Act.put, List.setIfInBounds_toArray, List.set_cons_zero, List.set_cons_succ])
 go_loopg [5, 6] k (fun kq v5 v6 w' => ∃ (x4 : Int) (x8 : Int), v5 = .int .i64 x4 ∧ v6 = .int .i64 x8 ∧ Aside0 (sleuthref12_byHalves.l0 kq l0 l1 x4 x8 = some (r1, r2)) ∧ Aside0 (kq ≤ k) ∧ Aside0 (w'.heap[g0]? = some (.cells #[.int .i64 0, .int .i64 0] 48 (0, 0))) ∧ Aside0 (Below w.heap.size w w'))
 case atStart => exact ⟨(0), (0), hW_, hW_, H', ⟨Nat.le_refl _⟩, ⟨(hK_ B0.out)⟩, ⟨hC_⟩⟩
 case round =>
  clear H'
  try clear c1
  try clear p2
  try clear c3
  try clear c3b0
  try clear c3b1
  try clear p3
  try clear q3
  try clear hx3
  try clear qi3
  try clear c4
  try clear c4b0
  try clear c4b1
  try clear h8
  try clear p360
  try clear q360
  obtain ⟨x4, x8, rfl, rfl, HA, HK1, B0, HB⟩ := hrel
  cases gk with
  | zero => exact absurd HA.out (by simp [sleuthref12_byHalves.l0])
  | succ k1 =>
   have H := HA.out
   clear HA
   simp only [sleuthref12_byHalves.l0] at H
   by_cases c6 : x8 < (l0.length : Int)
   case pos =>
    rw [if_pos c6] at H
    have c6b0 : decide (x8 < (l0.length : Int)) = true := decide_eq_true c6
    clear c6
    replace H := ifI_ H; obtain ⟨c7, H⟩ := H
    have c7b0 : decide (0 ≤ x8) = true := decide_eq_true c7
    clear c7
    replace H := ifI_ H; obtain ⟨c8, H⟩ := H
    have c8b0 : decide (x8 < (l1.length : Int)) = true := decide_eq_true c8
    clear c8
    by_cases c9 : (rd l1 x8) = 2
    case neg =>
     rw [if_neg c9] at H
     have c9b0 : ((rd l1 x8) == 2) = false := beq_eq_false_iff_ne.mpr c9
     have c9b1 : ((rd l1 x8) != 2) = true := bne_iff_ne.mpr c9
     have H' := a_ H
     clear H
     have p364 : 0 ≤ (x8 : Int) := of_decide_eq_true hA_
     have q364 : x8 < (l1.length : Int) := of_decide_eq_true hA_
     obtain ⟨d11, e364, h11⟩ := Kd.at_int HR1.out x8 p364 q364
     obtain rfl : d0 = d11 := (by injection e364)
     replace h11 := cl_ HB.out h11
     replace p364 := eq_true p364
     replace q364 := eq_true q364
     go_wp2
     go_roundg k1
     case measure => have := HK1.out; omega
     case rel => exact ⟨(x4), (wrap64 (x8 + 1)), hW_, hW_, H', ⟨by have := HK1.out; omega⟩, ⟨(hK_ B0.out)⟩, ⟨hC_⟩⟩
    rw [if_pos c9] at H
    have c9b0 : ((rd l1 x8) == 2) = true := beq_iff_eq.mpr c9
    have c9b1 : ((rd l1 x8) != 2) = false := bne_eq_false_iff_eq.mpr c9
    clear c9
    have H' := a_ H
    clear H
    have p364 : 0 ≤ (x8 : Int) := of_decide_eq_true hA_
    have q364 : x8 < (l1.length : Int) := of_decide_eq_true hA_
    obtain ⟨d11, e364, h11⟩ := Kd.at_int HR1.out x8 p364 q364
    obtain rfl : d0 = d11 := (by injection e364)
    replace h11 := cl_ HB.out h11
    replace p364 := eq_true p364
    replace q364 := eq_true q364
    go_wp2
    go_roundg k1
    case measure => have := HK1.out; omega
    case rel => exact ⟨(x8), (wrap64 (x8 + 1)), hW_, hW_, H', ⟨by have := HK1.out; omega⟩, ⟨(hK_ B0.out)⟩, ⟨hC_⟩⟩
   rw [if_neg c6] at H
   have c6b0 : decide (x8 < (l0.length : Int)) = false := decide_eq_false c6
   clear c6
   replace H := ifI_ H; obtain ⟨c10, H⟩ := H
   have c10b0 := eq_true c10
   have c10b1 : decide (0 ≤ (l0.length : Int)) = true := decide_eq_true c10
   clear c10
   replace H := ifI_ H; obtain ⟨c11, H⟩ := H
   have c11b0 := eq_true c11
   have c11b1 : decide (((l0.length : Int) : Int).toNat ≤ 281474976710656) = true := decide_eq_true c11
   clear c11
   obtain ⟨y3, i0⟩ : ∃ y_ : List Bool, y_ = (List.replicate ((l0.length : Int) : Int).toNat false) := ⟨_, rfl⟩
   replace H : (if ((l0.length : Int) : Int).toNat ≤ 35184372088832 then (sleuthref12_byHalves.l1 k1 l0 l1 x4 y3 (List.replicate ((l0.length : Int) : Int).toNat 0) 0 (wrap64 (x4 + 1))) else (none)) = some (r1, r2) := by first | (rw [i0]; with_reducible exact H) | (have H2_ := (Option.bind_some _ _).symm.trans H; rw [i0]; with_reducible exact H2_) | (have H2_ := (Option.bind_some _ _).symm.trans H; with_reducible exact H2_) | with_reducible exact H | (rw [i0]; exact H) | exact H
   have Y3 := a_ i0
   clear i0
   replace H := ifI_ H; obtain ⟨c12, H⟩ := H
   have c12b0 := eq_true c12
   have c12b1 : decide (((l0.length : Int) : Int).toNat ≤ 35184372088832) = true := decide_eq_true c12
   clear c12
   obtain ⟨y7, i1⟩ : ∃ y_ : List Int, y_ = (List.replicate ((l0.length : Int) : Int).toNat 0) := ⟨_, rfl⟩
   replace H : (sleuthref12_byHalves.l1 k1 l0 l1 x4 y3 y7 0 (wrap64 (x4 + 1))) = some (r1, r2) := by first | (rw [i1]; with_reducible exact H) | (have H2_ := (Option.bind_some _ _).symm.trans H; rw [i1]; with_reducible exact H2_) | (have H2_ := (Option.bind_some _ _).symm.trans H; with_reducible exact H2_) | with_reducible exact H | (rw [i1]; exact H) | exact H
   have Y4 := a_ i1
   clear i1
   have H' := a_ H
   clear H
   go_wp2_with (first | ((with_reducible refine gate_dst (N := 39) rfl ?_); refine Kd.R_make Kd.bool _ 4 rfl (N := 39) rfl 69 _ _ rfl (l0.length : Int) rfl rfl Tryz.underlying69 (.bool false) 1 info4 rfl (by decide) (by omega) false (ok := fun _ => True) (okp := fun _ => True) rfl (fun _ hk => hk) trivial (of_decide_eq_true hA_) (Nat.le_trans (Nat.mul_le_mul_right _ (of_decide_eq_true hA_ : (l0.length : Int).toNat ≤ 281474976710656)) (by omega)) (Below.refl _ _) (Nat.le_refl _) ?_; intro v0 w13 ho14 hb hg_ hnew_; clear hg_ hnew_; (first | rw [← Y3.out] at ho14 | (simp only [Int.reduceToNat] at ho14; rw [← Y3.out] at ho14)); have P0 := a_ (Kd.R_lower ho14 (below_size hC_)); replace B0 := a_ (bB_ B0.out hb); replace HB := a_ (below_step hC_ hb); clear hb ho14) | ((with_reducible refine gate_dst (N := 42) rfl ?_); refine Kd.R_make (Kd.int .i64) _ 3 rfl (N := 42) rfl 44 _ _ rfl (l0.length : Int) rfl rfl Tryz.underlying44 (.int .i64 0) 8 info3 rfl (by decide) (by omega) 0 (ok := fun _ => True) (okp := fun _ => True) rfl (fun _ hk => hk) trivial (of_decide_eq_true hA_) (Nat.le_trans (Nat.mul_le_mul_right _ (of_decide_eq_true hA_ : (l0.length : Int).toNat ≤ 35184372088832)) (by omega)) (Below.refl _ _) (Nat.le_refl _) ?_; intro v1 w15 ho16 hb hg_ hnew_; clear hg_ hnew_; (first | rw [← Y4.out] at ho16 | (simp only [Int.reduceToNat] at ho16; rw [← Y4.out] at ho16)); replace P0 := a_ (Kd.R_below (hR_ P0.out) hb); have P1 := a_ (Kd.R_lower ho16 (below_size hC_)); replace B0 := a_ (bB_ B0.out hb); replace HB := a_ (below_step hC_ hb); clear hb ho16))
   go_loopg [9, 10] k1 (fun kq v9 v2 w' => ∃ (x2 : List Bool) (x5 : List Int) (x6 : Int) (x0 : Int), v9 = .int .i64 x6 ∧ v2 = .int .i64 x0 ∧ Aside0 (sleuthref12_byHalves.l1 kq l0 l1 x4 x2 x5 x6 x0 = some (r1, r2)) ∧ Aside0 (kq ≤ k1) ∧ Aside0 (Kd.R Kd.bool 4 w' w.heap.size (fun _ => True) v0 x2) ∧ Aside0 (Kd.R (Kd.int .i64) 3 w' w.heap.size (fun _ => True) v1 x5) ∧ Aside0 (w'.heap[g0]? = some (.cells #[.int .i64 0, .int .i64 0] 48 (0, 0))) ∧ Aside0 (Below w.heap.size w w'))
   case atStart => exact ⟨(y3), (y7), (0), (wrap64 (x4 + 1)), hW_, hW_, H', ⟨Nat.le_refl _⟩, ⟨hR_ P0.out⟩, ⟨hR_ P1.out⟩, ⟨(hK_ B0.out)⟩, ⟨hC_⟩⟩
   case round =>
    clear H'
    try clear c1
    try clear p2
    try clear c3
    try clear c3b0
    try clear c3b1
    try clear p3
    try clear q3
    try clear hx3
    try clear qi3
    try clear c4
    try clear c4b0
    try clear c4b1
    try clear c6
    try clear c6b0
    try clear p6
    try clear c7
    try clear c7b0
    try clear c8
    try clear c8b0
    try clear c9
    try clear c9b0
    try clear c9b1
    try clear c10
    try clear c10b0
    try clear c10b1
    try clear c11
    try clear c11b0
    try clear c11b1
    try clear c12
    try clear c12b0
    try clear c12b1
    try clear h8
    try clear h11
    try clear p2
    try clear p3
    try clear p360
    try clear p364
    try clear q3
    try clear q360
    try clear q364
    obtain ⟨x2, x5, x6, x0, rfl, rfl, HA, HK2, O0, O1, B0, HB⟩ := hrel
    cases gk with
    | zero => exact absurd HA.out (by simp [sleuthref12_byHalves.l1])
    | succ k2 =>
     have H := HA.out
     clear HA
     simp only [sleuthref12_byHalves.l1] at H
     by_cases c17 : x0 < (l0.length : Int)
     case pos =>
      rw [if_pos c17] at H
      have c17b0 : decide (x0 < (l0.length : Int)) = true := decide_eq_true c17
      clear c17
      replace H := ifI_ H; obtain ⟨c18, H⟩ := H
      have c18b0 : decide (0 ≤ x0) = true := decide_eq_true c18
      clear c18
      by_cases c19 : ((rd_T57 l0 x0).f1) = x4
      case pos =>
       rw [if_pos c19] at H
       have c19b0 : (((rd_T57 l0 x0).f1) == x4) = true := beq_iff_eq.mpr c19
       have c19b1 : (((rd_T57 l0 x0).f1) != x4) = false := bne_eq_false_iff_eq.mpr c19
       clear c19
       replace H := ifI_ H; obtain ⟨c20, H⟩ := H
       have c20b0 : decide (x0 < (l1.length : Int)) = true := decide_eq_true c20
       clear c20
       replace H := ifI_ H; obtain ⟨c21, H⟩ := H
       have c21b0 : decide (x0 < (x2.length : Int)) = true := decide_eq_true c21
       clear c21
       obtain ⟨y2, i2⟩ : ∃ y_ : List Bool, y_ = (x2.set (x0 : Int).toNat ((rd l1 x0) != 1)) := ⟨_, rfl⟩
       replace H : (if rdOf false y2 x0 = true then (if (rd l1 x0) = 0 then (if x0 < (x5.length : Int) then (sleuthref12_byHalves.l1 k2 l0 l1 x4 y2 (x5.set (x0 : Int).toNat 1) (wrap64 (x6 + 1)) (wrap64 (x0 + 1))) else (none)) else (sleuthref12_byHalves.l1 k2 l0 l1 x4 y2 x5 x6 (wrap64 (x0 + 1)))) else (sleuthref12_byHalves.l1 k2 l0 l1 x4 y2 x5 x6 (wrap64 (x0 + 1)))) = some (r1, r2) := by first | (rw [i2]; with_reducible exact H) | (have H2_ := (Option.bind_some _ _).symm.trans H; rw [i2]; with_reducible exact H2_) | (have H2_ := (Option.bind_some _ _).symm.trans H; with_reducible exact H2_) | with_reducible exact H | (rw [i2]; exact H) | exact H
       have Y0 := a_ i2
       clear i2
       obtain ⟨bq23, hbq23⟩ : ∃ b_ : Bool, b_ = (rdOf false y2 x0) := ⟨_, rfl⟩
       replace H : (if bq23 = true then (if (rd l1 x0) = 0 then (if x0 < (x5.length : Int) then (sleuthref12_byHalves.l1 k2 l0 l1 x4 y2 (x5.set (x0 : Int).toNat 1) (wrap64 (x6 + 1)) (wrap64 (x0 + 1))) else (none)) else (sleuthref12_byHalves.l1 k2 l0 l1 x4 y2 x5 x6 (wrap64 (x0 + 1)))) else (sleuthref12_byHalves.l1 k2 l0 l1 x4 y2 x5 x6 (wrap64 (x0 + 1)))) = some (r1, r2) := by rw [← hbq23] at H; exact H
       have Q3 := a_ hbq23
       clear hbq23
       by_cases c24 : bq23 = true
       case neg =>
        replace c24 := Bool.eq_false_iff.mpr c24
        subst c24
        rw [if_neg (show ¬ (false = true) by decide)] at H
        have H' := a_ H
        clear H
        have p371 : 0 ≤ (x0 : Int) := of_decide_eq_true hA_
        have q371 : x0 < (l0.length : Int) := of_decide_eq_true hA_
        obtain ⟨d3, A371_2, c371_2, e371, h0, h1, h2, h3, hl371_2, hi371_2⟩ := at_T57 HR0.out x0 p371 q371
        cases e371
        replace h0 := cl_ HB.out h0
        replace h1 := cl_ HB.out h1
        replace h2 := cl_ HB.out h2
        replace h3 := cl_ HB.out h3
        have HR371_2 := a_ hi371_2
        have HC371_2 := a_ hl371_2
        clear hi371_2 hl371_2
        replace p371 := eq_true p371
        replace q371 := eq_true q371
        have p372 : 0 ≤ (x0 : Int) := of_decide_eq_true hA_
        have q372 : x0 < (l1.length : Int) := of_decide_eq_true hA_
        obtain ⟨d4, e372, h9⟩ := Kd.at_int HR1.out x0 p372 q372
        obtain rfl : d0 = d4 := (by injection e372)
        replace h9 := cl_ HB.out h9
        replace p372 := eq_true p372
        replace q372 := eq_true q372
        have p22 : 0 ≤ (x0 : Int) := of_decide_eq_true hA_
        have q22 : (x0 : Int) < ((x2.length : Int) : Int) := of_decide_eq_true hA_
        obtain ⟨j0, o0, e0, g1, gl22, cl22, HG22⟩ := Kd.R_form O0.out (by omega)
        (first | cases e0 | (injection e0 with ea_ en_ ec_; (first | subst ea_ | (injection ea_ with ea_; subst ea_)); subst ec_; clear en_))
        have J0 := a_ g1
        have K0 := a_ HG22
        clear g1 gl22 HG22
        obtain ⟨h30, hf22_0⟩ := Kd.R_celln false O0.out (x0 : Int) p22 q22
        replace p22 := eq_true p22
        replace q22 := eq_true q22
        have HP34 := Kd.R_putg O0.out (x0 : Int) ((rd l1 x0) != 1)
        go_wp2_with (first | ((with_reducible refine gate_store (t := 4) (p := 74) rfl ?_); refine store_event (t := 4) (p := 74) (v := ?vo_w35) (w1 := (wr.setCell ⟨j0, (x0 : Int).toNat, none⟩ (.bool ((rd l1 x0) != 1)))) ?hg ?ho ?hn ?hr ?_; (case ho => rfl); (case hg => rfl); (case hn => rfl); (case hr => first | (go_simp; done) | (go_simp; rfl)); intro w4 hw; have hg : wr.grownBy w4 (some j0) := (by rw [hw]; exact HP34.2); have hp_ : Kd.R Kd.bool 4 w4 w.heap.size (fun _ => True) (.slice (some ⟨j0, 0, none⟩) x2.length o0) y2 := (by rw [hw, Y0.out]; exact HP34.1); clear HP34; replace O1 := a_ (Kd.R_over' (v := (.slice (some ⟨j0, 0, none⟩) x2.length o0)) (hR_ O1.out) (Kd.R_typed O0.out) (by decide) hg); replace B0 := a_ (blk_grown (hK_ B0.out) hg (Kd.R_ne O0.out B0.out (by decide))); replace O0 := a_ (hp_); replace HB := a_ ((by rw [hw]; exact below_set (HB.out) J0.out : Below w.heap.size w w4)); clear hg hw hp_; have p374 : 0 ≤ (x0 : Int) := of_decide_eq_true hA_; have q374 : x0 < (y2.length : Int) := (by have h_ : (x0 : Int) < ((x2.length : Int) : Int) := of_decide_eq_true hA_; first | (have e_ := (Kd.R_reads' O0.out).1; omega) | simpa only [Y0.out, List.length_set] using h_); have l4 : ((x0 : Int) < ((x2.length : Int) : Int)) = True := eq_true (of_decide_eq_true hA_); obtain ⟨d5, e374, h7⟩ := Kd.at_bool (Kd.R_reads' O0.out).2.2 x0 p374 q374; (try rw [← Q3.out] at h7); obtain rfl : (⟨j0, 0, none⟩ : Addr) = d5 := (by injection e374); (first | simp only [add_plain] at h7 | simp only [add_at] at h7 | simp only [Addr.add, Nat.zero_add] at h7 | skip); replace p374 := eq_true p374; replace q374 := eq_true q374))
        go_roundg k2
        case measure => have := HK1.out; have := HK2.out; omega
        case rel => exact ⟨(y2), (x5), (x6), (wrap64 (x0 + 1)), hW_, hW_, H', ⟨by have := HK1.out; have := HK2.out; omega⟩, ⟨hR_ O0.out⟩, ⟨hR_ O1.out⟩, ⟨(hK_ B0.out)⟩, ⟨hC_⟩⟩
       subst c24
       rw [if_pos rfl] at H
       by_cases c25 : (rd l1 x0) = 0
       case neg =>
        rw [if_neg c25] at H
        have c25b0 : ((rd l1 x0) == 0) = false := beq_eq_false_iff_ne.mpr c25
        have c25b1 : ((rd l1 x0) != 0) = true := bne_iff_ne.mpr c25
        have H' := a_ H
        clear H
        have p371 : 0 ≤ (x0 : Int) := of_decide_eq_true hA_
        have q371 : x0 < (l0.length : Int) := of_decide_eq_true hA_
        obtain ⟨d3, A371_2, c371_2, e371, h0, h1, h2, h3, hl371_2, hi371_2⟩ := at_T57 HR0.out x0 p371 q371
        cases e371
        replace h0 := cl_ HB.out h0
        replace h1 := cl_ HB.out h1
        replace h2 := cl_ HB.out h2
        replace h3 := cl_ HB.out h3
        have HR371_2 := a_ hi371_2
        have HC371_2 := a_ hl371_2
        clear hi371_2 hl371_2
        replace p371 := eq_true p371
        replace q371 := eq_true q371
        have p372 : 0 ≤ (x0 : Int) := of_decide_eq_true hA_
        have q372 : x0 < (l1.length : Int) := of_decide_eq_true hA_
        obtain ⟨d4, e372, h9⟩ := Kd.at_int HR1.out x0 p372 q372
        obtain rfl : d0 = d4 := (by injection e372)
        replace h9 := cl_ HB.out h9
        replace p372 := eq_true p372
        replace q372 := eq_true q372
        have p22 : 0 ≤ (x0 : Int) := of_decide_eq_true hA_
        have q22 : (x0 : Int) < ((x2.length : Int) : Int) := of_decide_eq_true hA_
        obtain ⟨j0, o0, e0, g1, gl22, cl22, HG22⟩ := Kd.R_form O0.out (by omega)
        (first | cases e0 | (injection e0 with ea_ en_ ec_; (first | subst ea_ | (injection ea_ with ea_; subst ea_)); subst ec_; clear en_))
        have J0 := a_ g1
        have K0 := a_ HG22
        clear g1 gl22 HG22
        obtain ⟨h30, hf22_0⟩ := Kd.R_celln false O0.out (x0 : Int) p22 q22
        replace p22 := eq_true p22
        replace q22 := eq_true q22
        have HP32 := Kd.R_putg O0.out (x0 : Int) ((rd l1 x0) != 1)
        go_wp2_with (first | ((with_reducible refine gate_store (t := 4) (p := 74) rfl ?_); refine store_event (t := 4) (p := 74) (v := ?vo_w33) (w1 := (wr.setCell ⟨j0, (x0 : Int).toNat, none⟩ (.bool ((rd l1 x0) != 1)))) ?hg ?ho ?hn ?hr ?_; (case ho => rfl); (case hg => rfl); (case hn => rfl); (case hr => first | (go_simp; done) | (go_simp; rfl)); intro w6 hw; have hg : wr.grownBy w6 (some j0) := (by rw [hw]; exact HP32.2); have hp_ : Kd.R Kd.bool 4 w6 w.heap.size (fun _ => True) (.slice (some ⟨j0, 0, none⟩) x2.length o0) y2 := (by rw [hw, Y0.out]; exact HP32.1); clear HP32; replace O1 := a_ (Kd.R_over' (v := (.slice (some ⟨j0, 0, none⟩) x2.length o0)) (hR_ O1.out) (Kd.R_typed O0.out) (by decide) hg); replace B0 := a_ (blk_grown (hK_ B0.out) hg (Kd.R_ne O0.out B0.out (by decide))); replace O0 := a_ (hp_); replace HB := a_ ((by rw [hw]; exact below_set (HB.out) J0.out : Below w.heap.size w w6)); clear hg hw hp_; have p374 : 0 ≤ (x0 : Int) := of_decide_eq_true hA_; have q374 : x0 < (y2.length : Int) := (by have h_ : (x0 : Int) < ((x2.length : Int) : Int) := of_decide_eq_true hA_; first | (have e_ := (Kd.R_reads' O0.out).1; omega) | simpa only [Y0.out, List.length_set] using h_); have l4 : ((x0 : Int) < ((x2.length : Int) : Int)) = True := eq_true (of_decide_eq_true hA_); obtain ⟨d5, e374, h7⟩ := Kd.at_bool (Kd.R_reads' O0.out).2.2 x0 p374 q374; (try rw [← Q3.out] at h7); obtain rfl : (⟨j0, 0, none⟩ : Addr) = d5 := (by injection e374); (first | simp only [add_plain] at h7 | simp only [add_at] at h7 | simp only [Addr.add, Nat.zero_add] at h7 | skip); replace p374 := eq_true p374; replace q374 := eq_true q374; have p375 : 0 ≤ (x0 : Int) := of_decide_eq_true hA_; have q375 : x0 < (l1.length : Int) := of_decide_eq_true hA_; obtain ⟨d12, e375, h12⟩ := Kd.at_int HR1.out x0 p375 q375; obtain rfl : d0 = d12 := (by injection e375); replace h12 := cl_ HB.out h12; replace p375 := eq_true p375; replace q375 := eq_true q375))
        go_roundg k2
        case measure => have := HK1.out; have := HK2.out; omega
        case rel => exact ⟨(y2), (x5), (x6), (wrap64 (x0 + 1)), hW_, hW_, H', ⟨by have := HK1.out; have := HK2.out; omega⟩, ⟨hR_ O0.out⟩, ⟨hR_ O1.out⟩, ⟨(hK_ B0.out)⟩, ⟨hC_⟩⟩
       rw [if_pos c25] at H
       have c25b0 : ((rd l1 x0) == 0) = true := beq_iff_eq.mpr c25
       have c25b1 : ((rd l1 x0) != 0) = false := bne_eq_false_iff_eq.mpr c25
       clear c25
       replace H := ifI_ H; obtain ⟨c26, H⟩ := H
       have c26b0 : decide (x0 < (x5.length : Int)) = true := decide_eq_true c26
       clear c26
       obtain ⟨y4, i3⟩ : ∃ y_ : List Int, y_ = (x5.set (x0 : Int).toNat 1) := ⟨_, rfl⟩
       replace H : (sleuthref12_byHalves.l1 k2 l0 l1 x4 y2 y4 (wrap64 (x6 + 1)) (wrap64 (x0 + 1))) = some (r1, r2) := by first | (rw [i3]; with_reducible exact H) | (have H2_ := (Option.bind_some _ _).symm.trans H; rw [i3]; with_reducible exact H2_) | (have H2_ := (Option.bind_some _ _).symm.trans H; with_reducible exact H2_) | with_reducible exact H | (rw [i3]; exact H) | exact H
       have Y5 := a_ i3
       clear i3
       have H' := a_ H
       clear H
       have p371 : 0 ≤ (x0 : Int) := of_decide_eq_true hA_
       have q371 : x0 < (l0.length : Int) := of_decide_eq_true hA_
       obtain ⟨d3, A371_2, c371_2, e371, h0, h1, h2, h3, hl371_2, hi371_2⟩ := at_T57 HR0.out x0 p371 q371
       cases e371
       replace h0 := cl_ HB.out h0
       replace h1 := cl_ HB.out h1
       replace h2 := cl_ HB.out h2
       replace h3 := cl_ HB.out h3
       have HR371_2 := a_ hi371_2
       have HC371_2 := a_ hl371_2
       clear hi371_2 hl371_2
       replace p371 := eq_true p371
       replace q371 := eq_true q371
       have p372 : 0 ≤ (x0 : Int) := of_decide_eq_true hA_
       have q372 : x0 < (l1.length : Int) := of_decide_eq_true hA_
       obtain ⟨d4, e372, h9⟩ := Kd.at_int HR1.out x0 p372 q372
       obtain rfl : d0 = d4 := (by injection e372)
       replace h9 := cl_ HB.out h9
       replace p372 := eq_true p372
       replace q372 := eq_true q372
       have p22 : 0 ≤ (x0 : Int) := of_decide_eq_true hA_
       have q22 : (x0 : Int) < ((x2.length : Int) : Int) := of_decide_eq_true hA_
       obtain ⟨j0, o0, e0, g1, gl22, cl22, HG22⟩ := Kd.R_form O0.out (by omega)
       (first | cases e0 | (injection e0 with ea_ en_ ec_; (first | subst ea_ | (injection ea_ with ea_; subst ea_)); subst ec_; clear en_))
       have J0 := a_ g1
       have K0 := a_ HG22
       clear g1 gl22 HG22
       obtain ⟨h30, hf22_0⟩ := Kd.R_celln false O0.out (x0 : Int) p22 q22
       replace p22 := eq_true p22
       replace q22 := eq_true q22
       have HP28 := Kd.R_putg O0.out (x0 : Int) ((rd l1 x0) != 1)
       go_wp2_with (first | ((with_reducible refine gate_store (t := 4) (p := 74) rfl ?_); refine store_event (t := 4) (p := 74) (v := ?vo_w29) (w1 := (wr.setCell ⟨j0, (x0 : Int).toNat, none⟩ (.bool ((rd l1 x0) != 1)))) ?hg ?ho ?hn ?hr ?_; (case ho => rfl); (case hg => rfl); (case hn => rfl); (case hr => first | (go_simp; done) | (go_simp; rfl)); intro w0 hw; have hg : wr.grownBy w0 (some j0) := (by rw [hw]; exact HP28.2); have hp_ : Kd.R Kd.bool 4 w0 w.heap.size (fun _ => True) (.slice (some ⟨j0, 0, none⟩) x2.length o0) y2 := (by rw [hw, Y0.out]; exact HP28.1); clear HP28; replace O1 := a_ (Kd.R_over' (v := (.slice (some ⟨j0, 0, none⟩) x2.length o0)) (hR_ O1.out) (Kd.R_typed O0.out) (by decide) hg); replace B0 := a_ (blk_grown (hK_ B0.out) hg (Kd.R_ne O0.out B0.out (by decide))); replace O0 := a_ (hp_); replace HB := a_ ((by rw [hw]; exact below_set (HB.out) J0.out : Below w.heap.size w w0)); clear hg hw hp_; have p374 : 0 ≤ (x0 : Int) := of_decide_eq_true hA_; have q374 : x0 < (y2.length : Int) := (by have h_ : (x0 : Int) < ((x2.length : Int) : Int) := of_decide_eq_true hA_; first | (have e_ := (Kd.R_reads' O0.out).1; omega) | simpa only [Y0.out, List.length_set] using h_); have l4 : ((x0 : Int) < ((x2.length : Int) : Int)) = True := eq_true (of_decide_eq_true hA_); obtain ⟨d5, e374, h7⟩ := Kd.at_bool (Kd.R_reads' O0.out).2.2 x0 p374 q374; (try rw [← Q3.out] at h7); obtain rfl : (⟨j0, 0, none⟩ : Addr) = d5 := (by injection e374); (first | simp only [add_plain] at h7 | simp only [add_at] at h7 | simp only [Addr.add, Nat.zero_add] at h7 | skip); replace p374 := eq_true p374; replace q374 := eq_true q374; have p375 : 0 ≤ (x0 : Int) := of_decide_eq_true hA_; have q375 : x0 < (l1.length : Int) := of_decide_eq_true hA_; obtain ⟨d12, e375, h12⟩ := Kd.at_int HR1.out x0 p375 q375; obtain rfl : d0 = d12 := (by injection e375); replace h12 := cl_ HB.out h12; replace p375 := eq_true p375; replace q375 := eq_true q375; have p27 : 0 ≤ (x0 : Int) := of_decide_eq_true hA_; have q27 : (x0 : Int) < ((x5.length : Int) : Int) := of_decide_eq_true hA_; obtain ⟨j3, o1, e3, g4, gl27, cl27, HG27⟩ := Kd.R_form O1.out (by omega); (first | cases e3 | (injection e3 with ea_ en_ ec_; (first | subst ea_ | (injection ea_ with ea_; subst ea_)); subst ec_; clear en_)); have J3 := a_ g4; have K4 := a_ HG27; clear g4 gl27 HG27; obtain ⟨h37, hf27_0⟩ := Kd.R_celln 0 O1.out (x0 : Int) p27 q27; replace p27 := eq_true p27; replace q27 := eq_true q27; obtain ⟨hy30_, hz30_⟩ := Kd.R_celln 0 O1.out (x0 : Int) (of_decide_eq_true hA_) (of_decide_eq_true hA_); have HP30 := Kd.R_putg O1.out (x0 : Int) 1) | ((with_reducible refine gate_store (t := 3) (p := 88) rfl ?_); refine store_event (t := 3) (p := 88) (v := ?vo_w31) (w1 := (w0.setCell ⟨j3, (x0 : Int).toNat, none⟩ (.int .i64 1))) ?hg ?ho ?hn ?hr ?_; (case ho => rfl); (case hg => rfl); (case hn => rfl); (case hr => first | (go_simp; done) | (go_simp; rfl)); intro w7 hw; have hg : w0.grownBy w7 (some j3) := (by rw [hw]; exact HP30.2); have hp_ : Kd.R (Kd.int .i64) 3 w7 w.heap.size (fun _ => True) (.slice (some ⟨j3, 0, none⟩) x5.length o1) y4 := (by rw [hw, Y5.out]; exact HP30.1); clear HP30; replace O0 := a_ (Kd.R_over' (v := (.slice (some ⟨j3, 0, none⟩) x5.length o1)) (hR_ O0.out) (Kd.R_typed O1.out) (by decide) hg); replace B0 := a_ (blk_grown (hK_ B0.out) hg (Kd.R_ne O1.out B0.out (by decide))); replace O1 := a_ (hp_); replace HB := a_ ((by rw [hw]; exact below_set (HB.out) J3.out : Below w.heap.size w w7)); clear hg hw hp_))
       go_roundg k2
       case measure => have := HK1.out; have := HK2.out; omega
       case rel => exact ⟨(y2), (y4), (wrap64 (x6 + 1)), (wrap64 (x0 + 1)), hW_, hW_, H', ⟨by have := HK1.out; have := HK2.out; omega⟩, ⟨hR_ O0.out⟩, ⟨hR_ O1.out⟩, ⟨(hK_ B0.out)⟩, ⟨hC_⟩⟩
      rw [if_neg c19] at H
      have c19b0 : (((rd_T57 l0 x0).f1) == x4) = false := beq_eq_false_iff_ne.mpr c19
      have c19b1 : (((rd_T57 l0 x0).f1) != x4) = true := bne_iff_ne.mpr c19
      replace H := ifI_ H; obtain ⟨c36, H⟩ := H
      have c36b0 : decide (0 ≤ ((rd_T57 l0 x0).f1)) = true := decide_eq_true c36
      clear c36
      replace H := ifI_ H; obtain ⟨c37, H⟩ := H
      have c37b0 : decide (((rd_T57 l0 x0).f1) < (x2.length : Int)) = true := decide_eq_true c37
      clear c37
      obtain ⟨bq38, hbq38⟩ : ∃ b_ : Bool, b_ = (rdOf false x2 ((rd_T57 l0 x0).f1)) := ⟨_, rfl⟩
      replace H : (if bq38 = true then (if x0 < (l1.length : Int) then (if x0 < (x2.length : Int) then ((some (x2.set (x0 : Int).toNat ((rd l1 x0) != 1) : List Bool)).bind fun y0 => (if rdOf false y0 x0 = true then (if (rd l1 x0) = 0 then (if x0 < (x5.length : Int) then (sleuthref12_byHalves.l1 k2 l0 l1 x4 y0 (x5.set (x0 : Int).toNat 1) (wrap64 (x6 + 1)) (wrap64 (x0 + 1))) else (none)) else (sleuthref12_byHalves.l1 k2 l0 l1 x4 y0 x5 x6 (wrap64 (x0 + 1)))) else (sleuthref12_byHalves.l1 k2 l0 l1 x4 y0 x5 x6 (wrap64 (x0 + 1))))) else (none)) else (none)) else (if x0 < (x2.length : Int) then ((some (x2.set (x0 : Int).toNat false : List Bool)).bind fun y1 => (if rdOf false y1 x0 = true then (if x0 < (l1.length : Int) then (if (rd l1 x0) = 0 then (if x0 < (x5.length : Int) then (sleuthref12_byHalves.l1 k2 l0 l1 x4 y1 (x5.set (x0 : Int).toNat 1) (wrap64 (x6 + 1)) (wrap64 (x0 + 1))) else (none)) else (sleuthref12_byHalves.l1 k2 l0 l1 x4 y1 x5 x6 (wrap64 (x0 + 1)))) else (none)) else (sleuthref12_byHalves.l1 k2 l0 l1 x4 y1 x5 x6 (wrap64 (x0 + 1))))) else (none))) = some (r1, r2) := by rw [← hbq38] at H; exact H
      have Q0 := a_ hbq38
      clear hbq38
      by_cases c39 : bq38 = true
      case neg =>
       replace c39 := Bool.eq_false_iff.mpr c39
       subst c39
       rw [if_neg (show ¬ (false = true) by decide)] at H
       replace H := ifI_ H; obtain ⟨c59, H⟩ := H
       have c59b0 : decide (x0 < (x2.length : Int)) = true := decide_eq_true c59
       clear c59
       obtain ⟨y1, i4⟩ : ∃ y_ : List Bool, y_ = (x2.set (x0 : Int).toNat false) := ⟨_, rfl⟩
       replace H : (if rdOf false y1 x0 = true then (if x0 < (l1.length : Int) then (if (rd l1 x0) = 0 then (if x0 < (x5.length : Int) then (sleuthref12_byHalves.l1 k2 l0 l1 x4 y1 (x5.set (x0 : Int).toNat 1) (wrap64 (x6 + 1)) (wrap64 (x0 + 1))) else (none)) else (sleuthref12_byHalves.l1 k2 l0 l1 x4 y1 x5 x6 (wrap64 (x0 + 1)))) else (none)) else (sleuthref12_byHalves.l1 k2 l0 l1 x4 y1 x5 x6 (wrap64 (x0 + 1)))) = some (r1, r2) := by first | (rw [i4]; with_reducible exact H) | (have H2_ := (Option.bind_some _ _).symm.trans H; rw [i4]; with_reducible exact H2_) | (have H2_ := (Option.bind_some _ _).symm.trans H; with_reducible exact H2_) | with_reducible exact H | (rw [i4]; exact H) | exact H
       have Y1 := a_ i4
       clear i4
       obtain ⟨bq61, hbq61⟩ : ∃ b_ : Bool, b_ = (rdOf false y1 x0) := ⟨_, rfl⟩
       replace H : (if bq61 = true then (if x0 < (l1.length : Int) then (if (rd l1 x0) = 0 then (if x0 < (x5.length : Int) then (sleuthref12_byHalves.l1 k2 l0 l1 x4 y1 (x5.set (x0 : Int).toNat 1) (wrap64 (x6 + 1)) (wrap64 (x0 + 1))) else (none)) else (sleuthref12_byHalves.l1 k2 l0 l1 x4 y1 x5 x6 (wrap64 (x0 + 1)))) else (none)) else (sleuthref12_byHalves.l1 k2 l0 l1 x4 y1 x5 x6 (wrap64 (x0 + 1)))) = some (r1, r2) := by rw [← hbq61] at H; exact H
       have Q1 := a_ hbq61
       clear hbq61
       by_cases c62 : bq61 = true
       case neg =>
        replace c62 := Bool.eq_false_iff.mpr c62
        subst c62
        rw [if_neg (show ¬ (false = true) by decide)] at H
        have H' := a_ H
        clear H
        have p371 : 0 ≤ (x0 : Int) := of_decide_eq_true hA_
        have q371 : x0 < (l0.length : Int) := of_decide_eq_true hA_
        obtain ⟨d3, A371_2, c371_2, e371, h0, h1, h2, h3, hl371_2, hi371_2⟩ := at_T57 HR0.out x0 p371 q371
        cases e371
        replace h0 := cl_ HB.out h0
        replace h1 := cl_ HB.out h1
        replace h2 := cl_ HB.out h2
        replace h3 := cl_ HB.out h3
        have HR371_2 := a_ hi371_2
        have HC371_2 := a_ hl371_2
        clear hi371_2 hl371_2
        replace p371 := eq_true p371
        replace q371 := eq_true q371
        obtain ⟨a0, o2, e11⟩ := Kd.R_slice O0.out
        subst e11
        have p377 : 0 ≤ (((rd_T57 l0 x0).f1) : Int) := of_decide_eq_true hA_
        have q377 : ((rd_T57 l0 x0).f1) < (x2.length : Int) := of_decide_eq_true hA_
        obtain ⟨d6, e377, h4⟩ := Kd.at_bool (Kd.R_reads' O0.out).2.2 ((rd_T57 l0 x0).f1) p377 q377
        (try rw [← Q0.out] at h4)
        (try rw [← Q1.out] at h4)
        cases e377
        replace p377 := eq_true p377
        replace q377 := eq_true q377
        have p60 : 0 ≤ (x0 : Int) := of_decide_eq_true hA_
        have q60 : (x0 : Int) < ((x2.length : Int) : Int) := of_decide_eq_true hA_
        obtain ⟨j1, o3, e1, g2, gl60, cl60, HG60⟩ := Kd.R_form O0.out (by omega)
        (first | cases e1 | (injection e1 with ea_ en_ ec_; (first | subst ea_ | (injection ea_ with ea_; subst ea_)); subst ec_; clear en_))
        have J1 := a_ g2
        have K1 := a_ HG60
        clear g2 gl60 HG60
        (first | simp only [add_plain] at h4 | skip)
        obtain ⟨h31, hf60_0⟩ := Kd.R_celln false O0.out (x0 : Int) p60 q60
        replace p60 := eq_true p60
        replace q60 := eq_true q60
        have HP76 := Kd.R_putg O0.out (x0 : Int) false
        go_wp2_with (first | ((with_reducible refine gate_store (t := 4) (p := 74) rfl ?_); refine store_event (t := 4) (p := 74) (v := ?vo_w77) (w1 := (wr.setCell ⟨j1, (x0 : Int).toNat, none⟩ (.bool false))) ?hg ?ho ?hn ?hr ?_; (case ho => rfl); (case hg => rfl); (case hn => rfl); (case hr => first | (go_simp; done) | (go_simp; rfl)); intro w8 hw; have hg : wr.grownBy w8 (some j1) := (by rw [hw]; exact HP76.2); have hp_ : Kd.R Kd.bool 4 w8 w.heap.size (fun _ => True) (.slice (some ⟨j1, 0, none⟩) x2.length o2) y1 := (by rw [hw, Y1.out]; exact HP76.1); clear HP76; replace O1 := a_ (Kd.R_over' (v := (.slice (some ⟨j1, 0, none⟩) x2.length o2)) (hR_ O1.out) (Kd.R_typed O0.out) (by decide) hg); replace B0 := a_ (blk_grown (hK_ B0.out) hg (Kd.R_ne O0.out B0.out (by decide))); replace O0 := a_ (hp_); replace HB := a_ ((by rw [hw]; exact below_set (HB.out) J1.out : Below w.heap.size w w8)); clear hg hw hp_; have p384 : 0 ≤ (x0 : Int) := of_decide_eq_true hA_; have q384 : x0 < (y1.length : Int) := (by have h_ : (x0 : Int) < ((x2.length : Int) : Int) := of_decide_eq_true hA_; first | (have e_ := (Kd.R_reads' O0.out).1; omega) | simpa only [Y1.out, List.length_set] using h_); have l5 : ((x0 : Int) < ((x2.length : Int) : Int)) = True := eq_true (of_decide_eq_true hA_); obtain ⟨d7, e384, h5⟩ := Kd.at_bool (Kd.R_reads' O0.out).2.2 x0 p384 q384; (try rw [← Q0.out] at h5); (try rw [← Q1.out] at h5); obtain rfl : (⟨j1, 0, none⟩ : Addr) = d7 := (by injection e384); (first | simp only [add_plain] at h5 | simp only [add_at] at h5 | simp only [Addr.add, Nat.zero_add] at h5 | skip); replace p384 := eq_true p384; replace q384 := eq_true q384))
        go_roundg k2
        case measure => have := HK1.out; have := HK2.out; omega
        case rel => exact ⟨(y1), (x5), (x6), (wrap64 (x0 + 1)), hW_, hW_, H', ⟨by have := HK1.out; have := HK2.out; omega⟩, ⟨hR_ O0.out⟩, ⟨hR_ O1.out⟩, ⟨(hK_ B0.out)⟩, ⟨hC_⟩⟩
       subst c62
       rw [if_pos rfl] at H
       replace H := ifI_ H; obtain ⟨c63, H⟩ := H
       have c63b0 : decide (x0 < (l1.length : Int)) = true := decide_eq_true c63
       clear c63
       by_cases c64 : (rd l1 x0) = 0
       case neg =>
        rw [if_neg c64] at H
        have c64b0 : ((rd l1 x0) == 0) = false := beq_eq_false_iff_ne.mpr c64
        have c64b1 : ((rd l1 x0) != 0) = true := bne_iff_ne.mpr c64
        have H' := a_ H
        clear H
        have p371 : 0 ≤ (x0 : Int) := of_decide_eq_true hA_
        have q371 : x0 < (l0.length : Int) := of_decide_eq_true hA_
        obtain ⟨d3, A371_2, c371_2, e371, h0, h1, h2, h3, hl371_2, hi371_2⟩ := at_T57 HR0.out x0 p371 q371
        cases e371
        replace h0 := cl_ HB.out h0
        replace h1 := cl_ HB.out h1
        replace h2 := cl_ HB.out h2
        replace h3 := cl_ HB.out h3
        have HR371_2 := a_ hi371_2
        have HC371_2 := a_ hl371_2
        clear hi371_2 hl371_2
        replace p371 := eq_true p371
        replace q371 := eq_true q371
        obtain ⟨a1, o4, e12⟩ := Kd.R_slice O0.out
        subst e12
        have p377 : 0 ≤ (((rd_T57 l0 x0).f1) : Int) := of_decide_eq_true hA_
        have q377 : ((rd_T57 l0 x0).f1) < (x2.length : Int) := of_decide_eq_true hA_
        obtain ⟨d6, e377, h4⟩ := Kd.at_bool (Kd.R_reads' O0.out).2.2 ((rd_T57 l0 x0).f1) p377 q377
        (try rw [← Q0.out] at h4)
        (try rw [← Q1.out] at h4)
        cases e377
        replace p377 := eq_true p377
        replace q377 := eq_true q377
        have p60 : 0 ≤ (x0 : Int) := of_decide_eq_true hA_
        have q60 : (x0 : Int) < ((x2.length : Int) : Int) := of_decide_eq_true hA_
        obtain ⟨j1, o3, e1, g2, gl60, cl60, HG60⟩ := Kd.R_form O0.out (by omega)
        (first | cases e1 | (injection e1 with ea_ en_ ec_; (first | subst ea_ | (injection ea_ with ea_; subst ea_)); subst ec_; clear en_))
        have J1 := a_ g2
        have K1 := a_ HG60
        clear g2 gl60 HG60
        (first | simp only [add_plain] at h4 | skip)
        obtain ⟨h31, hf60_0⟩ := Kd.R_celln false O0.out (x0 : Int) p60 q60
        replace p60 := eq_true p60
        replace q60 := eq_true q60
        have HP73 := Kd.R_putg O0.out (x0 : Int) false
        go_wp2_with (first | ((with_reducible refine gate_store (t := 4) (p := 74) rfl ?_); refine store_event (t := 4) (p := 74) (v := ?vo_w74) (w1 := (wr.setCell ⟨j1, (x0 : Int).toNat, none⟩ (.bool false))) ?hg ?ho ?hn ?hr ?_; (case ho => rfl); (case hg => rfl); (case hn => rfl); (case hr => first | (go_simp; done) | (go_simp; rfl)); intro w9 hw; have hg : wr.grownBy w9 (some j1) := (by rw [hw]; exact HP73.2); have hp_ : Kd.R Kd.bool 4 w9 w.heap.size (fun _ => True) (.slice (some ⟨j1, 0, none⟩) x2.length o4) y1 := (by rw [hw, Y1.out]; exact HP73.1); clear HP73; replace O1 := a_ (Kd.R_over' (v := (.slice (some ⟨j1, 0, none⟩) x2.length o4)) (hR_ O1.out) (Kd.R_typed O0.out) (by decide) hg); replace B0 := a_ (blk_grown (hK_ B0.out) hg (Kd.R_ne O0.out B0.out (by decide))); replace O0 := a_ (hp_); replace HB := a_ ((by rw [hw]; exact below_set (HB.out) J1.out : Below w.heap.size w w9)); clear hg hw hp_; have p384 : 0 ≤ (x0 : Int) := of_decide_eq_true hA_; have q384 : x0 < (y1.length : Int) := (by have h_ : (x0 : Int) < ((x2.length : Int) : Int) := of_decide_eq_true hA_; first | (have e_ := (Kd.R_reads' O0.out).1; omega) | simpa only [Y1.out, List.length_set] using h_); have l5 : ((x0 : Int) < ((x2.length : Int) : Int)) = True := eq_true (of_decide_eq_true hA_); obtain ⟨d7, e384, h5⟩ := Kd.at_bool (Kd.R_reads' O0.out).2.2 x0 p384 q384; (try rw [← Q0.out] at h5); (try rw [← Q1.out] at h5); obtain rfl : (⟨j1, 0, none⟩ : Addr) = d7 := (by injection e384); (first | simp only [add_plain] at h5 | simp only [add_at] at h5 | simp only [Addr.add, Nat.zero_add] at h5 | skip); replace p384 := eq_true p384; replace q384 := eq_true q384; have p385 : 0 ≤ (x0 : Int) := of_decide_eq_true hA_; have q385 : x0 < (l1.length : Int) := of_decide_eq_true hA_; obtain ⟨d13, e385, h13⟩ := Kd.at_int HR1.out x0 p385 q385; obtain rfl : d0 = d13 := (by injection e385); replace h13 := cl_ HB.out h13; replace p385 := eq_true p385; replace q385 := eq_true q385))
        go_roundg k2
        case measure => have := HK1.out; have := HK2.out; omega
        case rel => exact ⟨(y1), (x5), (x6), (wrap64 (x0 + 1)), hW_, hW_, H', ⟨by have := HK1.out; have := HK2.out; omega⟩, ⟨hR_ O0.out⟩, ⟨hR_ O1.out⟩, ⟨(hK_ B0.out)⟩, ⟨hC_⟩⟩
       rw [if_pos c64] at H
       have c64b0 : ((rd l1 x0) == 0) = true := beq_iff_eq.mpr c64
       have c64b1 : ((rd l1 x0) != 0) = false := bne_eq_false_iff_eq.mpr c64
       clear c64
       replace H := ifI_ H; obtain ⟨c65, H⟩ := H
       have c65b0 : decide (x0 < (x5.length : Int)) = true := decide_eq_true c65
       clear c65
       obtain ⟨y5, i5⟩ : ∃ y_ : List Int, y_ = (x5.set (x0 : Int).toNat 1) := ⟨_, rfl⟩
       replace H : (sleuthref12_byHalves.l1 k2 l0 l1 x4 y1 y5 (wrap64 (x6 + 1)) (wrap64 (x0 + 1))) = some (r1, r2) := by first | (rw [i5]; with_reducible exact H) | (have H2_ := (Option.bind_some _ _).symm.trans H; rw [i5]; with_reducible exact H2_) | (have H2_ := (Option.bind_some _ _).symm.trans H; with_reducible exact H2_) | with_reducible exact H | (rw [i5]; exact H) | exact H
       have Y6 := a_ i5
       clear i5
       have H' := a_ H
       clear H
       have p371 : 0 ≤ (x0 : Int) := of_decide_eq_true hA_
       have q371 : x0 < (l0.length : Int) := of_decide_eq_true hA_
       obtain ⟨d3, A371_2, c371_2, e371, h0, h1, h2, h3, hl371_2, hi371_2⟩ := at_T57 HR0.out x0 p371 q371
       cases e371
       replace h0 := cl_ HB.out h0
       replace h1 := cl_ HB.out h1
       replace h2 := cl_ HB.out h2
       replace h3 := cl_ HB.out h3
       have HR371_2 := a_ hi371_2
       have HC371_2 := a_ hl371_2
       clear hi371_2 hl371_2
       replace p371 := eq_true p371
       replace q371 := eq_true q371
       obtain ⟨a2, o5, e13⟩ := Kd.R_slice O0.out
       subst e13
       have p377 : 0 ≤ (((rd_T57 l0 x0).f1) : Int) := of_decide_eq_true hA_
       have q377 : ((rd_T57 l0 x0).f1) < (x2.length : Int) := of_decide_eq_true hA_
       obtain ⟨d6, e377, h4⟩ := Kd.at_bool (Kd.R_reads' O0.out).2.2 ((rd_T57 l0 x0).f1) p377 q377
       (try rw [← Q0.out] at h4)
       (try rw [← Q1.out] at h4)
       cases e377
       replace p377 := eq_true p377
       replace q377 := eq_true q377
       have p60 : 0 ≤ (x0 : Int) := of_decide_eq_true hA_
       have q60 : (x0 : Int) < ((x2.length : Int) : Int) := of_decide_eq_true hA_
       obtain ⟨j1, o3, e1, g2, gl60, cl60, HG60⟩ := Kd.R_form O0.out (by omega)
       (first | cases e1 | (injection e1 with ea_ en_ ec_; (first | subst ea_ | (injection ea_ with ea_; subst ea_)); subst ec_; clear en_))
       have J1 := a_ g2
       have K1 := a_ HG60
       clear g2 gl60 HG60
       (first | simp only [add_plain] at h4 | skip)
       obtain ⟨h31, hf60_0⟩ := Kd.R_celln false O0.out (x0 : Int) p60 q60
       replace p60 := eq_true p60
       replace q60 := eq_true q60
       have HP68 := Kd.R_putg O0.out (x0 : Int) false
       go_wp2_with (first | ((with_reducible refine gate_store (t := 4) (p := 74) rfl ?_); refine store_event (t := 4) (p := 74) (v := ?vo_w69) (w1 := (wr.setCell ⟨j1, (x0 : Int).toNat, none⟩ (.bool false))) ?hg ?ho ?hn ?hr ?_; (case ho => rfl); (case hg => rfl); (case hn => rfl); (case hr => first | (go_simp; done) | (go_simp; rfl)); intro w2 hw; have hg : wr.grownBy w2 (some j1) := (by rw [hw]; exact HP68.2); have hp_ : Kd.R Kd.bool 4 w2 w.heap.size (fun _ => True) (.slice (some ⟨j1, 0, none⟩) x2.length o5) y1 := (by rw [hw, Y1.out]; exact HP68.1); clear HP68; replace O1 := a_ (Kd.R_over' (v := (.slice (some ⟨j1, 0, none⟩) x2.length o5)) (hR_ O1.out) (Kd.R_typed O0.out) (by decide) hg); replace B0 := a_ (blk_grown (hK_ B0.out) hg (Kd.R_ne O0.out B0.out (by decide))); replace O0 := a_ (hp_); replace HB := a_ ((by rw [hw]; exact below_set (HB.out) J1.out : Below w.heap.size w w2)); clear hg hw hp_; have p384 : 0 ≤ (x0 : Int) := of_decide_eq_true hA_; have q384 : x0 < (y1.length : Int) := (by have h_ : (x0 : Int) < ((x2.length : Int) : Int) := of_decide_eq_true hA_; first | (have e_ := (Kd.R_reads' O0.out).1; omega) | simpa only [Y1.out, List.length_set] using h_); have l5 : ((x0 : Int) < ((x2.length : Int) : Int)) = True := eq_true (of_decide_eq_true hA_); obtain ⟨d7, e384, h5⟩ := Kd.at_bool (Kd.R_reads' O0.out).2.2 x0 p384 q384; (try rw [← Q0.out] at h5); (try rw [← Q1.out] at h5); obtain rfl : (⟨j1, 0, none⟩ : Addr) = d7 := (by injection e384); (first | simp only [add_plain] at h5 | simp only [add_at] at h5 | simp only [Addr.add, Nat.zero_add] at h5 | skip); replace p384 := eq_true p384; replace q384 := eq_true q384; have p385 : 0 ≤ (x0 : Int) := of_decide_eq_true hA_; have q385 : x0 < (l1.length : Int) := of_decide_eq_true hA_; obtain ⟨d13, e385, h13⟩ := Kd.at_int HR1.out x0 p385 q385; obtain rfl : d0 = d13 := (by injection e385); replace h13 := cl_ HB.out h13; replace p385 := eq_true p385; replace q385 := eq_true q385; have p66 : 0 ≤ (x0 : Int) := of_decide_eq_true hA_; have q66 : (x0 : Int) < ((x5.length : Int) : Int) := of_decide_eq_true hA_; obtain ⟨j5, o6, e4, g5, gl66, cl66, HG66⟩ := Kd.R_form O1.out (by omega); (first | cases e4 | (injection e4 with ea_ en_ ec_; (first | subst ea_ | (injection ea_ with ea_; subst ea_)); subst ec_; clear en_)); have J4 := a_ g5; have K5 := a_ HG66; clear g5 gl66 HG66; obtain ⟨h38, hf66_0⟩ := Kd.R_celln 0 O1.out (x0 : Int) p66 q66; replace p66 := eq_true p66; replace q66 := eq_true q66; obtain ⟨hy70_, hz70_⟩ := Kd.R_celln 0 O1.out (x0 : Int) (of_decide_eq_true hA_) (of_decide_eq_true hA_); have HP70 := Kd.R_putg O1.out (x0 : Int) 1) | ((with_reducible refine gate_store (t := 3) (p := 88) rfl ?_); refine store_event (t := 3) (p := 88) (v := ?vo_w71) (w1 := (w2.setCell ⟨j5, (x0 : Int).toNat, none⟩ (.int .i64 1))) ?hg ?ho ?hn ?hr ?_; (case ho => rfl); (case hg => rfl); (case hn => rfl); (case hr => first | (go_simp; done) | (go_simp; rfl)); intro w71 hw; have hg : w2.grownBy w71 (some j5) := (by rw [hw]; exact HP70.2); have hp_ : Kd.R (Kd.int .i64) 3 w71 w.heap.size (fun _ => True) (.slice (some ⟨j5, 0, none⟩) x5.length o6) y5 := (by rw [hw, Y6.out]; exact HP70.1); clear HP70; replace O0 := a_ (Kd.R_over' (v := (.slice (some ⟨j5, 0, none⟩) x5.length o6)) (hR_ O0.out) (Kd.R_typed O1.out) (by decide) hg); replace B0 := a_ (blk_grown (hK_ B0.out) hg (Kd.R_ne O1.out B0.out (by decide))); replace O1 := a_ (hp_); replace HB := a_ ((by rw [hw]; exact below_set (HB.out) J4.out : Below w.heap.size w w71)); clear hg hw hp_))
       go_roundg k2
       case measure => have := HK1.out; have := HK2.out; omega
       case rel => exact ⟨(y1), (y5), (wrap64 (x6 + 1)), (wrap64 (x0 + 1)), hW_, hW_, H', ⟨by have := HK1.out; have := HK2.out; omega⟩, ⟨hR_ O0.out⟩, ⟨hR_ O1.out⟩, ⟨(hK_ B0.out)⟩, ⟨hC_⟩⟩
      subst c39
      rw [if_pos rfl] at H
      replace H := ifI_ H; obtain ⟨c40, H⟩ := H
      have c40b0 : decide (x0 < (l1.length : Int)) = true := decide_eq_true c40
      clear c40
      replace H := ifI_ H; obtain ⟨c41, H⟩ := H
      have c41b0 : decide (x0 < (x2.length : Int)) = true := decide_eq_true c41
      clear c41
      obtain ⟨y0, i6⟩ : ∃ y_ : List Bool, y_ = (x2.set (x0 : Int).toNat ((rd l1 x0) != 1)) := ⟨_, rfl⟩
      replace H : (if rdOf false y0 x0 = true then (if (rd l1 x0) = 0 then (if x0 < (x5.length : Int) then (sleuthref12_byHalves.l1 k2 l0 l1 x4 y0 (x5.set (x0 : Int).toNat 1) (wrap64 (x6 + 1)) (wrap64 (x0 + 1))) else (none)) else (sleuthref12_byHalves.l1 k2 l0 l1 x4 y0 x5 x6 (wrap64 (x0 + 1)))) else (sleuthref12_byHalves.l1 k2 l0 l1 x4 y0 x5 x6 (wrap64 (x0 + 1)))) = some (r1, r2) := by first | (rw [i6]; with_reducible exact H) | (have H2_ := (Option.bind_some _ _).symm.trans H; rw [i6]; with_reducible exact H2_) | (have H2_ := (Option.bind_some _ _).symm.trans H; with_reducible exact H2_) | with_reducible exact H | (rw [i6]; exact H) | exact H
      have Y2 := a_ i6
      clear i6
      obtain ⟨bq43, hbq43⟩ : ∃ b_ : Bool, b_ = (rdOf false y0 x0) := ⟨_, rfl⟩
      replace H : (if bq43 = true then (if (rd l1 x0) = 0 then (if x0 < (x5.length : Int) then (sleuthref12_byHalves.l1 k2 l0 l1 x4 y0 (x5.set (x0 : Int).toNat 1) (wrap64 (x6 + 1)) (wrap64 (x0 + 1))) else (none)) else (sleuthref12_byHalves.l1 k2 l0 l1 x4 y0 x5 x6 (wrap64 (x0 + 1)))) else (sleuthref12_byHalves.l1 k2 l0 l1 x4 y0 x5 x6 (wrap64 (x0 + 1)))) = some (r1, r2) := by rw [← hbq43] at H; exact H
      have Q2 := a_ hbq43
      clear hbq43
      by_cases c44 : bq43 = true
      case neg =>
       replace c44 := Bool.eq_false_iff.mpr c44
       subst c44
       rw [if_neg (show ¬ (false = true) by decide)] at H
       have H' := a_ H
       clear H
       have p371 : 0 ≤ (x0 : Int) := of_decide_eq_true hA_
       have q371 : x0 < (l0.length : Int) := of_decide_eq_true hA_
       obtain ⟨d3, A371_2, c371_2, e371, h0, h1, h2, h3, hl371_2, hi371_2⟩ := at_T57 HR0.out x0 p371 q371
       cases e371
       replace h0 := cl_ HB.out h0
       replace h1 := cl_ HB.out h1
       replace h2 := cl_ HB.out h2
       replace h3 := cl_ HB.out h3
       have HR371_2 := a_ hi371_2
       have HC371_2 := a_ hl371_2
       clear hi371_2 hl371_2
       replace p371 := eq_true p371
       replace q371 := eq_true q371
       obtain ⟨a3, o7, e14⟩ := Kd.R_slice O0.out
       subst e14
       have p377 : 0 ≤ (((rd_T57 l0 x0).f1) : Int) := of_decide_eq_true hA_
       have q377 : ((rd_T57 l0 x0).f1) < (x2.length : Int) := of_decide_eq_true hA_
       obtain ⟨d6, e377, h4⟩ := Kd.at_bool (Kd.R_reads' O0.out).2.2 ((rd_T57 l0 x0).f1) p377 q377
       (try rw [← Q0.out] at h4)
       (try rw [← Q2.out] at h4)
       cases e377
       replace p377 := eq_true p377
       replace q377 := eq_true q377
       have p378 : 0 ≤ (x0 : Int) := of_decide_eq_true hA_
       have q378 : x0 < (l1.length : Int) := of_decide_eq_true hA_
       obtain ⟨d8, e378, h10⟩ := Kd.at_int HR1.out x0 p378 q378
       obtain rfl : d0 = d8 := (by injection e378)
       replace h10 := cl_ HB.out h10
       replace p378 := eq_true p378
       replace q378 := eq_true q378
       have p42 : 0 ≤ (x0 : Int) := of_decide_eq_true hA_
       have q42 : (x0 : Int) < ((x2.length : Int) : Int) := of_decide_eq_true hA_
       obtain ⟨j2, o8, e2, g3, gl42, cl42, HG42⟩ := Kd.R_form O0.out (by omega)
       (first | cases e2 | (injection e2 with ea_ en_ ec_; (first | subst ea_ | (injection ea_ with ea_; subst ea_)); subst ec_; clear en_))
       have J2 := a_ g3
       have K2 := a_ HG42
       clear g3 gl42 HG42
       (first | simp only [add_plain] at h4 | skip)
       obtain ⟨h32, hf42_0⟩ := Kd.R_celln false O0.out (x0 : Int) p42 q42
       replace p42 := eq_true p42
       replace q42 := eq_true q42
       have HP57 := Kd.R_putg O0.out (x0 : Int) ((rd l1 x0) != 1)
       go_wp2_with (first | ((with_reducible refine gate_store (t := 4) (p := 74) rfl ?_); refine store_event (t := 4) (p := 74) (v := ?vo_w58) (w1 := (wr.setCell ⟨j2, (x0 : Int).toNat, none⟩ (.bool ((rd l1 x0) != 1)))) ?hg ?ho ?hn ?hr ?_; (case ho => rfl); (case hg => rfl); (case hn => rfl); (case hr => first | (go_simp; done) | (go_simp; rfl)); intro w58 hw; have hg : wr.grownBy w58 (some j2) := (by rw [hw]; exact HP57.2); have hp_ : Kd.R Kd.bool 4 w58 w.heap.size (fun _ => True) (.slice (some ⟨j2, 0, none⟩) x2.length o7) y0 := (by rw [hw, Y2.out]; exact HP57.1); clear HP57; replace O1 := a_ (Kd.R_over' (v := (.slice (some ⟨j2, 0, none⟩) x2.length o7)) (hR_ O1.out) (Kd.R_typed O0.out) (by decide) hg); replace B0 := a_ (blk_grown (hK_ B0.out) hg (Kd.R_ne O0.out B0.out (by decide))); replace O0 := a_ (hp_); replace HB := a_ ((by rw [hw]; exact below_set (HB.out) J2.out : Below w.heap.size w w58)); clear hg hw hp_; have p380 : 0 ≤ (x0 : Int) := of_decide_eq_true hA_; have q380 : x0 < (y0.length : Int) := (by have h_ : (x0 : Int) < ((x2.length : Int) : Int) := of_decide_eq_true hA_; first | (have e_ := (Kd.R_reads' O0.out).1; omega) | simpa only [Y2.out, List.length_set] using h_); have l6 : ((x0 : Int) < ((x2.length : Int) : Int)) = True := eq_true (of_decide_eq_true hA_); obtain ⟨d9, e380, h6⟩ := Kd.at_bool (Kd.R_reads' O0.out).2.2 x0 p380 q380; (try rw [← Q0.out] at h6); (try rw [← Q2.out] at h6); obtain rfl : (⟨j2, 0, none⟩ : Addr) = d9 := (by injection e380); (first | simp only [add_plain] at h6 | simp only [add_at] at h6 | simp only [Addr.add, Nat.zero_add] at h6 | skip); replace p380 := eq_true p380; replace q380 := eq_true q380))
       go_roundg k2
       case measure => have := HK1.out; have := HK2.out; omega
       case rel => exact ⟨(y0), (x5), (x6), (wrap64 (x0 + 1)), hW_, hW_, H', ⟨by have := HK1.out; have := HK2.out; omega⟩, ⟨hR_ O0.out⟩, ⟨hR_ O1.out⟩, ⟨(hK_ B0.out)⟩, ⟨hC_⟩⟩
      subst c44
      rw [if_pos rfl] at H
      by_cases c45 : (rd l1 x0) = 0
      case neg =>
       rw [if_neg c45] at H
       have c45b0 : ((rd l1 x0) == 0) = false := beq_eq_false_iff_ne.mpr c45
       have c45b1 : ((rd l1 x0) != 0) = true := bne_iff_ne.mpr c45
       have H' := a_ H
       clear H
       have p371 : 0 ≤ (x0 : Int) := of_decide_eq_true hA_
       have q371 : x0 < (l0.length : Int) := of_decide_eq_true hA_
       obtain ⟨d3, A371_2, c371_2, e371, h0, h1, h2, h3, hl371_2, hi371_2⟩ := at_T57 HR0.out x0 p371 q371
       cases e371
       replace h0 := cl_ HB.out h0
       replace h1 := cl_ HB.out h1
       replace h2 := cl_ HB.out h2
       replace h3 := cl_ HB.out h3
       have HR371_2 := a_ hi371_2
       have HC371_2 := a_ hl371_2
       clear hi371_2 hl371_2
       replace p371 := eq_true p371
       replace q371 := eq_true q371
       obtain ⟨a4, o9, e15⟩ := Kd.R_slice O0.out
       subst e15
       have p377 : 0 ≤ (((rd_T57 l0 x0).f1) : Int) := of_decide_eq_true hA_
       have q377 : ((rd_T57 l0 x0).f1) < (x2.length : Int) := of_decide_eq_true hA_
       obtain ⟨d6, e377, h4⟩ := Kd.at_bool (Kd.R_reads' O0.out).2.2 ((rd_T57 l0 x0).f1) p377 q377
       (try rw [← Q0.out] at h4)
       (try rw [← Q2.out] at h4)
       cases e377
       replace p377 := eq_true p377
       replace q377 := eq_true q377
       have p378 : 0 ≤ (x0 : Int) := of_decide_eq_true hA_
       have q378 : x0 < (l1.length : Int) := of_decide_eq_true hA_
       obtain ⟨d8, e378, h10⟩ := Kd.at_int HR1.out x0 p378 q378
       obtain rfl : d0 = d8 := (by injection e378)
       replace h10 := cl_ HB.out h10
       replace p378 := eq_true p378
       replace q378 := eq_true q378
       have p42 : 0 ≤ (x0 : Int) := of_decide_eq_true hA_
       have q42 : (x0 : Int) < ((x2.length : Int) : Int) := of_decide_eq_true hA_
       obtain ⟨j2, o8, e2, g3, gl42, cl42, HG42⟩ := Kd.R_form O0.out (by omega)
       (first | cases e2 | (injection e2 with ea_ en_ ec_; (first | subst ea_ | (injection ea_ with ea_; subst ea_)); subst ec_; clear en_))
       have J2 := a_ g3
       have K2 := a_ HG42
       clear g3 gl42 HG42
       (first | simp only [add_plain] at h4 | skip)
       obtain ⟨h32, hf42_0⟩ := Kd.R_celln false O0.out (x0 : Int) p42 q42
       replace p42 := eq_true p42
       replace q42 := eq_true q42
       have HP54 := Kd.R_putg O0.out (x0 : Int) ((rd l1 x0) != 1)
       go_wp2_with (first | ((with_reducible refine gate_store (t := 4) (p := 74) rfl ?_); refine store_event (t := 4) (p := 74) (v := ?vo_w55) (w1 := (wr.setCell ⟨j2, (x0 : Int).toNat, none⟩ (.bool ((rd l1 x0) != 1)))) ?hg ?ho ?hn ?hr ?_; (case ho => rfl); (case hg => rfl); (case hn => rfl); (case hr => first | (go_simp; done) | (go_simp; rfl)); intro w55 hw; have hg : wr.grownBy w55 (some j2) := (by rw [hw]; exact HP54.2); have hp_ : Kd.R Kd.bool 4 w55 w.heap.size (fun _ => True) (.slice (some ⟨j2, 0, none⟩) x2.length o9) y0 := (by rw [hw, Y2.out]; exact HP54.1); clear HP54; replace O1 := a_ (Kd.R_over' (v := (.slice (some ⟨j2, 0, none⟩) x2.length o9)) (hR_ O1.out) (Kd.R_typed O0.out) (by decide) hg); replace B0 := a_ (blk_grown (hK_ B0.out) hg (Kd.R_ne O0.out B0.out (by decide))); replace O0 := a_ (hp_); replace HB := a_ ((by rw [hw]; exact below_set (HB.out) J2.out : Below w.heap.size w w55)); clear hg hw hp_; have p380 : 0 ≤ (x0 : Int) := of_decide_eq_true hA_; have q380 : x0 < (y0.length : Int) := (by have h_ : (x0 : Int) < ((x2.length : Int) : Int) := of_decide_eq_true hA_; first | (have e_ := (Kd.R_reads' O0.out).1; omega) | simpa only [Y2.out, List.length_set] using h_); have l6 : ((x0 : Int) < ((x2.length : Int) : Int)) = True := eq_true (of_decide_eq_true hA_); obtain ⟨d9, e380, h6⟩ := Kd.at_bool (Kd.R_reads' O0.out).2.2 x0 p380 q380; (try rw [← Q0.out] at h6); (try rw [← Q2.out] at h6); obtain rfl : (⟨j2, 0, none⟩ : Addr) = d9 := (by injection e380); (first | simp only [add_plain] at h6 | simp only [add_at] at h6 | simp only [Addr.add, Nat.zero_add] at h6 | skip); replace p380 := eq_true p380; replace q380 := eq_true q380; have p381 : 0 ≤ (x0 : Int) := of_decide_eq_true hA_; have q381 : x0 < (l1.length : Int) := of_decide_eq_true hA_; obtain ⟨d14, e381, h14⟩ := Kd.at_int HR1.out x0 p381 q381; obtain rfl : d0 = d14 := (by injection e381); replace h14 := cl_ HB.out h14; replace p381 := eq_true p381; replace q381 := eq_true q381))
       go_roundg k2
       case measure => have := HK1.out; have := HK2.out; omega
       case rel => exact ⟨(y0), (x5), (x6), (wrap64 (x0 + 1)), hW_, hW_, H', ⟨by have := HK1.out; have := HK2.out; omega⟩, ⟨hR_ O0.out⟩, ⟨hR_ O1.out⟩, ⟨(hK_ B0.out)⟩, ⟨hC_⟩⟩
      rw [if_pos c45] at H
      have c45b0 : ((rd l1 x0) == 0) = true := beq_iff_eq.mpr c45
      have c45b1 : ((rd l1 x0) != 0) = false := bne_eq_false_iff_eq.mpr c45
      clear c45
      replace H := ifI_ H; obtain ⟨c46, H⟩ := H
      have c46b0 : decide (x0 < (x5.length : Int)) = true := decide_eq_true c46
      clear c46
      obtain ⟨y6, i7⟩ : ∃ y_ : List Int, y_ = (x5.set (x0 : Int).toNat 1) := ⟨_, rfl⟩
      replace H : (sleuthref12_byHalves.l1 k2 l0 l1 x4 y0 y6 (wrap64 (x6 + 1)) (wrap64 (x0 + 1))) = some (r1, r2) := by first | (rw [i7]; with_reducible exact H) | (have H2_ := (Option.bind_some _ _).symm.trans H; rw [i7]; with_reducible exact H2_) | (have H2_ := (Option.bind_some _ _).symm.trans H; with_reducible exact H2_) | with_reducible exact H | (rw [i7]; exact H) | exact H
      have Y7 := a_ i7
      clear i7
      have H' := a_ H
      clear H
      have p371 : 0 ≤ (x0 : Int) := of_decide_eq_true hA_
      have q371 : x0 < (l0.length : Int) := of_decide_eq_true hA_
      obtain ⟨d3, A371_2, c371_2, e371, h0, h1, h2, h3, hl371_2, hi371_2⟩ := at_T57 HR0.out x0 p371 q371
      cases e371
      replace h0 := cl_ HB.out h0
      replace h1 := cl_ HB.out h1
      replace h2 := cl_ HB.out h2
      replace h3 := cl_ HB.out h3
      have HR371_2 := a_ hi371_2
      have HC371_2 := a_ hl371_2
      clear hi371_2 hl371_2
      replace p371 := eq_true p371
      replace q371 := eq_true q371
      obtain ⟨a5, o10, e16⟩ := Kd.R_slice O0.out
      subst e16
      have p377 : 0 ≤ (((rd_T57 l0 x0).f1) : Int) := of_decide_eq_true hA_
      have q377 : ((rd_T57 l0 x0).f1) < (x2.length : Int) := of_decide_eq_true hA_
      obtain ⟨d6, e377, h4⟩ := Kd.at_bool (Kd.R_reads' O0.out).2.2 ((rd_T57 l0 x0).f1) p377 q377
      (try rw [← Q0.out] at h4)
      (try rw [← Q2.out] at h4)
      cases e377
      replace p377 := eq_true p377
      replace q377 := eq_true q377
      have p378 : 0 ≤ (x0 : Int) := of_decide_eq_true hA_
      have q378 : x0 < (l1.length : Int) := of_decide_eq_true hA_
      obtain ⟨d8, e378, h10⟩ := Kd.at_int HR1.out x0 p378 q378
      obtain rfl : d0 = d8 := (by injection e378)
      replace h10 := cl_ HB.out h10
      replace p378 := eq_true p378
      replace q378 := eq_true q378
      have p42 : 0 ≤ (x0 : Int) := of_decide_eq_true hA_
      have q42 : (x0 : Int) < ((x2.length : Int) : Int) := of_decide_eq_true hA_
      obtain ⟨j2, o8, e2, g3, gl42, cl42, HG42⟩ := Kd.R_form O0.out (by omega)
      (first | cases e2 | (injection e2 with ea_ en_ ec_; (first | subst ea_ | (injection ea_ with ea_; subst ea_)); subst ec_; clear en_))
      have J2 := a_ g3
      have K2 := a_ HG42
      clear g3 gl42 HG42
      (first | simp only [add_plain] at h4 | skip)
      obtain ⟨h32, hf42_0⟩ := Kd.R_celln false O0.out (x0 : Int) p42 q42
      replace p42 := eq_true p42
      replace q42 := eq_true q42
      have HP49 := Kd.R_putg O0.out (x0 : Int) ((rd l1 x0) != 1)
      go_wp2_with (first | ((with_reducible refine gate_store (t := 4) (p := 74) rfl ?_); refine store_event (t := 4) (p := 74) (v := ?vo_w50) (w1 := (wr.setCell ⟨j2, (x0 : Int).toNat, none⟩ (.bool ((rd l1 x0) != 1)))) ?hg ?ho ?hn ?hr ?_; (case ho => rfl); (case hg => rfl); (case hn => rfl); (case hr => first | (go_simp; done) | (go_simp; rfl)); intro w3 hw; have hg : wr.grownBy w3 (some j2) := (by rw [hw]; exact HP49.2); have hp_ : Kd.R Kd.bool 4 w3 w.heap.size (fun _ => True) (.slice (some ⟨j2, 0, none⟩) x2.length o10) y0 := (by rw [hw, Y2.out]; exact HP49.1); clear HP49; replace O1 := a_ (Kd.R_over' (v := (.slice (some ⟨j2, 0, none⟩) x2.length o10)) (hR_ O1.out) (Kd.R_typed O0.out) (by decide) hg); replace B0 := a_ (blk_grown (hK_ B0.out) hg (Kd.R_ne O0.out B0.out (by decide))); replace O0 := a_ (hp_); replace HB := a_ ((by rw [hw]; exact below_set (HB.out) J2.out : Below w.heap.size w w3)); clear hg hw hp_; have p380 : 0 ≤ (x0 : Int) := of_decide_eq_true hA_; have q380 : x0 < (y0.length : Int) := (by have h_ : (x0 : Int) < ((x2.length : Int) : Int) := of_decide_eq_true hA_; first | (have e_ := (Kd.R_reads' O0.out).1; omega) | simpa only [Y2.out, List.length_set] using h_); have l6 : ((x0 : Int) < ((x2.length : Int) : Int)) = True := eq_true (of_decide_eq_true hA_); obtain ⟨d9, e380, h6⟩ := Kd.at_bool (Kd.R_reads' O0.out).2.2 x0 p380 q380; (try rw [← Q0.out] at h6); (try rw [← Q2.out] at h6); obtain rfl : (⟨j2, 0, none⟩ : Addr) = d9 := (by injection e380); (first | simp only [add_plain] at h6 | simp only [add_at] at h6 | simp only [Addr.add, Nat.zero_add] at h6 | skip); replace p380 := eq_true p380; replace q380 := eq_true q380; have p381 : 0 ≤ (x0 : Int) := of_decide_eq_true hA_; have q381 : x0 < (l1.length : Int) := of_decide_eq_true hA_; obtain ⟨d14, e381, h14⟩ := Kd.at_int HR1.out x0 p381 q381; obtain rfl : d0 = d14 := (by injection e381); replace h14 := cl_ HB.out h14; replace p381 := eq_true p381; replace q381 := eq_true q381; have p47 : 0 ≤ (x0 : Int) := of_decide_eq_true hA_; have q47 : (x0 : Int) < ((x5.length : Int) : Int) := of_decide_eq_true hA_; obtain ⟨j6, o11, e5, g6, gl47, cl47, HG47⟩ := Kd.R_form O1.out (by omega); (first | cases e5 | (injection e5 with ea_ en_ ec_; (first | subst ea_ | (injection ea_ with ea_; subst ea_)); subst ec_; clear en_)); have J5 := a_ g6; have K6 := a_ HG47; clear g6 gl47 HG47; obtain ⟨h39, hf47_0⟩ := Kd.R_celln 0 O1.out (x0 : Int) p47 q47; replace p47 := eq_true p47; replace q47 := eq_true q47; obtain ⟨hy51_, hz51_⟩ := Kd.R_celln 0 O1.out (x0 : Int) (of_decide_eq_true hA_) (of_decide_eq_true hA_); have HP51 := Kd.R_putg O1.out (x0 : Int) 1) | ((with_reducible refine gate_store (t := 3) (p := 88) rfl ?_); refine store_event (t := 3) (p := 88) (v := ?vo_w52) (w1 := (w3.setCell ⟨j6, (x0 : Int).toNat, none⟩ (.int .i64 1))) ?hg ?ho ?hn ?hr ?_; (case ho => rfl); (case hg => rfl); (case hn => rfl); (case hr => first | (go_simp; done) | (go_simp; rfl)); intro w52 hw; have hg : w3.grownBy w52 (some j6) := (by rw [hw]; exact HP51.2); have hp_ : Kd.R (Kd.int .i64) 3 w52 w.heap.size (fun _ => True) (.slice (some ⟨j6, 0, none⟩) x5.length o11) y6 := (by rw [hw, Y7.out]; exact HP51.1); clear HP51; replace O0 := a_ (Kd.R_over' (v := (.slice (some ⟨j6, 0, none⟩) x5.length o11)) (hR_ O0.out) (Kd.R_typed O1.out) (by decide) hg); replace B0 := a_ (blk_grown (hK_ B0.out) hg (Kd.R_ne O1.out B0.out (by decide))); replace O1 := a_ (hp_); replace HB := a_ ((by rw [hw]; exact below_set (HB.out) J5.out : Below w.heap.size w w52)); clear hg hw hp_))
      go_roundg k2
      case measure => have := HK1.out; have := HK2.out; omega
      case rel => exact ⟨(y0), (y6), (wrap64 (x6 + 1)), (wrap64 (x0 + 1)), hW_, hW_, H', ⟨by have := HK1.out; have := HK2.out; omega⟩, ⟨hR_ O0.out⟩, ⟨hR_ O1.out⟩, ⟨(hK_ B0.out)⟩, ⟨hC_⟩⟩
     rw [if_neg c17] at H
     have c17b0 : decide (x0 < (l0.length : Int)) = false := decide_eq_false c17
     clear c17
     have H' := a_ H
     clear H
     go_wp2
     go_loopg [12] k2 (fun kq v3 w' => ∃ (x7 : List Int) (x1 : Int), v3 = .int .i64 x1 ∧ Aside0 (sleuthref12_byHalves.l2 kq l0 l1 x4 x2 x7 x6 x1 = some (r1, r2)) ∧ Aside0 (kq ≤ k2) ∧ Aside0 (Kd.R Kd.bool 4 w' w.heap.size (fun _ => True) v0 x2) ∧ Aside0 (Kd.R (Kd.int .i64) 3 w' w.heap.size (fun _ => True) v1 x7) ∧ Aside0 (w'.heap[g0]? = some (.cells #[.int .i64 0, .int .i64 0] 48 (0, 0))) ∧ Aside0 (Below w.heap.size w w'))
     case atStart => exact ⟨(x5), (wrap64 ((l0.length : Int) - 1)), hW_, H', ⟨Nat.le_refl _⟩, ⟨hR_ O0.out⟩, ⟨hR_ O1.out⟩, ⟨(hK_ B0.out)⟩, ⟨hC_⟩⟩
     case round =>
      clear H'
      try clear c1
      try clear c2
      try clear p2
      try clear q2
      try clear hx2
      try clear hf2
      try clear c3
      try clear p3
      try clear q3
      try clear hx3
      try clear c4
      try clear p4
      try clear q4
      try clear hx4
      try clear hf4
      try clear c5
      try clear c6
      try clear p6
      try clear q6
      try clear hx6
      try clear hf6
      try clear c17
      try clear c17b0
      try clear c18
      try clear c18b0
      try clear c19
      try clear c19b0
      try clear c19b1
      try clear c20
      try clear c20b0
      try clear c21
      try clear c21b0
      try clear p22
      try clear q22
      try clear h42
      try clear hf22
      try clear q23
      try clear c24
      try clear c25
      try clear c25b0
      try clear c25b1
      try clear c26
      try clear c26b0
      try clear p27
      try clear q27
      try clear h43
      try clear hf27
      try clear c36
      try clear c36b0
      try clear p36
      try clear q36
      try clear h44
      try clear c37
      try clear c37b0
      try clear p37
      try clear q37
      try clear h45
      try clear p38
      try clear q38
      try clear h46
      try clear c39
      try clear c40
      try clear c40b0
      try clear c41
      try clear c41b0
      try clear p42
      try clear q42
      try clear h47
      try clear hf42
      try clear q43
      try clear c44
      try clear c45
      try clear c45b0
      try clear c45b1
      try clear c46
      try clear c46b0
      try clear p47
      try clear q47
      try clear h48
      try clear hf47
      try clear c59
      try clear c59b0
      try clear p60
      try clear q60
      try clear h49
      try clear hf60
      try clear q61
      try clear c62
      try clear c63
      try clear c63b0
      try clear c64
      try clear c64b0
      try clear c64b1
      try clear p64
      try clear c65
      try clear c65b0
      try clear p66
      try clear q66
      try clear h50
      try clear hf66
      try clear h30
      try clear h37
      try clear h8
      try clear h11
      try clear h0
      try clear h1
      try clear h2
      try clear h3
      try clear h9
      try clear h7
      try clear h12
      try clear h4
      try clear h10
      try clear h6
      try clear h14
      try clear h5
      try clear h13
      try clear h32
      try clear h39
      try clear h31
      try clear h38
      try clear p2
      try clear p22
      try clear p27
      try clear p3
      try clear p360
      try clear p364
      try clear p371
      try clear p372
      try clear p374
      try clear p375
      try clear p377
      try clear p378
      try clear p380
      try clear p381
      try clear p384
      try clear p385
      try clear p42
      try clear p47
      try clear p60
      try clear p66
      try clear q22
      try clear q27
      try clear q3
      try clear q360
      try clear q364
      try clear q371
      try clear q372
      try clear q374
      try clear q375
      try clear q377
      try clear q378
      try clear q380
      try clear q381
      try clear q384
      try clear q385
      try clear q42
      try clear q47
      try clear q60
      try clear q66
      obtain ⟨x7, x1, rfl, HA, HK3, O0, O1, B0, HB⟩ := hrel
      cases gk with
      | zero => exact absurd HA.out (by simp [sleuthref12_byHalves.l2])
      | succ k3 =>
       have H := HA.out
       clear HA
       simp only [sleuthref12_byHalves.l2] at H
       by_cases c78 : x1 > x4
       case pos =>
        rw [if_pos c78] at H
        have c78b0 : decide (x4 < x1) = true := decide_eq_true c78
        clear c78
        replace H := ifI_ H; obtain ⟨c79, H⟩ := H
        have c79b0 : decide (0 ≤ x1) = true := decide_eq_true c79
        clear c79
        replace H := ifI_ H; obtain ⟨c80, H⟩ := H
        have c80b0 : decide (x1 < (x2.length : Int)) = true := decide_eq_true c80
        clear c80
        obtain ⟨bq81, hbq81⟩ : ∃ b_ : Bool, b_ = (rdOf false x2 x1) := ⟨_, rfl⟩
        replace H : (if bq81 = true then (if x1 < (l0.length : Int) then (if ((rd_T57 l0 x1).f1) > x4 then (if 0 ≤ ((rd_T57 l0 x1).f1) then (if ((rd_T57 l0 x1).f1) < (x7.length : Int) then (if x1 < (x7.length : Int) then (sleuthref12_byHalves.l2 k3 l0 l1 x4 x2 (x7.set (((rd_T57 l0 x1).f1) : Int).toNat (wrap64 ((rd x7 ((rd_T57 l0 x1).f1)) + (rd x7 x1)))) x6 (wrap64 (x1 - 1))) else (none)) else (none)) else (none)) else (sleuthref12_byHalves.l2 k3 l0 l1 x4 x2 x7 x6 (wrap64 (x1 - 1)))) else (none)) else (sleuthref12_byHalves.l2 k3 l0 l1 x4 x2 x7 x6 (wrap64 (x1 - 1)))) = some (r1, r2) := by rw [← hbq81] at H; exact H
        have Q4 := a_ hbq81
        clear hbq81
        by_cases c82 : bq81 = true
        case neg =>
         replace c82 := Bool.eq_false_iff.mpr c82
         subst c82
         rw [if_neg (show ¬ (false = true) by decide)] at H
         have H' := a_ H
         clear H
         obtain ⟨a6, o12, e17⟩ := Kd.R_slice O0.out
         subst e17
         have p387 : 0 ≤ (x1 : Int) := of_decide_eq_true hA_
         have q387 : x1 < (x2.length : Int) := of_decide_eq_true hA_
         obtain ⟨d15, e387, h17⟩ := Kd.at_bool (Kd.R_reads' O0.out).2.2 x1 p387 q387
         (try rw [← Q4.out] at h17)
         cases e387
         replace p387 := eq_true p387
         replace q387 := eq_true q387
         go_wp2
         go_roundg k3
         case measure => have := HK1.out; have := HK2.out; have := HK3.out; omega
         case rel => exact ⟨(x7), (wrap64 (x1 - 1)), hW_, H', ⟨by have := HK1.out; have := HK2.out; have := HK3.out; omega⟩, ⟨hR_ O0.out⟩, ⟨hR_ O1.out⟩, ⟨(hK_ B0.out)⟩, ⟨hC_⟩⟩
        subst c82
        rw [if_pos rfl] at H
        replace H := ifI_ H; obtain ⟨c83, H⟩ := H
        have c83b0 : decide (x1 < (l0.length : Int)) = true := decide_eq_true c83
        clear c83
        by_cases c84 : ((rd_T57 l0 x1).f1) > x4
        case neg =>
         rw [if_neg c84] at H
         have c84b0 : decide (x4 < ((rd_T57 l0 x1).f1)) = false := decide_eq_false c84
         clear c84
         have H' := a_ H
         clear H
         obtain ⟨a7, o13, e18⟩ := Kd.R_slice O0.out
         subst e18
         have p387 : 0 ≤ (x1 : Int) := of_decide_eq_true hA_
         have q387 : x1 < (x2.length : Int) := of_decide_eq_true hA_
         obtain ⟨d15, e387, h17⟩ := Kd.at_bool (Kd.R_reads' O0.out).2.2 x1 p387 q387
         (try rw [← Q4.out] at h17)
         cases e387
         replace p387 := eq_true p387
         replace q387 := eq_true q387
         have p388 : 0 ≤ (x1 : Int) := of_decide_eq_true hA_
         have q388 : x1 < (l0.length : Int) := of_decide_eq_true hA_
         obtain ⟨d1, A388_2, c388_2, e388, h18, h19, h20, h21, hl388_2, hi388_2⟩ := at_T57 HR0.out x1 p388 q388
         cases e388
         replace h18 := cl_ HB.out h18
         replace h19 := cl_ HB.out h19
         replace h20 := cl_ HB.out h20
         replace h21 := cl_ HB.out h21
         have HR388_2 := a_ hi388_2
         have HC388_2 := a_ hl388_2
         clear hi388_2 hl388_2
         replace p388 := eq_true p388
         replace q388 := eq_true q388
         go_wp2
         go_roundg k3
         case measure => have := HK1.out; have := HK2.out; have := HK3.out; omega
         case rel => exact ⟨(x7), (wrap64 (x1 - 1)), hW_, H', ⟨by have := HK1.out; have := HK2.out; have := HK3.out; omega⟩, ⟨hR_ O0.out⟩, ⟨hR_ O1.out⟩, ⟨(hK_ B0.out)⟩, ⟨hC_⟩⟩
        rw [if_pos c84] at H
        have c84b0 : decide (x4 < ((rd_T57 l0 x1).f1)) = true := decide_eq_true c84
        clear c84
        replace H := ifI_ H; obtain ⟨c85, H⟩ := H
        have c85b0 : decide (0 ≤ ((rd_T57 l0 x1).f1)) = true := decide_eq_true c85
        clear c85
        replace H := ifI_ H; obtain ⟨c86, H⟩ := H
        have c86b0 : decide (((rd_T57 l0 x1).f1) < (x7.length : Int)) = true := decide_eq_true c86
        clear c86
        replace H := ifI_ H; obtain ⟨c87, H⟩ := H
        have c87b0 : decide (x1 < (x7.length : Int)) = true := decide_eq_true c87
        clear c87
        obtain ⟨y8, i8⟩ : ∃ y_ : List Int, y_ = (x7.set (((rd_T57 l0 x1).f1) : Int).toNat (wrap64 ((rd x7 ((rd_T57 l0 x1).f1)) + (rd x7 x1)))) := ⟨_, rfl⟩
        replace H : (sleuthref12_byHalves.l2 k3 l0 l1 x4 x2 y8 x6 (wrap64 (x1 - 1))) = some (r1, r2) := by first | (rw [i8]; with_reducible exact H) | (have H2_ := (Option.bind_some _ _).symm.trans H; rw [i8]; with_reducible exact H2_) | (have H2_ := (Option.bind_some _ _).symm.trans H; with_reducible exact H2_) | with_reducible exact H | (rw [i8]; exact H) | exact H
        have Y8 := a_ i8
        clear i8
        have H' := a_ H
        clear H
        obtain ⟨a8, o14, e19⟩ := Kd.R_slice O0.out
        subst e19
        have p387 : 0 ≤ (x1 : Int) := of_decide_eq_true hA_
        have q387 : x1 < (x2.length : Int) := of_decide_eq_true hA_
        obtain ⟨d15, e387, h17⟩ := Kd.at_bool (Kd.R_reads' O0.out).2.2 x1 p387 q387
        (try rw [← Q4.out] at h17)
        cases e387
        replace p387 := eq_true p387
        replace q387 := eq_true q387
        have p388 : 0 ≤ (x1 : Int) := of_decide_eq_true hA_
        have q388 : x1 < (l0.length : Int) := of_decide_eq_true hA_
        obtain ⟨d1, A388_2, c388_2, e388, h18, h19, h20, h21, hl388_2, hi388_2⟩ := at_T57 HR0.out x1 p388 q388
        cases e388
        replace h18 := cl_ HB.out h18
        replace h19 := cl_ HB.out h19
        replace h20 := cl_ HB.out h20
        replace h21 := cl_ HB.out h21
        have HR388_2 := a_ hi388_2
        have HC388_2 := a_ hl388_2
        clear hi388_2 hl388_2
        replace p388 := eq_true p388
        replace q388 := eq_true q388
        try go_wp2
        replace O0 := a_ (Kd.R_drew O0.out)
        replace O1 := a_ (Kd.R_drew O1.out)
        replace B0 := a_ (blk_drew B0.out)
        replace HB := a_ (below_drew1 HB.out)
        have p389 : 0 ≤ (x1 : Int) := of_decide_eq_true hA_
        have q389 : x1 < (l0.length : Int) := of_decide_eq_true hA_
        obtain ⟨d17, A389_2, c389_2, e389, h24, h25, h22, h26, hl389_2, hi389_2⟩ := at_T57 HR0.out x1 p389 q389
        have hw389_3 := h26
        have hw389_2 := h22
        have hw389_1 := h25
        have hw389_0 := h24
        obtain rfl : d1 = d17 := (by injection e389)
        replace h24 := cl_ HB.out h24
        replace h25 := cl_ HB.out h25
        replace h22 := cl_ HB.out h22
        replace h26 := cl_ HB.out h26
        have HR389_2 := a_ hi389_2
        have HC389_2 := a_ hl389_2
        clear hi389_2 hl389_2
        replace p389 := eq_true p389
        replace q389 := eq_true q389
        have p390 : 0 ≤ (x1 : Int) := of_decide_eq_true hA_
        have q390 : x1 < (l0.length : Int) := of_decide_eq_true hA_
        obtain ⟨d18, A390_2, c390_2, e390, h27, h28, h23, h29, hl390_2, hi390_2⟩ := at_T57 HR0.out x1 p390 q390
        have hw390_3 := h29
        have hw390_2 := h23
        have hw390_1 := h28
        have hw390_0 := h27
        obtain rfl : d1 = d18 := (by injection e390)
        replace h27 := cl_ HB.out h27
        replace h28 := cl_ HB.out h28
        replace h23 := cl_ HB.out h23
        replace h29 := cl_ HB.out h29
        have HR390_2 := a_ hi390_2
        have HC390_2 := a_ hl390_2
        clear hi390_2 hl390_2
        replace p390 := eq_true p390
        replace q390 := eq_true q390
        have ea_ := Option.some.inj (h22.symm.trans h23)
        injection ea_ with ea_ en_ ec_
        subst ea_
        subst ec_
        clear en_
        obtain ⟨a9, o15, e6⟩ := Kd.R_slice O1.out
        (first | subst e6 | (injection e6 with f1_ f2_ f3_; have f4_ := f1_.symm; have f5_ := f3_.symm; clear f1_ f2_ f3_; subst f4_; subst f5_))
        have p391 : 0 ≤ (((rd_T57 l0 x1).f1) : Int) := of_decide_eq_true hA_
        have q391 : ((rd_T57 l0 x1).f1) < (x7.length : Int) := of_decide_eq_true hA_
        obtain ⟨d19, e391, h33⟩ := Kd.at_int (Kd.R_reads' O1.out).2.2 ((rd_T57 l0 x1).f1) p391 q391
        cases e391
        replace p391 := eq_true p391
        replace q391 := eq_true q391
        have p392 : 0 ≤ (x1 : Int) := of_decide_eq_true hA_
        have q392 : x1 < (x7.length : Int) := of_decide_eq_true hA_
        obtain ⟨d20, e392, h34⟩ := Kd.at_int (Kd.R_reads' O1.out).2.2 x1 p392 q392
        obtain rfl : d19 = d20 := (by injection e392)
        replace p392 := eq_true p392
        replace q392 := eq_true q392
        have p88 : 0 ≤ (((rd_T57 l0 x1).f1) : Int) := of_decide_eq_true hA_
        have q88 : (((rd_T57 l0 x1).f1) : Int) < ((x7.length : Int) : Int) := of_decide_eq_true hA_
        obtain ⟨j7, o16, e7, g7, gl88, cl88, HG88⟩ := Kd.R_form O1.out (by omega)
        (first | cases e7 | (injection e7 with ea_ en_ ec_; (first | subst ea_ | (injection ea_ with ea_; subst ea_)); subst ec_; clear en_))
        have J6 := a_ g7
        have K3 := a_ HG88
        clear g7 gl88 HG88
        (first | simp only [add_plain] at h33 | skip)
        (first | simp only [add_plain] at h34 | skip)
        obtain ⟨h40, hf88_0⟩ := Kd.R_celln 0 O1.out (((rd_T57 l0 x1).f1) : Int) p88 q88
        replace p88 := eq_true p88
        replace q88 := eq_true q88
        have HP92 := Kd.R_putn O1.out (((rd_T57 l0 x1).f1) : Int) (wrap64 ((rd x7 ((rd_T57 l0 x1).f1)) + (rd x7 x1)))
        rw [← Y8.out] at HP92
        have HQ92 := a_ HP92
        clear HP92
        refine start_ (n := 21) (S := fun w' => w'.cell? (d1.add ((x1).toNat * 4)) = some (.int .i64 ((rd_T57 l0 x1).f0)) ∧ w'.cell? ⟨(d1.add ((x1).toNat * 4)).block, (d1.add ((x1).toNat * 4)).off + 1, none⟩ = some (.int .i64 ((rd_T57 l0 x1).f1)) ∧ w'.cell? ⟨(d1.add ((x1).toNat * 4)).block, (d1.add ((x1).toNat * 4)).off + 2, none⟩ = some (.slice A389_2 ((rd_T57 l0 x1).f2).length c389_2) ∧ w'.cell? ⟨(d1.add ((x1).toNat * 4)).block, (d1.add ((x1).toNat * 4)).off + 3, none⟩ = some (.string ((rd_T57 l0 x1).f3)) ∧ w'.cell? (d1.add ((x1).toNat * 4)) = some (.int .i64 ((rd_T57 l0 x1).f0)) ∧ w'.cell? ⟨(d1.add ((x1).toNat * 4)).block, (d1.add ((x1).toNat * 4)).off + 1, none⟩ = some (.int .i64 ((rd_T57 l0 x1).f1)) ∧ w'.cell? ⟨(d1.add ((x1).toNat * 4)).block, (d1.add ((x1).toNat * 4)).off + 2, none⟩ = some (.slice A389_2 ((rd_T57 l0 x1).f2).length c389_2) ∧ w'.cell? ⟨(d1.add ((x1).toNat * 4)).block, (d1.add ((x1).toNat * 4)).off + 3, none⟩ = some (.string ((rd_T57 l0 x1).f3)) ∧ w'.cell? ⟨j7, (((rd_T57 l0 x1).f1)).toNat, none⟩ = some (.int .i64 (rd x7 ((rd_T57 l0 x1).f1))) ∧ w'.cell? ⟨j7, (x1).toNat, none⟩ = some (.int .i64 (rd x7 x1))) (ds := [20]) #[false, false, false, false, false, false, false, false, false, false, false, false, false, false, false, false, false, false, false, false, false] (by kernel_rfl) rfl rfl ⟨(cl_ HB.out hw389_0), (cl_ HB.out hw389_1), (cl_ HB.out hw389_2), (cl_ HB.out hw389_3), (cl_ HB.out hw390_0), (cl_ HB.out hw390_1), (cl_ HB.out hw390_2), (cl_ HB.out hw390_3), h33, h34⟩ (fun hHeld => ?_); refine with_tabW sleuthref12_byHalves.tab24 sleuthref12_byHalves.bits24 (fun HT_ HW_ => ?_)
        generalize wr.drew = w90 at O0 O1 B0 HB K3 HQ92 HR389_2 HR390_2 hf88_0 h24 h25 h22 h26 h27 h28 h23 h29 h33 h34 h40 hHeld ⊢
        refine pB_ 0 112 HT_.out ?_
        refine pB_ 1 113 HT_.out ?_
        refine pB_ 2 114 HT_.out ?_
        refine pB_ 3 115 HT_.out ?_
        refine pB_ 4 116 HT_.out ?_
        refine pB_ 6 118 HT_.out ?_
        refine pB_ 7 119 HT_.out ?_
        refine pB_ 8 120 HT_.out ?_
        refine pB_ 9 121 HT_.out ?_
        refine pB_ 10 122 HT_.out ?_
        refine pB_ 14 126 HT_.out ?_
        refine pB_ 15 127 HT_.out ?_
        refine pB_ 16 128 HT_.out ?_
        refine tB_ 5 117 HT_.out HW_.out hHeld ?_
        refine tB_ 11 123 HT_.out HW_.out hHeld ?_
        refine pB_ 12 124 HT_.out ?_
        refine tB_ 13 125 HT_.out HW_.out hHeld ?_
        refine tB_ 17 129 HT_.out HW_.out hHeld ?_
        refine pB_ 18 130 HT_.out ?_
        refine pB_ 19 131 HT_.out ?_
        refine last_ (i := 20) (N := none) #[true, true, true, true, true, true, true, true, true, true, true, true, true, true, true, true, true, true, true, true, true] rfl rfl (one_of HT_.out (by kernel_rfl)) (by decide) (fun K hK => ?_)
        refine skip_ (w1 := ?_) (by rfl) rfl ?_ ?_
        rotate_left
        · go_simp
          rfl
        refine hK.out _ _ ?_
        clear hK K
        refine done_ (done_of HT_.out (by kernel_rfl)) ?_
        try go_wp2
        go_roundg k3
        case measure => have := HK1.out; have := HK2.out; have := HK3.out; omega
        case rel => exact ⟨(y8), (wrap64 (x1 - 1)), hW_, H', ⟨by have := HK1.out; have := HK2.out; have := HK3.out; omega⟩, ⟨by (with_reducible repeat (first | apply Kd.R_alloc | apply Kd.R_drewN | apply Kd.R_drew)); exact Kd.R_mono (Kd.R_far (p := ⟨j7, (((rd_T57 l0 x1).f1) : Int).toNat, none⟩) (Kd.R_types O0.out K3.out (by decide)) (fun _ hk => hk.2) (.int .i64 (wrap64 ((rd x7 ((rd_T57 l0 x1).f1)) + (rd x7 x1))))) (fun _ hk => trivial)⟩, ⟨hR_ HQ92.out⟩, ⟨by (with_reducible repeat (first | refine blk_drewN ?_ _ | refine blk_drew ?_ | refine blk_alloc ?_ _)); refine blk_far ?_ (by have h_ := Kd.R_ne O1.out B0.out (by decide); intro e_; exact h_ (by rw [e_]; rfl)) _; (with_reducible repeat (first | refine blk_drewN ?_ _ | refine blk_drew ?_ | refine blk_alloc ?_ _)); exact B0.out⟩, ⟨hC_⟩⟩
       rw [if_neg c78] at H
       have c78b0 : decide (x4 < x1) = false := decide_eq_false c78
       clear c78
       have H' := a_ H
       clear H
       go_wp2
       go_loopg [13, 14, 15] k3 (fun kq v4 v7 v8 w' => ∃ (x9 : Int) (x10 : Int) (x3 : Int), v4 = .int .i64 x9 ∧ v7 = .int .i64 x10 ∧ v8 = .int .i64 x3 ∧ Aside0 (sleuthref12_byHalves.l3 kq l0 l1 x4 x2 x7 x6 x9 x10 x3 = some (r1, r2)) ∧ Aside0 (kq ≤ k3) ∧ Aside0 (Kd.R Kd.bool 4 w' w.heap.size (fun _ => True) v0 x2) ∧ Aside0 (Kd.R (Kd.int .i64) 3 w' w.heap.size (fun _ => True) v1 x7) ∧ Aside0 (w'.heap[g0]? = some (.cells #[.int .i64 0, .int .i64 0] 48 (0, 0))) ∧ Aside0 (Below w.heap.size w w'))
       case atStart => exact ⟨((-1)), (0), (wrap64 (x4 + 1)), hW_, hW_, hW_, H', ⟨Nat.le_refl _⟩, ⟨hR_ O0.out⟩, ⟨hR_ O1.out⟩, ⟨(hK_ B0.out)⟩, ⟨hC_⟩⟩
       case round =>
        clear H'
        try clear c1
        try clear c2
        try clear p2
        try clear q2
        try clear hx2
        try clear hf2
        try clear c3
        try clear p3
        try clear q3
        try clear hx3
        try clear c4
        try clear p4
        try clear q4
        try clear hx4
        try clear hf4
        try clear c5
        try clear c6
        try clear p6
        try clear q6
        try clear hx6
        try clear hf6
        try clear c7
        try clear c8
        try clear p8
        try clear q8
        try clear hx8
        try clear hf8
        try clear c17
        try clear c17b0
        try clear c18
        try clear c18b0
        try clear c19
        try clear c19b0
        try clear c19b1
        try clear c20
        try clear c20b0
        try clear c21
        try clear c21b0
        try clear p22
        try clear q22
        try clear h42
        try clear hf22
        try clear q23
        try clear c24
        try clear c25
        try clear c25b0
        try clear c25b1
        try clear c26
        try clear c26b0
        try clear p27
        try clear q27
        try clear h43
        try clear hf27
        try clear c36
        try clear c36b0
        try clear p36
        try clear q36
        try clear h44
        try clear c37
        try clear c37b0
        try clear p37
        try clear q37
        try clear h45
        try clear c38
        try clear p38
        try clear q38
        try clear h46
        try clear c39
        try clear p39
        try clear q39
        try clear h51
        try clear c40
        try clear c40b0
        try clear c41
        try clear c41b0
        try clear p42
        try clear q42
        try clear h47
        try clear hf42
        try clear q43
        try clear c44
        try clear c45
        try clear c45b0
        try clear c45b1
        try clear c46
        try clear c46b0
        try clear p47
        try clear q47
        try clear h48
        try clear hf47
        try clear c59
        try clear c59b0
        try clear p60
        try clear q60
        try clear h49
        try clear hf60
        try clear q61
        try clear c62
        try clear c63
        try clear c63b0
        try clear c64
        try clear c64b0
        try clear c64b1
        try clear p64
        try clear c65
        try clear c65b0
        try clear p66
        try clear q66
        try clear h50
        try clear hf66
        try clear c78
        try clear c78b0
        try clear c79
        try clear c79b0
        try clear c80
        try clear c80b0
        try clear q81
        try clear c82
        try clear c83
        try clear c83b0
        try clear c84
        try clear c84b0
        try clear c85
        try clear c85b0
        try clear c86
        try clear c86b0
        try clear c87
        try clear c87b0
        try clear p88
        try clear q88
        try clear h52
        try clear hf88
        try clear h30
        try clear h37
        try clear h8
        try clear h11
        try clear h0
        try clear h1
        try clear h2
        try clear h3
        try clear h9
        try clear h7
        try clear h12
        try clear h4
        try clear h10
        try clear h6
        try clear h14
        try clear h5
        try clear h13
        try clear h17
        try clear h18
        try clear h19
        try clear h20
        try clear h21
        try clear h24
        try clear h25
        try clear h22
        try clear h26
        try clear h27
        try clear h28
        try clear h23
        try clear h29
        try clear h33
        try clear h34
        try clear h32
        try clear h39
        try clear h31
        try clear h38
        try clear h40
        try clear p2
        try clear p22
        try clear p27
        try clear p3
        try clear p36
        try clear p360
        try clear p364
        try clear p37
        try clear p371
        try clear p372
        try clear p374
        try clear p375
        try clear p377
        try clear p378
        try clear p38
        try clear p380
        try clear p381
        try clear p384
        try clear p385
        try clear p387
        try clear p388
        try clear p389
        try clear p390
        try clear p391
        try clear p392
        try clear p4
        try clear p42
        try clear p47
        try clear p6
        try clear p60
        try clear p64
        try clear p66
        try clear p88
        try clear q2
        try clear q22
        try clear q23
        try clear q27
        try clear q3
        try clear q36
        try clear q360
        try clear q364
        try clear q37
        try clear q371
        try clear q372
        try clear q374
        try clear q375
        try clear q377
        try clear q378
        try clear q38
        try clear q380
        try clear q381
        try clear q384
        try clear q385
        try clear q387
        try clear q388
        try clear q389
        try clear q390
        try clear q391
        try clear q392
        try clear q4
        try clear q42
        try clear q43
        try clear q47
        try clear q6
        try clear q60
        try clear q61
        try clear q66
        try clear q88
        obtain ⟨x9, x10, x3, rfl, rfl, rfl, HA, HK4, O0, O1, B0, HB⟩ := hrel
        cases gk with
        | zero => exact absurd HA.out (by simp [sleuthref12_byHalves.l3])
        | succ k4 =>
         have H := HA.out
         clear HA
         simp only [sleuthref12_byHalves.l3] at H
         by_cases c95 : x3 < (l0.length : Int)
         case neg =>
          rw [if_neg c95] at H
          have c95b0 : decide (x3 < (l0.length : Int)) = false := decide_eq_false c95
          clear c95
          by_cases c116 : x9 ≥ 0
          case pos =>
           rw [if_pos c116] at H
           have c116b0 : decide (0 ≤ x9) = true := decide_eq_true c116
           clear c116
           simp only [Option.some.injEq, Prod.mk.injEq] at H
           obtain ⟨rfl, rfl⟩ := H
           obtain ⟨z2, z3, f6, f7⟩ := bx2_ B0.out
           go_wp2
           refine bodyPost_ret (results_cell_row rfl _ _ g0 48 #[.int .i64 0, .int .i64 x9] (0, 0) _ rfl (bP_ (bP_ (hK_ B0.out))) Tryz.underlying48 rfl (by kernel_rfl)) rfl ?_
           exact ⟨hV_, hC_⟩
          rw [if_neg c116] at H
          have c116b0 : decide (0 ≤ x9) = false := decide_eq_false c116
          clear c116
          replace H := Option.bind_eq_some_iff.mp H
          obtain ⟨⟨t2, t3⟩, A1180, H⟩ := H
          try dsimp only at H
          have A118 := a_ A1180
          clear A1180
          simp only [Option.some.injEq, Prod.mk.injEq] at H
          obtain ⟨rfl, rfl⟩ := H
          go_wp2_with (first | ((with_reducible refine gate_callee (f := 54) rfl ?_); refine goesL_ (some 183) rfl rfl Tryz.func54 (by kernel_rfl) rfl #[.slice A0 l0.length c0, .slice (some d0) l1.length c1, .int .i64 x4] rfl hL_ ?_; (with_reducible refine (sleuthref12_verdict.calls k4 _ _ l0 _ _ l1 x4 t2 t3 _ ?s1 ?s2 ?s3 ?s4 A118.out).mono ?_); (case s1 => exact cB_ HR0.out); (case s2 => exact HC0.out); (case s3 => exact cB_ HR1.out); (case s4 => exact HC1.out); rintro e w12 ⟨rfl, hb⟩; refine ⟨_, rfl, ?_⟩; replace O0 := a_ (Kd.R_below (hR_ O0.out) hb); replace O1 := a_ (Kd.R_below (hR_ O1.out) hb); replace B0 := a_ (bB_ B0.out hb); replace HB := a_ (below_step hC_ hb); (try clear hb); (try clear hb2); (try clear hk); (try clear hi); obtain ⟨z4, z5, f8, f9⟩ := bx2_ B0.out))
          refine bodyPost_ret (results_cell_row rfl _ _ g0 48 #[.int .i64 t2, .int .i64 t3] (0, 0) _ rfl (bP_ (bP_ (hK_ B0.out))) Tryz.underlying48 rfl (by kernel_rfl)) rfl ?_
          exact ⟨hV_, hC_⟩
         rw [if_pos c95] at H
         have c95b0 : decide (x3 < (l0.length : Int)) = true := decide_eq_true c95
         clear c95
         have HC96 := a_ H
         clear H
         go_upto_region 29 with (fail)
         go_cut [151] (fun v11 wc => ∃ (kq : Nat) (x11 : Bool), v11 = .bool x11 ∧ Aside0 (sleuthref12_byHalves.j4 kq l0 l1 x4 x2 x7 x6 x9 x10 x3 x11 = some (r1, r2)) ∧ Aside0 (kq ≤ k4) ∧ Aside0 (Kd.R Kd.bool 4 wc w.heap.size (fun _ => True) v0 x2) ∧ Aside0 (Kd.R (Kd.int .i64) 3 wc w.heap.size (fun _ => True) v1 x7) ∧ Aside0 (wc.heap[g0]? = some (.cells #[.int .i64 0, .int .i64 0] 48 (0, 0))) ∧ Aside0 (Below w.heap.size w wc))
         case first =>
          have H := HC96.out
          clear HC96
          replace H := ifI_ H; obtain ⟨c97, H⟩ := H
          have c97b0 : decide (0 ≤ x3) = true := decide_eq_true c97
          clear c97
          (first | rw [c97b0] | (simp only [i64_w, i32_w]; rw [c97b0]) | skip)
          replace H := ifI_ H; obtain ⟨c98, H⟩ := H
          have c98b0 : decide (x3 < (x2.length : Int)) = true := decide_eq_true c98
          clear c98
          obtain ⟨bq99, hbq99⟩ : ∃ b_ : Bool, b_ = (rdOf false x2 x3) := ⟨_, rfl⟩
          replace H : (if bq99 = true then (if x3 < (l1.length : Int) then (sleuthref12_byHalves.j4 k4 l0 l1 x4 x2 x7 x6 x9 x10 x3 ((rd l1 x3) != 0)) else (none)) else (sleuthref12_byHalves.j4 k4 l0 l1 x4 x2 x7 x6 x9 x10 x3 true)) = some (r1, r2) := by rw [← hbq99] at H; exact H
          have Q5 := a_ hbq99
          clear hbq99
          by_cases c100 : bq99 = true
          case neg =>
           replace c100 := Bool.eq_false_iff.mpr c100
           subst c100
           rw [if_neg (show ¬ (false = true) by decide)] at H
           have H' := a_ H
           clear H
           obtain ⟨a10, o17, e20⟩ := Kd.R_slice O0.out
           subst e20
           have p396 : 0 ≤ (x3 : Int) := of_decide_eq_true hA_
           have q396 : x3 < (x2.length : Int) := of_decide_eq_true hA_
           obtain ⟨d21, e396, h36⟩ := Kd.at_bool (Kd.R_reads' O0.out).2.2 x3 p396 q396
           (try rw [← Q5.out] at h36)
           cases e396
           replace p396 := eq_true p396
           replace q396 := eq_true q396
           go_wp2
           go_meet
           case rel => exact ⟨_, (true), hW_, H', ⟨by have := HK1.out; have := HK2.out; have := HK3.out; have := HK4.out; first | omega | exact Nat.le_refl _⟩, ⟨hR_ O0.out⟩, ⟨hR_ O1.out⟩, ⟨(hK_ B0.out)⟩, ⟨hC_⟩⟩
          subst c100
          rw [if_pos rfl] at H
          replace H := ifI_ H; obtain ⟨c101, H⟩ := H
          have c101b0 : decide (x3 < (l1.length : Int)) = true := decide_eq_true c101
          clear c101
          have H' := a_ H
          clear H
          obtain ⟨a11, o18, e21⟩ := Kd.R_slice O0.out
          subst e21
          have p396 : 0 ≤ (x3 : Int) := of_decide_eq_true hA_
          have q396 : x3 < (x2.length : Int) := of_decide_eq_true hA_
          obtain ⟨d21, e396, h36⟩ := Kd.at_bool (Kd.R_reads' O0.out).2.2 x3 p396 q396
          (try rw [← Q5.out] at h36)
          cases e396
          replace p396 := eq_true p396
          replace q396 := eq_true q396
          have p397 : 0 ≤ (x3 : Int) := of_decide_eq_true hA_
          have q397 : x3 < (l1.length : Int) := of_decide_eq_true hA_
          obtain ⟨d22, e397, h41⟩ := Kd.at_int HR1.out x3 p397 q397
          obtain rfl : d0 = d22 := (by injection e397)
          replace h41 := cl_ HB.out h41
          replace p397 := eq_true p397
          replace q397 := eq_true q397
          go_wp2
          go_meet
          case rel => exact ⟨_, (((rd l1 x3) != 0)), hW_, H', ⟨by have := HK1.out; have := HK2.out; have := HK3.out; have := HK4.out; first | omega | exact Nat.le_refl _⟩, ⟨hR_ O0.out⟩, ⟨hR_ O1.out⟩, ⟨(hK_ B0.out)⟩, ⟨hC_⟩⟩
         case rest =>
          clear HC96
          try clear c1
          try clear c2
          try clear p2
          try clear q2
          try clear hx2
          try clear hf2
          try clear c3
          try clear p3
          try clear q3
          try clear hx3
          try clear c4
          try clear p4
          try clear q4
          try clear hx4
          try clear hf4
          try clear c5
          try clear c6
          try clear p6
          try clear q6
          try clear hx6
          try clear hf6
          try clear c7
          try clear c8
          try clear p8
          try clear q8
          try clear hx8
          try clear hf8
          try clear c9
          try clear q9
          try clear c10
          try clear c17
          try clear c17b0
          try clear c18
          try clear c18b0
          try clear c19
          try clear c19b0
          try clear c19b1
          try clear c20
          try clear c20b0
          try clear c21
          try clear c21b0
          try clear p22
          try clear q22
          try clear h42
          try clear hf22
          try clear q23
          try clear c24
          try clear c25
          try clear c25b0
          try clear c25b1
          try clear c26
          try clear c26b0
          try clear p27
          try clear q27
          try clear h43
          try clear hf27
          try clear c36
          try clear c36b0
          try clear p36
          try clear q36
          try clear h44
          try clear c37
          try clear c37b0
          try clear p37
          try clear q37
          try clear h45
          try clear c38
          try clear p38
          try clear q38
          try clear h46
          try clear c39
          try clear p39
          try clear q39
          try clear h51
          try clear c40
          try clear c40b0
          try clear c41
          try clear c41b0
          try clear p42
          try clear q42
          try clear h47
          try clear hf42
          try clear q43
          try clear c44
          try clear c45
          try clear c45b0
          try clear c45b1
          try clear c46
          try clear c46b0
          try clear p47
          try clear q47
          try clear h48
          try clear hf47
          try clear c59
          try clear c59b0
          try clear p60
          try clear q60
          try clear h49
          try clear hf60
          try clear q61
          try clear c62
          try clear c63
          try clear c63b0
          try clear c64
          try clear c64b0
          try clear c64b1
          try clear p64
          try clear c65
          try clear c65b0
          try clear p66
          try clear q66
          try clear h50
          try clear hf66
          try clear c78
          try clear c78b0
          try clear c79
          try clear c79b0
          try clear c80
          try clear c80b0
          try clear q81
          try clear c82
          try clear c83
          try clear c83b0
          try clear c84
          try clear c84b0
          try clear c85
          try clear c85b0
          try clear c86
          try clear c86b0
          try clear c87
          try clear c87b0
          try clear p88
          try clear q88
          try clear h52
          try clear hf88
          try clear c95
          try clear c95b0
          try clear c97
          try clear c97b0
          try clear c98
          try clear c98b0
          try clear q99
          try clear c100
          try clear c101
          try clear c101b0
          try clear h30
          try clear h37
          try clear h8
          try clear h11
          try clear h0
          try clear h1
          try clear h2
          try clear h3
          try clear h9
          try clear h7
          try clear h12
          try clear h4
          try clear h10
          try clear h6
          try clear h14
          try clear h5
          try clear h13
          try clear h17
          try clear h18
          try clear h19
          try clear h20
          try clear h21
          try clear h24
          try clear h25
          try clear h22
          try clear h26
          try clear h27
          try clear h28
          try clear h23
          try clear h29
          try clear h33
          try clear h34
          try clear h36
          try clear h41
          try clear h32
          try clear h39
          try clear h31
          try clear h38
          try clear h40
          try clear p2
          try clear p22
          try clear p27
          try clear p3
          try clear p36
          try clear p360
          try clear p364
          try clear p37
          try clear p371
          try clear p372
          try clear p374
          try clear p375
          try clear p377
          try clear p378
          try clear p38
          try clear p380
          try clear p381
          try clear p384
          try clear p385
          try clear p387
          try clear p388
          try clear p389
          try clear p39
          try clear p390
          try clear p391
          try clear p392
          try clear p396
          try clear p397
          try clear p4
          try clear p42
          try clear p47
          try clear p6
          try clear p60
          try clear p64
          try clear p66
          try clear p8
          try clear p88
          try clear q2
          try clear q22
          try clear q23
          try clear q27
          try clear q3
          try clear q36
          try clear q360
          try clear q364
          try clear q37
          try clear q371
          try clear q372
          try clear q374
          try clear q375
          try clear q377
          try clear q378
          try clear q38
          try clear q380
          try clear q381
          try clear q384
          try clear q385
          try clear q387
          try clear q388
          try clear q389
          try clear q39
          try clear q390
          try clear q391
          try clear q392
          try clear q396
          try clear q397
          try clear q4
          try clear q42
          try clear q43
          try clear q47
          try clear q6
          try clear q60
          try clear q61
          try clear q66
          try clear q8
          try clear q81
          try clear q88
          obtain ⟨kq, x11, rfl, HA, HJ95, O0, O1, B0, HB⟩ := hcut
          cases kq with
          | zero => exact absurd HA.out (by simp [sleuthref12_byHalves.j4])
          | succ kj95 =>
           have H := HA.out
           clear HA
           simp only [sleuthref12_byHalves.j4] at H
           by_cases c104 : x11 = true
           case pos =>
            subst c104
            rw [if_pos rfl] at H
            have H' := a_ H
            clear H
            go_wp2
            go_roundg kj95
            case measure => have := HK1.out; have := HK2.out; have := HK3.out; have := HK4.out; have := HJ95.out; omega
            case rel => exact ⟨(x9), (x10), (wrap64 (x3 + 1)), hW_, hW_, hW_, H', ⟨by have := HK1.out; have := HK2.out; have := HK3.out; have := HK4.out; have := HJ95.out; omega⟩, ⟨hR_ O0.out⟩, ⟨hR_ O1.out⟩, ⟨(hK_ B0.out)⟩, ⟨hC_⟩⟩
           replace c104 := Bool.eq_false_iff.mpr c104
           subst c104
           rw [if_neg (show ¬ (false = true) by decide)] at H
           replace H := ifI_ H; obtain ⟨c105, H⟩ := H
           have c105b0 : decide (0 ≤ x3) = true := decide_eq_true c105
           clear c105
           replace H := ifI_ H; obtain ⟨c106, H⟩ := H
           have c106b0 : decide (x3 < (x7.length : Int)) = true := decide_eq_true c106
           clear c106
           obtain ⟨ji107, hji107⟩ : ∃ j_ : Int, (mx (wrap64 ((wrap64 (2 * (rd x7 x3))) - x6)) (wrap64 (x6 - (wrap64 (2 * (rd x7 x3)))))) = j_ := ⟨_, rfl⟩
           replace H : (if x9 < 0 then (sleuthref12_byHalves.l3 kj95 l0 l1 x4 x2 x7 x6 x3 ji107 (wrap64 (x3 + 1))) else (if (ji107) < x10 then (sleuthref12_byHalves.l3 kj95 l0 l1 x4 x2 x7 x6 x3 ji107 (wrap64 (x3 + 1))) else (sleuthref12_byHalves.l3 kj95 l0 l1 x4 x2 x7 x6 x9 x10 (wrap64 (x3 + 1))))) = some (r1, r2) := by first | (rw [hji107] at H; exact H) | (simp only [hji107] at H ⊢; exact H)
           have hji107_ : (if (wrap64 ((wrap64 (2 * (rd x7 x3))) - x6)) < (wrap64 (x6 - (wrap64 (2 * (rd x7 x3))))) then (wrap64 (x6 - (wrap64 (2 * (rd x7 x3))))) else (wrap64 ((wrap64 (2 * (rd x7 x3))) - x6))) = ji107 := hji107
           by_cases c108 : x9 < 0
           case pos =>
            rw [if_pos c108] at H
            have c108b0 : decide (x9 < 0) = true := decide_eq_true c108
            clear c108
            have H' := a_ H
            clear H
            try go_wp2
            replace O0 := a_ (Kd.R_drew O0.out)
            replace O1 := a_ (Kd.R_drew O1.out)
            replace B0 := a_ (blk_drew B0.out)
            replace HB := a_ (below_drew1 HB.out)
            obtain ⟨a12, o19, e8⟩ := Kd.R_slice O1.out
            (first | subst e8 | (injection e8 with f1_ f2_ f3_; have f4_ := f1_.symm; have f5_ := f3_.symm; clear f1_ f2_ f3_; subst f4_; subst f5_))
            have p398 : 0 ≤ (x3 : Int) := of_decide_eq_true hA_
            have q398 : x3 < (x7.length : Int) := of_decide_eq_true hA_
            obtain ⟨d2, e398, h15⟩ := Kd.at_int (Kd.R_reads' O1.out).2.2 x3 p398 q398
            cases e398
            replace p398 := eq_true p398
            replace q398 := eq_true q398
            have p399 : 0 ≤ (x3 : Int) := of_decide_eq_true hA_
            have q399 : x3 < (x7.length : Int) := of_decide_eq_true hA_
            obtain ⟨d10, e399, h16⟩ := Kd.at_int (Kd.R_reads' O1.out).2.2 x3 p399 q399
            obtain rfl : d2 = d10 := (by injection e399)
            replace p399 := eq_true p399
            replace q399 := eq_true q399
            refine start_ (n := 16) (S := fun w' => w'.cell? (d2.add (x3).toNat) = some (.int .i64 (rd x7 x3)) ∧ w'.cell? (d2.add (x3).toNat) = some (.int .i64 (rd x7 x3))) (ds := []) #[false, false, false, false, false, false, false, false, false, false, false, false, false, false, false, false] (by kernel_rfl) rfl rfl ⟨h15, h16⟩ (fun hHeld => ?_); refine with_tabW sleuthref12_byHalves.tab30 sleuthref12_byHalves.bits30 (fun HT_ HW_ => ?_)
            generalize wc.drew = w14 at O0 O1 B0 HB h15 h16 hHeld ⊢
            refine pB_ 0 152 HT_.out ?_
            refine pB_ 1 153 HT_.out ?_
            refine pB_ 2 154 HT_.out ?_
            refine pB_ 5 157 HT_.out ?_
            refine pB_ 7 159 HT_.out ?_
            refine pB_ 8 160 HT_.out ?_
            refine pB_ 9 161 HT_.out ?_
            refine pB_ 10 162 HT_.out ?_
            refine tB_ 3 155 HT_.out HW_.out hHeld ?_
            refine pB_ 4 156 HT_.out ?_
            refine pB_ 6 158 HT_.out ?_
            refine tB_ 11 163 HT_.out HW_.out hHeld ?_
            refine pB_ 12 164 HT_.out ?_
            refine pB_ 13 165 HT_.out ?_
            refine pB_ 14 166 HT_.out ?_
            refine pB_ 15 16 HT_.out ?_
            refine done_ (done_of HT_.out (by kernel_rfl)) ?_
            try go_wp2
            go_roundg kj95
            case measure => have := HK1.out; have := HK2.out; have := HK3.out; have := HK4.out; have := HJ95.out; omega
            case rel => exact ⟨(x3), (ji107), (wrap64 (x3 + 1)), hW_, (by first | rfl | (simp; done) | (simp only [← hji107] <;> (first | rfl | simp)) | (simp [*]; done)), hW_, H', ⟨by have := HK1.out; have := HK2.out; have := HK3.out; have := HK4.out; have := HJ95.out; omega⟩, ⟨hR_ O0.out⟩, ⟨hR_ O1.out⟩, ⟨(hK_ B0.out)⟩, ⟨hC_⟩⟩
           rw [if_neg c108] at H
           have c108b0 : decide (x9 < 0) = false := decide_eq_false c108
           clear c108
           by_cases c111 : (ji107) < x10
           case neg =>
            rw [if_neg c111] at H
            have c111b0 : decide ((ji107) < x10) = false := decide_eq_false c111
            clear c111
            have H' := a_ H
            clear H
            try go_wp2
            replace O0 := a_ (Kd.R_drew O0.out)
            replace O1 := a_ (Kd.R_drew O1.out)
            replace B0 := a_ (blk_drew B0.out)
            replace HB := a_ (below_drew1 HB.out)
            obtain ⟨a13, o20, e9⟩ := Kd.R_slice O1.out
            (first | subst e9 | (injection e9 with f1_ f2_ f3_; have f4_ := f1_.symm; have f5_ := f3_.symm; clear f1_ f2_ f3_; subst f4_; subst f5_))
            have p398 : 0 ≤ (x3 : Int) := of_decide_eq_true hA_
            have q398 : x3 < (x7.length : Int) := of_decide_eq_true hA_
            obtain ⟨d2, e398, h15⟩ := Kd.at_int (Kd.R_reads' O1.out).2.2 x3 p398 q398
            cases e398
            replace p398 := eq_true p398
            replace q398 := eq_true q398
            have p399 : 0 ≤ (x3 : Int) := of_decide_eq_true hA_
            have q399 : x3 < (x7.length : Int) := of_decide_eq_true hA_
            obtain ⟨d10, e399, h16⟩ := Kd.at_int (Kd.R_reads' O1.out).2.2 x3 p399 q399
            obtain rfl : d2 = d10 := (by injection e399)
            replace p399 := eq_true p399
            replace q399 := eq_true q399
            refine start_ (n := 16) (S := fun w' => w'.cell? (d2.add (x3).toNat) = some (.int .i64 (rd x7 x3)) ∧ w'.cell? (d2.add (x3).toNat) = some (.int .i64 (rd x7 x3))) (ds := []) #[false, false, false, false, false, false, false, false, false, false, false, false, false, false, false, false] (by kernel_rfl) rfl rfl ⟨h15, h16⟩ (fun hHeld => ?_); refine with_tabW sleuthref12_byHalves.tab30 sleuthref12_byHalves.bits30 (fun HT_ HW_ => ?_)
            generalize wc.drew = w16 at O0 O1 B0 HB h15 h16 hHeld ⊢
            refine pB_ 0 152 HT_.out ?_
            refine pB_ 1 153 HT_.out ?_
            refine pB_ 2 154 HT_.out ?_
            refine pB_ 5 157 HT_.out ?_
            refine pB_ 7 159 HT_.out ?_
            refine pB_ 8 160 HT_.out ?_
            refine pB_ 9 161 HT_.out ?_
            refine pB_ 10 162 HT_.out ?_
            refine tB_ 3 155 HT_.out HW_.out hHeld ?_
            refine pB_ 4 156 HT_.out ?_
            refine pB_ 6 158 HT_.out ?_
            refine tB_ 11 163 HT_.out HW_.out hHeld ?_
            refine pB_ 12 164 HT_.out ?_
            refine pB_ 13 165 HT_.out ?_
            refine pB_ 14 166 HT_.out ?_
            refine pB_ 15 16 HT_.out ?_
            refine done_ (done_of HT_.out (by kernel_rfl)) ?_
            try go_wp2
            go_roundg kj95
            case measure => have := HK1.out; have := HK2.out; have := HK3.out; have := HK4.out; have := HJ95.out; omega
            case rel => exact ⟨(x9), (x10), (wrap64 (x3 + 1)), hW_, hW_, hW_, H', ⟨by have := HK1.out; have := HK2.out; have := HK3.out; have := HK4.out; have := HJ95.out; omega⟩, ⟨hR_ O0.out⟩, ⟨hR_ O1.out⟩, ⟨(hK_ B0.out)⟩, ⟨hC_⟩⟩
           rw [if_pos c111] at H
           have c111b0 : decide ((ji107) < x10) = true := decide_eq_true c111
           clear c111
           have H' := a_ H
           clear H
           try go_wp2
           replace O0 := a_ (Kd.R_drew O0.out)
           replace O1 := a_ (Kd.R_drew O1.out)
           replace B0 := a_ (blk_drew B0.out)
           replace HB := a_ (below_drew1 HB.out)
           obtain ⟨a14, o21, e10⟩ := Kd.R_slice O1.out
           (first | subst e10 | (injection e10 with f1_ f2_ f3_; have f4_ := f1_.symm; have f5_ := f3_.symm; clear f1_ f2_ f3_; subst f4_; subst f5_))
           have p398 : 0 ≤ (x3 : Int) := of_decide_eq_true hA_
           have q398 : x3 < (x7.length : Int) := of_decide_eq_true hA_
           obtain ⟨d2, e398, h15⟩ := Kd.at_int (Kd.R_reads' O1.out).2.2 x3 p398 q398
           cases e398
           replace p398 := eq_true p398
           replace q398 := eq_true q398
           have p399 : 0 ≤ (x3 : Int) := of_decide_eq_true hA_
           have q399 : x3 < (x7.length : Int) := of_decide_eq_true hA_
           obtain ⟨d10, e399, h16⟩ := Kd.at_int (Kd.R_reads' O1.out).2.2 x3 p399 q399
           obtain rfl : d2 = d10 := (by injection e399)
           replace p399 := eq_true p399
           replace q399 := eq_true q399
           refine start_ (n := 16) (S := fun w' => w'.cell? (d2.add (x3).toNat) = some (.int .i64 (rd x7 x3)) ∧ w'.cell? (d2.add (x3).toNat) = some (.int .i64 (rd x7 x3))) (ds := []) #[false, false, false, false, false, false, false, false, false, false, false, false, false, false, false, false] (by kernel_rfl) rfl rfl ⟨h15, h16⟩ (fun hHeld => ?_); refine with_tabW sleuthref12_byHalves.tab30 sleuthref12_byHalves.bits30 (fun HT_ HW_ => ?_)
           generalize wc.drew = w17 at O0 O1 B0 HB h15 h16 hHeld ⊢
           refine pB_ 0 152 HT_.out ?_
           refine pB_ 1 153 HT_.out ?_
           refine pB_ 2 154 HT_.out ?_
           refine pB_ 5 157 HT_.out ?_
           refine pB_ 7 159 HT_.out ?_
           refine pB_ 8 160 HT_.out ?_
           refine pB_ 9 161 HT_.out ?_
           refine pB_ 10 162 HT_.out ?_
           refine tB_ 3 155 HT_.out HW_.out hHeld ?_
           refine pB_ 4 156 HT_.out ?_
           refine pB_ 6 158 HT_.out ?_
           refine tB_ 11 163 HT_.out HW_.out hHeld ?_
           refine pB_ 12 164 HT_.out ?_
           refine pB_ 13 165 HT_.out ?_
           refine pB_ 14 166 HT_.out ?_
           refine pB_ 15 16 HT_.out ?_
           refine done_ (done_of HT_.out (by kernel_rfl)) ?_
           try go_wp2
           go_roundg kj95
           case measure => have := HK1.out; have := HK2.out; have := HK3.out; have := HK4.out; have := HJ95.out; omega
           case rel => exact ⟨(x3), (ji107), (wrap64 (x3 + 1)), hW_, (by first | rfl | (simp; done) | (simp only [← hji107] <;> (first | rfl | simp)) | (simp [*]; done)), hW_, H', ⟨by have := HK1.out; have := HK2.out; have := HK3.out; have := HK4.out; have := HJ95.out; omega⟩, ⟨hR_ O0.out⟩, ⟨hR_ O1.out⟩, ⟨(hK_ B0.out)⟩, ⟨hC_⟩⟩
end Go.Proofs.YtijamgfpgdiigaaGreatDoor.G
end
section
namespace Go.Proofs.YtijamgfpgdiigaaGreatDoor.G
open Go.RowKit Go.Proofs.YtijamgfpgdiigaaGreatDoorW.PrintWords Go.Proofs.YtijamgfpgdiigaaGreatDoorW.PrintLast Go.Proofs.YtijamgfpgdiigaaGreatDoorW.PrintMore
set_option linter.unusedVariables false
set_option linter.unusedSimpArgs false
theorem kidsR_l0 (ns : List Nd) (h : mayT ns = true) (a : Int) (h0 : 0 ≤ a) : ∀ (n i : Nat), i + n = ns.length → Ev (fun k => sleuthref12_kids.l0 k ns a (kidsTo ns a i) (i : Int)) (kidsTo ns a ns.length) := by
  have hlen := mayT_len h
  intro n
  induction n with
  | zero =>
    intro i hi
    obtain rfl : i = ns.length := by omega
    refine Ev.step (f := fun _ => some (kidsTo ns a ns.length)) (fun k => ?_) (Ev.now _)
    rw [sleuthref12_kids.l0, if_neg (by omega)]
  | succ n ih =>
    intro i hi
    have hw : wrap64 ((i : Int) + 1) = ((i + 1 : Nat) : Int) := by rw [w64 (by omega) (by omega)]; omega
    have hpa := mayT_pa h i (by omega)
    refine Ev.step (f := fun k => sleuthref12_kids.l0 k ns a (kidsTo ns a (i + 1)) ((i + 1 : Nat) : Int)) (fun k => ?_) (ih (i + 1) (by omega))
    rw [sleuthref12_kids.l0, if_pos (by omega), if_pos (by omega), hw]
    by_cases c : (rn ns (i : Int)).f1 = a
    · have hk := kidsTo_len ns a i
      rw [if_pos c, if_pos (by omega), kidsTo, if_pos ⟨by unfold pa at hpa; omega, c⟩]
    · rw [if_neg c, kidsTo, if_neg (fun hh => c hh.2)]
theorem kidsR_ev {ns : List Nd} (h : mayT ns = true) (a : Int) (h0 : 0 ≤ a) : Ev (fun k => sleuthref12_kids.f k ns a) (kidsTo ns a ns.length) := kidsR_l0 ns h a h0 ns.length 0 (by omega)
theorem drop_rd (l : List Int) (i : Nat) (h : i < l.length) : l.drop i = rd l (i : Int) :: l.drop (i + 1) := by
  rw [List.drop_eq_getElem_cons h]
  congr 1
  show _ = List.getD _ _ _
  rw [Int.toNat_natCast, List.getD_eq_getElem?_getD, List.getElem?_eq_getElem h]; rfl
theorem firstOf_l0 {L ms : List Int} (hL : ∀ x ∈ L, 0 ≤ x ∧ x < (ms.length : Int)) (hl : L.length ≤ 9223372036854775806) (m : Int) : ∀ n i : Nat, i + n = L.length → Ev (fun k => sleuthref12_firstOf.l0 k L ms m (i : Int)) (((L.drop i).find? fun k => rd ms k == m).getD (-1)) := by
  intro n
  induction n with
  | zero =>
    intro i hi
    rw [List.drop_eq_nil_of_le (by omega)]
    refine Ev.step (f := fun _ => some (-1)) (fun k => ?_) (Ev.now _)
    rw [sleuthref12_firstOf.l0, if_neg (by omega)]
  | succ n ih =>
    intro i hi
    have hw : wrap64 ((i : Int) + 1) = ((i + 1 : Nat) : Int) := by rw [w64 (by omega) (by omega)]; omega
    have hm := hL _ (rd_mem i (by omega))
    rw [drop_rd L i (by omega), List.find?_cons]
    by_cases c : rd ms (rd L (i : Int)) = m
    · rw [show (rd ms (rd L (i : Int)) == m) = true from beq_iff_eq.2 c]
      refine Ev.step (f := fun _ => some (rd L (i : Int))) (fun k => ?_) (Ev.now _)
      rw [sleuthref12_firstOf.l0, if_pos (by omega), if_pos (by omega), if_pos hm.1, if_pos hm.2, if_pos c]
    · rw [show (rd ms (rd L (i : Int)) == m) = false from beq_eq_false_iff_ne.2 c]
      refine Ev.step (f := fun k => sleuthref12_firstOf.l0 k L ms m ((i + 1 : Nat) : Int)) (fun k => ?_) (ih (i + 1) (by omega))
      rw [sleuthref12_firstOf.l0, if_pos (by omega), if_pos (by omega), if_pos hm.1, if_pos hm.2, if_neg c, hw]
theorem kids_rng {ns : List Nd} {ms : List Int} (h : marksS ns ms = true) (a : Int) (h0 : 0 ≤ a) : ∀ x ∈ kidsTo ns a ns.length, 0 ≤ x ∧ x < (ms.length : Int) := fun x hx => by
  have h1 := kidsTo_rng ns a x ns.length hx
  obtain ⟨_, hl, _⟩ := marksS_spec h
  omega
theorem kids_max {ns : List Nd} {ms : List Int} (h : marksS ns ms = true) (a : Int) : (kidsTo ns a ns.length).length ≤ 9223372036854775806 := by
  obtain ⟨hm, hl, _⟩ := marksS_spec h
  have hlen := mayT_len hm
  have := kidsTo_len ns a ns.length
  omega
theorem firstOf_ev {ns : List Nd} {ms : List Int} (h : marksS ns ms = true) (a : Int) (h0 : 0 ≤ a) (m : Int) : Ev (fun k => sleuthref12_firstOf.f k (kidsTo ns a ns.length) ms m) ((fstK ns ms a m).getD (-1)) :=
  firstOf_l0 (kids_rng h a h0) (kids_max h a) m (kidsTo ns a ns.length).length 0 (by omega)
theorem verdict_l0 {L ms : List Int} (hL : ∀ x ∈ L, 0 ≤ x ∧ x < (ms.length : Int)) (hl : L.length ≤ 9223372036854775806) (a : Int) : ∀ n i : Nat, i + n = L.length → Ev (fun k => sleuthref12_verdict.l0 k ms a L (i : Int)) (if ((L.drop i).all fun k => rd ms k == 1) = true then (1, a) else (3, 0)) := by
  intro n
  induction n with
  | zero =>
    intro i hi
    rw [List.drop_eq_nil_of_le (by omega)]
    refine Ev.step (f := fun _ => some (1, a)) (fun k => ?_) (Ev.now _)
    rw [sleuthref12_verdict.l0, if_neg (by omega)]
  | succ n ih =>
    intro i hi
    have hw : wrap64 ((i : Int) + 1) = ((i + 1 : Nat) : Int) := by rw [w64 (by omega) (by omega)]; omega
    have hm := hL _ (rd_mem i (by omega))
    rw [drop_rd L i (by omega), List.all_cons]
    by_cases c : rd ms (rd L (i : Int)) = 1
    · rw [show (rd ms (rd L (i : Int)) == 1) = true from beq_iff_eq.2 c, Bool.true_and]
      refine Ev.step (f := fun k => sleuthref12_verdict.l0 k ms a L ((i + 1 : Nat) : Int)) (fun k => ?_) (ih (i + 1) (by omega))
      rw [sleuthref12_verdict.l0, if_pos (by omega), if_pos (by omega), if_pos hm.1, if_pos hm.2, if_pos c, hw]
    · rw [show (rd ms (rd L (i : Int)) == 1) = false from beq_eq_false_iff_ne.2 c, Bool.false_and]
      refine Ev.step (f := fun _ => some (3, 0)) (fun k => ?_) (Ev.now _)
      rw [sleuthref12_verdict.l0, if_pos (by omega), if_pos (by omega), if_pos hm.1, if_pos hm.2, if_neg c]
theorem verdict_ev {ns : List Nd} {ms : List Int} (h : marksS ns ms = true) (a : Int) (h0 : 0 ≤ a) : Ev (fun k => sleuthref12_verdict.f k ns ms a) (bugS ns ms a) := by
  unfold sleuthref12_verdict.f bugS
  refine Ev.bind (kidsR_ev (marksS_spec h).1 a h0) ?_
  exact verdict_l0 (kids_rng h a h0) (kids_max h a) a (kidsTo ns a ns.length).length 0 (by omega)
theorem topDown_l0 {ns : List Nd} {ms : List Int} (h : marksS ns ms = true) : ∀ (n : Nat) (a : Int), 0 ≤ a → a < (ns.length : Int) → (ns.length : Int) ≤ a + n → Ev (fun q => sleuthref12_topDown.l0 q ns ms a) (finT ns ms (downT ns ms n a)) := by
  have hm := (marksS_spec h).1
  intro n
  induction n with
  | zero => intro a h0 h1 h2; omega
  | succ n ih =>
    intro a h0 h1 h2
    refine Ev.step (f := fun k => (sleuthref12_kids.f k ns a).bind fun t347 => ((sleuthref12_firstOf.f k t347 ms 2).bind fun t350 => (if t350 < 0 then ((sleuthref12_kids.f k ns a).bind fun t351 => ((sleuthref12_firstOf.f k t351 ms 0).bind fun t354 => (if t354 ≥ 0 then (some (0, t354)) else ((sleuthref12_verdict.f k ns ms a).bind fun bt355 => (some (bt355.1, bt355.2)))))) else (sleuthref12_topDown.l0 k ns ms t350)))) (fun k => by rw [sleuthref12_topDown.l0]) ?_
    refine Ev.bind (kidsR_ev hm a h0) ?_
    refine Ev.bind (firstOf_ev h a h0 2) ?_
    rw [downT]
    cases hf : fstK ns ms a 2 with
    | some k =>
      have hk := fstK_spec hf
      have hk0 : ¬ (some k).getD (-1) < 0 := by show ¬ k < 0; omega
      simp only [if_neg hk0]
      exact ih k (by omega) hk.2.1 (by omega)
    | none =>
      have hk0 : (none : Option Int).getD (-1) < 0 := by decide
      simp only [if_pos hk0]
      refine Ev.bind (kidsR_ev hm a h0) ?_
      refine Ev.bind (firstOf_ev h a h0 0) ?_
      unfold finT
      cases hg : fstK ns ms a 0 with
      | some k =>
        have hk := fstK_spec hg
        have hk1 : (some k).getD (-1) ≥ 0 := by show k ≥ 0; omega
        simp only [if_pos hk1]
        exact Ev.now _
      | none =>
        have hk1 : ¬ (none : Option Int).getD (-1) ≥ 0 := by decide
        simp only [if_neg hk1]
        exact Ev.bind (verdict_ev h a h0) (Ev.now _)
theorem rooted_eq {ns : List Nd} {ms : List Int} (h : marksS ns ms = true) (h2 : rd ms 0 ≠ 2) : sleuthref12_rooted.f (rd ms 0) = some (askT ns ms) := by
  have hlen := mayT_len (marksS_spec h).1
  have h00 := marks_at h 0 (by omega)
  rw [show ((0 : Nat) : Int) = 0 from rfl] at h00
  unfold sleuthref12_rooted.f askT
  by_cases c0 : rd ms 0 = 0
  · rw [if_pos c0, if_pos c0]
  · rw [if_neg c0, if_neg c0]
    by_cases c1 : rd ms 0 = 1
    · rw [if_pos c1, if_pos c1]
    · rw [if_neg c1, if_neg c1, if_pos (by omega)]
theorem topDown_ev {ns : List Nd} {ms : List Int} (h : marksS ns ms = true) : Ev (fun k => sleuthref12_topDown.f k ns ms) (askT ns ms) := by
  obtain ⟨hm, hl, _⟩ := marksS_spec h
  have hlen := mayT_len hm
  unfold sleuthref12_topDown.f
  have g : (0 : Int) < (ms.length : Int) := by omega
  simp only [if_pos g]
  by_cases c2 : rd ms 0 = 2
  · have e : askT ns ms = finT ns ms (downT ns ms ns.length 0) := by
      unfold askT
      rw [if_neg (by omega), if_neg (by omega), if_neg (by omega)]
    simp only [if_pos c2]
    rw [e]
    exact topDown_l0 h ns.length 0 (by omega) (by omega) (by omega)
  · simp only [if_neg c2, rooted_eq h c2, Option.bind_some]
    exact Ev.now _
theorem dbt_stable (ns : List Nd) (ms : List Int) (w n : Nat) (j : Nat) (hj : j < n) : ∀ m : Nat, n ≤ m → rdOf false (dbt ns ms w m) (j : Int) = rdOf false (dbt ns ms w n) (j : Int) := by
  intro m
  induction m with
  | zero => intro h; omega
  | succ m ih =>
    intro h
    rcases Nat.lt_or_ge m n with c | c
    · obtain rfl : n = m + 1 := by omega
      rfl
    · rw [← ih c, dbt]
      split
      · rfl
      · rw [rdOf_set, if_neg (by omega)]
theorem dbt_dsc {ns : List Nd} (hm : mayT ns = true) (ms : List Int) (w : Nat) : ∀ n j : Nat, j < n → rdOf false (dbt ns ms w ns.length) (j : Int) = true → dsc (ps ns) w j = true := by
  have hpar := par_of hm
  intro n
  induction n with
  | zero => intro j h; omega
  | succ n ih =>
    intro j hj hd
    obtain ⟨h1, h2, _, h4⟩ := dbt_spec hm ms w ns.length (Nat.le_refl _) j hd
    have hp := mayT_pa hm j h2
    rw [dsc_step hpar w (by rw [ps_len]; exact h2) (by omega), ps_at ns j h2, Bool.or_eq_true]
    refine .inr ?_
    rcases h4 with h4 | h4
    · rw [h4, Int.toNat_natCast]; exact dsc_self w
    · refine ih _ (by omega) ?_
      rw [show (((pa ns j).toNat : Nat) : Int) = pa ns j by omega]
      exact h4.2
theorem oneB_range (d : List Bool) (ms : List Int) (i : Int) : 0 ≤ oneB d ms i ∧ oneB d ms i ≤ 1 := by
  unfold oneB
  split <;> omega
theorem oneB_low {ns : List Nd} (hm : mayT ns = true) (ms : List Int) (w : Nat) (j : Nat) (h : j ≤ w) : openB (dbt ns ms w ns.length) ms (j : Int) = false := by
  unfold openB
  cases c : rdOf false (dbt ns ms w ns.length) (j : Int) with
  | false => rfl
  | true =>
    have := dbt_spec hm ms w ns.length (Nat.le_refl _) j c
    omega
def oneN (ns : List Nd) (ms : List Int) (w : Nat) (j : Nat) : Int := oneB (dbt ns ms w ns.length) ms (j : Int)
theorem oneN_sum (ns : List Nd) (ms : List Int) (w : Nat) (n : Nat) : 0 ≤ sumTo (oneN ns ms w) n ∧ sumTo (oneN ns ms w) n ≤ (n : Int) := by
  refine ⟨sumTo_nonneg (fun j _ => (oneB_range _ _ _).1), ?_⟩
  have := sumTo_le (f := oneN ns ms w) (g := fun _ => 1) (n := n) (fun j _ => (oneB_range _ _ _).2)
  rw [sumTo_const] at this
  exact this
theorem half_total {ns : List Nd} {ms : List Int} (h : marksS ns ms = true) (w : Nat) (hw : w < ns.length) : rd (szH ns (dbt ns ms w ns.length) ms) (w : Int) = sumTo (oneN ns ms w) ns.length := by
  obtain ⟨hm, hl, _⟩ := marksS_spec h
  have hlen := mayT_len hm
  have hs := oneN_sum ns ms w ns.length
  have := sizesP_gen hm (oneB (dbt ns ms w ns.length) ms) (fun j => (oneB_range _ _ _).1) (by show sumTo (oneN ns ms w) ns.length ≤ _; omega) w hw
  show rd (sizesP ns _) _ = _
  rw [this]
  refine sumTo_congr (fun j hj => ?_)
  by_cases c : openB (dbt ns ms w ns.length) ms (j : Int) = true
  · have c' := c
    unfold openB at c'
    rw [Bool.and_eq_true] at c'
    rw [if_pos (dbt_dsc hm ms w (j + 1) j (by omega) c'.1)]
    rfl
  · have e : oneB (dbt ns ms w ns.length) ms (j : Int) = 0 := by unfold oneB; rw [if_neg c]
    unfold oneN
    rw [e]
    split <;> rfl
/-- the document's weights and their number, up to place n -/
def wtL (ns : List Nd) (ms : List Int) (w : Nat) : Nat → List Int
  | 0 => List.replicate ns.length 0
  | n + 1 => if openB (dbt ns ms w ns.length) ms (n : Int) = true then (wtL ns ms w n).set n 1 else wtL ns ms w n
theorem wtL_len (ns : List Nd) (ms : List Int) (w : Nat) : ∀ n : Nat, (wtL ns ms w n).length = ns.length
  | 0 => List.length_replicate
  | n + 1 => by
    rw [wtL]
    split
    · rw [List.length_set]; exact wtL_len ns ms w n
    · exact wtL_len ns ms w n
theorem rd_setN (l : List Int) (i j : Nat) (v : Int) (h : i < l.length) : rd (l.set i v) (j : Int) = if j = i then v else rd l (j : Int) := by
  show List.getD _ _ _ = if _ then _ else List.getD _ _ _
  rw [Int.toNat_natCast]
  exact getD_set h
theorem rd_rep (n j : Nat) : rd (List.replicate n 0) (j : Int) = 0 := by
  show List.getD _ _ _ = _
  rw [Int.toNat_natCast]
  exact rep_zero n j
theorem wtL_at (ns : List Nd) (ms : List Int) (w : Nat) (j : Nat) : ∀ n : Nat, n ≤ ns.length → rd (wtL ns ms w n) (j : Int) = if j < n then oneN ns ms w j else 0
  | 0, _ => by rw [wtL, rd_rep, if_neg (by omega)]
  | n + 1, hn => by
    have ih := wtL_at ns ms w j n (by omega)
    rw [wtL]
    by_cases c : openB (dbt ns ms w ns.length) ms (n : Int) = true
    · rw [if_pos c, rd_setN _ _ _ _ (by rw [wtL_len]; omega), ih]
      by_cases e : j = n
      · rw [if_pos e, if_pos (by omega), e]
        unfold oneN oneB
        rw [if_pos c]
      · rw [if_neg e]
        by_cases e2 : j < n
        · rw [if_pos e2, if_pos (by omega)]
        · rw [if_neg e2, if_neg (by omega)]
    · rw [if_neg c, ih]
      by_cases e : j = n
      · rw [if_neg (by omega), if_pos (by omega), e]
        unfold oneN oneB
        rw [if_neg c]
      · by_cases e2 : j < n
        · rw [if_pos e2, if_pos (by omega)]
        · rw [if_neg e2, if_neg (by omega)]
theorem wtL_low {ns : List Nd} (hm : mayT ns = true) (ms : List Int) (w : Nat) : ∀ n : Nat, n ≤ w + 1 → wtL ns ms w n = List.replicate ns.length 0
  | 0, _ => rfl
  | n + 1, h => by rw [wtL, oneB_low hm ms w n (by omega), if_neg Bool.false_ne_true]; exact wtL_low hm ms w n (by omega)
theorem oneN_low {ns : List Nd} (hm : mayT ns = true) (ms : List Int) (w : Nat) (j : Nat) (h : j ≤ w) : oneN ns ms w j = 0 := by
  unfold oneN oneB
  rw [oneB_low hm ms w j h, if_neg Bool.false_ne_true]
theorem halves_l1 {ns : List Nd} {ms : List Int} (h : marksS ns ms = true) (w : Nat) (hw : w < ns.length) (R : Int × Int)
    (hR : Ev (fun k => sleuthref12_byHalves.l2 k ns ms (w : Int) (dbt ns ms w ns.length) (wtL ns ms w ns.length) (sumTo (oneN ns ms w) ns.length) ((ns.length : Int) - 1)) R) :
    ∀ n i : Nat, w < i → i + n = ns.length → Ev (fun k => sleuthref12_byHalves.l1 k ns ms (w : Int) (dbt ns ms w i) (wtL ns ms w i) (sumTo (oneN ns ms w) i) (i : Int)) R := by
  obtain ⟨hm, hl, _⟩ := marksS_spec h
  have hlen := mayT_len hm
  intro n
  induction n with
  | zero =>
    intro i hwi hi
    obtain rfl : i = ns.length := by omega
    refine Ev.step (fun k => ?_) hR
    have e : wrap64 ((ns.length : Int) - 1) = (ns.length : Int) - 1 := w64 (by omega) (by omega)
    rw [sleuthref12_byHalves.l1, if_neg (by omega), e]
  | succ n ih =>
    intro i hwi hi
    have hp := mayT_pa hm i (by omega)
    have hw1 : wrap64 ((i : Int) + 1) = ((i + 1 : Nat) : Int) := by rw [w64 (by omega) (by omega)]; omega
    have hdl := dbt_len ns ms w i
    have hwl := wtL_len ns ms w i
    have hp' : (rd_T57 ns (i : Int)).f1 = pa ns i := rfl
    have hsum := oneN_sum ns ms w i
    have hw2 : wrap64 (sumTo (oneN ns ms w) i + 1) = sumTo (oneN ns ms w) i + 1 := w64 (by omega) (by omega)
    have hst := dbt_stable ns ms w (i + 1) i (by omega) ns.length (by omega)
    have key : ∀ k, (if rdOf false (dbt ns ms w (i + 1)) (i : Int) = true then (if rd ms (i : Int) = 0 then sleuthref12_byHalves.l1 k ns ms (w : Int) (dbt ns ms w (i + 1)) ((wtL ns ms w i).set i 1) (sumTo (oneN ns ms w) i + 1) ((i + 1 : Nat) : Int) else sleuthref12_byHalves.l1 k ns ms (w : Int) (dbt ns ms w (i + 1)) (wtL ns ms w i) (sumTo (oneN ns ms w) i) ((i + 1 : Nat) : Int)) else sleuthref12_byHalves.l1 k ns ms (w : Int) (dbt ns ms w (i + 1)) (wtL ns ms w i) (sumTo (oneN ns ms w) i) ((i + 1 : Nat) : Int))
        = sleuthref12_byHalves.l1 k ns ms (w : Int) (dbt ns ms w (i + 1)) (wtL ns ms w (i + 1)) (sumTo (oneN ns ms w) (i + 1)) ((i + 1 : Nat) : Int) := by
      intro k
      rw [wtL, sumTo]
      have hone : oneN ns ms w i = if openB (dbt ns ms w ns.length) ms (i : Int) = true then 1 else 0 := rfl
      rw [hone]
      have hop : openB (dbt ns ms w ns.length) ms (i : Int) = (rdOf false (dbt ns ms w (i + 1)) (i : Int) && (rd ms (i : Int) == 0)) := by unfold openB; rw [hst]
      rw [hop]
      cases rdOf false (dbt ns ms w (i + 1)) (i : Int) with
      | false => rw [if_neg Bool.false_ne_true, Bool.false_and, if_neg Bool.false_ne_true, if_neg Bool.false_ne_true, Int.add_zero]
      | true =>
        rw [if_pos rfl, Bool.true_and]
        by_cases c : rd ms (i : Int) = 0
        · rw [if_pos c, if_pos (beq_iff_eq.2 c), if_pos (beq_iff_eq.2 c)]
        · rw [if_neg c, if_neg (by rw [beq_iff_eq]; exact c), if_neg (by rw [beq_iff_eq]; exact c), Int.add_zero]
    refine Ev.step (f := fun k => sleuthref12_byHalves.l1 k ns ms (w : Int) (dbt ns ms w (i + 1)) (wtL ns ms w (i + 1)) (sumTo (oneN ns ms w) (i + 1)) ((i + 1 : Nat) : Int)) (fun k => ?_) (ih (i + 1) (by omega) (by omega))
    rw [← key k]
    have hd : dbt ns ms w (i + 1) = (dbt ns ms w i).set i ((decide (pa ns i = (w : Int)) || rdOf false (dbt ns ms w i) (pa ns i)) && (rd ms (i : Int) != 1)) := by rw [dbt, if_neg (show ¬ i ≤ w by omega)]
    rw [sleuthref12_byHalves.l1, if_pos (by omega), if_pos (by omega), hw1, hw2, hp', Int.toNat_natCast]
    by_cases c : pa ns i = (w : Int)
    · rw [decide_eq_true c, Bool.true_or, Bool.true_and] at hd
      rw [if_pos c, if_pos (by omega), if_pos (by omega), ← hd, Option.bind_some, if_pos (show (i : Int) < ((wtL ns ms w i).length : Int) by omega)]
    · rw [decide_eq_false c, Bool.false_or] at hd
      rw [if_neg c, if_pos (by omega), if_pos (by omega)]
      cases hb : rdOf false (dbt ns ms w i) (pa ns i) with
      | true =>
        rw [hb, Bool.true_and] at hd
        rw [if_pos rfl, if_pos (by omega), if_pos (by omega), ← hd, Option.bind_some, if_pos (show (i : Int) < ((wtL ns ms w i).length : Int) by omega)]
      | false =>
        rw [hb, Bool.false_and] at hd
        rw [if_neg Bool.false_ne_true, if_pos (by omega), ← hd, Option.bind_some]
        have e : rdOf false (dbt ns ms w (i + 1)) (i : Int) = false := by rw [hd, rdOf_set, if_pos ⟨rfl, by omega⟩]
        rw [e, if_neg Bool.false_ne_true, if_neg Bool.false_ne_true]
end Go.Proofs.YtijamgfpgdiigaaGreatDoor.G
end
