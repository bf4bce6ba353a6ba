/- Parts of this proof, one behind the other: G13, G19, G22, G23, G24, G25, RecVals, RecGet, G1, G26, TNodes. -/
import Derived.Test.YthoegphcmkejoaaDoorU2
import Derived.Test.YthoegphcmkejoaaDoorG0
import Derived.Test.YthoegphcmkejoaaDoorU7
import Derived.Test.YthoegphcmkejoaaDoorU5
import Derived.Test.YthoegphcmkejoaaDoorU6
section
namespace Go.Proofs.YthoegphcmkejoaaDoor.G
open Go.RowKit Go.Proofs.YthoegphcmkejoaaDoorW.PrintWords Go.Proofs.YthoegphcmkejoaaDoorW.PrintLast Go.Proofs.YthoegphcmkejoaaDoorW.PrintMore
set_option maxHeartbeats 8000000
set_option maxRecDepth 100000
attribute [local go_sem] max2_int min2_int max_two min_two max_three min_three max_four min_four   -- for this text's walks alone
set_option linter.unusedVariables false
set_option linter.unusedSimpArgs false

def record_Put.l0 : Nat → ByteArray → Int → List ByteArray → ByteArray → Option (ByteArray × Int)
 | 0, _, _, _, _ => none
 | k + 1, o, x, l2, a3 => if x < (l2.length : Int) then (if 0 ≤ x then (record_text.f k (rdOf ByteArray.empty l2 x)).bind fun t => (if o.size + t.size ≤ 9223372036854775807 then record_Put.l0 k (o ++ t) (wrap64 (x + 1)) l2 a3 else none) else none) else (record_text.f k a3).bind fun t => (if o.size + t.size ≤ 9223372036854775807 then some (o ++ t, 0) else none)
def record_Put.m (k : Nat) (a0 : Int) (a1 : Int) (l2 : List ByteArray) (a3 : ByteArray) : Option (ByteArray × Int) := (record_low.f k a0 1).bind fun t0 => (record_low.f k (wrap64 (a1 + 1)) 2).bind fun t1 => (if t0.size + t1.size ≤ 9223372036854775807 then (record_low.f k (l2.length : Int) 1).bind fun t2 => (if (t0 ++ t1).size + t2.size ≤ 9223372036854775807 then record_Put.l0 k ((t0 ++ t1) ++ t2) 0 l2 a3 else none) else none)
def record_Put.f (k : Nat) (a0 : Int) (a1 : Int) (l2 : List ByteArray) (a3 : ByteArray) : Option (ByteArray × Int) := (trail_Equation.f k a0 a1 l2 a3).bind fun t => if t = true then (if a1 < -1 then some ((⟨#[]⟩ : ByteArray), 1500) else (if a1 ≥ 512 then some ((⟨#[]⟩ : ByteArray), 1500) else record_Put.m k a0 a1 l2 a3)) else some ((⟨#[]⟩ : ByteArray), 1500)
def record_Put.T3 : Bool × List (List Nat × List Nat) := (true, [([], []), ([0], [0]), ([1], [1]), ([], []), ([3], [3]), ([4], [4]), ([5, 2], [5]), ([2, 6], [2, 6]), ([], []), ([8], [8]), ([9], [9]), ([10, 6], [10]), ([7, 11], [7, 11]), ([12, 11, 0, 1, 2, 3, 4, 5, 6, 7, 8, 9, 10, 11, 12], [12])])
def record_Put.B3 : List Nat := [0, 1, 3, 0, 8, 24, 63, 127, 0, 256, 768, 1919, 4095, 8191]
theorem record_Put.tab3 : rtab .any (opsOf Tryd.f8 3) = record_Put.T3 := by kernel_rfl
theorem record_Put.bits3 : waitsOk record_Put.T3.2 record_Put.B3 = true := by kernel_rfl
theorem record_Put.calls (k : Nat) (a0 : Int) (a1 : Int) (A2 : Option Addr) (c2 : Nat) (l2 : List ByteArray) (a3 : ByteArray) (r1 : ByteArray) (r2 : Int) (w : World) (hr2 : Kd.C Kd.string w A2 l2.length l2) (hc2 : l2.length ≤ c2) (h : record_Put.f k a0 a1 l2 a3 = some (r1, r2)) (hG : GOK w) :
 Calls Tryd.prog 8 #[.agg #[.int .i64 a0, .int .i64 a1, .slice A2 l2.length c2, .string a3]] w fun e w' => e = .returned (.tuple #[.string r1, .int .i64 r2]) ∧ Below w.heap.size w w' := by
 have hu := Tryd.underlying24
 have HR2 := a_ hr2
 have HC2 := a_ hc2
 clear hr2 hc2
 have HB := a_ (Below.refl w.heap.size w)
 have HX := a_ (Below.refl w.heap.size w)
 unfold record_Put.f at h
 obtain ⟨t, B1, h⟩ := Option.bind_eq_some_iff.mp h
 have B1 := a_ B1
 cases t with
 | false =>
  rw [if_neg Bool.false_ne_true] at h
  obtain ⟨rfl, rfl⟩ := Prod.mk.inj (Option.some.inj h)
  clear h
  go_enter Tryd.func8, Tryd.ntmps8
  go_wp2_with (first
   | ((with_reducible refine gate_dst (N := 1) rfl ?_); refine boxE_ 1 #[.int .i64 a0, .int .i64 a1, .slice A2 l2.length c2, .string a3] 24 ?_; intro g0 hg wb1 hbox hb; have E0 := a_ (gE_ hg : w.heap.size ≤ g0); have B0 := a_ hbox; (try clear z0 f0 z1 f1 z2 f2 z3 f3); obtain ⟨z0, z1, z2, z3, f0, f1, f2, f3⟩ := bx4_ B0.out; have hs_ := below_step hC_ hb; replace HB := a_ hs_; clear hs_ hb hbox hg)
   | ((with_reducible refine gate_callee (f := 17) rfl ?_); refine goesL_ _ rfl rfl Tryd.func17 (by kernel_rfl) rfl #[.pointer (some ⟨g0, 0, none⟩)] rfl hL_ ?_; (with_reducible refine (trail_Equation.calls k ⟨g0, 0, none⟩ a0 a1 A2 c2 l2 a3 false _ ?s1 ?s2 ?s3 ?s4 ?s5 B1.out (GOK.below hG (below_step HX.out hC_))).mono ?_); (case s1 => exact (blk_cell (hK_ B0.out) 0).trans rfl); (case s2 => exact (blk_cell (hK_ B0.out) 2).trans rfl); (case s3 => exact (blk_cell (hK_ B0.out) 3).trans rfl); (case s4 => exact (Kd.C_below HR2.out (below_step HX.out hC_))); (case s5 => exact HC2.out); rintro e wc1 ⟨rfl, hb⟩; refine ⟨_, rfl, ?_⟩; have hs_ := below_step hC_ hb; replace B0 := a_ (blk_below (g := g0) (o := .cells #[.int .i64 a0, .int .i64 a1, .slice A2 l2.length c2, .string a3] 24 (0, 0)) (by (with_reducible repeat (first | refine blk_drewN ?_ _ | refine blk_drew ?_ | refine blk_alloc ?_ _)); exact (hK_ B0.out)) hb); replace HX := a_ (below_step HX.out hs_); replace HB := a_ (Below.refl wc1.heap.size wc1); clear hs_ hb; (try clear z0 f0 z1 f1 z2 f2 z3 f3); obtain ⟨z0, z1, z2, z3, f0, f1, f2, f3⟩ := bx4_ B0.out))
  go_ret2
  exact ⟨hV_, below_step HX.out hC_⟩
 | true =>
  rw [if_pos rfl] at h
  by_cases c1 : a1 < -1
  case pos =>
   rw [if_pos c1] at h
   obtain ⟨rfl, rfl⟩ := Prod.mk.inj (Option.some.inj h)
   have c1b := decide_eq_true c1
   clear h c1
   go_enter Tryd.func8, Tryd.ntmps8
   go_wp2_with (first
    | ((with_reducible refine gate_dst (N := 1) rfl ?_); refine boxE_ 1 #[.int .i64 a0, .int .i64 a1, .slice A2 l2.length c2, .string a3] 24 ?_; intro g0 hg wb1 hbox hb; have E0 := a_ (gE_ hg : w.heap.size ≤ g0); have B0 := a_ hbox; (try clear z0 f0 z1 f1 z2 f2 z3 f3); obtain ⟨z0, z1, z2, z3, f0, f1, f2, f3⟩ := bx4_ B0.out; have hs_ := below_step hC_ hb; replace HB := a_ hs_; clear hs_ hb hbox hg)
    | ((with_reducible refine gate_callee (f := 17) rfl ?_); refine goesL_ _ rfl rfl Tryd.func17 (by kernel_rfl) rfl #[.pointer (some ⟨g0, 0, none⟩)] rfl hL_ ?_; (with_reducible refine (trail_Equation.calls k ⟨g0, 0, none⟩ a0 a1 A2 c2 l2 a3 true _ ?s1 ?s2 ?s3 ?s4 ?s5 B1.out (GOK.below hG (below_step HX.out hC_))).mono ?_); (case s1 => exact (blk_cell (hK_ B0.out) 0).trans rfl); (case s2 => exact (blk_cell (hK_ B0.out) 2).trans rfl); (case s3 => exact (blk_cell (hK_ B0.out) 3).trans rfl); (case s4 => exact (Kd.C_below HR2.out (below_step HX.out hC_))); (case s5 => exact HC2.out); rintro e wc1 ⟨rfl, hb⟩; refine ⟨_, rfl, ?_⟩; have hs_ := below_step hC_ hb; replace B0 := a_ (blk_below (g := g0) (o := .cells #[.int .i64 a0, .int .i64 a1, .slice A2 l2.length c2, .string a3] 24 (0, 0)) (by (with_reducible repeat (first | refine blk_drewN ?_ _ | refine blk_drew ?_ | refine blk_alloc ?_ _)); exact (hK_ B0.out)) hb); replace HX := a_ (below_step HX.out hs_); replace HB := a_ (Below.refl wc1.heap.size wc1); clear hs_ hb; (try clear z0 f0 z1 f1 z2 f2 z3 f3); obtain ⟨z0, z1, z2, z3, f0, f1, f2, f3⟩ := bx4_ B0.out))
   go_ret2
   exact ⟨hV_, below_step HX.out hC_⟩
  rw [if_neg c1] at h
  have c1b := decide_eq_false c1
  clear c1
  by_cases c2_ : a1 ≥ 512
  case pos =>
   rw [if_pos c2_] at h
   obtain ⟨rfl, rfl⟩ := Prod.mk.inj (Option.some.inj h)
   have c2b : decide (512 ≤ a1) = true := decide_eq_true c2_
   clear h c2_
   go_enter Tryd.func8, Tryd.ntmps8
   go_wp2_with (first
    | ((with_reducible refine gate_dst (N := 1) rfl ?_); refine boxE_ 1 #[.int .i64 a0, .int .i64 a1, .slice A2 l2.length c2, .string a3] 24 ?_; intro g0 hg wb1 hbox hb; have E0 := a_ (gE_ hg : w.heap.size ≤ g0); have B0 := a_ hbox; (try clear z0 f0 z1 f1 z2 f2 z3 f3); obtain ⟨z0, z1, z2, z3, f0, f1, f2, f3⟩ := bx4_ B0.out; have hs_ := below_step hC_ hb; replace HB := a_ hs_; clear hs_ hb hbox hg)
    | ((with_reducible refine gate_callee (f := 17) rfl ?_); refine goesL_ _ rfl rfl Tryd.func17 (by kernel_rfl) rfl #[.pointer (some ⟨g0, 0, none⟩)] rfl hL_ ?_; (with_reducible refine (trail_Equation.calls k ⟨g0, 0, none⟩ a0 a1 A2 c2 l2 a3 true _ ?s1 ?s2 ?s3 ?s4 ?s5 B1.out (GOK.below hG (below_step HX.out hC_))).mono ?_); (case s1 => exact (blk_cell (hK_ B0.out) 0).trans rfl); (case s2 => exact (blk_cell (hK_ B0.out) 2).trans rfl); (case s3 => exact (blk_cell (hK_ B0.out) 3).trans rfl); (case s4 => exact (Kd.C_below HR2.out (below_step HX.out hC_))); (case s5 => exact HC2.out); rintro e wc1 ⟨rfl, hb⟩; refine ⟨_, rfl, ?_⟩; have hs_ := below_step hC_ hb; replace B0 := a_ (blk_below (g := g0) (o := .cells #[.int .i64 a0, .int .i64 a1, .slice A2 l2.length c2, .string a3] 24 (0, 0)) (by (with_reducible repeat (first | refine blk_drewN ?_ _ | refine blk_drew ?_ | refine blk_alloc ?_ _)); exact (hK_ B0.out)) hb); replace HX := a_ (below_step HX.out hs_); replace HB := a_ (Below.refl wc1.heap.size wc1); clear hs_ hb; (try clear z0 f0 z1 f1 z2 f2 z3 f3); obtain ⟨z0, z1, z2, z3, f0, f1, f2, f3⟩ := bx4_ B0.out))
   go_ret2
   exact ⟨hV_, below_step HX.out hC_⟩
  rw [if_neg c2_] at h
  have c2b : decide (512 ≤ a1) = false := decide_eq_false c2_
  clear c2_
  unfold record_Put.m at h
  obtain ⟨t0, B2, h⟩ := Option.bind_eq_some_iff.mp h
  have B2 := a_ B2
  obtain ⟨t1, B3, h⟩ := Option.bind_eq_some_iff.mp h
  have B3 := a_ B3
  by_cases c3 : t0.size + t1.size ≤ 9223372036854775807
  case neg => rw [if_neg c3] at h; cases h
  rw [if_pos c3] at h
  have c3b0 := eq_true c3
  have c3b1 : decide (t0.size + t1.size ≤ 9223372036854775807) = true := decide_eq_true c3
  have c3b2 : (9223372036854775807 < t0.size + t1.size) = False := eq_false (Nat.not_lt.2 c3)
  obtain ⟨t2, B4, h⟩ := Option.bind_eq_some_iff.mp h
  have B4 := a_ B4
  by_cases c4 : (t0 ++ t1).size + t2.size ≤ 9223372036854775807
  case neg => rw [if_neg c4] at h; cases h
  rw [if_pos c4] at h
  have c4b0 := eq_true c4
  have c4b1 : decide ((t0 ++ t1).size + t2.size ≤ 9223372036854775807) = true := decide_eq_true c4
  have c4b2 : (9223372036854775807 < (t0 ++ t1).size + t2.size) = False := eq_false (Nat.not_lt.2 c4)
  have c4b3 : (9223372036854775807 < t0.size + t1.size + t2.size) = False := eq_false (Nat.not_lt.2 (by have h_ := c4; simp only [ByteArray.size_append] at h_; omega))
  have H' := a_ h
  clear h c3 c4
  go_enter Tryd.func8, Tryd.ntmps8
  go_upto_region 3 with (first
   | ((with_reducible refine gate_dst (N := 1) rfl ?_); refine boxE_ 1 #[.int .i64 a0, .int .i64 a1, .slice A2 l2.length c2, .string a3] 24 ?_; intro g0 hg wb1 hbox hb; have E0 := a_ (gE_ hg : w.heap.size ≤ g0); have B0 := a_ hbox; (try clear z0 f0 z1 f1 z2 f2 z3 f3); obtain ⟨z0, z1, z2, z3, f0, f1, f2, f3⟩ := bx4_ B0.out; have hs_ := below_step hC_ hb; replace HB := a_ hs_; clear hs_ hb hbox hg)
   | ((with_reducible refine gate_callee (f := 17) rfl ?_); refine goesL_ _ rfl rfl Tryd.func17 (by kernel_rfl) rfl #[.pointer (some ⟨g0, 0, none⟩)] rfl hL_ ?_; (with_reducible refine (trail_Equation.calls k ⟨g0, 0, none⟩ a0 a1 A2 c2 l2 a3 true _ ?s1 ?s2 ?s3 ?s4 ?s5 B1.out (GOK.below hG (below_step HX.out hC_))).mono ?_); (case s1 => exact (blk_cell (hK_ B0.out) 0).trans rfl); (case s2 => exact (blk_cell (hK_ B0.out) 2).trans rfl); (case s3 => exact (blk_cell (hK_ B0.out) 3).trans rfl); (case s4 => exact (Kd.C_below HR2.out (below_step HX.out hC_))); (case s5 => exact HC2.out); rintro e wc1 ⟨rfl, hb⟩; refine ⟨_, rfl, ?_⟩; have hs_ := below_step hC_ hb; replace B0 := a_ (blk_below (g := g0) (o := .cells #[.int .i64 a0, .int .i64 a1, .slice A2 l2.length c2, .string a3] 24 (0, 0)) (by (with_reducible repeat (first | refine blk_drewN ?_ _ | refine blk_drew ?_ | refine blk_alloc ?_ _)); exact (hK_ B0.out)) hb); replace HX := a_ (below_step HX.out hs_); replace HB := a_ (Below.refl wc1.heap.size wc1); clear hs_ hb; (try clear z0 f0 z1 f1 z2 f2 z3 f3); obtain ⟨z0, z1, z2, z3, f0, f1, f2, f3⟩ := bx4_ B0.out))
  refine start_ (n := 14) (S := fun w' => w'.cell? ⟨g0, 0, none⟩ = some (.int .i64 a0) ∧ w'.cell? ⟨g0, 1, none⟩ = some (.int .i64 a1) ∧ w'.cell? ⟨g0, 2, none⟩ = some (.slice A2 l2.length c2) ∧ w'.cell? ⟨g0, 3, none⟩ = some (.string a3)) (ds := []) #[false, false, false, false, false, false, false, false, false, false, false, false, false, false] (by kernel_rfl) rfl rfl ⟨(blk_cell B0.out 0).trans rfl, (blk_cell B0.out 1).trans rfl, (blk_cell B0.out 2).trans rfl, (blk_cell B0.out 3).trans rfl⟩ (fun hHeld => ?_)
  refine with_tabW record_Put.tab3 record_Put.bits3 (fun HT_ HW_ => ?_)
  refine pB_ 0 19 HT_.out ?_
  refine pB_ 3 22 HT_.out ?_
  refine pB_ 8 27 HT_.out ?_
  refine tB_ 1 20 HT_.out HW_.out hHeld ?_
  refine tB_ 4 23 HT_.out HW_.out hHeld ?_
  refine pB_ 5 24 HT_.out ?_
  refine tB_ 9 28 HT_.out HW_.out hHeld ?_
  refine pB_ 10 29 HT_.out ?_
  refine one_ (i := 2) (N := some 21) #[true, true, true, true, true, true, false, false, true, true, true, false, false, false] rfl rfl (one_of HT_.out (by kernel_rfl)) (by decide) (fun K hK => ?_)
  refine goes_ Tryd.func18 (by kernel_rfl) rfl #[.int .i64 a0, .int .i64 1] (by rfl) rfl rfl hL_ ?_
  (with_reducible refine (record_low.calls k a0 1 t0 _ B2.out).mono ?_)
  rintro e wc2 ⟨rfl, hb⟩
  refine ⟨_, rfl, ?_⟩
  have hs_ := below_step hC_ hb
  replace B0 := a_ (blk_below B0.out hs_)
  replace HX := a_ (below_step HX.out hs_)
  replace HB := a_ (Below.refl wc2.heap.size wc2)
  clear hs_ hb
  refine hK.out _ _ ⟨(blk_cell B0.out 0).trans rfl, (blk_cell B0.out 1).trans rfl, (blk_cell B0.out 2).trans rfl, (blk_cell B0.out 3).trans rfl⟩ (fun hHeld => ?_)
  clear hK K
  refine norm_ (a' := ?_) ?_ ?_
  rotate_left
  · show Act.put _ (some 21) _ = _
    simp only [Act.put, List.setIfInBounds_toArray, List.set_cons_zero, List.set_cons_succ, i64_w, i32_w]
    rfl
  refine one_ (i := 6) (N := some 25) #[true, true, true, true, true, true, true, false, true, true, true, false, false, false] rfl rfl (one_of HT_.out (by kernel_rfl)) (by decide) (fun K hK => ?_)
  refine goes_ Tryd.func18 (by kernel_rfl) rfl #[.int .i64 (wrap64 (a1 + 1)), .int .i64 2] (by rfl) rfl rfl hL_ ?_
  (with_reducible refine (record_low.calls k (wrap64 (a1 + 1)) 2 t1 _ B3.out).mono ?_)
  rintro e wc3 ⟨rfl, hb⟩
  refine ⟨_, rfl, ?_⟩
  have hs_ := below_step hC_ hb
  replace B0 := a_ (blk_below B0.out hs_)
  replace HX := a_ (below_step HX.out hs_)
  replace HB := a_ (Below.refl wc3.heap.size wc3)
  clear hs_ hb
  refine hK.out _ _ ⟨(blk_cell B0.out 0).trans rfl, (blk_cell B0.out 1).trans rfl, (blk_cell B0.out 2).trans rfl, (blk_cell B0.out 3).trans rfl⟩ (fun hHeld => ?_)
  clear hK K
  refine norm_ (a' := ?_) ?_ ?_
  rotate_left
  · show Act.put _ (some 25) _ = _
    simp only [Act.put, List.setIfInBounds_toArray, List.set_cons_zero, List.set_cons_succ, i64_w, i32_w]
    rfl
  refine pB_ 7 26 HT_.out ?_
  refine one_ (i := 11) (N := some 30) #[true, true, true, true, true, true, true, true, true, true, true, true, false, false] rfl rfl (one_of HT_.out (by kernel_rfl)) (by decide) (fun K hK => ?_)
  refine goes_ Tryd.func18 (by kernel_rfl) rfl #[.int .i64 (l2.length : Int), .int .i64 1] (by rfl) rfl rfl hL_ ?_
  (with_reducible refine (record_low.calls k (l2.length : Int) 1 t2 _ B4.out).mono ?_)
  rintro e wc4 ⟨rfl, hb⟩
  refine ⟨_, rfl, ?_⟩
  have hs_ := below_step hC_ hb
  replace B0 := a_ (blk_below B0.out hs_)
  replace HX := a_ (below_step HX.out hs_)
  replace HB := a_ (Below.refl wc4.heap.size wc4)
  clear hs_ hb
  refine hK.out _ _ ⟨(blk_cell B0.out 0).trans rfl, (blk_cell B0.out 1).trans rfl, (blk_cell B0.out 2).trans rfl, (blk_cell B0.out 3).trans rfl⟩ (fun hHeld => ?_)
  clear hK K
  refine norm_ (a' := ?_) ?_ ?_
  rotate_left
  · show Act.put _ (some 30) _ = _
    simp only [Act.put, List.setIfInBounds_toArray, List.set_cons_zero, List.set_cons_succ, i64_w, i32_w]
    rfl
  refine pB_ 12 31 HT_.out ?_
  refine pB_ 13 4 HT_.out ?_
  refine done_ (done_of HT_.out (by kernel_rfl)) ?_
  (try clear z0 f0 z1 f1 z2 f2 z3 f3)
  obtain ⟨z0, z1, z2, z3, f0, f1, f2, f3⟩ := bx4_ B0.out
  go_wp2
  go_loopg [4, 35] k (fun kq v4 v0 w' => ∃ (o : ByteArray) (x : Int), v4 = .string o ∧ v0 = .int .i64 x ∧ Aside0 (record_Put.l0 kq o x l2 a3 = some (r1, r2)) ∧ Aside0 (kq ≤ k) ∧ Aside0 (w'.heap[g0]? = some (.cells #[.int .i64 a0, .int .i64 a1, .slice A2 l2.length c2, .string a3] 24 (0, 0))) ∧ Aside0 (Below w.heap.size w w'))
  case atStart => exact ⟨_, _, hW_, hW_, H', ⟨Nat.le_refl _⟩, ⟨(hK_ B0.out)⟩, ⟨below_step HX.out hC_⟩⟩
  case round =>
   clear H' HB HX B0
   obtain ⟨o, x, rfl, rfl, HA, HK2, B0, HB⟩ := hrel
   cases gk with
   | zero => exact absurd HA.out (by simp [record_Put.l0])
   | succ k2 =>
    have H := HA.out
    clear HA
    simp only [record_Put.l0] at H
    by_cases c22 : x < (l2.length : Int)
    case neg =>
     rw [if_neg c22] at H
     have c22b0 : decide (x < (l2.length : Int)) = false := decide_eq_false c22
     clear c22
     obtain ⟨t, A28, H⟩ := Option.bind_eq_some_iff.mp H
     have A28 := a_ A28
     replace H := ifI_ H; obtain ⟨c29, H⟩ := H
     have c29b0 := eq_true c29
     have c29b1 : decide (o.size + t.size ≤ 9223372036854775807) = true := decide_eq_true c29
     have c29b2 : (9223372036854775807 < o.size + t.size) = False := eq_false (Nat.not_lt.2 c29)
     simp only [Option.some.injEq, Prod.mk.injEq] at H
     obtain ⟨rfl, rfl⟩ := H
     obtain ⟨z4, z5, z6, z7, f4, f5, f6, f7⟩ := bx4_ B0.out
     go_wp2_with (first | ((with_reducible refine gate_callee (f := 19) rfl ?_); refine goesL_ _ rfl rfl Tryd.func19 (by kernel_rfl) rfl #[.string a3] rfl hL_ ?_; (with_reducible refine (record_text.calls k2 a3 t _ A28.out).mono ?_); rintro e w0 ⟨rfl, hb⟩; refine ⟨_, rfl, ?_⟩; replace HB := a_ (below_step hC_ hb); clear hb))
     go_ret2
     exact ⟨hV_, hC_⟩
    rw [if_pos c22] at H
    have c22b0 : decide (x < (l2.length : Int)) = true := decide_eq_true c22
    clear c22
    replace H := ifI_ H; obtain ⟨c23, H⟩ := H
    have c23b0 : decide (0 ≤ x) = true := decide_eq_true c23
    clear c23
    obtain ⟨t, A24, H⟩ := Option.bind_eq_some_iff.mp H
    have A24 := a_ A24
    replace H := ifI_ H; obtain ⟨c25, H⟩ := H
    have c25b0 := eq_true c25
    have c25b1 : decide (o.size + t.size ≤ 9223372036854775807) = true := decide_eq_true c25
    have c25b2 : (9223372036854775807 < o.size + t.size) = False := eq_false (Nat.not_lt.2 c25)
    have H' := a_ H
    clear H
    have p272 : 0 ≤ (x : Int) := of_decide_eq_true hA_
    have q272 : x < (l2.length : Int) := of_decide_eq_true hA_
    obtain ⟨d0, e272, h0⟩ := Kd.at_string HR2.out x p272 q272
    cases e272
    replace h0 := cl_ HB.out h0
    replace p272 := eq_true p272
    replace q272 := eq_true q272
    go_wp2_with (first | ((with_reducible refine gate_callee (f := 19) rfl ?_); refine goesL_ _ rfl rfl Tryd.func19 (by kernel_rfl) rfl #[.string (rdOf ByteArray.empty l2 x)] rfl hL_ ?_; (with_reducible refine (record_text.calls k2 (rdOf ByteArray.empty l2 x) t _ A24.out).mono ?_); rintro e w1 ⟨rfl, hb⟩; refine ⟨_, rfl, ?_⟩; replace B0 := a_ (bB_ B0.out hb); replace HB := a_ (below_step hC_ hb); clear hb))
    go_roundg k2
    case measure => have := HK2.out; omega
    case rel => exact ⟨(o ++ t), (wrap64 (x + 1)), hW_, hW_, H', ⟨by have := HK2.out; omega⟩, ⟨(hK_ B0.out)⟩, ⟨hC_⟩⟩

set_option maxHeartbeats 8000000
set_option maxRecDepth 100000
attribute [local go_sem] max2_int min2_int max_two min_two max_three min_three max_four min_four   -- for this text's walks alone
set_option linter.unusedVariables false
set_option linter.unusedSimpArgs false

mutual
def sleuthref12_PutRecord.j0 : Nat → Bool → Int → Int → List ByteArray → ByteArray → Option (ByteArray × Int)
 | 0, _, _, _, _, _ => none
 | k + 1, x14, x267000, x267001, x267002, x267003 => if x14 = true then (some ((⟨#[]⟩ : ByteArray), 1500)) else ((sleuthref12_low.f k x267000 1).bind fun t269 => ((sleuthref12_low.f k (wrap64 (x267001 + 1)) 2).bind fun t270 => (if t269.size + t270.size ≤ 9223372036854775807 then ((sleuthref12_low.f k (x267002.length : Int) 1).bind fun t271 => (if (t269 ++ t270).size + t271.size ≤ 9223372036854775807 then (sleuthref12_PutRecord.l0 k ((t269 ++ t270) ++ t271) 0 x267000 x267001 x267002 x267003) else (none))) else (none))))
def sleuthref12_PutRecord.l0 : Nat → ByteArray → Int → Int → Int → List ByteArray → ByteArray → Option (ByteArray × Int)
 | 0, _, _, _, _, _, _ => none
 | k + 1, x4, x5, x267000, x267001, x267002, x267003 => if x5 < (x267002.length : Int) then (if 0 ≤ x5 then ((sleuthref12_sized.f k (rdOf ByteArray.empty x267002 x5)).bind fun t273 => (if x4.size + t273.size ≤ 9223372036854775807 then (sleuthref12_PutRecord.l0 k (x4 ++ t273) (wrap64 (x5 + 1)) x267000 x267001 x267002 x267003) else (none))) else (none)) else ((sleuthref12_sized.f k x267003).bind fun t274 => (if x4.size + t274.size ≤ 9223372036854775807 then (some (x4 ++ t274, 0)) else (none)))
end
def sleuthref12_PutRecord.f (k : Nat) (a0_0 : Int) (a0_1 : Int) (l0_2 : List ByteArray) (a0_3 : ByteArray) : Option (ByteArray × Int) := (sleuthref12_texts.f k a0_0 a0_1 l0_2 a0_3).bind fun t267 => (if t267 = true then ((sleuthref12_upTo.f a0_1 (-1) 511).bind fun t268 => (sleuthref12_PutRecord.j0 k (!t268) a0_0 a0_1 l0_2 a0_3)) else (sleuthref12_PutRecord.j0 k true a0_0 a0_1 l0_2 a0_3))
def sleuthref12_PutRecord.T3 : Bool × List (List Nat × List Nat) := (true, [([], []), ([0], [0]), ([1], [1]), ([], []), ([3], [3]), ([4], [4]), ([5, 2], [5]), ([2, 6], [2, 6]), ([], []), ([8], [8]), ([9], [9]), ([10, 6], [10]), ([7, 11], [7, 11]), ([12, 11, 0, 1, 2, 3, 4, 5, 6, 7, 8, 9, 10, 11, 12], [12])])
def sleuthref12_PutRecord.B3 : List Nat := [0, 1, 3, 0, 8, 24, 63, 127, 0, 256, 768, 1919, 4095, 8191]
theorem sleuthref12_PutRecord.tab3 : rtab .any (opsOf Tryd.f9 3) = sleuthref12_PutRecord.T3 := by kernel_rfl
theorem sleuthref12_PutRecord.bits3 : waitsOk sleuthref12_PutRecord.T3.2 sleuthref12_PutRecord.B3 = true := by kernel_rfl
theorem sleuthref12_PutRecord.calls (k : Nat) (a0_0 : Int) (a0_1 : Int) (A0_2 : Option Addr) (c0_2 : Nat) (l0_2 : List ByteArray) (a0_3 : ByteArray) (r1 : ByteArray) (r2 : Int) (w : World) (hr0_2 : Kd.C Kd.string w A0_2 l0_2.length l0_2) (hc0_2 : l0_2.length ≤ c0_2) (h : sleuthref12_PutRecord.f k a0_0 a0_1 l0_2 a0_3 = some (r1, r2)) :
 Calls Tryd.prog 9 #[.agg #[.int .i64 a0_0, .int .i64 a0_1, .slice A0_2 l0_2.length c0_2, .string a0_3]] w fun e w' => e = .returned (.tuple #[.string r1, .int .i64 r2]) ∧ Below w.heap.size w w' := by
 have hu24 := Tryd.underlying24
 have HR0_2 := a_ hr0_2
 have HC0_2 := a_ hc0_2
 clear hr0_2 hc0_2
 have HB := a_ (Below.refl w.heap.size w)
 have H := h; unfold sleuthref12_PutRecord.f at H
 clear h
 have HC2 := a_ H
 clear H
 go_enter Tryd.func9, Tryd.ntmps9
 go_upto_region 1 with (first | ((with_reducible refine gate_dst (N := 1) rfl ?_); refine boxE_ 1 #[.int .i64 a0_0, .int .i64 a0_1, .slice A0_2 l0_2.length c0_2, .string a0_3] 24 ?_; intro g0 hg w3 hbox hb; have B0 := a_ (hbox); have E0 := a_ ((gE_ hg : w.heap.size ≤ g0)); replace HB := a_ (below_step hB_ hb); clear hb hbox hg))
 (try simp only [Act.put, List.setIfInBounds_toArray, List.set_cons_zero, List.set_cons_succ])
 go_cut [14] (fun v0 wc => ∃ (kq : Nat) (x2 : Bool), v0 = .bool x2 ∧ Aside0 (sleuthref12_PutRecord.j0 kq x2 a0_0 a0_1 l0_2 a0_3 = some (r1, r2)) ∧ Aside0 (kq ≤ k) ∧ Aside0 (wc.heap[g0]? = some (.cells #[.int .i64 a0_0, .int .i64 a0_1, (.slice A0_2 l0_2.length c0_2), .string a0_3] 24 (0, 0))) ∧ Aside0 (Below w.heap.size w wc))
 case first =>
  have H := HC2.out
  clear HC2
  replace H := Option.bind_eq_some_iff.mp H
  obtain ⟨t6, A40, H⟩ := H
  try dsimp only at H
  have A4 := a_ A40
  clear A40
  by_cases c5 : t6 = true
  case neg =>
   replace c5 := Bool.eq_false_iff.mpr c5
   subst c5
   rw [if_neg (show ¬ (false = true) by decide)] at H
   have H' := a_ H
   clear H
   obtain ⟨z0, z1, z2, z3, f0, f1, f2, f3⟩ := bx4_ B0.out
   go_wp2_with (first | ((with_reducible refine gate_callee (f := 20) rfl ?_); refine goesL_ (some 7) rfl rfl Tryd.func20 (by kernel_rfl) rfl #[.agg #[.int .i64 a0_0, .int .i64 a0_1, .slice A0_2 l0_2.length c0_2, .string a0_3]] rfl hL_ ?_; (with_reducible refine (sleuthref12_texts.calls k a0_0 a0_1 _ _ l0_2 a0_3 false _ ?s1 ?s2 A4.out).mono ?_); (case s1 => exact cB_ HR0_2.out); (case s2 => exact HC0_2.out); rintro e w0 ⟨rfl, hb⟩; refine ⟨_, rfl, ?_⟩; replace B0 := a_ (bB_ B0.out hb); replace HB := a_ (below_step hC_ hb); (try clear hb); (try clear hb2); (try clear hk); (try clear hi)))
   go_meet
   case rel => exact ⟨_, (true), hW_, H', ⟨by first | omega | exact Nat.le_refl _⟩, ⟨(hK_ B0.out)⟩, ⟨hC_⟩⟩
  subst c5
  rw [if_pos rfl] at H
  replace H := Option.bind_eq_some_iff.mp H
  obtain ⟨t5, A60, H⟩ := H
  try dsimp only at H
  have A6 := a_ A60
  clear A60
  have H' := a_ H
  clear H
  obtain ⟨z4, z5, z6, z7, f4, f5, f6, f7⟩ := bx4_ B0.out
  go_wp2_with (first | ((with_reducible refine gate_callee (f := 20) rfl ?_); refine goesL_ _ rfl rfl Tryd.func20 (by kernel_rfl) rfl #[.agg #[.int .i64 a0_0, .int .i64 a0_1, .slice A0_2 l0_2.length c0_2, .string a0_3]] rfl hL_ ?_; (with_reducible refine (sleuthref12_texts.calls k a0_0 a0_1 _ _ l0_2 a0_3 true _ ?s1 ?s2 A4.out).mono ?_); (case s1 => exact cB_ HR0_2.out); (case s2 => exact HC0_2.out); rintro e w8 ⟨rfl, hb⟩; refine ⟨_, rfl, ?_⟩; replace B0 := a_ (bB_ B0.out hb); replace HB := a_ (below_step hC_ hb); (try clear hb); (try clear hb2); (try clear hk); (try clear hi); obtain ⟨z8, z9, z10, z11, f8, f9, f10, f11⟩ := bx4_ B0.out) | (go_at_call 21; (with_reducible refine (sleuthref12_upTo.calls a0_1 (-1) 511 t5 _ A6.out).mono ?_); rintro e w' ⟨rfl, ⟨nd, rfl⟩⟩))
  go_meet
  case rel => exact ⟨_, (!t5), hW_, H', ⟨by first | omega | exact Nat.le_refl _⟩, ⟨(hK_ B0.out)⟩, ⟨hC_⟩⟩
 case rest =>
  clear HC2
  try clear c2
  try clear p2
  try clear c5
  try clear c9
  try clear z0
  try clear z1
  try clear z2
  try clear z3
  try clear z4
  try clear z5
  try clear z6
  try clear z7
  try clear z8
  try clear z9
  try clear z10
  try clear z11
  try clear f0
  try clear f1
  try clear f2
  try clear f3
  try clear f4
  try clear f5
  try clear f6
  try clear f7
  try clear f8
  try clear f9
  try clear f10
  try clear f11
  obtain ⟨kq, x2, rfl, HA, HJ1, B0, HB⟩ := hcut
  cases kq with
  | zero => exact absurd HA.out (by simp [sleuthref12_PutRecord.j0])
  | succ kj1 =>
   have H := HA.out
   clear HA
   simp only [sleuthref12_PutRecord.j0] at H
   by_cases c12 : x2 = true
   case pos =>
    subst c12
    rw [if_pos rfl] at H
    simp only [Option.some.injEq, Prod.mk.injEq] at H
    obtain ⟨rfl, rfl⟩ := H
    go_wp2
    go_ret2
    exact ⟨hV_, hC_⟩
   replace c12 := Bool.eq_false_iff.mpr c12
   subst c12
   rw [if_neg (show ¬ (false = true) by decide)] at H
   replace H := Option.bind_eq_some_iff.mp H
   obtain ⟨t0, A130, H⟩ := H
   try dsimp only at H
   have A13 := a_ A130
   clear A130
   replace H := Option.bind_eq_some_iff.mp H
   obtain ⟨t1, A140, H⟩ := H
   try dsimp only at H
   have A14 := a_ A140
   clear A140
   replace H := ifI_ H; obtain ⟨c15, H⟩ := H
   have c15b0 := eq_true c15
   have c15b1 : decide (t0.size + t1.size ≤ 9223372036854775807) = true := decide_eq_true c15
   try have c15b2 : (9223372036854775807 < t0.size + t1.size) = False := eq_false (Nat.not_lt.2 c15)
   replace H := Option.bind_eq_some_iff.mp H
   obtain ⟨t2, A160, H⟩ := H
   try dsimp only at H
   have A16 := a_ A160
   clear A160
   replace H := ifI_ H; obtain ⟨c17, H⟩ := H
   have c17b0 := eq_true c17
   have c17b1 : decide ((t0 ++ t1).size + t2.size ≤ 9223372036854775807) = true := decide_eq_true c17
   try have c17b2 : (9223372036854775807 < (t0 ++ t1).size + t2.size) = False := eq_false (Nat.not_lt.2 c17)
   try have c17b3 : (9223372036854775807 < t0.size + t1.size + t2.size) = False := eq_false (Nat.not_lt.2 (by have h_ := c17; simp only [ByteArray.size_append, ByteArray.size_extract, Nat.min_self] at h_; omega))
   have H' := a_ H
   clear H
   try go_wp2
   replace B0 := a_ (blk_drew B0.out)
   replace HB := a_ (below_drew1 HB.out)
   refine start_ (n := 14) (S := fun w' => w'.cell? ⟨g0, 0, none⟩ = some (.int .i64 a0_0) ∧ w'.cell? ⟨g0, 1, none⟩ = some (.int .i64 a0_1) ∧ w'.cell? ⟨g0, 2, none⟩ = some (.slice A0_2 l0_2.length c0_2) ∧ w'.cell? ⟨g0, 3, none⟩ = some (.string a0_3)) (ds := []) #[false, false, false, false, false, false, false, false, false, false, false, false, false, false] (by kernel_rfl) rfl rfl ⟨(blk_cell B0.out 0).trans rfl, (blk_cell B0.out 1).trans rfl, (blk_cell B0.out 2).trans rfl, (blk_cell B0.out 3).trans rfl⟩ (fun hHeld => ?_); refine with_tabW sleuthref12_PutRecord.tab3 sleuthref12_PutRecord.bits3 (fun HT_ HW_ => ?_)
   generalize wc.drew = w1 at B0 HB hHeld ⊢
   refine pB_ 0 15 HT_.out ?_
   refine pB_ 3 18 HT_.out ?_
   refine pB_ 8 23 HT_.out ?_
   refine tB_ 1 16 HT_.out HW_.out hHeld ?_
   refine tB_ 4 19 HT_.out HW_.out hHeld ?_
   refine pB_ 5 20 HT_.out ?_
   refine tB_ 9 24 HT_.out HW_.out hHeld ?_
   refine pB_ 10 25 HT_.out ?_
   refine one_ (i := 2) (N := some 17) #[true, true, true, true, true, true, false, false, true, true, true, false, false, false] rfl rfl (one_of HT_.out (by kernel_rfl)) (by decide) (fun K hK => ?_)
   refine goes_ Tryd.func22 (by kernel_rfl) rfl #[.int .i64 a0_0, .int .i64 1] (by rfl) rfl rfl hL_ ?_
   with_reducible refine (sleuthref12_low.calls kj1 a0_0 1 t0 _ A13.out).mono ?_
   rintro e w2 ⟨rfl, hb⟩
   refine ⟨_, rfl, ?_⟩
   replace B0 := a_ (bB_ B0.out hb)
   replace HB := a_ (below_step hC_ hb)
   (try clear hb)
   (try clear hb2)
   (try clear hk)
   (try clear hi)
   refine hK.out _ _ ⟨(blk_cell B0.out 0).trans rfl, (blk_cell B0.out 1).trans rfl, (blk_cell B0.out 2).trans rfl, (blk_cell B0.out 3).trans rfl⟩ (fun hHeld => ?_)
   clear hK K
   refine norm_ (a' := ?_) ?_ ?_
   rotate_left
   · show Act.put _ (some 17) _ = _
     simp only [Act.put, List.setIfInBounds_toArray, List.set_cons_zero, List.set_cons_succ, i64_w, i32_w]
     rfl
   refine one_ (i := 6) (N := some 21) #[true, true, true, true, true, true, true, false, true, true, true, false, false, false] rfl rfl (one_of HT_.out (by kernel_rfl)) (by decide) (fun K hK => ?_)
   refine goes_ Tryd.func22 (by kernel_rfl) rfl #[.int .i64 (wrap64 (a0_1 + 1)), .int .i64 2] (by rfl) rfl rfl hL_ ?_
   with_reducible refine (sleuthref12_low.calls kj1 (wrap64 (a0_1 + 1)) 2 t1 _ A14.out).mono ?_
   rintro e w4 ⟨rfl, hb⟩
   refine ⟨_, rfl, ?_⟩
   replace B0 := a_ (bB_ B0.out hb)
   replace HB := a_ (below_step hC_ hb)
   (try clear hb)
   (try clear hb2)
   (try clear hk)
   (try clear hi)
   refine hK.out _ _ ⟨(blk_cell B0.out 0).trans rfl, (blk_cell B0.out 1).trans rfl, (blk_cell B0.out 2).trans rfl, (blk_cell B0.out 3).trans rfl⟩ (fun hHeld => ?_)
   clear hK K
   refine norm_ (a' := ?_) ?_ ?_
   rotate_left
   · show Act.put _ (some 21) _ = _
     simp only [Act.put, List.setIfInBounds_toArray, List.set_cons_zero, List.set_cons_succ, i64_w, i32_w]
     rfl
   refine pB_ 7 22 HT_.out ?_
   refine one_ (i := 11) (N := some 26) #[true, true, true, true, true, true, true, true, true, true, true, true, false, false] rfl rfl (one_of HT_.out (by kernel_rfl)) (by decide) (fun K hK => ?_)
   refine goes_ Tryd.func22 (by kernel_rfl) rfl #[.int .i64 (l0_2.length : Int), .int .i64 1] (by rfl) rfl rfl hL_ ?_
   with_reducible refine (sleuthref12_low.calls kj1 (l0_2.length : Int) 1 t2 _ A16.out).mono ?_
   rintro e w5 ⟨rfl, hb⟩
   refine ⟨_, rfl, ?_⟩
   replace B0 := a_ (bB_ B0.out hb)
   replace HB := a_ (below_step hC_ hb)
   (try clear hb)
   (try clear hb2)
   (try clear hk)
   (try clear hi)
   refine hK.out _ _ ⟨(blk_cell B0.out 0).trans rfl, (blk_cell B0.out 1).trans rfl, (blk_cell B0.out 2).trans rfl, (blk_cell B0.out 3).trans rfl⟩ (fun hHeld => ?_)
   clear hK K
   refine norm_ (a' := ?_) ?_ ?_
   rotate_left
   · show Act.put _ (some 26) _ = _
     simp only [Act.put, List.setIfInBounds_toArray, List.set_cons_zero, List.set_cons_succ, i64_w, i32_w]
     rfl
   refine pB_ 12 27 HT_.out ?_
   refine pB_ 13 4 HT_.out ?_
   refine done_ (done_of HT_.out (by kernel_rfl)) ?_
   try go_wp2
   go_loopg [4, 5] kj1 (fun kq v4 v5 w' => ∃ (x1 : ByteArray) (x0 : Int), v4 = .string x1 ∧ v5 = .int .i64 x0 ∧ Aside0 (sleuthref12_PutRecord.l0 kq x1 x0 a0_0 a0_1 l0_2 a0_3 = some (r1, r2)) ∧ Aside0 (kq ≤ kj1) ∧ Aside0 (w'.heap[g0]? = some (.cells #[.int .i64 a0_0, .int .i64 a0_1, (.slice A0_2 l0_2.length c0_2), .string a0_3] 24 (0, 0))) ∧ Aside0 (Below w.heap.size w w'))
   case atStart => exact ⟨((t0 ++ t1) ++ t2), (0), hW_, hW_, H', ⟨Nat.le_refl _⟩, ⟨(hK_ B0.out)⟩, ⟨hC_⟩⟩
   case round =>
    clear H'
    try clear c1
    try clear c2
    try clear p2
    try clear c5
    try clear p6
    try clear c9
    try clear c12
    try clear c15
    try clear c15b0
    try clear c15b1
    try clear c15b2
    try clear c17
    try clear c17b0
    try clear c17b1
    try clear c17b2
    try clear c20
    try clear z0
    try clear z1
    try clear z2
    try clear z3
    try clear z4
    try clear z5
    try clear z6
    try clear z7
    try clear z8
    try clear z9
    try clear z10
    try clear z11
    try clear f0
    try clear f1
    try clear f2
    try clear f3
    try clear f4
    try clear f5
    try clear f6
    try clear f7
    try clear f8
    try clear f9
    try clear f10
    try clear f11
    try clear p2
    obtain ⟨x1, x0, rfl, rfl, HA, HK2, B0, HB⟩ := hrel
    cases gk with
    | zero => exact absurd HA.out (by simp [sleuthref12_PutRecord.l0])
    | succ k2 =>
     have H := HA.out
     clear HA
     simp only [sleuthref12_PutRecord.l0] at H
     by_cases c22 : x0 < (l0_2.length : Int)
     case neg =>
      rw [if_neg c22] at H
      have c22b0 : decide (x0 < (l0_2.length : Int)) = false := decide_eq_false c22
      clear c22
      replace H := Option.bind_eq_some_iff.mp H
      obtain ⟨t4, A280, H⟩ := H
      try dsimp only at H
      have A28 := a_ A280
      clear A280
      replace H := ifI_ H; obtain ⟨c29, H⟩ := H
      have c29b0 := eq_true c29
      have c29b1 : decide (x1.size + t4.size ≤ 9223372036854775807) = true := decide_eq_true c29
      try have c29b2 : (9223372036854775807 < x1.size + t4.size) = False := eq_false (Nat.not_lt.2 c29)
      simp only [Option.some.injEq, Prod.mk.injEq] at H
      obtain ⟨rfl, rfl⟩ := H
      obtain ⟨z12, z13, z14, z15, f12, f13, f14, f15⟩ := bx4_ B0.out
      go_wp2_with (first | ((with_reducible refine gate_callee (f := 23) rfl ?_); refine goesL_ (some 46) rfl rfl Tryd.func23 (by kernel_rfl) rfl #[.string a0_3] rfl hL_ ?_; (with_reducible refine (sleuthref12_sized.calls k2 a0_3 t4 _ A28.out).mono ?_); rintro e w6 ⟨rfl, hb⟩; refine ⟨_, rfl, ?_⟩; replace B0 := a_ (bB_ B0.out hb); replace HB := a_ (below_step hC_ hb); (try clear hb); (try clear hb2); (try clear hk); (try clear hi)))
      go_ret2
      exact ⟨hV_, hC_⟩
     rw [if_pos c22] at H
     have c22b0 : decide (x0 < (l0_2.length : Int)) = true := decide_eq_true c22
     clear c22
     replace H := ifI_ H; obtain ⟨c23, H⟩ := H
     have c23b0 : decide (0 ≤ x0) = true := decide_eq_true c23
     clear c23
     replace H := Option.bind_eq_some_iff.mp H
     obtain ⟨t3, A240, H⟩ := H
     try dsimp only at H
     have A24 := a_ A240
     clear A240
     replace H := ifI_ H; obtain ⟨c25, H⟩ := H
     have c25b0 := eq_true c25
     have c25b1 : decide (x1.size + t3.size ≤ 9223372036854775807) = true := decide_eq_true c25
     try have c25b2 : (9223372036854775807 < x1.size + t3.size) = False := eq_false (Nat.not_lt.2 c25)
     have H' := a_ H
     clear H
     obtain ⟨z16, z17, z18, z19, f16, f17, f18, f19⟩ := bx4_ B0.out
     have p272 : 0 ≤ (x0 : Int) := of_decide_eq_true hA_
     have q272 : x0 < (l0_2.length : Int) := of_decide_eq_true hA_
     obtain ⟨d0, e272, h0⟩ := Kd.at_string HR0_2.out x0 p272 q272
     cases e272
     replace h0 := cl_ HB.out h0
     replace p272 := eq_true p272
     replace q272 := eq_true q272
     go_wp2_with (first | ((with_reducible refine gate_callee (f := 23) rfl ?_); refine goesL_ (some 41) rfl rfl Tryd.func23 (by kernel_rfl) rfl #[.string (rdOf ByteArray.empty l0_2 x0)] rfl hL_ ?_; (with_reducible refine (sleuthref12_sized.calls k2 (rdOf ByteArray.empty l0_2 x0) t3 _ A24.out).mono ?_); rintro e w7 ⟨rfl, hb⟩; refine ⟨_, rfl, ?_⟩; replace B0 := a_ (bB_ B0.out hb); replace HB := a_ (below_step hC_ hb); (try clear hb); (try clear hb2); (try clear hk); (try clear hi)))
     go_roundg k2
     case measure => have := HJ1.out; have := HK2.out; omega
     case rel => exact ⟨(x1 ++ t3), (wrap64 (x0 + 1)), hW_, hW_, H', ⟨by have := HJ1.out; have := HK2.out; omega⟩, ⟨(hK_ B0.out)⟩, ⟨hC_⟩⟩
set_option maxHeartbeats 8000000
set_option maxRecDepth 100000
attribute [local go_sem] max2_int min2_int max_two min_two max_three min_three max_four min_four   -- for this text's walks alone
set_option linter.unusedVariables false
set_option linter.unusedSimpArgs false

def record_taker_text.f (k : Nat) (s0_0 : ByteArray) : Option (ByteArray × ByteArray) := (record_taker_number.f k s0_0 2).bind fun bt275 => ((record_taker_take.f bt275.2 bt275.1).bind fun bt277 => (some (bt277.1, bt277.2)))
theorem record_taker_text.calls (k : Nat) (g : Nat) (s0_0 : ByteArray) (r1 : ByteArray) (r2 : ByteArray) (w0 w : World) (hI : IsS52 w0 w g s0_0) (hB : Below w0.heap.size w0 w) (h : record_taker_text.f k s0_0 = some (r1, r2)) :
 Calls Tryd.prog 25 #[.pointer (some ⟨g, 0, none⟩)] w fun e w' => e = .returned (.string r1) ∧ IsS52 w0 w' g r2 ∧ Below w0.heap.size w0 w' ∧ KeepBut w w' g none := by
 have HI0 := a_ hI
 have HK := a_ (KeepBut.refl w g none)
 have HL := a_ hB.size
 clear hI
 have HW0 := a_ hB.size
 have HB := a_ hB
 clear hB
 have H := h; unfold record_taker_text.f at H
 clear h
 replace H := Option.bind_eq_some_iff.mp H
 obtain ⟨⟨t0, t1⟩, A20, H⟩ := H
 try dsimp only at H
 have A2 := a_ A20
 clear A20
 replace H := Option.bind_eq_some_iff.mp H
 obtain ⟨⟨t2, t3⟩, A30, H⟩ := H
 try dsimp only at H
 have A3 := a_ A30
 clear A30
 simp only [Option.some.injEq, Prod.mk.injEq] at H
 obtain ⟨rfl, rfl⟩ := H
 go_enter Tryd.func25, Tryd.ntmps25
 go_wp2_with (first | ((with_reducible refine gate_callee (f := 24) rfl ?_); refine goesL_ (some 5) rfl rfl Tryd.func24 (by kernel_rfl) rfl #[.pointer (some ⟨g, 0, none⟩), .int .i64 2] rfl hL_ ?_; (with_reducible refine (record_taker_number.calls k g s0_0 2 t0 t1 w0 _ ?s1 ?s2 A2.out).mono ?_); (case s1 => repeat (first | (with_reducible first | exact HI0.out | apply IsS52.alloc | apply IsS52.drewN | apply IsS52.drew | apply IsS52.set_0) | exact HI0.out)); (case s2 => repeat (first | (with_reducible first | exact HB.out | apply below_alloc | apply pw_below_drewN | apply below_drew1 | refine below_set ?_ (IsS52.ge HI0.out)) | exact HB.out)); rintro e w4 ⟨rfl, hi, hb, hk⟩; refine ⟨_, rfl, ?_⟩; replace HK := a_ (KeepBut.trans (by repeat (first | (with_reducible first | exact HK.out | apply KeepBut.set_ | apply keep_drewN | apply keep_drew | apply keep_alloc) | exact HK.out)) hk (.inl rfl)); replace HB := a_ (hb); replace HI0 := a_ (hi); (try clear hb); (try clear hb2); (try clear hk); (try clear hi)) | ((with_reducible refine gate_callee (f := 32) rfl ?_); refine goesL_ (some 6) rfl rfl Tryd.func32 (by kernel_rfl) rfl #[.pointer (some ⟨g, 0, none⟩), .int .i64 t0] rfl hL_ ?_; (with_reducible refine (record_taker_take.calls g t1 t0 t2 t3 w0 _ ?s1 ?s2 A3.out).mono ?_); (case s1 => repeat (first | (with_reducible first | exact HI0.out | apply IsS52.alloc | apply IsS52.drewN | apply IsS52.drew | apply IsS52.set_0) | exact HI0.out)); (case s2 => repeat (first | (with_reducible first | exact HB.out | apply below_alloc | apply pw_below_drewN | apply below_drew1 | refine below_set ?_ (IsS52.ge HI0.out)) | exact HB.out)); rintro e w5 ⟨rfl, hi, hb, hk⟩; refine ⟨_, rfl, ?_⟩; replace HK := a_ (KeepBut.trans (by repeat (first | (with_reducible first | exact HK.out | apply KeepBut.set_ | apply keep_drewN | apply keep_drew | apply keep_alloc) | exact HK.out)) hk (.inl rfl)); replace HB := a_ (hb); replace HI0 := a_ (hi); (try clear hb); (try clear hb2); (try clear hk); (try clear hi)))
 go_ret
 exact ⟨hV_, by repeat (first | (with_reducible first | exact HI0.out | apply IsS52.alloc | apply IsS52.drewN | apply IsS52.drew | apply IsS52.set_0) | exact HI0.out), by repeat (first | (with_reducible first | exact HB.out | apply below_alloc | apply pw_below_drewN | apply below_drew1 | refine below_set ?_ (IsS52.ge HI0.out)) | exact HB.out), by repeat (first | (with_reducible first | exact HK.out | apply KeepBut.set_ | apply keep_drewN | apply keep_drew | apply keep_alloc) | exact HK.out)⟩

set_option maxHeartbeats 8000000
set_option maxRecDepth 100000
attribute [local go_sem] max2_int min2_int max_two min_two max_three min_three max_four min_four   -- for this text's walks alone
set_option linter.unusedVariables false
set_option linter.unusedSimpArgs false

def record_Get.l0 : Nat → Int → Int → List ByteArray → ByteArray → Option (List ByteArray × ByteArray)
 | 0, _, _, _, _ => none
 | k + 1, m, x, l, q => if x < m then (record_taker_text.f k q).bind fun b => (if l.length < 8 then record_Get.l0 k m (wrap64 (x + 1)) (l ++ [b.1]) b.2 else none) else some (l, q)
def record_Get.f (k : Nat) (s : ByteArray) : Option (Int × Int × List ByteArray × ByteArray × Int) := (record_taker_number.f k s 1).bind fun b1 => (record_taker_number.f k b1.2 2).bind fun b2 => (record_taker_number.f k b2.2 1).bind fun b3 => (record_Get.l0 k (mn b3.1 3) 0 [] b3.2).bind fun q => (record_taker_text.f k q.2).bind fun r => (record_Put.f k b1.1 (wrap64 (b2.1 - 1)) q.1 r.1).bind fun p => if p.2 = 0 then (if p.1.toList = s.toList then some (b1.1, wrap64 (b2.1 - 1), q.1, r.1, 0) else some (0, 0, [], (⟨#[]⟩ : ByteArray), 1500)) else some (0, 0, [], (⟨#[]⟩ : ByteArray), 1500)
theorem blk_keepb {W W2 : World} {g g' : Nat} {o : Obj} (h : W.heap[g']? = some o) (hk : KeepBut W W2 g none) (hne : g' ≠ g) : W2.heap[g']? = some o := (hk.2 g' (blk_lt h) hne (by simp)).trans h
def record_Get.T5 : Bool × List (List Nat × List Nat) := (true, [([], []), ([0], [0]), ([], []), ([2], [2]), ([3], [3]), ([1, 4, 3], [1, 4]), ([0, 1, 2, 3, 4, 5], []), ([6, 5, 5, 0, 1, 2, 3, 4, 5], [5, 6])])
def record_Get.B5 : List Nat := [0, 1, 0, 4, 12, 31, 63, 127]
theorem record_Get.tab5 : rtab .any (opsOf Tryd.f10 5) = record_Get.T5 := by kernel_rfl
theorem record_Get.bits5 : waitsOk record_Get.T5.2 record_Get.B5 = true := by kernel_rfl
theorem record_Get.calls (k : Nat) (s : ByteArray) (r1 r2 : Int) (r3 : List ByteArray) (r4 : ByteArray) (r5 : Int) (w : World) (h : record_Get.f k s = some (r1, r2, r3, r4, r5)) (hG : GOK w) :
 Calls Tryd.prog 10 #[.string s] w fun e w' => ∃ v2_ : Value, e = .returned (.tuple #[.agg #[.int .i64 r1, .int .i64 r2, v2_, .string r4], .int .i64 r5]) ∧ Kd.R Kd.string 9 w' w.heap.size (fun _ => True) v2_ r3 ∧ Below w.heap.size w w' := by
 have huN := Tryd.underlying24
 have huT := Tryd.underlying52
 have HB := a_ (Below.refl w.heap.size w)
 unfold record_Get.f at h
 obtain ⟨⟨n0, s1⟩, B1, h⟩ := Option.bind_eq_some_iff.mp h
 dsimp only at h
 obtain ⟨⟨n1, s2⟩, B2, h⟩ := Option.bind_eq_some_iff.mp h
 dsimp only at h
 obtain ⟨⟨n2, s3⟩, B3, h⟩ := Option.bind_eq_some_iff.mp h
 dsimp only at h
 obtain ⟨⟨ql, qs⟩, B4, h⟩ := Option.bind_eq_some_iff.mp h
 dsimp only at h
 obtain ⟨⟨t4, q5⟩, B5, h⟩ := Option.bind_eq_some_iff.mp h
 dsimp only at h
 obtain ⟨⟨p1, p2⟩, B6, h⟩ := Option.bind_eq_some_iff.mp h
 dsimp only at h
 obtain ⟨nn, hnn⟩ : ∃ y, wrap64 (n1 - 1) = y := ⟨_, rfl⟩
 obtain ⟨m, hm⟩ : ∃ y, mn n2 3 = y := ⟨_, rfl⟩
 rw [hnn] at B6 h
 rw [hm] at B4
 have hnnw : IntKind.i64.wrap (n1 - 1) = nn := (i64_w _).trans hnn
 have hm_ : (if 3 < n2 then 3 else n2) = m := hm
 have B1 := a_ B1
 have B2 := a_ B2
 have B3 := a_ B3
 have H' := a_ B4
 have B5 := a_ B5
 have B6 := a_ B6
 have HH := a_ h
 clear h
 go_enter Tryd.func10, Tryd.ntmps10
 go_wp2_with (first
  | ((with_reducible refine gate_dst (N := 2) rfl ?_); refine boxE_ 2 #[.int .i64 0, .int .i64 0, .slice none 0 0, .string ⟨#[]⟩] 24 ?_; intro gR hg w2 hbox hb; have GR := a_ (gE_ hg : w.heap.size ≤ gR); have BR := a_ hbox; replace HB := a_ (below_step hC_ hb); clear hg hbox hb)
  | ((with_reducible refine gate_dst (N := 10) rfl ?_); refine boxE_ 10 #[.string s] 52 ?_; intro gT hg w3 hbox hb; have hRT := (bL_ BR.out hg : gR ≠ gT); have HI := a_ (show IsS52 w w3 gT s from ⟨hbox, gE_ hg⟩); replace BR := a_ (bB_ BR.out hb); replace HB := a_ (below_step hC_ hb); clear hg hbox hb)
  | ((with_reducible refine gate_callee (f := 24) rfl ?_); refine goesL_ _ rfl rfl Tryd.func24 (by kernel_rfl) rfl #[.pointer (some ⟨gT, 0, none⟩), .int .i64 1] rfl hL_ ?_; (with_reducible refine (record_taker_number.calls k gT s 1 n0 s1 w _ ?hi ?hb B1.out).mono ?_); (case hi => exact ⟨hK_ HI.out.1, HI.out.2⟩); (case hb => exact hC_); rintro e w4 ⟨rfl, hI, hB, hK⟩; refine ⟨_, rfl, ?_⟩; replace BR := a_ (blk_keepb (hK_ BR.out) hK hRT); replace HI := a_ hI; replace HB := a_ hB; clear hI hB hK)
  | ((with_reducible refine gate_callee (f := 24) rfl ?_); refine goesL_ _ rfl rfl Tryd.func24 (by kernel_rfl) rfl #[.pointer (some ⟨gT, 0, none⟩), .int .i64 2] rfl hL_ ?_; (with_reducible refine (record_taker_number.calls k gT s1 2 n1 s2 w _ ?hi ?hb B2.out).mono ?_); (case hi => exact ⟨hK_ HI.out.1, HI.out.2⟩); (case hb => exact hC_); rintro e w5 ⟨rfl, hI, hB, hK⟩; refine ⟨_, rfl, ?_⟩; replace BR := a_ (blk_keepb (hK_ BR.out) hK hRT); replace HI := a_ hI; replace HB := a_ hB; clear hI hB hK)
  | ((with_reducible refine gate_dst (N := 5) rfl ?_); refine boxE_ 5 #[.int .i64 0, .int .i64 0, .slice none 0 0, .string ⟨#[]⟩] 24 ?_; intro gN hg w6 hbox hb; have GN := a_ (gE_ hg : w.heap.size ≤ gN); have hRN := (bL_ BR.out hg : gR ≠ gN); have hTN := (bL_ HI.out.1 hg : gT ≠ gN); have hNT := (bG_ HI.out.1 hg : gN ≠ gT); have hNR := (bG_ BR.out hg : gN ≠ gR); have BN := a_ hbox; replace BR := a_ (bB_ BR.out hb); replace HI := a_ (show IsS52 w w6 gT s2 from ⟨bB_ HI.out.1 hb, HI.out.2⟩); replace HB := a_ (below_step hC_ hb); clear hg hbox hb; obtain ⟨hz0, hz1, hz2, hz3, hf0, hf1, hf2, hf3⟩ := bx4_ BN.out)
  | ((with_reducible refine gate_callee (f := 24) rfl ?_); refine goesL_ _ rfl rfl Tryd.func24 (by kernel_rfl) rfl #[.pointer (some ⟨gT, 0, none⟩), .int .i64 1] rfl hL_ ?_; (with_reducible refine (record_taker_number.calls k gT s2 1 n2 s3 w _ ?hi ?hb B3.out).mono ?_); (case hi => exact ⟨by (with_reducible repeat (first | refine blk_drewN ?_ _ | refine blk_drew ?_ | refine blk_alloc ?_ _)); exact (bF_ (bF_ (bF_ (bF_ (hK_ HI.out.1) hTN) hTN) hTN) hTN), HI.out.2⟩); (case hb => exact hC_); rintro e w7 ⟨rfl, hI, hB, hK⟩; refine ⟨_, rfl, ?_⟩; replace BR := a_ (blk_keepb (by (with_reducible repeat (first | refine blk_drewN ?_ _ | refine blk_drew ?_ | refine blk_alloc ?_ _)); exact (bF_ (bF_ (bF_ (bF_ (hK_ BR.out) hRN) hRN) hRN) hRN)) hK hRT); have BN2 := a_ (blk_keepb (o := .cells #[.int .i64 n0, .int .i64 nn, .slice none 0 0, .string ⟨#[]⟩] 24 (0, 0)) (by (with_reducible repeat (first | refine blk_drewN ?_ _ | refine blk_drew ?_ | refine blk_alloc ?_ _)); exact (bP_ (bP_ (bP_ (bP_ (hK_ BN.out)))))) hK hNT); clear BN; have BN := BN2; clear BN2; replace HI := a_ hI; replace HB := a_ hB; clear hI hB hK))
 go_loopg [20] k (fun kq v1 w' => ∃ (x : Int) (l : List ByteArray) (q : ByteArray) (v : Value), v1 = .int .i64 x ∧ Aside0 (record_Get.l0 kq m x l q = some (ql, qs)) ∧ Aside0 (kq ≤ k) ∧ Aside0 (Kd.R Kd.string 9 w' w.heap.size (fun _ => True) v l) ∧ Aside0 (w'.heap[gN]? = some (.cells #[.int .i64 n0, .int .i64 nn, v, .string ⟨#[]⟩] 24 (0, 0))) ∧ Aside0 (w'.heap[gR]? = some (.cells #[.int .i64 0, .int .i64 0, .slice none 0 0, .string ⟨#[]⟩] 24 (0, 0))) ∧ Aside0 (IsS52 w w' gT q) ∧ Aside0 (Below w.heap.size w w'))
 case atStart => exact ⟨0, [], s3, .slice none 0 0, hW_, H', ⟨Nat.le_refl _⟩, ⟨Kd.R_nil _ _ _ _ _⟩, ⟨hK_ BN.out⟩, ⟨hK_ BR.out⟩, ⟨⟨hK_ HI.out.1, HI.out.2⟩⟩, ⟨hC_⟩⟩
 case round =>
  clear H' HB HI BN BR
  obtain ⟨x, l, q, v, rfl, HA, HK2, HO, BN, BR, HI, HB⟩ := hrel
  obtain ⟨A, c, rfl⟩ := Kd.R_slice HO.out
  cases gk with
  | zero => exact absurd HA.out (by simp [record_Get.l0])
  | succ k2 =>
   have H := HA.out
   clear HA
   simp only [record_Get.l0] at H
   by_cases c22 : x < m
   case neg =>
    rw [if_neg c22] at H
    have c22b0 : decide (x < m) = false := decide_eq_false c22
    clear c22
    obtain ⟨rfl, rfl⟩ := Prod.mk.inj (Option.some.inj H)
    clear H
    go_upto_region 9 with (first
     | ((with_reducible refine gate_callee (f := 25) rfl ?_); refine goesL_ _ rfl rfl Tryd.func25 (by kernel_rfl) rfl #[.pointer (some ⟨gT, 0, none⟩)] rfl hL_ ?_; (with_reducible refine (record_taker_text.calls k gT q t4 q5 w _ ?hi ?hb B5.out).mono ?_); (case hi => exact ⟨hK_ HI.out.1, HI.out.2⟩); (case hb => exact hC_); rintro e w8 ⟨rfl, hI, hB, hK⟩; refine ⟨_, rfl, ?_⟩; replace HO := a_ (Kd.R_mono (Kd.R_keep (IsS52.apart (show IsS52 w _ gT _ from ⟨hK_ HI.out.1, HI.out.2⟩) (hR_ HO.out) (by decide)) hK (fun _ h_ => h_.2)) (fun _ h_ => h_.1)); replace BR := a_ (blk_keepb (hK_ BR.out) hK hRT); replace BN := a_ (blk_keepb (hK_ BN.out) hK hNT); replace HI := a_ hI; replace HB := a_ hB; clear hI hB hK; obtain ⟨hz0, hz1, hz2, hz3, hf0, hf1, hf2, hf3⟩ := bx4_ BN.out)
     | ((with_reducible refine gate_callee (f := 8) rfl ?_); refine goesL_ _ rfl rfl Tryd.func8 (by kernel_rfl) rfl #[.agg #[.int .i64 n0, .int .i64 nn, .slice A l.length c, .string t4]] rfl hL_ ?_; (with_reducible refine (record_Put.calls k n0 nn A c l t4 p1 p2 _ ?hr ?hc B6.out (GOK.below hG hC_)).mono ?_); (case hr => exact (Kd.R_reads' (Kd.R_mono (rF_ (Kd.R_types (hR_ HO.out) (hK_ BN.out) (by decide))) (fun _ h_ => h_.1))).2.2); (case hc => exact (Kd.R_reads' HO.out).2.1); rintro e w9 ⟨rfl, hb⟩; refine ⟨_, rfl, ?_⟩; have P0 := a_ (Kd.R_below (Kd.R_mono (rF_ (Kd.R_types (hR_ HO.out) (hK_ BN.out) (by decide))) (fun _ h_ => h_.1)) hb); have BR2 := a_ (blk_below (bF_ (hK_ BR.out) hRN) hb); have BN2 := a_ (blk_below (g := gN) (o := .cells #[.int .i64 n0, .int .i64 nn, .slice A l.length c, .string t4] 24 (0, 0)) (bP_ (hK_ BN.out)) hb); replace HB := a_ (below_step hC_ hb); clear hb HO BR BN; have HO := P0; have BR := BR2; have BN := BN2; clear P0 BR2 BN2; obtain ⟨i0, i1, i2, i3, h0, h1, h2, h3⟩ := bx4_ BN.out; obtain ⟨hu0, hu1, hu2, hu3, hv0, hv1, hv2, hv3⟩ := bx4_ BR.out))
    have h := HH.out
    clear HH
    by_cases c30 : p2 = 0
    case neg =>
     rw [if_neg c30] at h
     simp only [Option.some.injEq, Prod.mk.injEq] at h
     obtain ⟨rfl, rfl, rfl, rfl, rfl⟩ := h
     have c30a : (p2 == 0) = false := beq_eq_false_iff_ne.mpr c30
     have c30b : (p2 != 0) = true := bne_iff_ne.mpr c30
     clear c30
     go_wp2
     refine bodyPost_ret (results_ct rfl _ _ gR 24 #[.int .i64 0, .int .i64 0, .slice none 0 0, .string ⟨#[]⟩] (0, 0) _ rfl (by (with_reducible repeat (first | refine blk_drewN ?_ _ | refine blk_drew ?_ | refine blk_alloc ?_ _)); exact (bP_ (bP_ (bP_ (bP_ (hK_ BR.out)))))) huN rfl (by kernel_rfl)) rfl ?_
     exact ⟨_, hV_, Kd.R_nil _ _ _ _ _, hC_⟩
    rw [if_pos c30] at h
    have c30a : (p2 == 0) = true := beq_iff_eq.mpr c30
    have c30b : (p2 != 0) = false := bne_eq_false_iff_eq.mpr c30
    clear c30
    by_cases c31 : p1.toList = s.toList
    case neg =>
     rw [if_neg c31] at h
     simp only [Option.some.injEq, Prod.mk.injEq] at h
     obtain ⟨rfl, rfl, rfl, rfl, rfl⟩ := h
     have c31a : (p1.toList == s.toList) = false := beq_eq_false_iff_ne.mpr c31
     have c31b : (p1.toList != s.toList) = true := bne_iff_ne.mpr c31
     clear c31
     go_wp2
     refine bodyPost_ret (results_ct rfl _ _ gR 24 #[.int .i64 0, .int .i64 0, .slice none 0 0, .string ⟨#[]⟩] (0, 0) _ rfl (by (with_reducible repeat (first | refine blk_drewN ?_ _ | refine blk_drew ?_ | refine blk_alloc ?_ _)); exact (bP_ (bP_ (bP_ (bP_ (hK_ BR.out)))))) huN rfl (by kernel_rfl)) rfl ?_
     exact ⟨_, hV_, Kd.R_nil _ _ _ _ _, hC_⟩
    rw [if_pos c31] at h
    simp only [Option.some.injEq, Prod.mk.injEq] at h
    obtain ⟨rfl, rfl, rfl, rfl, rfl⟩ := h
    have c31a : (p1.toList == s.toList) = true := beq_iff_eq.mpr c31
    have c31b : (p1.toList != s.toList) = false := bne_eq_false_iff_eq.mpr c31
    clear c31
    go_wp2
    refine bodyPost_ret (results_ct rfl _ _ gR 24 #[.int .i64 n0, .int .i64 nn, .slice A l.length c, .string t4] (0, 0) _ rfl (by (with_reducible repeat (first | refine blk_drewN ?_ _ | refine blk_drew ?_ | refine blk_alloc ?_ _)); exact (bP_ (bP_ (bP_ (bP_ (hK_ BR.out)))))) huN rfl (by kernel_rfl)) rfl ?_
    exact ⟨_, hV_, by skip; (with_reducible repeat (first | apply Kd.R_alloc | apply Kd.R_drewN | apply Kd.R_drew)); exact Kd.R_mono (rF_ (rF_ (rF_ (rF_ (Kd.R_types (hR_ HO.out) (hK_ BR.out) (by decide)))))) (fun _ h_ => h_.1), hC_⟩
   rw [if_pos c22] at H
   have c22b0 : decide (x < m) = true := decide_eq_true c22
   clear c22
   obtain ⟨⟨tt, q2⟩, A24, H⟩ := Option.bind_eq_some_iff.mp H
   have A24 := a_ A24
   dsimp only at H
   replace H := ifI_ H; obtain ⟨c25, H⟩ := H
   have LM := a_ c25
   obtain ⟨y, hy⟩ : ∃ y, y = l ++ [tt] := ⟨_, rfl⟩
   rw [← hy] at H
   have NY := a_ hy
   have H' := a_ H
   clear H hy c25
   try go_wp2
   refine start_ (n := 8) (S := fun w' => w'.cell? ⟨gN, 2, none⟩ = some (.slice A l.length c)) (ds := [7]) #[false, false, false, false, false, false, false, false] (by kernel_rfl) rfl rfl ((blk_cell BN.out 2).trans rfl) (fun hHeld => ?_)
   refine with_tabW record_Get.tab5 record_Get.bits5 (fun HT_ HW_ => ?_)
   refine pB_ 0 22 HT_.out ?_
   refine pB_ 2 24 HT_.out ?_
   refine tB_ 1 23 HT_.out HW_.out hHeld ?_
   refine one_ (i := 3) (N := some 25) #[true, true, true, true, false, false, false, false] rfl rfl (one_of HT_.out (by kernel_rfl)) (by decide) (fun K hK => ?_)
   refine goes_ Tryd.func25 (by kernel_rfl) rfl #[.pointer (some ⟨gT, 0, none⟩)] (by rfl) rfl rfl hL_ ?_
   with_reducible refine (record_taker_text.calls k2 gT q tt q2 w _ ?hi ?hb A24.out).mono ?_
   (case hi => exact ⟨hK_ HI.out.1, HI.out.2⟩)
   (case hb => exact hC_)
   rintro e w8 ⟨rfl, hI, hB, hkk⟩
   refine ⟨_, rfl, ?_⟩
   replace HO := a_ (Kd.R_mono (Kd.R_keep (IsS52.apart (show IsS52 w _ gT _ from ⟨hK_ HI.out.1, HI.out.2⟩) (hR_ HO.out) (by decide)) hkk (fun _ h_ => h_.2)) (fun _ h_ => h_.1))
   replace BR := a_ (blk_keepb (hK_ BR.out) hkk hRT)
   replace BN := a_ (blk_keepb (hK_ BN.out) hkk hNT)
   replace HI := a_ hI
   replace HB := a_ hB
   clear hI hB hkk
   refine hK.out _ _ ((blk_cell BN.out 2).trans rfl) (fun hHeld => ?_)
   clear hK K
   refine norm_ (a' := ?_) ?_ ?_
   rotate_left
   · show Act.put _ (some 25) _ = _
     simp only [Act.put, List.setIfInBounds_toArray, List.set_cons_zero, List.set_cons_succ, i64_w, i32_w]
     rfl
   refine one_ (i := 4) (N := some 26) #[true, true, true, true, true, false, false, false] rfl rfl (one_of HT_.out (by kernel_rfl)) (by decide) (fun K hK => ?_)
   refine value_ (w1 := ?_) (v := ?_) (by rfl) rfl ?_ ?_
   rotate_left 2
   · go_simp
     constructor
     · rfl
     · rfl
   refine hK.out _ _ ((blk_cell (blk_alloc BN.out _) 2).trans rfl) (fun hHeld => ?_)
   clear hK K
   refine norm_ (a' := ?_) ?_ ?_
   rotate_left
   · show Act.put _ (some 26) _ = _
     simp only [Act.put, List.setIfInBounds_toArray, List.set_cons_zero, List.set_cons_succ, i64_w, i32_w]
     rfl
   refine one_ (i := 5) (N := some 27) #[true, true, true, true, true, true, false, false] rfl rfl (one_of HT_.out (by kernel_rfl)) (by decide) (fun K hK => ?_)
   refine Kd.R_append_step Kd.string (w0 := w) w.heap.size (by rfl) (.tmp 23) (.tmp 26) 22 9 (.string ⟨#[]⟩) 16 rfl Tryd.underlying22 info9 rfl (by decide) (by omega) (.slice A l.length c) l tt [.string tt] (fun _ => True) (fun _ => False) rfl rfl ?aP (fun _ hk => hk.elim) ?aF ?aO ?aB ?aS ?aL ?_
   (case aP => exact rfl)
   (case aB => exact hC_)
   (case aF => exact fun _ _ => trivial)
   (case aO => exact (hR_ HO.out))
   (case aS => exact (below_size hC_))
   (case aL => have := LM.out; omega)
   intro v0 w9 ho hb hg hat
   rw [← NY.out] at ho
   have hne_ := IsS52.own_ne HI.out HO.out (by decide)
   replace BN := a_ (blk_grown (hK_ BN.out) hg (Kd.R_ne HO.out BN.out (by decide)))
   replace BR := a_ (blk_grown (hK_ BR.out) hg (Kd.R_ne HO.out BR.out (by decide)))
   replace HI := a_ (show IsS52 w w9 gT q2 from ⟨blk_grown (hK_ HI.out.1) hg hne_, HI.out.2⟩)
   replace HB := a_ hb
   replace HO := a_ ho
   clear ho hb hg hat hne_
   obtain ⟨A2, c2, rfl⟩ := Kd.R_slice HO.out
   refine hK.out _ _ ((blk_cell BN.out 2).trans rfl) (fun hHeld => ?_)
   clear hK K
   refine norm_ (a' := ?_) ?_ ?_
   rotate_left
   · show Act.put _ (some 27) _ = _
     simp only [Act.put, List.setIfInBounds_toArray, List.set_cons_zero, List.set_cons_succ, i64_w, i32_w]
     rfl
   refine pB_ 6 28 HT_.out ?_
   refine last_ (i := 7) (N := none) #[true, true, true, true, true, true, true, true] rfl rfl (one_of HT_.out (by kernel_rfl)) (by decide) (fun K hK => ?_)
   have hs44 := bc2_ BN.out
   have hfs44 := blk_frozen BN.out 2
   refine skip_ (w1 := ?_) (by rfl) rfl ?_ ?_
   rotate_left
   · go_simp
     rfl
   refine hK.out _ _ ?_
   clear hK K
   refine done_ (done_of HT_.out (by kernel_rfl)) ?_
   try go_wp2
   go_roundg k2
   case measure => have := HK2.out; omega
   case rel => exact ⟨(wrap64 (x + 1)), y, q2, _, hW_, H', ⟨by have := HK2.out; omega⟩, ⟨by skip; (with_reducible repeat (first | apply Kd.R_alloc | apply Kd.R_drewN | apply Kd.R_drew)); exact (Kd.R_mono (rF_ (Kd.R_types (hR_ HO.out) (hK_ BN.out) (by decide))) (fun _ h_ => h_.1))⟩, ⟨by (with_reducible repeat (first | refine blk_drewN ?_ _ | refine blk_drew ?_ | refine blk_alloc ?_ _)); exact (bP_ (hK_ BN.out))⟩, ⟨by (with_reducible repeat (first | refine blk_drewN ?_ _ | refine blk_drew ?_ | refine blk_alloc ?_ _)); exact (bF_ (hK_ BR.out) hRN)⟩, ⟨⟨by (with_reducible repeat (first | refine blk_drewN ?_ _ | refine blk_drew ?_ | refine blk_alloc ?_ _)); exact (bF_ (hK_ HI.out.1) hTN), HI.out.2⟩⟩, ⟨hC_⟩⟩

set_option maxHeartbeats 8000000
set_option maxRecDepth 100000
attribute [local go_sem] max2_int min2_int max_two min_two max_three min_three max_four min_four   -- for this text's walks alone
set_option linter.unusedVariables false
set_option linter.unusedSimpArgs false

/-- A state of type 57 at block g of W; what its slices lead to came in by w0. -/
def IsS57 (w0 W : World) (g : Nat) (f0 : ByteArray) (f1 : Bool) : Prop := W.heap[g]? = some (.cells #[.string f0, .bool f1] 57 (0, 0)) ∧ w0.heap.size ≤ g
theorem IsS57.grown {w0 W : World} {g : Nat} {f0 : ByteArray} {f1 : Bool} {W1 : World} {row : Option Nat} (h : IsS57 w0 W g f0 f1) (hw : W.grownBy W1 row) (hne : some g ≠ row) : IsS57 w0 W1 g f0 f1 := by
 obtain ⟨hb, hg⟩ := h
 exact ⟨blk_grown hb hw hne, hg⟩
theorem IsS57.kept {w0 W : World} {g : Nat} {f0 : ByteArray} {f1 : Bool} {W1 : World} {S : Nat → Prop} (h : IsS57 w0 W g f0 f1) (hk : Kept W W1 S) (hne : ¬ S g) : IsS57 w0 W1 g f0 f1 := by
 obtain ⟨hb, hg⟩ := h
 exact ⟨blk_kept hb hk hne, hg⟩
theorem IsS57.below {w0 W : World} {g : Nat} {f0 : ByteArray} {f1 : Bool} {W1 : World} (h : IsS57 w0 W g f0 f1) (hw : Below W.heap.size W W1) : IsS57 w0 W1 g f0 f1 := h.grown (grown_of_below hw none) (by simp)
theorem IsS57.alloc {w0 W : World} {g : Nat} {f0 : ByteArray} {f1 : Bool} (h : IsS57 w0 W g f0 f1) (o : Obj) : IsS57 w0 (W.alloc o) g f0 f1 := h.below (below_alloc (Below.refl _ _) o)
theorem IsS57.drewN {w0 W : World} {g : Nat} {f0 : ByteArray} {f1 : Bool} (h : IsS57 w0 W g f0 f1) (m : Nat) : IsS57 w0 (W.drewN m) g f0 f1 := h
theorem IsS57.drew {w0 W : World} {g : Nat} {f0 : ByteArray} {f1 : Bool} (h : IsS57 w0 W g f0 f1) : IsS57 w0 W.drew g f0 f1 := h
theorem IsS57.at_ {w0 W : World} {g : Nat} {f0 : ByteArray} {f1 : Bool} {w' : World} {m : Nat} (hq : W.drewN m = w') (h : IsS57 w0 W g f0 f1) : IsS57 w0 w' g f0 f1 := by subst hq; exact IsS57.drewN h m
theorem IsS57.apart {w0 W : World} {g : Nat} {f0 : ByteArray} {f1 : Bool} {α : Type} {d : Kd α} {e : Nat} {base : Nat} {ok : Nat → Prop} {v : Value} {xs : List α} (h : IsS57 w0 W g f0 f1) (ho : d.R e W base ok v xs) (ht : ∀ q, q ∈ e :: d.E → q ≠ 57) : d.R e W base (fun k => ok k ∧ k ≠ g) v xs := by
 obtain ⟨hb, hg⟩ := h
 exact Kd.R_types ho hb ht
theorem IsS57.own_ne {w0 W : World} {g : Nat} {f0 : ByteArray} {f1 : Bool} {α : Type} {d : Kd α} {e : Nat} {base : Nat} {ok : Nat → Prop} {v : Value} {xs : List α} (h : IsS57 w0 W g f0 f1) (ho : d.R e W base ok v xs) (ht : e ≠ 57) : some g ≠ v.ownBlock := by
 obtain ⟨hb, hg⟩ := h
 exact Kd.R_ne ho hb ht
theorem IsS57.ge {w0 W : World} {g : Nat} {f0 : ByteArray} {f1 : Bool} (h : IsS57 w0 W g f0 f1) : w0.heap.size ≤ g := by
 obtain ⟨hb, hg⟩ := h
 exact hg
theorem cellS57_0 {W : World} {g : Nat} {f0 : ByteArray} {f1 : Bool} (h : W.heap[g]? = some (.cells #[.string f0, .bool f1] 57 (0, 0))) : W.cell? ⟨g, 0, none⟩ = some (.string f0) := (blk_cell h 0).trans rfl
theorem IsS57.set_0 {w0 W : World} {g : Nat} {f0 : ByteArray} {f1 : Bool} (h : IsS57 w0 W g f0 f1) (x : ByteArray) : IsS57 w0 (W.setCell ⟨g, 0, none⟩ (.string x)) g x f1 := by
 obtain ⟨hb, hg⟩ := h
 exact ⟨by simpa using blk_set hb 0 (.string x), hg⟩
theorem IsS57.set_0e {w0 W : World} {g : Nat} {f0 : ByteArray} {f1 : Bool} (h : IsS57 w0 W g f0 f1) (x y_ : ByteArray) (e_ : y_ = x) : IsS57 w0 (W.setCell ⟨g, 0, none⟩ (.string x)) g y_ f1 := by subst e_; exact IsS57.set_0 h _
theorem cellS57_1 {W : World} {g : Nat} {f0 : ByteArray} {f1 : Bool} (h : W.heap[g]? = some (.cells #[.string f0, .bool f1] 57 (0, 0))) : W.cell? ⟨g, 1, none⟩ = some (.bool f1) := (blk_cell h 1).trans rfl
theorem IsS57.set_1 {w0 W : World} {g : Nat} {f0 : ByteArray} {f1 : Bool} (h : IsS57 w0 W g f0 f1) (x : Bool) : IsS57 w0 (W.setCell ⟨g, 1, none⟩ (.bool x)) g f0 x := by
 obtain ⟨hb, hg⟩ := h
 exact ⟨by simpa using blk_set hb 1 (.bool x), hg⟩
def sleuthref12_reader_num.l0 : Nat → Int → Int → Int → ByteArray → Bool → Option (Int × ByteArray × Bool)
 | 0, _, _, _, _, _ => none
 | k + 1, x1, x5, x6, x1000, x1001 => if x6 ≥ 0 then (if 0 ≤ x6 then (if x6 < (x1000.size : Int) then (sleuthref12_reader_num.l0 k x1 (Go.bits .or .i64 (wrap64 (x5 * 256)) (wrap64 (bt x1000 x6))) (wrap64 (x6 - 1)) x1000 x1001) else (none)) else (none)) else (if 0 ≤ x1 then (if x1 ≤ (x1000.size : Int) then (some (x5, x1000.extract (x1 : Int).toNat x1000.size, x1001)) else (none)) else (none))
def sleuthref12_reader_num.f (k : Nat) (s0_0 : ByteArray) (s0_1 : Bool) (a1 : Int) : Option (Int × ByteArray × Bool) := if a1 > (s0_0.size : Int) then (some (0, s0_0, true)) else (sleuthref12_reader_num.l0 k a1 0 (wrap64 (a1 - 1)) s0_0 s0_1)
theorem sleuthref12_reader_num.calls (k : Nat) (g : Nat) (s0_0 : ByteArray) (s0_1 : Bool) (a1 : Int) (r1 : Int) (r2 : ByteArray) (r3 : Bool) (w0 w : World) (hI : IsS57 w0 w g s0_0 s0_1) (hB : Below w0.heap.size w0 w) (h : sleuthref12_reader_num.f k s0_0 s0_1 a1 = some (r1, r2, r3)) :
 Calls Tryd.prog 26 #[.pointer (some ⟨g, 0, none⟩), .int .i64 a1] w fun e w' => e = .returned (.int .i64 r1) ∧ IsS57 w0 w' g r2 r3 ∧ Below w0.heap.size w0 w' ∧ KeepBut w w' g none := by
 have HI0 := a_ hI
 have HK := a_ (KeepBut.refl w g none)
 have HL := a_ hB.size
 clear hI
 have HW0 := a_ hB.size
 have HB := a_ hB
 clear hB
 have H := h; unfold sleuthref12_reader_num.f at H
 clear h
 by_cases c3 : a1 > (s0_0.size : Int)
 case pos =>
  rw [if_pos c3] at H
  have c3b0 : decide ((s0_0.size : Int) < a1) = true := decide_eq_true c3
  clear c3
  simp only [Option.some.injEq, Prod.mk.injEq] at H
  obtain ⟨rfl, rfl, rfl⟩ := H
  obtain ⟨HGz4, hgz4⟩ := HI0.out
  have z0 := cellS57_0 HGz4
  have z1 := cellS57_1 HGz4
  have f0 := blk_frozen HGz4 0
  have f1 := blk_frozen HGz4 1
  clear HGz4 hgz4
  go_enter Tryd.func26, Tryd.ntmps26
  go_wp2
  go_ret
  exact ⟨hV_, by repeat (first | (with_reducible first | exact HI0.out | apply IsS57.alloc | apply IsS57.drewN | apply IsS57.drew | apply IsS57.set_0 | apply IsS57.set_1) | exact HI0.out), by repeat (first | (with_reducible first | exact HB.out | apply below_alloc | apply pw_below_drewN | apply below_drew1 | refine below_set ?_ (IsS57.ge HI0.out)) | exact HB.out), by repeat (first | (with_reducible first | exact HK.out | apply KeepBut.set_ | apply keep_drewN | apply keep_drew | apply keep_alloc) | exact HK.out)⟩
 rw [if_neg c3] at H
 have c3b0 : decide ((s0_0.size : Int) < a1) = false := decide_eq_false c3
 clear c3
 have H' := a_ H
 clear H
 obtain ⟨HGz5, hgz5⟩ := HI0.out
 have z2 := cellS57_0 HGz5
 have z3 := cellS57_1 HGz5
 have f2 := blk_frozen HGz5 0
 have f3 := blk_frozen HGz5 1
 clear HGz5 hgz5
 go_enter Tryd.func26, Tryd.ntmps26
 go_wp2
 go_loopg [5, 6] k (fun kq v5 v6 w' => ∃ (x1 : Int) (x0 : Int), v5 = .int .i64 x1 ∧ v6 = .int .i64 x0 ∧ Aside0 (sleuthref12_reader_num.l0 kq a1 x1 x0 s0_0 s0_1 = some (r1, r2, r3)) ∧ Aside0 (kq ≤ k) ∧ Aside0 (IsS57 w0 w' g s0_0 s0_1) ∧ Aside0 (KeepBut w w' g none) ∧ Aside0 (Below w0.heap.size w0 w'))
 case atStart => exact ⟨(0), (wrap64 (a1 - 1)), hW_, hW_, H', ⟨Nat.le_refl _⟩, ⟨by repeat (first | (with_reducible first | exact HI0.out | apply IsS57.alloc | apply IsS57.drewN | apply IsS57.drew | apply IsS57.set_0 | apply IsS57.set_1) | exact HI0.out)⟩, ⟨by repeat (first | (with_reducible first | exact HK.out | apply KeepBut.set_ | apply keep_drewN | apply keep_drew | apply keep_alloc) | exact HK.out)⟩, ⟨by repeat (first | (with_reducible first | exact HB.out | apply below_alloc | apply pw_below_drewN | apply below_drew1 | refine below_set ?_ (IsS57.ge HI0.out)) | exact HB.out)⟩⟩
 case round =>
  clear H'
  try clear c2
  try clear p2
  try clear c3
  try clear c3b0
  try clear z0
  try clear z1
  try clear z2
  try clear z3
  try clear f0
  try clear f1
  try clear f2
  try clear f3
  obtain ⟨x1, x0, rfl, rfl, HA, HK1, HI0, HK, HB⟩ := hrel
  cases gk with
  | zero => exact absurd HA.out (by simp [sleuthref12_reader_num.l0])
  | succ k1 =>
   have H := HA.out
   clear HA
   simp only [sleuthref12_reader_num.l0] at H
   by_cases c6 : x0 ≥ 0
   case neg =>
    rw [if_neg c6] at H
    have c6b0 : decide (0 ≤ x0) = false := decide_eq_false c6
    clear c6
    replace H := ifI_ H; obtain ⟨c11, H⟩ := H
    have c11b0 := eq_true c11
    have c11b1 : decide (0 ≤ a1) = true := decide_eq_true c11
    clear c11
    replace H := ifI_ H; obtain ⟨c12, H⟩ := H
    have c12b0 := eq_true c12
    have c12b1 : decide (a1 ≤ (s0_0.size : Int)) = true := decide_eq_true c12
    clear c12
    simp only [Option.some.injEq, Prod.mk.injEq] at H
    obtain ⟨rfl, rfl, rfl⟩ := H
    obtain ⟨HGz13, hgz13⟩ := HI0.out
    have z4 := cellS57_0 HGz13
    have z5 := cellS57_1 HGz13
    have f4 := blk_frozen HGz13 0
    have f5 := blk_frozen HGz13 1
    clear HGz13 hgz13
    go_wp2
    go_ret
    exact ⟨hV_, by repeat (first | (with_reducible first | exact HI0.out | apply IsS57.alloc | apply IsS57.drewN | apply IsS57.drew | apply IsS57.set_0 | apply IsS57.set_1) | exact HI0.out), by repeat (first | (with_reducible first | exact HB.out | apply below_alloc | apply pw_below_drewN | apply below_drew1 | refine below_set ?_ (IsS57.ge HI0.out)) | exact HB.out), by repeat (first | (with_reducible first | exact HK.out | apply KeepBut.set_ | apply keep_drewN | apply keep_drew | apply keep_alloc) | exact HK.out)⟩
   rw [if_pos c6] at H
   have c6b0 : decide (0 ≤ x0) = true := decide_eq_true c6
   clear c6
   replace H := ifI_ H; obtain ⟨c7, H⟩ := H
   have c7b0 : decide (0 ≤ x0) = true := decide_eq_true c7
   clear c7
   replace H := ifI_ H; obtain ⟨c8, H⟩ := H
   have c8b0 : decide (x0 < (s0_0.size : Int)) = true := decide_eq_true c8
   clear c8
   have H' := a_ H
   clear H
   obtain ⟨HGz10, hgz10⟩ := HI0.out
   have z6 := cellS57_0 HGz10
   have z7 := cellS57_1 HGz10
   have f6 := blk_frozen HGz10 0
   have f7 := blk_frozen HGz10 1
   clear HGz10 hgz10
   have p9 : 0 ≤ (x0 : Int) := of_decide_eq_true hA_
   have q9 : x0 < (s0_0.size : Int) := of_decide_eq_true hA_
   have h0 := bt_at s0_0 x0
   replace p9 := eq_true p9
   replace q9 := eq_true q9
   go_wp2
   go_roundg k1
   case measure => have := HK1.out; omega
   case rel => exact ⟨(Go.bits .or .i64 (wrap64 (x1 * 256)) (wrap64 (bt s0_0 x0))), (wrap64 (x0 - 1)), hW_, hW_, H', ⟨by have := HK1.out; omega⟩, ⟨by repeat (first | (with_reducible first | exact HI0.out | apply IsS57.alloc | apply IsS57.drewN | apply IsS57.drew | apply IsS57.set_0 | apply IsS57.set_1) | exact HI0.out)⟩, ⟨by repeat (first | (with_reducible first | exact HK.out | apply KeepBut.set_ | apply keep_drewN | apply keep_drew | apply keep_alloc) | exact HK.out)⟩, ⟨by repeat (first | (with_reducible first | exact HB.out | apply below_alloc | apply pw_below_drewN | apply below_drew1 | refine below_set ?_ (IsS57.ge HI0.out)) | exact HB.out)⟩⟩
def sleuthref12_reader_text.f (k : Nat) (s0_0 : ByteArray) (s0_1 : Bool) : Option (ByteArray × ByteArray × Bool) := (sleuthref12_reader_num.f k s0_0 s0_1 2).bind fun bt279 => (if bt279.1 > (bt279.2.1.size : Int) then (some ((⟨#[]⟩ : ByteArray), bt279.2.1, true)) else (if 0 ≤ bt279.1 then (if bt279.1 ≤ (bt279.2.1.size : Int) then (some (bt279.2.1.extract 0 (bt279.1 : Int).toNat, bt279.2.1.extract (bt279.1 : Int).toNat bt279.2.1.size, bt279.2.2)) else (none)) else (none)))
theorem sleuthref12_reader_text.calls (k : Nat) (g : Nat) (s0_0 : ByteArray) (s0_1 : Bool) (r1 : ByteArray) (r2 : ByteArray) (r3 : Bool) (w0 w : World) (hI : IsS57 w0 w g s0_0 s0_1) (hB : Below w0.heap.size w0 w) (h : sleuthref12_reader_text.f k s0_0 s0_1 = some (r1, r2, r3)) :
 Calls Tryd.prog 27 #[.pointer (some ⟨g, 0, none⟩)] w fun e w' => e = .returned (.string r1) ∧ IsS57 w0 w' g r2 r3 ∧ Below w0.heap.size w0 w' ∧ KeepBut w w' g none := by
 have HI0 := a_ hI
 have HK := a_ (KeepBut.refl w g none)
 have HL := a_ hB.size
 clear hI
 have HW0 := a_ hB.size
 have HB := a_ hB
 clear hB
 have H := h; unfold sleuthref12_reader_text.f at H
 clear h
 replace H := Option.bind_eq_some_iff.mp H
 obtain ⟨⟨t0, t1, t2⟩, A20, H⟩ := H
 try dsimp only at H
 have A2 := a_ A20
 clear A20
 by_cases c3 : t0 > (t1.size : Int)
 case pos =>
  rw [if_pos c3] at H
  have c3b0 : decide ((t1.size : Int) < t0) = true := decide_eq_true c3
  clear c3
  simp only [Option.some.injEq, Prod.mk.injEq] at H
  obtain ⟨rfl, rfl, rfl⟩ := H
  go_enter Tryd.func27, Tryd.ntmps27
  go_wp2_with (first | ((with_reducible refine gate_callee (f := 26) rfl ?_); refine goesL_ (some 6) rfl rfl Tryd.func26 (by kernel_rfl) rfl #[.pointer (some ⟨g, 0, none⟩), .int .i64 2] rfl hL_ ?_; (with_reducible refine (sleuthref12_reader_num.calls k g s0_0 s0_1 2 t0 t1 t2 w0 _ ?s1 ?s2 A2.out).mono ?_); (case s1 => repeat (first | (with_reducible first | exact HI0.out | apply IsS57.alloc | apply IsS57.drewN | apply IsS57.drew | apply IsS57.set_0 | apply IsS57.set_1) | exact HI0.out)); (case s2 => repeat (first | (with_reducible first | exact HB.out | apply below_alloc | apply pw_below_drewN | apply below_drew1 | refine below_set ?_ (IsS57.ge HI0.out)) | exact HB.out)); rintro e w4 ⟨rfl, hi, hb, hk⟩; refine ⟨_, rfl, ?_⟩; replace HK := a_ (KeepBut.trans (by repeat (first | (with_reducible first | exact HK.out | apply KeepBut.set_ | apply keep_drewN | apply keep_drew | apply keep_alloc) | exact HK.out)) hk (.inl rfl)); replace HB := a_ (hb); replace HI0 := a_ (hi); (try clear hb); (try clear hb2); (try clear hk); (try clear hi); obtain ⟨HGz5, hgz5⟩ := HI0.out; have z0 := cellS57_0 HGz5; have z1 := cellS57_1 HGz5; have f0 := blk_frozen HGz5 0; have f1 := blk_frozen HGz5 1; clear HGz5 hgz5))
  go_ret
  exact ⟨hV_, by repeat (first | (with_reducible first | exact HI0.out | apply IsS57.alloc | apply IsS57.drewN | apply IsS57.drew | apply IsS57.set_0 | apply IsS57.set_1) | exact HI0.out), by repeat (first | (with_reducible first | exact HB.out | apply below_alloc | apply pw_below_drewN | apply below_drew1 | refine below_set ?_ (IsS57.ge HI0.out)) | exact HB.out), by repeat (first | (with_reducible first | exact HK.out | apply KeepBut.set_ | apply keep_drewN | apply keep_drew | apply keep_alloc) | exact HK.out)⟩
 rw [if_neg c3] at H
 have c3b0 : decide ((t1.size : Int) < t0) = false := decide_eq_false c3
 clear c3
 replace H := ifI_ H; obtain ⟨c6, H⟩ := H
 have c6b0 := eq_true c6
 have c6b1 : decide (0 ≤ t0) = true := decide_eq_true c6
 clear c6
 replace H := ifI_ H; obtain ⟨c7, H⟩ := H
 have c7b0 := eq_true c7
 have c7b1 : decide (t0 ≤ (t1.size : Int)) = true := decide_eq_true c7
 clear c7
 have c8b0 := eq_true (of_decide_eq_true hA_ : 0 ≤ t0)
 have c9b0 := eq_true (of_decide_eq_true hA_ : t0 ≤ (t1.size : Int))
 simp only [Option.some.injEq, Prod.mk.injEq] at H
 obtain ⟨rfl, rfl, rfl⟩ := H
 go_enter Tryd.func27, Tryd.ntmps27
 go_wp2_with (first | ((with_reducible refine gate_callee (f := 26) rfl ?_); refine goesL_ (some 6) rfl rfl Tryd.func26 (by kernel_rfl) rfl #[.pointer (some ⟨g, 0, none⟩), .int .i64 2] rfl hL_ ?_; (with_reducible refine (sleuthref12_reader_num.calls k g s0_0 s0_1 2 t0 t1 t2 w0 _ ?s1 ?s2 A2.out).mono ?_); (case s1 => repeat (first | (with_reducible first | exact HI0.out | apply IsS57.alloc | apply IsS57.drewN | apply IsS57.drew | apply IsS57.set_0 | apply IsS57.set_1) | exact HI0.out)); (case s2 => repeat (first | (with_reducible first | exact HB.out | apply below_alloc | apply pw_below_drewN | apply below_drew1 | refine below_set ?_ (IsS57.ge HI0.out)) | exact HB.out)); rintro e w1 ⟨rfl, hi, hb, hk⟩; refine ⟨_, rfl, ?_⟩; replace HK := a_ (KeepBut.trans (by repeat (first | (with_reducible first | exact HK.out | apply KeepBut.set_ | apply keep_drewN | apply keep_drew | apply keep_alloc) | exact HK.out)) hk (.inl rfl)); replace HB := a_ (hb); replace HI0 := a_ (hi); (try clear hb); (try clear hb2); (try clear hk); (try clear hi); obtain ⟨HGz11, hgz11⟩ := HI0.out; have z2 := cellS57_0 HGz11; have z3 := cellS57_1 HGz11; have f2 := blk_frozen HGz11 0; have f3 := blk_frozen HGz11 1; clear HGz11 hgz11))
 go_ret
 exact ⟨hV_, by repeat (first | (with_reducible first | exact HI0.out | apply IsS57.alloc | apply IsS57.drewN | apply IsS57.drew | apply IsS57.set_0 | apply IsS57.set_1) | exact HI0.out), by repeat (first | (with_reducible first | exact HB.out | apply below_alloc | apply pw_below_drewN | apply below_drew1 | refine below_set ?_ (IsS57.ge HI0.out)) | exact HB.out), by repeat (first | (with_reducible first | exact HK.out | apply KeepBut.set_ | apply keep_drewN | apply keep_drew | apply keep_alloc) | exact HK.out)⟩
set_option maxHeartbeats 8000000
set_option maxRecDepth 100000
attribute [local go_sem] max2_int min2_int max_two min_two max_three min_three max_four min_four   -- for this text's walks alone
set_option linter.unusedVariables false
set_option linter.unusedSimpArgs false

def sleuthref12_GetRecord.l0 : Nat → Int → Int → List ByteArray → ByteArray → Bool → Option (List ByteArray × ByteArray × Bool)
 | 0, _, _, _, _, _ => none
 | k + 1, m, x, l, q, b => if x < m then (if b = true then some (l, q, b) else (sleuthref12_reader_text.f k q b).bind fun t => (if l.length < 1000 then sleuthref12_GetRecord.l0 k m (wrap64 (x + 1)) (l ++ [t.1]) t.2.1 t.2.2 else none)) else some (l, q, b)
def sleuthref12_GetRecord.f (k : Nat) (s : ByteArray) : Option (Int × Int × List ByteArray × ByteArray × Int) := (sleuthref12_reader_num.f k s false 1).bind fun b1 => (sleuthref12_reader_num.f k b1.2.1 b1.2.2 2).bind fun b2 => (sleuthref12_reader_num.f k b2.2.1 b2.2.2 1).bind fun b3 => (sleuthref12_GetRecord.l0 k b3.1 0 [] b3.2.1 b3.2.2).bind fun q => (sleuthref12_reader_text.f k q.2.1 q.2.2).bind fun r => (sleuthref12_PutRecord.f k b1.1 (wrap64 (b2.1 - 1)) q.1 r.1).bind fun p => if r.2.2 = true then some (0, 0, [], (⟨#[]⟩ : ByteArray), 1500) else if p.2 = 0 then (if p.1.toList = s.toList then some (b1.1, wrap64 (b2.1 - 1), q.1, r.1, 0) else some (0, 0, [], (⟨#[]⟩ : ByteArray), 1500)) else some (0, 0, [], (⟨#[]⟩ : ByteArray), 1500)
theorem blk_keepr {W W2 : World} {g g' : Nat} {o : Obj} (h : W.heap[g']? = some o) (hk : KeepBut W W2 g none) (hne : g' ≠ g) : W2.heap[g']? = some o := (hk.2 g' (blk_lt h) hne (by simp)).trans h
theorem sleuthref12_GetRecord.calls (k : Nat) (s : ByteArray) (r1 r2 : Int) (r3 : List ByteArray) (r4 : ByteArray) (r5 : Int) (w : World) (h : sleuthref12_GetRecord.f k s = some (r1, r2, r3, r4, r5)) :
 Calls Tryd.prog 11 #[.string s] w fun e w' => ∃ v2_ : Value, e = .returned (.tuple #[.agg #[.int .i64 r1, .int .i64 r2, v2_, .string r4], .int .i64 r5]) ∧ Kd.R Kd.string 9 w' w.heap.size (fun _ => True) v2_ r3 ∧ Below w.heap.size w w' := by
 have huN := Tryd.underlying24
 have huT := Tryd.underlying57
 have HB := a_ (Below.refl w.heap.size w)
 unfold sleuthref12_GetRecord.f at h
 obtain ⟨⟨n0, s1, b1⟩, B1, h⟩ := Option.bind_eq_some_iff.mp h
 dsimp only at h
 obtain ⟨⟨n1, s2, b2⟩, B2, h⟩ := Option.bind_eq_some_iff.mp h
 dsimp only at h
 obtain ⟨⟨n2, s3, b3⟩, B3, h⟩ := Option.bind_eq_some_iff.mp h
 dsimp only at h
 obtain ⟨⟨ql, qs, qb⟩, B4, h⟩ := Option.bind_eq_some_iff.mp h
 dsimp only at h
 obtain ⟨⟨t4, q5, b5⟩, B5, h⟩ := Option.bind_eq_some_iff.mp h
 dsimp only at h
 obtain ⟨⟨p1, p2⟩, B6, h⟩ := Option.bind_eq_some_iff.mp h
 dsimp only at h
 obtain ⟨nn, hnn⟩ : ∃ y, wrap64 (n1 - 1) = y := ⟨_, rfl⟩
 rw [hnn] at B6 h
 have hnnw : IntKind.i64.wrap (n1 - 1) = nn := (i64_w _).trans hnn
 have B1 := a_ B1
 have B2 := a_ B2
 have B3 := a_ B3
 have H' := a_ B4
 have B5 := a_ B5
 have B6 := a_ B6
 have HH := a_ h
 clear h
 go_enter Tryd.func11, Tryd.ntmps11
 go_wp2_with (first
  | ((with_reducible refine gate_dst (N := 2) rfl ?_); refine boxE_ 2 #[.int .i64 0, .int .i64 0, .slice none 0 0, .string ⟨#[]⟩] 24 ?_; intro gR hg w2 hbox hb; have GR := a_ (gE_ hg : w.heap.size ≤ gR); have BR := a_ hbox; replace HB := a_ (below_step hC_ hb); clear hg hbox hb)
  | ((with_reducible refine gate_dst (N := 13) rfl ?_); refine boxE_ 13 #[.string s, .bool false] 57 ?_; intro gT hg w3 hbox hb; have hRT := (bL_ BR.out hg : gR ≠ gT); have HI := a_ (show IsS57 w w3 gT s false from ⟨hbox, gE_ hg⟩); replace BR := a_ (bB_ BR.out hb); replace HB := a_ (below_step hC_ hb); clear hg hbox hb)
  | ((with_reducible refine gate_callee (f := 26) rfl ?_); refine goesL_ _ rfl rfl Tryd.func26 (by kernel_rfl) rfl #[.pointer (some ⟨gT, 0, none⟩), .int .i64 1] rfl hL_ ?_; (with_reducible refine (sleuthref12_reader_num.calls k gT s false 1 n0 s1 b1 w _ ?hi ?hb B1.out).mono ?_); (case hi => exact ⟨hK_ HI.out.1, HI.out.2⟩); (case hb => exact hC_); rintro e w4 ⟨rfl, hI, hB, hK⟩; refine ⟨_, rfl, ?_⟩; replace BR := a_ (blk_keepr (hK_ BR.out) hK hRT); replace HI := a_ hI; replace HB := a_ hB; clear hI hB hK)
  | ((with_reducible refine gate_callee (f := 26) rfl ?_); refine goesL_ _ rfl rfl Tryd.func26 (by kernel_rfl) rfl #[.pointer (some ⟨gT, 0, none⟩), .int .i64 2] rfl hL_ ?_; (with_reducible refine (sleuthref12_reader_num.calls k gT s1 b1 2 n1 s2 b2 w _ ?hi ?hb B2.out).mono ?_); (case hi => exact ⟨hK_ HI.out.1, HI.out.2⟩); (case hb => exact hC_); rintro e w5 ⟨rfl, hI, hB, hK⟩; refine ⟨_, rfl, ?_⟩; replace BR := a_ (blk_keepr (hK_ BR.out) hK hRT); replace HI := a_ hI; replace HB := a_ hB; clear hI hB hK)
  | ((with_reducible refine gate_dst (N := 5) rfl ?_); refine boxE_ 5 #[.int .i64 0, .int .i64 0, .slice none 0 0, .string ⟨#[]⟩] 24 ?_; intro gN hg w6 hbox hb; have GN := a_ (gE_ hg : w.heap.size ≤ gN); have hRN := (bL_ BR.out hg : gR ≠ gN); have hTN := (bL_ HI.out.1 hg : gT ≠ gN); have hNT := (bG_ HI.out.1 hg : gN ≠ gT); have hNR := (bG_ BR.out hg : gN ≠ gR); have BN := a_ hbox; replace BR := a_ (bB_ BR.out hb); replace HI := a_ (show IsS57 w w6 gT s2 b2 from ⟨bB_ HI.out.1 hb, HI.out.2⟩); replace HB := a_ (below_step hC_ hb); clear hg hbox hb; obtain ⟨hz0, hz1, hz2, hz3, hf0, hf1, hf2, hf3⟩ := bx4_ BN.out)
  | ((with_reducible refine gate_callee (f := 26) rfl ?_); refine goesL_ _ rfl rfl Tryd.func26 (by kernel_rfl) rfl #[.pointer (some ⟨gT, 0, none⟩), .int .i64 1] rfl hL_ ?_; (with_reducible refine (sleuthref12_reader_num.calls k gT s2 b2 1 n2 s3 b3 w _ ?hi ?hb B3.out).mono ?_); (case hi => exact ⟨by (with_reducible repeat (first | refine blk_drewN ?_ _ | refine blk_drew ?_ | refine blk_alloc ?_ _)); exact (bF_ (bF_ (bF_ (bF_ (hK_ HI.out.1) hTN) hTN) hTN) hTN), HI.out.2⟩); (case hb => exact hC_); rintro e w7 ⟨rfl, hI, hB, hK⟩; refine ⟨_, rfl, ?_⟩; replace BR := a_ (blk_keepr (by (with_reducible repeat (first | refine blk_drewN ?_ _ | refine blk_drew ?_ | refine blk_alloc ?_ _)); exact (bF_ (bF_ (bF_ (bF_ (hK_ BR.out) hRN) hRN) hRN) hRN)) hK hRT); have BN2 := a_ (blk_keepr (o := .cells #[.int .i64 n0, .int .i64 nn, .slice none 0 0, .string ⟨#[]⟩] 24 (0, 0)) (by (with_reducible repeat (first | refine blk_drewN ?_ _ | refine blk_drew ?_ | refine blk_alloc ?_ _)); exact (bP_ (bP_ (bP_ (bP_ (hK_ BN.out)))))) hK hNT); clear BN; have BN := BN2; clear BN2; replace HI := a_ hI; replace HB := a_ hB; clear hI hB hK))
 go_loopg [7] k (fun kq v7 w' => ∃ (x : Int) (l : List ByteArray) (q : ByteArray) (b : Bool) (v : Value), v7 = .int .i64 x ∧ Aside0 (sleuthref12_GetRecord.l0 kq n2 x l q b = some (ql, qs, qb)) ∧ Aside0 (kq ≤ k) ∧ Aside0 (Kd.R Kd.string 9 w' w.heap.size (fun _ => True) v l) ∧ Aside0 (w'.heap[gN]? = some (.cells #[.int .i64 n0, .int .i64 nn, v, .string ⟨#[]⟩] 24 (0, 0))) ∧ Aside0 (w'.heap[gR]? = some (.cells #[.int .i64 0, .int .i64 0, .slice none 0 0, .string ⟨#[]⟩] 24 (0, 0))) ∧ Aside0 (IsS57 w w' gT q b) ∧ Aside0 (Below w.heap.size w w'))
 case atStart => exact ⟨0, [], s3, b3, .slice none 0 0, hW_, H', ⟨Nat.le_refl _⟩, ⟨Kd.R_nil _ _ _ _ _⟩, ⟨hK_ BN.out⟩, ⟨hK_ BR.out⟩, ⟨⟨hK_ HI.out.1, HI.out.2⟩⟩, ⟨hC_⟩⟩
 case round =>
  clear H' HB HI BN BR
  obtain ⟨x, l, q, b, v, rfl, HA, HK2, HO, BN, BR, HI, HB⟩ := hrel
  obtain ⟨A, c, rfl⟩ := Kd.R_slice HO.out
  obtain ⟨ht0, ht1, ht2, ht3⟩ := bx2_ HI.out.1
  obtain ⟨hz0, hz1, hz2, hz3, hf0, hf1, hf2, hf3⟩ := bx4_ BN.out
  cases gk with
  | zero => exact absurd HA.out (by simp [sleuthref12_GetRecord.l0])
  | succ k2 =>
   have H := HA.out
   clear HA
   simp only [sleuthref12_GetRecord.l0] at H
   by_cases c22 : x < n2
   case neg =>
    rw [if_neg c22] at H
    have c22b0 : decide (x < n2) = false := decide_eq_false c22
    clear c22
    simp only [Option.some.injEq, Prod.mk.injEq] at H
    obtain ⟨rfl, rfl, rfl⟩ := H
    go_upto_region 11 with (first
     | ((with_reducible refine gate_callee (f := 27) rfl ?_); refine goesL_ _ rfl rfl Tryd.func27 (by kernel_rfl) rfl #[.pointer (some ⟨gT, 0, none⟩)] rfl hL_ ?_; (with_reducible refine (sleuthref12_reader_text.calls k gT q b t4 q5 b5 w _ ?hi ?hb B5.out).mono ?_); (case hi => exact ⟨hK_ HI.out.1, HI.out.2⟩); (case hb => exact hC_); rintro e w8 ⟨rfl, hI, hB, hK⟩; refine ⟨_, rfl, ?_⟩; replace HO := a_ (Kd.R_mono (Kd.R_keep (IsS57.apart (show IsS57 w _ gT _ _ from ⟨hK_ HI.out.1, HI.out.2⟩) (hR_ HO.out) (by decide)) hK (fun _ h_ => h_.2)) (fun _ h_ => h_.1)); replace BR := a_ (blk_keepr (hK_ BR.out) hK hRT); replace BN := a_ (blk_keepr (hK_ BN.out) hK hNT); replace HI := a_ hI; replace HB := a_ hB; clear hI hB hK; obtain ⟨hz0, hz1, hz2, hz3, hf0, hf1, hf2, hf3⟩ := bx4_ BN.out)
     | ((with_reducible refine gate_callee (f := 9) rfl ?_); refine goesL_ _ rfl rfl Tryd.func9 (by kernel_rfl) rfl #[.agg #[.int .i64 n0, .int .i64 nn, .slice A l.length c, .string t4]] rfl hL_ ?_; (with_reducible refine (sleuthref12_PutRecord.calls k n0 nn A c l t4 p1 p2 _ ?hr ?hc B6.out).mono ?_); (case hr => exact (Kd.R_reads' (Kd.R_mono (rF_ (Kd.R_types (hR_ HO.out) (hK_ BN.out) (by decide))) (fun _ h_ => h_.1))).2.2); (case hc => exact (Kd.R_reads' HO.out).2.1); rintro e w9 ⟨rfl, hb⟩; refine ⟨_, rfl, ?_⟩; have P0 := a_ (Kd.R_below (Kd.R_mono (rF_ (Kd.R_types (hR_ HO.out) (hK_ BN.out) (by decide))) (fun _ h_ => h_.1)) hb); have BR2 := a_ (blk_below (bF_ (hK_ BR.out) hRN) hb); have BN2 := a_ (blk_below (g := gN) (o := .cells #[.int .i64 n0, .int .i64 nn, .slice A l.length c, .string t4] 24 (0, 0)) (bP_ (hK_ BN.out)) hb); replace HI := a_ (show IsS57 w w9 gT q5 b5 from ⟨blk_below (bF_ (hK_ HI.out.1) hTN) hb, HI.out.2⟩); replace HB := a_ (below_step hC_ hb); clear hb HO BR BN; have HO := P0; have BR := BR2; have BN := BN2; clear P0 BR2 BN2; obtain ⟨i0, i1, i2, i3, h0, h1, h2, h3⟩ := bx4_ BN.out; obtain ⟨hu0, hu1, hu2, hu3, hv0, hv1, hv2, hv3⟩ := bx4_ BR.out; obtain ⟨ht0, ht1, ht2, ht3⟩ := bx2_ HI.out.1))
    have h := HH.out
    clear HH
    cases b5 with
    | true =>
     rw [if_pos rfl] at h
     simp only [Option.some.injEq, Prod.mk.injEq] at h
     obtain ⟨rfl, rfl, rfl, rfl, rfl⟩ := h
     go_wp2
     refine bodyPost_ret (results_ct rfl _ _ gR 24 #[.int .i64 0, .int .i64 0, .slice none 0 0, .string ⟨#[]⟩] (0, 0) _ rfl (by (with_reducible repeat (first | refine blk_drewN ?_ _ | refine blk_drew ?_ | refine blk_alloc ?_ _)); exact (bP_ (bP_ (bP_ (bP_ (hK_ BR.out)))))) huN rfl (by kernel_rfl)) rfl ?_
     exact ⟨_, hV_, Kd.R_nil _ _ _ _ _, hC_⟩
    | false =>
     rw [if_neg Bool.false_ne_true] at h
     by_cases c30 : p2 = 0
     case neg =>
      rw [if_neg c30] at h
      simp only [Option.some.injEq, Prod.mk.injEq] at h
      obtain ⟨rfl, rfl, rfl, rfl, rfl⟩ := h
      have c30a : (p2 == 0) = false := beq_eq_false_iff_ne.mpr c30
      have c30b : (p2 != 0) = true := bne_iff_ne.mpr c30
      clear c30
      go_wp2
      refine bodyPost_ret (results_ct rfl _ _ gR 24 #[.int .i64 0, .int .i64 0, .slice none 0 0, .string ⟨#[]⟩] (0, 0) _ rfl (by (with_reducible repeat (first | refine blk_drewN ?_ _ | refine blk_drew ?_ | refine blk_alloc ?_ _)); exact (bP_ (bP_ (bP_ (bP_ (hK_ BR.out)))))) huN rfl (by kernel_rfl)) rfl ?_
      exact ⟨_, hV_, Kd.R_nil _ _ _ _ _, hC_⟩
     rw [if_pos c30] at h
     have c30a : (p2 == 0) = true := beq_iff_eq.mpr c30
     have c30b : (p2 != 0) = false := bne_eq_false_iff_eq.mpr c30
     clear c30
     by_cases c31 : p1.toList = s.toList
     case neg =>
      rw [if_neg c31] at h
      simp only [Option.some.injEq, Prod.mk.injEq] at h
      obtain ⟨rfl, rfl, rfl, rfl, rfl⟩ := h
      have c31a : (p1.toList == s.toList) = false := beq_eq_false_iff_ne.mpr c31
      have c31b : (p1.toList != s.toList) = true := bne_iff_ne.mpr c31
      clear c31
      go_wp2
      refine bodyPost_ret (results_ct rfl _ _ gR 24 #[.int .i64 0, .int .i64 0, .slice none 0 0, .string ⟨#[]⟩] (0, 0) _ rfl (by (with_reducible repeat (first | refine blk_drewN ?_ _ | refine blk_drew ?_ | refine blk_alloc ?_ _)); exact (bP_ (bP_ (bP_ (bP_ (hK_ BR.out)))))) huN rfl (by kernel_rfl)) rfl ?_
      exact ⟨_, hV_, Kd.R_nil _ _ _ _ _, hC_⟩
     rw [if_pos c31] at h
     simp only [Option.some.injEq, Prod.mk.injEq] at h
     obtain ⟨rfl, rfl, rfl, rfl, rfl⟩ := h
     have c31a : (p1.toList == s.toList) = true := beq_iff_eq.mpr c31
     have c31b : (p1.toList != s.toList) = false := bne_eq_false_iff_eq.mpr c31
     clear c31
     go_wp2
     refine bodyPost_ret (results_ct rfl _ _ gR 24 #[.int .i64 n0, .int .i64 nn, .slice A l.length c, .string t4] (0, 0) _ rfl (by (with_reducible repeat (first | refine blk_drewN ?_ _ | refine blk_drew ?_ | refine blk_alloc ?_ _)); exact (bP_ (bP_ (bP_ (bP_ (hK_ BR.out)))))) huN rfl (by kernel_rfl)) rfl ?_
     exact ⟨_, hV_, by skip; (with_reducible repeat (first | apply Kd.R_alloc | apply Kd.R_drewN | apply Kd.R_drew)); exact Kd.R_mono (rF_ (rF_ (rF_ (rF_ (Kd.R_types (hR_ HO.out) (hK_ BR.out) (by decide)))))) (fun _ h_ => h_.1), hC_⟩
   rw [if_pos c22] at H
   have c22b0 : decide (x < n2) = true := decide_eq_true c22
   clear c22
   by_cases c23 : b = true
   case pos =>
    rw [if_pos c23] at H
    subst c23
    simp only [Option.some.injEq, Prod.mk.injEq] at H
    obtain ⟨rfl, rfl, rfl⟩ := H
    go_upto_region 11 with (first
     | ((with_reducible refine gate_callee (f := 27) rfl ?_); refine goesL_ _ rfl rfl Tryd.func27 (by kernel_rfl) rfl #[.pointer (some ⟨gT, 0, none⟩)] rfl hL_ ?_; (with_reducible refine (sleuthref12_reader_text.calls k gT q true t4 q5 b5 w _ ?hi ?hb B5.out).mono ?_); (case hi => exact ⟨hK_ HI.out.1, HI.out.2⟩); (case hb => exact hC_); rintro e w8 ⟨rfl, hI, hB, hK⟩; refine ⟨_, rfl, ?_⟩; replace HO := a_ (Kd.R_mono (Kd.R_keep (IsS57.apart (show IsS57 w _ gT _ _ from ⟨hK_ HI.out.1, HI.out.2⟩) (hR_ HO.out) (by decide)) hK (fun _ h_ => h_.2)) (fun _ h_ => h_.1)); replace BR := a_ (blk_keepr (hK_ BR.out) hK hRT); replace BN := a_ (blk_keepr (hK_ BN.out) hK hNT); replace HI := a_ hI; replace HB := a_ hB; clear hI hB hK; obtain ⟨hz0, hz1, hz2, hz3, hf0, hf1, hf2, hf3⟩ := bx4_ BN.out)
     | ((with_reducible refine gate_callee (f := 9) rfl ?_); refine goesL_ _ rfl rfl Tryd.func9 (by kernel_rfl) rfl #[.agg #[.int .i64 n0, .int .i64 nn, .slice A l.length c, .string t4]] rfl hL_ ?_; (with_reducible refine (sleuthref12_PutRecord.calls k n0 nn A c l t4 p1 p2 _ ?hr ?hc B6.out).mono ?_); (case hr => exact (Kd.R_reads' (Kd.R_mono (rF_ (Kd.R_types (hR_ HO.out) (hK_ BN.out) (by decide))) (fun _ h_ => h_.1))).2.2); (case hc => exact (Kd.R_reads' HO.out).2.1); rintro e w9 ⟨rfl, hb⟩; refine ⟨_, rfl, ?_⟩; have P0 := a_ (Kd.R_below (Kd.R_mono (rF_ (Kd.R_types (hR_ HO.out) (hK_ BN.out) (by decide))) (fun _ h_ => h_.1)) hb); have BR2 := a_ (blk_below (bF_ (hK_ BR.out) hRN) hb); have BN2 := a_ (blk_below (g := gN) (o := .cells #[.int .i64 n0, .int .i64 nn, .slice A l.length c, .string t4] 24 (0, 0)) (bP_ (hK_ BN.out)) hb); replace HI := a_ (show IsS57 w w9 gT q5 b5 from ⟨blk_below (bF_ (hK_ HI.out.1) hTN) hb, HI.out.2⟩); replace HB := a_ (below_step hC_ hb); clear hb HO BR BN; have HO := P0; have BR := BR2; have BN := BN2; clear P0 BR2 BN2; obtain ⟨i0, i1, i2, i3, h0, h1, h2, h3⟩ := bx4_ BN.out; obtain ⟨hu0, hu1, hu2, hu3, hv0, hv1, hv2, hv3⟩ := bx4_ BR.out; obtain ⟨ht0, ht1, ht2, ht3⟩ := bx2_ HI.out.1))
    have h := HH.out
    clear HH
    cases b5 with
    | true =>
     rw [if_pos rfl] at h
     simp only [Option.some.injEq, Prod.mk.injEq] at h
     obtain ⟨rfl, rfl, rfl, rfl, rfl⟩ := h
     go_wp2
     refine bodyPost_ret (results_ct rfl _ _ gR 24 #[.int .i64 0, .int .i64 0, .slice none 0 0, .string ⟨#[]⟩] (0, 0) _ rfl (by (with_reducible repeat (first | refine blk_drewN ?_ _ | refine blk_drew ?_ | refine blk_alloc ?_ _)); exact (bP_ (bP_ (bP_ (bP_ (hK_ BR.out)))))) huN rfl (by kernel_rfl)) rfl ?_
     exact ⟨_, hV_, Kd.R_nil _ _ _ _ _, hC_⟩
    | false =>
     rw [if_neg Bool.false_ne_true] at h
     by_cases c30 : p2 = 0
     case neg =>
      rw [if_neg c30] at h
      simp only [Option.some.injEq, Prod.mk.injEq] at h
      obtain ⟨rfl, rfl, rfl, rfl, rfl⟩ := h
      have c30a : (p2 == 0) = false := beq_eq_false_iff_ne.mpr c30
      have c30b : (p2 != 0) = true := bne_iff_ne.mpr c30
      clear c30
      go_wp2
      refine bodyPost_ret (results_ct rfl _ _ gR 24 #[.int .i64 0, .int .i64 0, .slice none 0 0, .string ⟨#[]⟩] (0, 0) _ rfl (by (with_reducible repeat (first | refine blk_drewN ?_ _ | refine blk_drew ?_ | refine blk_alloc ?_ _)); exact (bP_ (bP_ (bP_ (bP_ (hK_ BR.out)))))) huN rfl (by kernel_rfl)) rfl ?_
      exact ⟨_, hV_, Kd.R_nil _ _ _ _ _, hC_⟩
     rw [if_pos c30] at h
     have c30a : (p2 == 0) = true := beq_iff_eq.mpr c30
     have c30b : (p2 != 0) = false := bne_eq_false_iff_eq.mpr c30
     clear c30
     by_cases c31 : p1.toList = s.toList
     case neg =>
      rw [if_neg c31] at h
      simp only [Option.some.injEq, Prod.mk.injEq] at h
      obtain ⟨rfl, rfl, rfl, rfl, rfl⟩ := h
      have c31a : (p1.toList == s.toList) = false := beq_eq_false_iff_ne.mpr c31
      have c31b : (p1.toList != s.toList) = true := bne_iff_ne.mpr c31
      clear c31
      go_wp2
      refine bodyPost_ret (results_ct rfl _ _ gR 24 #[.int .i64 0, .int .i64 0, .slice none 0 0, .string ⟨#[]⟩] (0, 0) _ rfl (by (with_reducible repeat (first | refine blk_drewN ?_ _ | refine blk_drew ?_ | refine blk_alloc ?_ _)); exact (bP_ (bP_ (bP_ (bP_ (hK_ BR.out)))))) huN rfl (by kernel_rfl)) rfl ?_
      exact ⟨_, hV_, Kd.R_nil _ _ _ _ _, hC_⟩
     rw [if_pos c31] at h
     simp only [Option.some.injEq, Prod.mk.injEq] at h
     obtain ⟨rfl, rfl, rfl, rfl, rfl⟩ := h
     have c31a : (p1.toList == s.toList) = true := beq_iff_eq.mpr c31
     have c31b : (p1.toList != s.toList) = false := bne_eq_false_iff_eq.mpr c31
     clear c31
     go_wp2
     refine bodyPost_ret (results_ct rfl _ _ gR 24 #[.int .i64 n0, .int .i64 nn, .slice A l.length c, .string t4] (0, 0) _ rfl (by (with_reducible repeat (first | refine blk_drewN ?_ _ | refine blk_drew ?_ | refine blk_alloc ?_ _)); exact (bP_ (bP_ (bP_ (bP_ (hK_ BR.out)))))) huN rfl (by kernel_rfl)) rfl ?_
     exact ⟨_, hV_, by skip; (with_reducible repeat (first | apply Kd.R_alloc | apply Kd.R_drewN | apply Kd.R_drew)); exact Kd.R_mono (rF_ (rF_ (rF_ (rF_ (Kd.R_types (hR_ HO.out) (hK_ BR.out) (by decide)))))) (fun _ h_ => h_.1), hC_⟩
   rw [if_neg c23] at H
   replace c23 := Bool.eq_false_iff.mpr c23
   subst c23
   obtain ⟨⟨tt, q2, b2'⟩, A24, H⟩ := Option.bind_eq_some_iff.mp H
   have A24 := a_ A24
   dsimp only at H
   replace H := ifI_ H; obtain ⟨c25, H⟩ := H
   have LM := a_ c25
   obtain ⟨y, hy⟩ : ∃ y, y = l ++ [tt] := ⟨_, rfl⟩
   rw [← hy] at H
   have NY := a_ hy
   have H' := a_ H
   clear H hy c25
   go_wp2_with (first
    | ((with_reducible refine gate_callee (f := 27) rfl ?_); refine goesL_ _ rfl rfl Tryd.func27 (by kernel_rfl) rfl #[.pointer (some ⟨gT, 0, none⟩)] rfl hL_ ?_; (with_reducible refine (sleuthref12_reader_text.calls k2 gT q false tt q2 b2' w _ ?hi ?hb A24.out).mono ?_); (case hi => exact ⟨hK_ HI.out.1, HI.out.2⟩); (case hb => exact hC_); rintro e w8 ⟨rfl, hI, hB, hK⟩; refine ⟨_, rfl, ?_⟩; replace HO := a_ (Kd.R_mono (Kd.R_keep (IsS57.apart (show IsS57 w _ gT _ _ from ⟨hK_ HI.out.1, HI.out.2⟩) (hR_ HO.out) (by decide)) hK (fun _ h_ => h_.2)) (fun _ h_ => h_.1)); replace BR := a_ (blk_keepr (hK_ BR.out) hK hRT); replace BN := a_ (blk_keepr (hK_ BN.out) hK hNT); replace HI := a_ hI; replace HB := a_ hB; clear hI hB hK; obtain ⟨hz0, hz1, hz2, hz3, hf0, hf1, hf2, hf3⟩ := bx4_ BN.out)
    | ((with_reducible refine gate_builtin (b := .append) (xs := #[.tmp 37, .tmp 39]) rfl ?_); at_builtin; refine Kd.R_append Kd.string (w0 := w) w.heap.size rfl (.tmp 37) (.tmp 39) 22 9 (.string ⟨#[]⟩) 16 rfl Tryd.underlying22 info9 rfl (by decide) (by omega) (.slice A l.length c) l tt [.string tt] (fun _ => True) (fun _ => False) rfl rfl ?aP (fun _ hk => hk.elim) ?aF ?aO ?aB ?aS ?aL ?_; (case aP => exact rfl); (case aB => exact hC_); (case aF => exact fun _ _ => trivial); (case aO => exact (hR_ HO.out)); (case aS => exact (below_size hC_)); (case aL => have := LM.out; omega); intro v0 w9 ho hb hg hat; rw [← NY.out] at ho; have hne_ := IsS57.own_ne HI.out HO.out (by decide); replace BN := a_ (blk_grown (hK_ BN.out) hg (Kd.R_ne HO.out BN.out (by decide))); replace BR := a_ (blk_grown (hK_ BR.out) hg (Kd.R_ne HO.out BR.out (by decide))); replace HI := a_ (show IsS57 w w9 gT q2 b2' from ⟨blk_grown (hK_ HI.out.1) hg hne_, HI.out.2⟩); replace HB := a_ hb; replace HO := a_ ho; clear ho hb hg hat hne_; obtain ⟨A2, c2, rfl⟩ := Kd.R_slice HO.out; obtain ⟨hz0, hz1, hz2, hz3, hf0, hf1, hf2, hf3⟩ := bx4_ BN.out))
   go_roundg k2
   case measure => have := HK2.out; omega
   case rel => exact ⟨(wrap64 (x + 1)), y, q2, b2', _, hW_, H', ⟨by have := HK2.out; omega⟩, ⟨by skip; (with_reducible repeat (first | apply Kd.R_alloc | apply Kd.R_drewN | apply Kd.R_drew)); exact (Kd.R_mono (rF_ (Kd.R_types (hR_ HO.out) (hK_ BN.out) (by decide))) (fun _ h_ => h_.1))⟩, ⟨by (with_reducible repeat (first | refine blk_drewN ?_ _ | refine blk_drew ?_ | refine blk_alloc ?_ _)); exact (bP_ (hK_ BN.out))⟩, ⟨by (with_reducible repeat (first | refine blk_drewN ?_ _ | refine blk_drew ?_ | refine blk_alloc ?_ _)); exact (bF_ (hK_ BR.out) hRN)⟩, ⟨⟨by (with_reducible repeat (first | refine blk_drewN ?_ _ | refine blk_drew ?_ | refine blk_alloc ?_ _)); exact (bF_ (hK_ HI.out.1) hTN), HI.out.2⟩⟩, ⟨hC_⟩⟩

end Go.Proofs.YthoegphcmkejoaaDoor.G
end
section
namespace Go.Proofs.YthoegphcmkejoaaDoor.G
open Go.RowKit Go.Proofs.YthoegphcmkejoaaDoorW.PrintWords Go.Proofs.YthoegphcmkejoaaDoorW.PrintLast Go.Proofs.YthoegphcmkejoaaDoorW.PrintMore
set_option linter.unusedVariables false
set_option linter.unusedSimpArgs false
theorem recLow_l0 (x : Int) (m : Nat) (hm : m ≤ 7) (n : Nat) : ∀ (l : List Int) (j : Nat), j + n = m → l.length = m → (∀ i, i < j → l[i]? = some (x / 256 ^ i % 256)) → Ev (fun k => record_low.l0 k x l (m : Int) (j : Int)) (strOfNums (lowL m x)) := by
  induction n with
  | zero =>
    intro l j hj hl h
    refine Ev.step (f := fun _ => some (strOfNums l)) (fun k => ?_) ?_
    · simp only [record_low.l0]
      rw [if_neg (by omega)]
    · have e : l = lowL m x := by
        apply List.ext_getElem?
        intro i
        by_cases hi : i < m
        · rw [h i (by omega), lowL_get m x i hi]
        · rw [List.getElem?_eq_none (by omega), List.getElem?_eq_none (by rw [lowL_length]; omega)]
      rw [e]
      exact Ev.now _
  | succ n ih =>
    intro l j hj hl h
    have hw : wrap64 ((j : Int) + 1) = ((j + 1 : Nat) : Int) := by rw [w64 (by omega) (by omega)]; omega
    have hw8 : wrap64 (8 * (j : Int)) = 8 * (j : Int) := w64 (by omega) (by omega)
    refine Ev.step (f := fun k => record_low.l0 k x (l.set (j : Int).toNat ((shr .i64 x (8 * (j : Int))) % 256)) (m : Int) ((j + 1 : Nat) : Int)) (fun k => ?_) ?_
    · simp only [record_low.l0]
      rw [if_pos (by omega), hw8, if_pos (by omega), if_pos (by omega), if_pos (by omega), hw]
    · refine ih _ (j + 1) (by omega) (by rw [List.length_set]; exact hl) ?_
      intro i hi
      rw [Int.toNat_natCast]
      by_cases e : i = j
      · subst e
        rw [List.getElem?_set_self (by omega)]
        congr 2
        unfold shr
        have e1 : (8 * (i : Int)).toNat = 8 * i := by omega
        rw [e1, Nat.min_eq_left (by simp only [IntKind.bits]; omega), Int.pow_mul, show (2 : Int) ^ 8 = 256 from rfl]
      · rw [List.getElem?_set_ne (by omega)]
        exact h i (by omega)
theorem recLow_ev (x : Int) (m : Nat) (hm : m ≤ 7) : Ev (fun k => record_low.f k x (m : Int)) (strOfNums (lowL m x)) := by
  have h := recLow_l0 x m hm m (List.replicate m 0) 0 (by omega) (by simp) (by intro i hi; omega)
  refine Ev.congr (fun k => ?_) h
  unfold record_low.f
  rw [if_pos (by omega), if_pos (by omega), Int.toNat_natCast]
  simp only [Option.bind_some, List.length_replicate]
  rfl
theorem textL_str (s : ByteArray) : strOfNums (lowL 2 (s.size : Int)) ++ s = strOfNums (textL s) := by
  unfold textL
  rw [strOfNums_append, strOfNums_bytesOf]
theorem recText_ev (s : ByteArray) (hs : s.size ≤ 1024) : Ev (fun k => record_text.f k s) (strOfNums (textL s)) := by
  unfold record_text.f
  refine Ev.bind (recLow_ev (s.size : Int) 2 (by omega)) ?_
  have hl : (strOfNums (lowL 2 (s.size : Int))).size = 2 := by rw [size_strOfNums, lowL_length]
  simp only [hl, if_pos (show 2 + s.size ≤ 9223372036854775807 by omega), textL_str]
  exact Ev.now _
theorem refSized_ev (s : ByteArray) (hs : s.size ≤ 1024) : Ev (fun k => sleuthref12_sized.f k s) (strOfNums (textL s)) := by
  rw [← textL_str]
  exact sized_ev s (by omega)
theorem textL_length (s : ByteArray) : (textL s).length = 2 + s.size := by
  unfold textL
  rw [List.length_append, lowL_length, bytesOf_length]
def headOf (x : Nd) : List Int := lowL 1 x.f0 ++ (lowL 2 (x.f1 + 1) ++ lowL 1 (x.f2.length : Int))
theorem flat_length : ∀ l : List ByteArray, (∀ s ∈ l, s.size ≤ 1024) → (l.flatMap textL).length ≤ 1026 * l.length
  | [], _ => Nat.le_refl _
  | s :: l, h => by
    have := flat_length l (fun x hx => h x (List.mem_cons_of_mem _ hx))
    have hs := h s (List.mem_cons_self ..)
    rw [List.flatMap_cons, List.length_append, textL_length, List.length_cons]
    omega
theorem put_l0 (x : Nd) (h : recS x = true) : ∀ (n i : Nat), i + n = x.f2.length → Ev (fun k => record_Put.l0 k (strOfNums (headOf x ++ (x.f2.take i).flatMap textL)) (i : Int) x.f2 x.f3) (recOf x, 0) := by
  obtain ⟨e, _, _⟩ := recS_spec h
  obtain ⟨_, _, q2, q3, q4⟩ := eqS_spec e
  have hz : ∀ i, (strOfNums (headOf x ++ (x.f2.take i).flatMap textL)).size ≤ 4000 := fun i => by
    have := flat_length (x.f2.take i) (fun s hs => mayS_size (q3 s (List.mem_of_mem_take hs)))
    have h2 : (x.f2.take i).length ≤ 3 := by rw [List.length_take]; omega
    rw [size_strOfNums, List.length_append]
    have h3 : (headOf x).length = 4 := by unfold headOf; rw [List.length_append, List.length_append, lowL_length, lowL_length, lowL_length]
    omega
  intro n
  induction n with
  | zero =>
    intro i hi
    have hs3 := mayS_size q4
    have hr := recText_ev x.f3 hs3
    have e1 : (strOfNums (textL x.f3)).size = 2 + x.f3.size := by rw [size_strOfNums, textL_length]
    refine Ev.step (f := fun k => (record_text.f k x.f3).bind fun t => (if (strOfNums (headOf x ++ (x.f2.take i).flatMap textL)).size + t.size ≤ 9223372036854775807 then some (strOfNums (headOf x ++ (x.f2.take i).flatMap textL) ++ t, 0) else none)) (fun k => by rw [record_Put.l0, if_neg (by omega)]) ?_
    refine Ev.bind hr ?_
    simp only [if_pos (show (strOfNums (headOf x ++ (x.f2.take i).flatMap textL)).size + (strOfNums (textL x.f3)).size ≤ 9223372036854775807 by have := hz i; omega)]
    have e2 : strOfNums (headOf x ++ (x.f2.take i).flatMap textL) ++ strOfNums (textL x.f3) = recOf x := by
      rw [← strOfNums_append, List.take_of_length_le (by omega)]
      unfold recOf recL headOf
      rw [List.append_assoc]
    rw [e2]
    exact Ev.now _
  | succ n ih =>
    intro i hi
    have hlt : i < x.f2.length := by omega
    have hw : wrap64 ((i : Int) + 1) = ((i + 1 : Nat) : Int) := by rw [w64 (by omega) (by omega)]; omega
    have hrd : rdOf ByteArray.empty x.f2 (i : Int) = x.f2[i] := by
      show x.f2.getD _ _ = _
      rw [Int.toNat_natCast, List.getD_eq_getElem?_getD, List.getElem?_eq_getElem hlt]; rfl
    have hsz := mayS_size (q3 _ (List.getElem_mem hlt))
    have e1 : (strOfNums (textL x.f2[i])).size = 2 + x.f2[i].size := by rw [size_strOfNums, textL_length]
    refine Ev.step (f := fun k => (record_text.f k x.f2[i]).bind fun t => (if (strOfNums (headOf x ++ (x.f2.take i).flatMap textL)).size + t.size ≤ 9223372036854775807 then record_Put.l0 k (strOfNums (headOf x ++ (x.f2.take i).flatMap textL) ++ t) ((i + 1 : Nat) : Int) x.f2 x.f3 else none)) (fun k => by rw [record_Put.l0, if_pos (by omega), if_pos (by omega), hrd, hw]) ?_
    refine Ev.bind (recText_ev _ hsz) ?_
    simp only [if_pos (show (strOfNums (headOf x ++ (x.f2.take i).flatMap textL)).size + (strOfNums (textL x.f2[i])).size ≤ 9223372036854775807 by have := hz i; omega)]
    have e2 : strOfNums (headOf x ++ (x.f2.take i).flatMap textL) ++ strOfNums (textL x.f2[i]) = strOfNums (headOf x ++ (x.f2.take (i + 1)).flatMap textL) := by
      rw [← strOfNums_append, List.take_succ_eq_append_getElem hlt, List.flatMap_append, List.append_assoc]
      simp only [List.flatMap_cons, List.flatMap_nil, List.append_nil]
    rw [e2]
    exact ih (i + 1) (by omega)
theorem putRec_ev (x : Nd) (hp0 : -9223372036854775808 ≤ x.f1) (hp1 : x.f1 ≤ 9223372036854775807) : Ev (fun k => record_Put.f k x.f0 x.f1 x.f2 x.f3) (putR x) := by
  unfold record_Put.f putR recS
  refine Ev.bind (equation_ev x) ?_
  cases he : eqS x with
  | false => simp only [if_neg Bool.false_ne_true, Bool.false_and]; exact Ev.now _
  | true =>
    simp only [if_pos, Bool.true_and]
    by_cases c1 : x.f1 < -1
    · rw [decide_eq_false (show ¬ -1 ≤ x.f1 by omega), Bool.false_and]
      simp only [if_pos c1, if_neg Bool.false_ne_true]; exact Ev.now _
    · rw [decide_eq_true (show -1 ≤ x.f1 by omega), Bool.true_and]
      by_cases c2 : x.f1 ≥ 512
      · rw [decide_eq_false (show ¬ x.f1 < 512 by omega)]
        simp only [if_neg c1, if_pos c2, if_neg Bool.false_ne_true]; exact Ev.now _
      · have c3 : x.f1 < 512 := by omega
        rw [decide_eq_true c3]
        simp only [if_neg c1, if_neg c2, if_pos]
        have hrs : recS x = true := by
          unfold recS
          rw [he, decide_eq_true (show -1 ≤ x.f1 by omega), decide_eq_true c3]; rfl
        obtain ⟨_, _, q2, _, _⟩ := eqS_spec he
        have hw : wrap64 (x.f1 + 1) = x.f1 + 1 := w64 (by omega) (by omega)
        unfold record_Put.m
        rw [hw]
        have s1 : (strOfNums (lowL 1 x.f0)).size = 1 := by rw [size_strOfNums, lowL_length]
        have s2 : (strOfNums (lowL 2 (x.f1 + 1))).size = 2 := by rw [size_strOfNums, lowL_length]
        have s3 : (strOfNums (lowL 1 (x.f2.length : Int))).size = 1 := by rw [size_strOfNums, lowL_length]
        refine Ev.bind (recLow_ev x.f0 1 (by omega)) (Ev.bind (recLow_ev (x.f1 + 1) 2 (by omega)) ?_)
        simp only [s1, s2, if_pos (show 1 + 2 ≤ 9223372036854775807 by omega)]
        refine Ev.bind (recLow_ev (x.f2.length : Int) 1 (by omega)) ?_
        simp only [ByteArray.size_append, s1, s2, s3, if_pos (show 1 + 2 + 1 ≤ 9223372036854775807 by omega)]
        have h0 := put_l0 x hrs x.f2.length 0 (by omega)
        have e0 : strOfNums (headOf x ++ (x.f2.take 0).flatMap textL) = (strOfNums (lowL 1 x.f0) ++ strOfNums (lowL 2 (x.f1 + 1))) ++ strOfNums (lowL 1 (x.f2.length : Int)) := by
          rw [List.take_zero, List.flatMap_nil, List.append_nil]
          unfold headOf
          rw [strOfNums_append, strOfNums_append, ByteArray.append_assoc]
        rw [e0] at h0
        exact h0
theorem take_min (L : List Int) (a : Nat) : L.take (min a L.length) = L.take a := by
  by_cases h : a ≤ L.length
  · rw [Nat.min_eq_left h]
  · rw [Nat.min_eq_right (by omega), List.take_of_length_le (Nat.le_refl _), List.take_of_length_le (by omega)]
theorem drop_min (L : List Int) (a : Nat) : L.drop (min a L.length) = L.drop a := by
  by_cases h : a ≤ L.length
  · rw [Nat.min_eq_left h]
  · rw [Nat.min_eq_right (by omega), List.drop_eq_nil_of_le (Nat.le_refl _), List.drop_eq_nil_of_le (by omega)]
theorem ext_take (s : ByteArray) (a : Nat) : bytesOf (s.extract 0 (min a s.size)) = (bytesOf s).take a := by
  rw [bytesOf_extract, List.drop_zero, ← bytesOf_length s, take_min]
theorem ext_drop (s : ByteArray) (a : Nat) : bytesOf (s.extract (min a s.size) s.size) = (bytesOf s).drop a := by
  rw [bytesOf_extract, ← bytesOf_length s, List.take_of_length_le (Nat.le_refl _), drop_min]
theorem takeB (s : ByteArray) (a : Nat) : ∃ t r, record_taker_take.f s (a : Int) = some (t, r) ∧ bytesOf t = (bytesOf s).take a ∧ bytesOf r = (bytesOf s).drop a := by
  refine ⟨s.extract 0 (min a s.size), s.extract (min a s.size) s.size, ?_, ext_take s a, ext_drop s a⟩
  have hm : mn (a : Int) (s.size : Int) = ((min a s.size : Nat) : Int) := by
    unfold mn
    split <;> omega
  have hz : (s.extract 0 (min a s.size)).size = min a s.size := by
    have := congrArg List.length (ext_take s a)
    rw [bytesOf_length, List.length_take, bytesOf_length] at this
    exact this
  have h1 : ((min a s.size : Nat) : Int) ≤ (s.size : Int) := by omega
  unfold record_taker_take.f
  rw [hm, Int.toNat_natCast, hz, if_pos (by omega), if_pos h1, if_pos (by omega), if_pos h1, Int.toNat_natCast]
theorem numB (s : ByteArray) (a : Nat) (ha : a ≤ 2) : ∃ r, (∀ k, record_taker_number.f k s (a : Int) = some (numLE ((bytesOf s).take a), r)) ∧ bytesOf r = (bytesOf s).drop a := by
  obtain ⟨t, r, h1, h2, h3⟩ := takeB s a
  refine ⟨r, fun k => ?_, h3⟩
  have hz : t.size ≤ 2 := by
    have := congrArg List.length h2
    rw [bytesOf_length, List.length_take] at this
    omega
  unfold record_taker_number.f
  rw [h1]
  simp only [Option.bind_some, if_pos hz, h2]
theorem num_rng (L : List Int) (h : ∀ y ∈ L, 0 ≤ y ∧ y < 256) (a : Nat) (ha : a ≤ 2) : 0 ≤ numLE (L.take a) ∧ numLE (L.take a) < 65536 := by
  obtain ⟨h0, h1⟩ := numLE_range (L.take a) (fun y hy => h y (List.mem_of_mem_take hy))
  refine ⟨h0, Int.lt_of_lt_of_le h1 ?_⟩
  have hl : (L.take a).length ≤ 2 := by rw [List.length_take]; omega
  have : (L.take a).length = 0 ∨ (L.take a).length = 1 ∨ (L.take a).length = 2 := by omega
  rcases this with e | e | e <;> rw [e] <;> decide
theorem textB (s : ByteArray) : ∃ r, (∀ k, record_taker_text.f k s = some ((textP (bytesOf s)).1, r)) ∧ bytesOf r = (textP (bytesOf s)).2 := by
  obtain ⟨q, h1, h2⟩ := numB s 2 (by omega)
  obtain ⟨n0, n1⟩ := num_rng (bytesOf s) (bytesOf_range s) 2 (by omega)
  obtain ⟨t, r, g1, g2, g3⟩ := takeB q (numLE ((bytesOf s).take 2)).toNat
  rw [h2] at g2 g3
  have e : ((numLE ((bytesOf s).take 2)).toNat : Int) = numLE ((bytesOf s).take 2) := by omega
  rw [e] at g1
  refine ⟨r, fun k => ?_, g3⟩
  have h1' := h1 k
  unfold record_taker_text.f
  rw [show ((2 : Nat) : Int) = 2 from rfl] at h1'
  rw [h1']
  simp only [Option.bind_some, g1]
  have et : t = (textP (bytesOf s)).1 := by
    unfold textP
    rw [← g2, strOfNums_bytesOf]
  rw [et]
theorem argsB : ∀ (n x m : Nat) (l : List ByteArray) (s : ByteArray), x + n = m → m ≤ 3 → l.length = x → ∃ r, Ev (fun k => record_Get.l0 k (m : Int) (x : Int) l s) (l ++ (argsP n (bytesOf s)).1, r) ∧ bytesOf r = (argsP n (bytesOf s)).2
  | 0, x, m, l, s, hx, hm, hl => ⟨s, Ev.step (f := fun _ => some (l, s)) (fun k => by rw [record_Get.l0, if_neg (by omega)]) (by rw [argsP, List.append_nil]; exact Ev.now _), rfl⟩
  | n + 1, x, m, l, s, hx, hm, hl => by
    obtain ⟨q, h1, h2⟩ := textB s
    obtain ⟨r, g1, g2⟩ := argsB n (x + 1) m (l ++ [(textP (bytesOf s)).1]) q (by omega) hm (by rw [List.length_append, hl]; rfl)
    rw [h2] at g1 g2
    refine ⟨r, ?_, by rw [argsP]; exact g2⟩
    have hw : wrap64 ((x : Int) + 1) = ((x + 1 : Nat) : Int) := by rw [w64 (by omega) (by omega)]; omega
    refine Ev.step (f := fun k => record_Get.l0 k (m : Int) ((x + 1 : Nat) : Int) (l ++ [(textP (bytesOf s)).1]) q) (fun k => by rw [record_Get.l0, if_pos (by omega), h1 k]; simp only [Option.bind_some]; rw [if_pos (by omega), hw]) ?_
    rw [argsP]
    rw [List.append_assoc] at g1
    exact g1
def flatR (p : Nd × Int) : Int × Int × List ByteArray × ByteArray × Int := (p.1.f0, p.1.f1, p.1.f2, p.1.f3, p.2)
theorem getRec_ev (s : ByteArray) : Ev (fun k => record_Get.f k s) (flatR (getR s)) := by
  obtain ⟨s1, a1, b1⟩ := numB s 1 (by omega)
  obtain ⟨s2, a2, b2⟩ := numB s1 2 (by omega)
  obtain ⟨s3, a3, b3⟩ := numB s2 1 (by omega)
  rw [b1] at a2 b2
  rw [b2, List.drop_drop] at a3 b3
  rw [List.drop_drop] at b3
  have hr := bytesOf_range s
  have hr1 : ∀ n, ∀ y ∈ (bytesOf s).drop n, 0 ≤ y ∧ y < 256 := fun n y hy => hr y (List.mem_of_mem_drop hy)
  have n1 := num_rng _ (hr1 1) 2 (by omega)
  have n3 := num_rng _ (hr1 3) 1 (by omega)
  have hmany : mn (numLE (((bytesOf s).drop 3).take 1)) 3 = ((manyP (bytesOf s)).toNat : Int) ∧ (manyP (bytesOf s)).toNat ≤ 3 := by
    unfold mn manyP
    generalize numLE (((bytesOf s).drop 3).take 1) = v at n3
    split <;> split <;> omega
  obtain ⟨q, g1, g2⟩ := argsB (manyP (bytesOf s)).toNat 0 (manyP (bytesOf s)).toNat [] s3 (Nat.zero_add _) hmany.2 rfl
  rw [b3, List.nil_append] at g1
  rw [b3] at g2
  obtain ⟨z, h1, h2⟩ := textB q
  rw [g2] at h1
  have hw : wrap64 (numLE (((bytesOf s).drop 1).take 2) - 1) = numLE (((bytesOf s).drop 1).take 2) - 1 := w64 (by omega) (by omega)
  have hp := putRec_ev (getP (bytesOf s)) (by show _ ≤ numLE (((bytesOf s).drop 1).take 2) - 1; omega) (by show numLE (((bytesOf s).drop 1).take 2) - 1 ≤ _; omega)
  unfold record_Get.f
  refine Ev.bind (Ev.congr (fun k => a1 k) (Ev.now _)) (Ev.bind (Ev.congr (fun k => a2 k) (Ev.now _)) (Ev.bind (Ev.congr (fun k => a3 k) (Ev.now _)) ?_))
  simp only [hmany.1]
  refine Ev.bind g1 (Ev.bind (Ev.congr (fun k => h1 k) (Ev.now _)) ?_)
  simp only [hw]
  refine Ev.bind hp ?_
  unfold getR putR flatR
  by_cases c : recS (getP (bytesOf s)) = true
  · simp only [if_pos c, if_pos, toList_inj]
    by_cases d : recOf (getP (bytesOf s)) = s
    · simp only [if_pos d, c, d, and_self, if_true]; exact Ev.now _
    · simp only [if_neg d, d, and_false, if_false]; exact Ev.now _
  · have g : ¬ (1500 : Int) = 0 := by decide
    simp only [if_neg c, if_neg g, c, false_and, if_false]; exact Ev.now _
end Go.Proofs.YthoegphcmkejoaaDoor.G
end
section
namespace Go.Proofs.YthoegphcmkejoaaDoor.G
open Go.RowKit Go.Proofs.YthoegphcmkejoaaDoorW.PrintWords Go.Proofs.YthoegphcmkejoaaDoorW.PrintLast Go.Proofs.YthoegphcmkejoaaDoorW.PrintMore
set_option maxHeartbeats 8000000
set_option maxRecDepth 100000
attribute [local go_sem] max2_int min2_int max_two min_two max_three min_three max_four min_four   -- for this text's walks alone
set_option linter.unusedVariables false
set_option linter.unusedSimpArgs false

def sleuthlaw0_CopyNodes.l0 : Nat → List (S24) → List (S24) → Int → Option ((List (S24)))
 | 0, _, _, _ => none
 | k + 1, x0, x3, x4 => if x4 < (x0.length : Int) then (if 0 ≤ x4 then ((some (([] : List ByteArray) : List ByteArray)).bind fun y103 => (if y103.length + ((rd_T24 x0 x4).f2).length < 8796093022208 then (if x3.length < 2513169434916 then (sleuthlaw0_CopyNodes.l0 k x0 (x3 ++ [(⟨(rd_T24 x0 x4).f0, (rd_T24 x0 x4).f1, (y103 ++ ((rd_T24 x0 x4).f2)), (rd_T24 x0 x4).f3⟩ : S24)]) (wrap64 (x4 + 1))) else (none)) else (none))) else (none)) else (some x3)
def sleuthlaw0_CopyNodes.f (k : Nat) (l0 : List (S24)) : Option ((List (S24))) := sleuthlaw0_CopyNodes.l0 k l0 ([] : List (S24)) 0
theorem sleuthlaw0_CopyNodes.calls (k : Nat) (A0 : Option Addr) (c0 : Nat) (l0 : List (S24)) (r : List (S24)) (w : World) (hr0 : Kd.C k24 w A0 l0.length l0) (hc0 : l0.length ≤ c0) (h : sleuthlaw0_CopyNodes.f k l0 = some r) :
 Calls Tryd.prog 7 #[.slice A0 l0.length c0] w fun e w' => ∃ v0_ : Value, e = .returned (v0_) ∧ Kd.S k24 24 w' w.heap.size (fun _ => True) v0_ r ∧ Below w.heap.size w w' := by
 have hu24 := Tryd.underlying24
 have HR0 := a_ hr0
 have HC0 := a_ hc0
 clear hr0 hc0
 have HB := a_ (Below.refl w.heap.size w)
 have H : (sleuthlaw0_CopyNodes.l0 k l0 ([] : List (S24)) 0) = some r := h
 clear h
 have H' := a_ H
 clear H
 go_enter Tryd.func7, Tryd.ntmps7
 go_wp2
 go_loopg [3, 4] k (fun kq v3 v4 w' => ∃ (x1 : List (S24)) (x0 : Int), v4 = .int .i64 x0 ∧ Aside0 (sleuthlaw0_CopyNodes.l0 kq l0 x1 x0 = some r) ∧ Aside0 (kq ≤ k) ∧ Aside0 (Kd.S k24 24 w' w.heap.size (fun _ => True) v3 x1) ∧ Aside0 (Below w.heap.size w w'))
 case atStart => exact ⟨(([] : List (S24))), (0), hW_, H', ⟨Nat.le_refl _⟩, ⟨by first | exact Kd.S_nil _ _ _ _ _ | exact Kd.N_nil _ _ _ _ _ | exact Kd.V_nil _ _ _ _ _ | exact Kd.Q_nil _ _ _ _ _ | exact Kd.R_nil _ _ _ _ _⟩, ⟨hC_⟩⟩
 case round =>
  clear H'
  obtain ⟨x1, x0, rfl, HA, HK1, O0, HB⟩ := hrel
  cases gk with
  | zero => exact absurd HA.out (by simp [sleuthlaw0_CopyNodes.l0])
  | succ k1 =>
   have H := HA.out
   clear HA
   simp only [sleuthlaw0_CopyNodes.l0] at H
   by_cases c2 : x0 < (l0.length : Int)
   case neg =>
    rw [if_neg c2] at H
    have c2b0 : decide (x0 < (l0.length : Int)) = false := decide_eq_false c2
    clear c2
    obtain rfl := Option.some.inj H
    go_wp2
    go_ret
    exact ⟨_, hV_, by (with_reducible repeat (first | apply Kd.S_alloc | apply Kd.S_drewN | apply Kd.S_drew)); exact O0.out, hC_⟩

   rw [if_pos c2] at H
   have c2b0 : decide (x0 < (l0.length : Int)) = true := decide_eq_true c2
   clear c2
   replace H := ifI_ H; obtain ⟨c3, H⟩ := H
   have c3b0 : decide (0 ≤ x0) = true := decide_eq_true c3
   clear c3
   obtain ⟨y1, i0⟩ : ∃ y_ : List ByteArray, y_ = (([] : List ByteArray)) := ⟨_, rfl⟩
   replace H : (if y1.length + ((rd_T24 l0 x0).f2).length < 8796093022208 then (if x1.length < 2513169434916 then (sleuthlaw0_CopyNodes.l0 k1 l0 (x1 ++ [(⟨(rd_T24 l0 x0).f0, (rd_T24 l0 x0).f1, (y1 ++ ((rd_T24 l0 x0).f2)), (rd_T24 l0 x0).f3⟩ : S24)]) (wrap64 (x0 + 1))) else (none)) else (none)) = some r := by first | (rw [i0]; with_reducible exact H) | (have H2_ := (Option.bind_some _ _).symm.trans H; rw [i0]; with_reducible exact H2_) | (have H2_ := (Option.bind_some _ _).symm.trans H; with_reducible exact H2_) | with_reducible exact H | (rw [i0]; exact H) | exact H
   have Y0 := a_ i0
   clear i0
   replace H := ifI_ H; obtain ⟨c4, H⟩ := H
   have LMc4 := a_ c4
   clear c4
   obtain ⟨y0, i1⟩ : ∃ y_ : List ByteArray, y_ = (y1 ++ ((rd_T24 l0 x0).f2)) := ⟨_, rfl⟩
   replace H : (if x1.length < 2513169434916 then (sleuthlaw0_CopyNodes.l0 k1 l0 (x1 ++ [(⟨(rd_T24 l0 x0).f0, (rd_T24 l0 x0).f1, y0, (rd_T24 l0 x0).f3⟩ : S24)]) (wrap64 (x0 + 1))) else (none)) = some r := by first | (rw [i1]; with_reducible exact H) | (have H2_ := (Option.bind_some _ _).symm.trans H; rw [i1]; with_reducible exact H2_) | (have H2_ := (Option.bind_some _ _).symm.trans H; with_reducible exact H2_) | with_reducible exact H | (rw [i1]; exact H) | exact H
   have Y1 := a_ i1
   clear i1
   replace H := ifI_ H; obtain ⟨c5, H⟩ := H
   have LMc5 := a_ c5
   clear c5
   obtain ⟨y2, i2⟩ : ∃ y_ : List (S24), y_ = (x1 ++ [(⟨(rd_T24 l0 x0).f0, (rd_T24 l0 x0).f1, y0, (rd_T24 l0 x0).f3⟩ : S24)]) := ⟨_, rfl⟩
   replace H : (sleuthlaw0_CopyNodes.l0 k1 l0 y2 (wrap64 (x0 + 1))) = some r := by first | (rw [i2]; with_reducible exact H) | (have H2_ := (Option.bind_some _ _).symm.trans H; rw [i2]; with_reducible exact H2_) | (have H2_ := (Option.bind_some _ _).symm.trans H; with_reducible exact H2_) | with_reducible exact H | (rw [i2]; exact H) | exact H
   have Y2 := a_ i2
   clear i2
   have H' := a_ H
   clear H
   have p101 : 0 ≤ (x0 : Int) := of_decide_eq_true hA_
   have q101 : x0 < (l0.length : Int) := of_decide_eq_true hA_
   obtain ⟨d0, A101_2, c101_2, e101, h0, h1, h2, h3, hl101_2, hi101_2⟩ := at_T24 HR0.out x0 p101 q101
   cases e101
   replace h0 := cl_ HB.out h0
   replace h1 := cl_ HB.out h1
   replace h2 := cl_ HB.out h2
   replace h3 := cl_ HB.out h3
   have HR101_2 := a_ hi101_2
   have HC101_2 := a_ hl101_2
   clear hi101_2 hl101_2
   replace p101 := eq_true p101
   replace q101 := eq_true q101
   go_wp2_with (first | ((with_reducible refine gate_dst (N := 5) rfl ?_); refine boxE_ 5 #[.int .i64 0, .int .i64 0, .slice none 0 0, .string (⟨#[]⟩ : ByteArray)] 24 ?_; intro g0 hg w6 hbox hb; replace O0 := a_ (Kd.S_below (Kd.S_elderB (by (with_reducible repeat (first | apply Kd.S_alloc | apply Kd.S_drewN | apply Kd.S_drew)); exact O0.out) g0 (Nat.le_of_eq hg.symm)) hb); have B0 := a_ (hbox); have E0 := a_ ((gE_ hg : w.heap.size ≤ g0)); replace HB := a_ (below_step hB_ hb); clear hb hbox hg; obtain ⟨z0, z1, z2, z3, f4, f5, f6, f7⟩ := bx4_ B0.out) | ((with_reducible refine gate_dst (N := 16) rfl ?_); refine Kd.R_lit Kd.string _ 9 ?hg (N := 16) ?hd (xs := ([] : List ByteArray)) (inner := []) (ok := fun _ => True) (okp := fun _ => True) ?hr ?hp (fun _ hk => hk) trivial (Below.refl _ _) (Nat.le_refl _) (by simp) ?_; (case hd => rfl); (case hg => rfl); (case hr => first | (go_simp; done) | (go_simp; rfl)); (case hp => exact (Reps.none _ _)); intro v0 w8 ho9 hb hg_ hnew_; clear hg_ hnew_; (first | rw [← Y0.out] at ho9 | (simp only [Int.reduceToNat] at ho9; rw [← Y0.out] at ho9)); replace O0 := a_ (Kd.S_elder' (by (with_reducible repeat (first | apply Kd.S_alloc | apply Kd.S_drewN | apply Kd.S_drew)); exact (Kd.S_mono (sF_ (sF_ (sF_ (sF_ (Kd.S_mono O0.out (fun k_ hk => (⟨hk, hk.2⟩ : _ ∧ k_ ≠ g0))))))) (fun _ h_ => h_.1))) (Kd.R_base ho9) hb); have P1 := a_ (Kd.R_lower ho9 (below_size hC_)); replace B0 := a_ (blk_below (g := g0) (o := .cells #[.int .i64 ((rd_T24 l0 x0).f0), .int .i64 ((rd_T24 l0 x0).f1), .slice A101_2 ((rd_T24 l0 x0).f2).length c101_2, .string ((rd_T24 l0 x0).f3)] 24 (0, 0)) (by (with_reducible repeat (first | refine blk_drewN ?_ _ | refine blk_drew ?_ | refine blk_alloc ?_ _)); exact (bP_ (bP_ (bP_ (bP_ (hK_ B0.out)))))) hb); replace HB := a_ (below_step hC_ hb); clear hb ho9; obtain ⟨z4, z5, z6, z7, f8, f9, f10, f11⟩ := bx4_ B0.out) | ((with_reducible refine gate_builtin (b := .append) (xs := #[.tmp 16, .tmp 18]) rfl ?_); at_builtin; refine Kd.R_append_rows Kd.string (w0 := w) w.heap.size rfl (.tmp 16) (.tmp 18) 22 9 (.string ⟨#[]⟩) 16 rfl Tryd.underlying22 info9 rfl (by decide) (by omega) v0 y1 ((rd_T24 l0 x0).f2) _ _ _ (fun _ => True) (fun _ => False) rfl rfl ?aO ?aR (fun _ _ h => h) (fun _ h => h.elim) ?aF ?aB ?aS ?aL ?_; (case aR => exact cB_ HR101_2.out); (case aB => exact hC_); (case aF => exact (fun _ _ => trivial)); (case aO => exact (hR_ P1.out)); (case aS => exact (below_size hC_)); (case aL => have := LMc4.out; omega); intro v1 w3 ho hb hg hat; rw [← Y1.out] at ho; replace O0 := a_ (Kd.S_after (ok := (fun k_ => k_ ≠ g0)) (by (with_reducible repeat (first | apply Kd.S_alloc | apply Kd.S_drewN | apply Kd.S_drew)); exact Kd.S_mono O0.out (fun _ hk => ⟨hk.1.2, hk.2⟩)) hg hat); replace B0 := a_ (blk_grown (hK_ B0.out) hg (Kd.R_ne P1.out B0.out (by decide))); replace HB := a_ (hb); have P0 := a_ (ho); clear P1; clear ho hb hg hat; obtain ⟨a0, o0, e0⟩ := Kd.R_slice P0.out; subst e0; obtain ⟨z8, z9, z10, z11, f12, f13, f14, f15⟩ := bx4_ B0.out) | ((with_reducible refine gate_store (t := 22) (p := 20) rfl ?_); refine store_event (t := 22) (p := 20) (v := ?vo_w14) (w1 := (w3.setCell ⟨g0, 2, none⟩ (.slice a0 y0.length o0))) ?hg ?ho ?hn ?hr ?_; (case ho => rfl); (case hg => rfl); (case hn => rfl); (case hr => first | (go_simp; done) | (go_simp; rfl)); intro w2 hw; replace O0 : Aside0 (Kd.S k24 24 w2 w.heap.size (fun k_ => some k_ ≠ (.slice a0 y0.length o0 : Value).ownBlock ∧ k_ ≠ g0) u3 x1) := ⟨(by rw [hw]; exact (by (with_reducible repeat (first | apply Kd.S_alloc | apply Kd.S_drewN | apply Kd.S_drew)); exact Kd.S_mono (sF_ (Kd.S_mono O0.out (fun k_ hk => (⟨hk, hk.1⟩ : _ ∧ k_ ≠ g0)))) (fun _ hk => ⟨hk.1.2, hk.1.1⟩)))⟩; replace P0 : Aside0 (Kd.R Kd.string 9 w2 w.heap.size (fun _ => True) (.slice a0 y0.length o0) y0) := ⟨(by rw [hw]; exact (by (with_reducible repeat (first | apply Kd.R_alloc | apply Kd.R_drewN | apply Kd.R_drew)); exact Kd.R_mono (rF_ (Kd.R_types P0.out B0.out (by decide))) (fun _ hk => trivial)))⟩; replace B0 : Aside0 (w2.heap[g0]? = some (.cells #[.int .i64 ((rd_T24 l0 x0).f0), .int .i64 ((rd_T24 l0 x0).f1), .slice a0 y0.length o0, .string ((rd_T24 l0 x0).f3)] 24 (0, 0))) := ⟨(by rw [hw]; exact (bP_ (hK_ B0.out)))⟩; replace HB : Aside0 (Below w.heap.size w w2) := ⟨(by rw [hw]; exact hC_)⟩; clear hw; obtain ⟨z12, z13, z14, z15, f16, f17, f18, f19⟩ := bx4_ B0.out) | ((with_reducible refine gate_builtin (b := .append) (xs := #[.tmp 21, .tmp 23]) rfl ?_); at_builtin; refine Kd.S_append k24 (w0 := w) w.heap.size rfl (.tmp 21) (.tmp 23) 25 24 (.agg #[(.int .i64 0), (.int .i64 0), (.slice none 0 0), (.string ⟨#[]⟩)]) 56 rfl Tryd.underlying25 info24 rfl (by decide) (by omega) u3 x1 (⟨(rd_T24 l0 x0).f0, (rd_T24 l0 x0).f1, y0, (rd_T24 l0 x0).f3⟩ : S24) [.int .i64 ((rd_T24 l0 x0).f0), .int .i64 ((rd_T24 l0 x0).f1), .slice a0 y0.length o0, .string ((rd_T24 l0 x0).f3)] (fun k_ => k_ ≠ g0) (fun k_ => some k_ = (.slice a0 y0.length o0 : Value).ownBlock) rfl rfl ?aP (fun k_ hk_ => ((Kd.R_mono (ok' := fun k_ => ((fun k_ => k_ ≠ g0)) k_ ∧ some k_ ≠ (u3 : Value).ownBlock) (Kd.R_types (Kd.R_apart' (P0.out) (Kd.S_typed O0.out) (by decide)) B0.out (by decide)) (fun k_ hk => ⟨hk.2, hk.1.2⟩))).1 k_ hk_.symm) ?aF ?aO ?aB ?aS ?aL ?_; (case aP => exact k24_mkM _ _ _ (⟨(rd_T24 l0 x0).f0, (rd_T24 l0 x0).f1, y0, (rd_T24 l0 x0).f3⟩ : S24) (Kd.R_mono (Kd.R_tight rfl (Kd.R_mono (ok' := fun k_ => ((fun k_ => k_ ≠ g0)) k_ ∧ some k_ ≠ (u3 : Value).ownBlock) (Kd.R_types (Kd.R_apart' (P0.out) (Kd.S_typed O0.out) (by decide)) B0.out (by decide)) (fun k_ hk => ⟨hk.2, hk.1.2⟩))) (fun _ h_ => h_))); (case aB => exact hC_); (case aF => exact (fun k_ hk => Kd.freshB (g := g0) (o := .cells #[.int .i64 ((rd_T24 l0 x0).f0), .int .i64 ((rd_T24 l0 x0).f1), .slice a0 y0.length o0, .string ((rd_T24 l0 x0).f3)] 24 (0, 0)) (hK_ B0.out) k_ hk)); (case aO => exact (by (with_reducible repeat (first | apply Kd.S_alloc | apply Kd.S_drewN | apply Kd.S_drew)); exact Kd.S_mono O0.out (fun k_ hk => ⟨hk.2, fun e_ => hk.1 e_⟩))); (case aS => exact (below_size hC_)); (case aL => have := LMc5.out; omega); intro v2 w4 ho hb hg hat; rw [← Y2.out] at ho; replace B0 := a_ (blk_grown (hK_ B0.out) hg (Kd.S_away O0.out (fun _ hk => hk.2))); replace HB := a_ (hb); have P2 := a_ (ho); clear O0 P0; clear ho hb hg hat))
   go_roundg k1
   case measure => have := HK1.out; omega
   case rel => exact ⟨(y2), (wrap64 (x0 + 1)), hW_, H', ⟨by have := HK1.out; omega⟩, ⟨by (with_reducible repeat (first | apply Kd.S_alloc | apply Kd.S_drewN | apply Kd.S_drew)); exact Kd.S_mono P2.out (fun _ hk => trivial)⟩, ⟨hC_⟩⟩
set_option maxHeartbeats 8000000
set_option maxRecDepth 100000
attribute [local go_sem] max2_int min2_int max_two min_two max_three min_three max_four min_four   -- for this text's walks alone
set_option linter.unusedVariables false
set_option linter.unusedSimpArgs false

def sleuthlaw0_Num.f (a0 : Int) : Option (Int) := some a0
theorem sleuthlaw0_Num.calls (a0 : Int) (r : Int) (w : World) (h : sleuthlaw0_Num.f a0 = some r) :
 Calls Tryd.prog 12 #[.int .i64 a0] w fun e w' => e = .returned (.int .i64 r) ∧ Drawn0 w w' := by
 have H : (some a0) = some r := h
 clear h
 obtain rfl := Option.some.inj H
 go_enter Tryd.func12, Tryd.ntmps12
 go_wp2
 go_ret
 exact ⟨by first | rfl | (simp; done) | (simp [*]; done), by repeat (first | exact Drawn0.refl _ | apply Drawn0.step)⟩

def sleuthlaw0_SameTexts.l0 : Nat → List ByteArray → List ByteArray → Int → Option (Bool)
 | 0, _, _, _ => none
 | k + 1, x0, x1, x5 => if x5 < (x0.length : Int) then (if 0 ≤ x5 then (if x5 < (x1.length : Int) then (if (rdOf ByteArray.empty x0 x5).toList = (rdOf ByteArray.empty x1 x5).toList then (sleuthlaw0_SameTexts.l0 k x0 x1 (wrap64 (x5 + 1))) else (some false)) else (none)) else (none)) else (some true)
def sleuthlaw0_SameTexts.f (k : Nat) (l0 : List ByteArray) (l1 : List ByteArray) : Option (Bool) := if (l0.length : Int) = (l1.length : Int) then (sleuthlaw0_SameTexts.l0 k l0 l1 0) else (some false)
theorem sleuthlaw0_SameTexts.calls (k : Nat) (A0 : Option Addr) (c0 : Nat) (l0 : List ByteArray) (A1 : Option Addr) (c1 : Nat) (l1 : List ByteArray) (r : Bool) (w : World) (hr0 : Kd.C Kd.string w A0 l0.length l0) (hc0 : l0.length ≤ c0) (hr1 : Kd.C Kd.string w A1 l1.length l1) (hc1 : l1.length ≤ c1) (h : sleuthlaw0_SameTexts.f k l0 l1 = some r) :
 Calls Tryd.prog 28 #[.slice A0 l0.length c0, .slice A1 l1.length c1] w fun e w' => e = .returned (.bool r) ∧ Drawn0 w w' := by
 have HR0 := a_ hr0
 have HC0 := a_ hc0
 clear hr0 hc0
 have HR1 := a_ hr1
 have HC1 := a_ hc1
 clear hr1 hc1
 have H := h; unfold sleuthlaw0_SameTexts.f at H
 clear h
 by_cases c3 : (l0.length : Int) = (l1.length : Int)
 case neg =>
  rw [if_neg c3] at H
  have c3b0 : ((l0.length : Int) == (l1.length : Int)) = false := beq_eq_false_iff_ne.mpr c3
  have c3b1 : ((l0.length : Int) != (l1.length : Int)) = true := bne_iff_ne.mpr c3
  have c3b2 : (l0.length == l1.length) = false := by first | simpa using c3 | (simp at c3 ⊢; omega)
  obtain rfl := Option.some.inj H
  go_enter Tryd.func28, Tryd.ntmps28
  go_wp2
  repeat (go_quiet (fail); try go_wp2)
  go_ret
  exact ⟨by first | rfl | (simp; done) | (simp [*]; done), by repeat (first | exact Drawn0.refl _ | apply Drawn0.step)⟩

 rw [if_pos c3] at H
 have c3b0 : ((l0.length : Int) == (l1.length : Int)) = true := beq_iff_eq.mpr c3
 have c3b1 : ((l0.length : Int) != (l1.length : Int)) = false := bne_eq_false_iff_eq.mpr c3
 have c3b2 : (l0.length == l1.length) = true := by first | simpa using c3 | (simp at c3 ⊢; omega)
 clear c3
 have H' := a_ H
 clear H
 go_enter Tryd.func28, Tryd.ntmps28
 go_wp2
 repeat (go_quiet (fail); try go_wp2)
 go_loopg [5] k (fun kq v5 w' => ∃ (x0 : Int), v5 = .int .i64 x0 ∧ Aside0 (sleuthlaw0_SameTexts.l0 kq l0 l1 x0 = some r) ∧ Aside0 (kq ≤ k) ∧ Drawn0 w w')
 case atStart => exact ⟨(0), hW_, H', ⟨Nat.le_refl _⟩, by repeat (first | exact Drawn0.refl _ | apply Drawn0.step)⟩
 case round =>
  clear H'
  try clear c1
  try clear c2
  try clear p2
  try clear c3
  try clear c3b0
  try clear c3b1
  try clear c3b2
  obtain ⟨x0, rfl, HA, HK1, ⟨m1, rfl⟩⟩ := hrel
  cases gk with
  | zero => exact absurd HA.out (by simp [sleuthlaw0_SameTexts.l0])
  | succ k1 =>
   have H := HA.out
   clear HA
   simp only [sleuthlaw0_SameTexts.l0] at H
   by_cases c4 : x0 < (l0.length : Int)
   case neg =>
    rw [if_neg c4] at H
    have c4b0 : decide (x0 < (l0.length : Int)) = false := decide_eq_false c4
    clear c4
    obtain rfl := Option.some.inj H
    go_wp2
    repeat (go_quiet (fail); try go_wp2)
    go_ret
    exact ⟨by first | rfl | (simp; done) | (simp [*]; done), by repeat (first | exact Drawn0.refl _ | apply Drawn0.step)⟩
   rw [if_pos c4] at H
   have c4b0 : decide (x0 < (l0.length : Int)) = true := decide_eq_true c4
   clear c4
   replace H := ifI_ H; obtain ⟨c5, H⟩ := H
   have c5b0 : decide (0 ≤ x0) = true := decide_eq_true c5
   clear c5
   replace H := ifI_ H; obtain ⟨c6, H⟩ := H
   have c6b0 : decide (x0 < (l1.length : Int)) = true := decide_eq_true c6
   clear c6
   by_cases c7 : (rdOf ByteArray.empty l0 x0).toList = (rdOf ByteArray.empty l1 x0).toList
   case neg =>
    rw [if_neg c7] at H
    have c7b0 : ((rdOf ByteArray.empty l0 x0).toList == (rdOf ByteArray.empty l1 x0).toList) = false := beq_eq_false_iff_ne.mpr c7
    have c7b1 : ((rdOf ByteArray.empty l0 x0).toList != (rdOf ByteArray.empty l1 x0).toList) = true := bne_iff_ne.mpr c7
    obtain rfl := Option.some.inj H
    have p282 : 0 ≤ (x0 : Int) := of_decide_eq_true hA_
    have q282 : x0 < (l0.length : Int) := of_decide_eq_true hA_
    obtain ⟨d0, e282, h0⟩ := Kd.at_string HR0.out x0 p282 q282
    cases e282
    replace p282 := eq_true p282
    replace q282 := eq_true q282
    have p283 : 0 ≤ (x0 : Int) := of_decide_eq_true hA_
    have q283 : x0 < (l1.length : Int) := of_decide_eq_true hA_
    obtain ⟨d1, e283, h1⟩ := Kd.at_string HR1.out x0 p283 q283
    cases e283
    replace p283 := eq_true p283
    replace q283 := eq_true q283
    go_wp2
    repeat (go_quiet (fail); try go_wp2)
    go_ret
    exact ⟨by first | rfl | (simp; done) | (simp [*]; done), by repeat (first | exact Drawn0.refl _ | apply Drawn0.step)⟩
   rw [if_pos c7] at H
   have c7b0 : ((rdOf ByteArray.empty l0 x0).toList == (rdOf ByteArray.empty l1 x0).toList) = true := beq_iff_eq.mpr c7
   have c7b1 : ((rdOf ByteArray.empty l0 x0).toList != (rdOf ByteArray.empty l1 x0).toList) = false := bne_eq_false_iff_eq.mpr c7
   clear c7
   have H' := a_ H
   clear H
   have p282 : 0 ≤ (x0 : Int) := of_decide_eq_true hA_
   have q282 : x0 < (l0.length : Int) := of_decide_eq_true hA_
   obtain ⟨d0, e282, h0⟩ := Kd.at_string HR0.out x0 p282 q282
   cases e282
   replace p282 := eq_true p282
   replace q282 := eq_true q282
   have p283 : 0 ≤ (x0 : Int) := of_decide_eq_true hA_
   have q283 : x0 < (l1.length : Int) := of_decide_eq_true hA_
   obtain ⟨d1, e283, h1⟩ := Kd.at_string HR1.out x0 p283 q283
   cases e283
   replace p283 := eq_true p283
   replace q283 := eq_true q283
   go_wp2
   repeat (go_quiet (fail); try go_wp2)
   go_roundg k1
   case measure => have := HK1.out; omega
   case rel => exact ⟨(wrap64 (x0 + 1)), hW_, H', ⟨by have := HK1.out; omega⟩, by repeat (first | exact Drawn0.refl _ | apply Drawn0.step)⟩
def sleuthlaw0_SameNode.f (k : Nat) (a0_0 : Int) (a0_1 : Int) (l0_2 : List ByteArray) (a0_3 : ByteArray) (a1_0 : Int) (a1_1 : Int) (l1_2 : List ByteArray) (a1_3 : ByteArray) : Option (Bool) := if a0_0 = a1_0 then (if a0_1 = a1_1 then ((sleuthlaw0_SameTexts.f k l0_2 l1_2).bind fun t286 => (if t286 = true then (some (a0_3.toList == a1_3.toList)) else (some false))) else (some false)) else (some false)
theorem sleuthlaw0_SameNode.calls (k : Nat) (a0_0 : Int) (a0_1 : Int) (A0_2 : Option Addr) (c0_2 : Nat) (l0_2 : List ByteArray) (a0_3 : ByteArray) (a1_0 : Int) (a1_1 : Int) (A1_2 : Option Addr) (c1_2 : Nat) (l1_2 : List ByteArray) (a1_3 : ByteArray) (r : Bool) (w : World) (hr0_2 : Kd.C Kd.string w A0_2 l0_2.length l0_2) (hc0_2 : l0_2.length ≤ c0_2) (hr1_2 : Kd.C Kd.string w A1_2 l1_2.length l1_2) (hc1_2 : l1_2.length ≤ c1_2) (h : sleuthlaw0_SameNode.f k a0_0 a0_1 l0_2 a0_3 a1_0 a1_1 l1_2 a1_3 = some r) :
 Calls Tryd.prog 13 #[.agg #[.int .i64 a0_0, .int .i64 a0_1, .slice A0_2 l0_2.length c0_2, .string a0_3], .agg #[.int .i64 a1_0, .int .i64 a1_1, .slice A1_2 l1_2.length c1_2, .string a1_3]] w fun e w' => e = .returned (.bool r) ∧ Below w.heap.size w w' := by
 have hu24 := Tryd.underlying24
 have HR0_2 := a_ hr0_2
 have HC0_2 := a_ hc0_2
 clear hr0_2 hc0_2
 have HR1_2 := a_ hr1_2
 have HC1_2 := a_ hc1_2
 clear hr1_2 hc1_2
 have HB := a_ (Below.refl w.heap.size w)
 have H := h; unfold sleuthlaw0_SameNode.f at H
 clear h
 by_cases c3 : a0_0 = a1_0
 case neg =>
  rw [if_neg c3] at H
  have c3b0 : (a0_0 == a1_0) = false := beq_eq_false_iff_ne.mpr c3
  have c3b1 : (a0_0 != a1_0) = true := bne_iff_ne.mpr c3
  obtain rfl := Option.some.inj H
  go_enter Tryd.func13, Tryd.ntmps13
  go_wp2_with (first | ((with_reducible refine gate_dst (N := 2) rfl ?_); refine boxE_ 2 #[.int .i64 a0_0, .int .i64 a0_1, .slice A0_2 l0_2.length c0_2, .string a0_3] 24 ?_; intro g0 hg w0 hbox hb; have B0 := a_ (hbox); have E0 := a_ ((gE_ hg : w.heap.size ≤ g0)); replace HB := a_ (below_step hB_ hb); clear hb hbox hg) | ((with_reducible refine gate_dst (N := 3) rfl ?_); refine boxE_ 3 #[.int .i64 a1_0, .int .i64 a1_1, .slice A1_2 l1_2.length c1_2, .string a1_3] 24 ?_; intro g1 hg w1 hbox hb; have B1 := a_ (hbox); have E1 := a_ ((gE_ hg : w.heap.size ≤ g1)); replace HB := a_ (below_step hC_ hb); have N0 := a_ ((bL_ B0.out hg : g0 ≠ g1)); have N1 := a_ ((bG_ B0.out hg : g1 ≠ g0)); replace B0 := a_ (bB_ B0.out hb); clear hb hbox hg; have m0 := N0.out; have n0 := N1.out; obtain ⟨z0, z1, z2, z3, f0, f1, f2, f3⟩ := bx4_ B0.out; obtain ⟨z4, z5, z6, z7, f4, f5, f6, f7⟩ := bx4_ B1.out))
  go_ret
  exact ⟨hV_, hC_⟩

 rw [if_pos c3] at H
 have c3b0 : (a0_0 == a1_0) = true := beq_iff_eq.mpr c3
 have c3b1 : (a0_0 != a1_0) = false := bne_eq_false_iff_eq.mpr c3
 clear c3
 by_cases c4 : a0_1 = a1_1
 case neg =>
  rw [if_neg c4] at H
  have c4b0 : (a0_1 == a1_1) = false := beq_eq_false_iff_ne.mpr c4
  have c4b1 : (a0_1 != a1_1) = true := bne_iff_ne.mpr c4
  obtain rfl := Option.some.inj H
  go_enter Tryd.func13, Tryd.ntmps13
  go_wp2_with (first | ((with_reducible refine gate_dst (N := 2) rfl ?_); refine boxE_ 2 #[.int .i64 a0_0, .int .i64 a0_1, .slice A0_2 l0_2.length c0_2, .string a0_3] 24 ?_; intro g0 hg w2 hbox hb; have B0 := a_ (hbox); have E0 := a_ ((gE_ hg : w.heap.size ≤ g0)); replace HB := a_ (below_step hB_ hb); clear hb hbox hg) | ((with_reducible refine gate_dst (N := 3) rfl ?_); refine boxE_ 3 #[.int .i64 a1_0, .int .i64 a1_1, .slice A1_2 l1_2.length c1_2, .string a1_3] 24 ?_; intro g1 hg w3 hbox hb; have B1 := a_ (hbox); have E1 := a_ ((gE_ hg : w.heap.size ≤ g1)); replace HB := a_ (below_step hC_ hb); have N0 := a_ ((bL_ B0.out hg : g0 ≠ g1)); have N1 := a_ ((bG_ B0.out hg : g1 ≠ g0)); replace B0 := a_ (bB_ B0.out hb); clear hb hbox hg; have m1 := N0.out; have n1 := N1.out; obtain ⟨z8, z9, z10, z11, f8, f9, f10, f11⟩ := bx4_ B0.out; obtain ⟨z12, z13, z14, z15, f12, f13, f14, f15⟩ := bx4_ B1.out))
  go_ret
  exact ⟨hV_, hC_⟩
 rw [if_pos c4] at H
 have c4b0 : (a0_1 == a1_1) = true := beq_iff_eq.mpr c4
 have c4b1 : (a0_1 != a1_1) = false := bne_eq_false_iff_eq.mpr c4
 clear c4
 replace H := Option.bind_eq_some_iff.mp H
 obtain ⟨t0, A50, H⟩ := H
 try dsimp only at H
 have A5 := a_ A50
 clear A50
 by_cases c6 : t0 = true
 case pos =>
  subst c6
  rw [if_pos rfl] at H
  obtain rfl := Option.some.inj H
  go_enter Tryd.func13, Tryd.ntmps13
  go_wp2_with (first | ((with_reducible refine gate_dst (N := 2) rfl ?_); refine boxE_ 2 #[.int .i64 a0_0, .int .i64 a0_1, .slice A0_2 l0_2.length c0_2, .string a0_3] 24 ?_; intro g0 hg w7 hbox hb; have B0 := a_ (hbox); have E0 := a_ ((gE_ hg : w.heap.size ≤ g0)); replace HB := a_ (below_step hB_ hb); clear hb hbox hg) | ((with_reducible refine gate_dst (N := 3) rfl ?_); refine boxE_ 3 #[.int .i64 a1_0, .int .i64 a1_1, .slice A1_2 l1_2.length c1_2, .string a1_3] 24 ?_; intro g1 hg w8 hbox hb; have B1 := a_ (hbox); have E1 := a_ ((gE_ hg : w.heap.size ≤ g1)); replace HB := a_ (below_step hC_ hb); have N0 := a_ ((bL_ B0.out hg : g0 ≠ g1)); have N1 := a_ ((bG_ B0.out hg : g1 ≠ g0)); replace B0 := a_ (bB_ B0.out hb); clear hb hbox hg; have m2 := N0.out; have n2 := N1.out; obtain ⟨z16, z17, z18, z19, f16, f17, f18, f19⟩ := bx4_ B0.out; obtain ⟨z20, z21, z22, z23, f20, f21, f22, f23⟩ := bx4_ B1.out) | (go_at_call 28; (with_reducible refine (sleuthlaw0_SameTexts.calls k _ _ l0_2 _ _ l1_2 true _ ?s1 ?s2 ?s3 ?s4 A5.out).mono ?_); (case s1 => exact cB_ HR0_2.out); (case s2 => exact HC0_2.out); (case s3 => exact cB_ HR1_2.out); (case s4 => exact HC1_2.out); rintro e w' ⟨rfl, ⟨nd, rfl⟩⟩))
  go_ret
  exact ⟨hV_, hC_⟩
 replace c6 := Bool.eq_false_iff.mpr c6
 subst c6
 rw [if_neg (show ¬ (false = true) by decide)] at H
 obtain rfl := Option.some.inj H
 go_enter Tryd.func13, Tryd.ntmps13
 go_wp2_with (first | ((with_reducible refine gate_dst (N := 2) rfl ?_); refine boxE_ 2 #[.int .i64 a0_0, .int .i64 a0_1, .slice A0_2 l0_2.length c0_2, .string a0_3] 24 ?_; intro g0 hg w4 hbox hb; have B0 := a_ (hbox); have E0 := a_ ((gE_ hg : w.heap.size ≤ g0)); replace HB := a_ (below_step hB_ hb); clear hb hbox hg) | ((with_reducible refine gate_dst (N := 3) rfl ?_); refine boxE_ 3 #[.int .i64 a1_0, .int .i64 a1_1, .slice A1_2 l1_2.length c1_2, .string a1_3] 24 ?_; intro g1 hg w5 hbox hb; have B1 := a_ (hbox); have E1 := a_ ((gE_ hg : w.heap.size ≤ g1)); replace HB := a_ (below_step hC_ hb); have N0 := a_ ((bL_ B0.out hg : g0 ≠ g1)); have N1 := a_ ((bG_ B0.out hg : g1 ≠ g0)); replace B0 := a_ (bB_ B0.out hb); clear hb hbox hg; have m3 := N0.out; have n3 := N1.out; obtain ⟨z24, z25, z26, z27, f24, f25, f26, f27⟩ := bx4_ B0.out; obtain ⟨z28, z29, z30, z31, f28, f29, f30, f31⟩ := bx4_ B1.out) | (go_at_call 28; (with_reducible refine (sleuthlaw0_SameTexts.calls k _ _ l0_2 _ _ l1_2 false _ ?s1 ?s2 ?s3 ?s4 A5.out).mono ?_); (case s1 => exact cB_ HR0_2.out); (case s2 => exact HC0_2.out); (case s3 => exact cB_ HR1_2.out); (case s4 => exact HC1_2.out); rintro e w' ⟨rfl, ⟨nd, rfl⟩⟩))
 go_ret
 exact ⟨hV_, hC_⟩
end Go.Proofs.YthoegphcmkejoaaDoor.G
end
section
namespace Go.Proofs.YthoegphcmkejoaaDoor.G
open Go.RowKit Go.Proofs.YthoegphcmkejoaaDoorW.PrintWords Go.Proofs.YthoegphcmkejoaaDoorW.PrintLast Go.Proofs.YthoegphcmkejoaaDoorW.PrintMore
set_option linter.unusedVariables false
set_option linter.unusedSimpArgs false
def fineN (l : List Nd) : Prop := l.length * 56 ≤ 140737488351232 ∧ ∀ x ∈ l, (Lit.int .i64 x.f0).wf = true ∧ (Lit.int .i64 x.f1).wf = true ∧ (x.f2.length * 16 ≤ 140737488351232 ∧ ∀ s ∈ x.f2, s.size ≤ 140737488351232) ∧ x.f3.size ≤ 140737488351232
theorem fineN.ok {l : List Nd} (h : fineN l) : okN l := ⟨by have := h.1; omega, fun x hx => by have := (h.2 x hx).2.2.1.1; omega⟩
theorem wf_i64 {x : Int} (h : (Lit.int .i64 x).wf = true) : -9223372036854775808 ≤ x ∧ x ≤ 9223372036854775807 := by
  simp [Lit.wf, IntKind.min, IntKind.max, IntKind.bits, IntKind.signed] at h
  omega
theorem copy_l0 (ns : List Nd) (hok : okN ns) : ∀ (n i : Nat), i + n = ns.length → Ev (fun k => sleuthlaw0_CopyNodes.l0 k ns (ns.take i) (i : Int)) ns := by
  intro n
  induction n with
  | zero =>
    intro i hi
    refine Ev.step (f := fun _ => some ns) (fun k => ?_) (Ev.now _)
    simp only [sleuthlaw0_CopyNodes.l0]
    rw [if_neg (by omega), List.take_of_length_le (by omega)]
  | succ n ih =>
    intro i hi
    have hlt : i < ns.length := by omega
    have hl := hok.1
    have hw : wrap64 ((i : Int) + 1) = ((i + 1 : Nat) : Int) := by rw [w64 (by omega) (by omega)]; omega
    refine Ev.step (f := fun k => sleuthlaw0_CopyNodes.l0 k ns (ns.take (i + 1)) ((i + 1 : Nat) : Int)) (fun k => ?_) (ih (i + 1) (by omega))
    have hat := hok.at (i : Int)
    simp only [sleuthlaw0_CopyNodes.l0, Option.bind_some, List.nil_append]
    rw [if_pos (by omega), if_pos (by omega), if_pos (show ([] : List ByteArray).length + (rn ns (i : Int)).f2.length < 8796093022208 by rw [List.length_nil]; omega), if_pos (by rw [List.length_take]; omega), hw]
    have : (ns.take i ++ [(⟨(rn ns (i : Int)).f0, (rn ns (i : Int)).f1, (rn ns (i : Int)).f2, (rn ns (i : Int)).f3⟩ : Nd)]) = ns.take (i + 1) := by
      rw [List.take_succ_eq_append_getElem hlt, rn_eq ns i hlt]
    rw [this]
theorem copy_ev (ns : List Nd) (hok : okN ns) : Ev (fun k => sleuthlaw0_CopyNodes.f k ns) ns := copy_l0 ns hok ns.length 0 (by omega)
theorem sameTexts_l0 (a : List ByteArray) (ha : a.length ≤ 9223372036854775806) : ∀ (n i : Nat), i + n = a.length → Ev (fun k => sleuthlaw0_SameTexts.l0 k a a (i : Int)) true := by
  intro n
  induction n with
  | zero =>
    intro i hi
    refine Ev.step (f := fun _ => some true) (fun k => ?_) (Ev.now _)
    rw [sleuthlaw0_SameTexts.l0, if_neg (by omega)]
  | succ n ih =>
    intro i hi
    have hw : wrap64 ((i : Int) + 1) = ((i + 1 : Nat) : Int) := by rw [w64 (by omega) (by omega)]; omega
    refine Ev.step (f := fun k => sleuthlaw0_SameTexts.l0 k a a ((i + 1 : Nat) : Int)) (fun k => ?_) (ih (i + 1) (by omega))
    rw [sleuthlaw0_SameTexts.l0, if_pos (by omega), if_pos (by omega), if_pos (by omega), if_pos rfl, hw]
theorem sameTexts_ev (a : List ByteArray) (ha : a.length ≤ 9223372036854775806) : Ev (fun k => sleuthlaw0_SameTexts.f k a a) true := by
  unfold sleuthlaw0_SameTexts.f
  simp only [if_pos]
  exact sameTexts_l0 a ha a.length 0 (by omega)
theorem sameNode_ev (x : Nd) (hx : x.f2.length ≤ 9223372036854775806) : Ev (fun k => sleuthlaw0_SameNode.f k x.f0 x.f1 x.f2 x.f3 x.f0 x.f1 x.f2 x.f3) true := by
  unfold sleuthlaw0_SameNode.f
  simp only [if_pos]
  refine Ev.bind (sameTexts_ev _ hx) ?_
  simp only [if_pos, beq_self_eq_true]
  exact Ev.now _
end Go.Proofs.YthoegphcmkejoaaDoor.G
end
