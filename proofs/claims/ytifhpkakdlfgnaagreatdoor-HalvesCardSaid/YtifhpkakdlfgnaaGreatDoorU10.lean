/- Parts of this proof, one behind the other: G35, G36, TNodes, TBits, TopVals, HalfVals, HalfMore, TreeMath, TSizes, NextRef, NextHalf. -/
import Derived.Test.YtifhpkakdlfgnaaGreatDoorU2
import Derived.Test.YtifhpkakdlfgnaaGreatDoorG0
import Derived.Test.YtifhpkakdlfgnaaGreatDoorU9
import Derived.Test.YtifhpkakdlfgnaaGreatDoorU8
import Derived.Test.YtifhpkakdlfgnaaGreatDoorU5
import Derived.Test.YtifhpkakdlfgnaaGreatDoorU6
section
namespace Go.Proofs.YtifhpkakdlfgnaaGreatDoor.G
open Go.RowKit Go.Proofs.YtifhpkakdlfgnaaGreatDoorW.PrintWords Go.Proofs.YtifhpkakdlfgnaaGreatDoorW.PrintLast Go.Proofs.YtifhpkakdlfgnaaGreatDoorW.PrintMore
set_option maxHeartbeats 8000000
set_option maxRecDepth 100000
attribute [local go_sem] max2_int min2_int max_two min_two max_three min_three max_four min_four   -- for this text's walks alone
set_option linter.unusedVariables false
set_option linter.unusedSimpArgs false

def sleuthlaw0_SameNode.f (k : Nat) (a0_0 : Int) (a0_1 : Int) (l0_2 : List ByteArray) (a0_3 : ByteArray) (a1_0 : Int) (a1_1 : Int) (l1_2 : List ByteArray) (a1_3 : ByteArray) : Option (Bool) := if a0_0 = a1_0 then (if a0_1 = a1_1 then ((sleuthlaw0_SameTexts.f k l0_2 l1_2).bind fun t358 => (if t358 = true then (some (a0_3.toList == a1_3.toList)) else (some false))) else (some false)) else (some false)
theorem sleuthlaw0_SameNode.calls (k : Nat) (a0_0 : Int) (a0_1 : Int) (A0_2 : Option Addr) (c0_2 : Nat) (l0_2 : List ByteArray) (a0_3 : ByteArray) (a1_0 : Int) (a1_1 : Int) (A1_2 : Option Addr) (c1_2 : Nat) (l1_2 : List ByteArray) (a1_3 : ByteArray) (r : Bool) (w : World) (hr0_2 : Kd.C Kd.string w A0_2 l0_2.length l0_2) (hc0_2 : l0_2.length ≤ c0_2) (hr1_2 : Kd.C Kd.string w A1_2 l1_2.length l1_2) (hc1_2 : l1_2.length ≤ c1_2) (h : sleuthlaw0_SameNode.f k a0_0 a0_1 l0_2 a0_3 a1_0 a1_1 l1_2 a1_3 = some r) :
 Calls Tryz.prog 17 #[.agg #[.int .i64 a0_0, .int .i64 a0_1, .slice A0_2 l0_2.length c0_2, .string a0_3], .agg #[.int .i64 a1_0, .int .i64 a1_1, .slice A1_2 l1_2.length c1_2, .string a1_3]] w fun e w' => e = .returned (.bool r) ∧ Below w.heap.size w w' := by
 have hu40 := Tryz.underlying40
 have HR0_2 := a_ hr0_2
 have HC0_2 := a_ hc0_2
 clear hr0_2 hc0_2
 have HR1_2 := a_ hr1_2
 have HC1_2 := a_ hc1_2
 clear hr1_2 hc1_2
 have HB := a_ (Below.refl w.heap.size w)
 have H := h; unfold sleuthlaw0_SameNode.f at H
 clear h
 by_cases c3 : a0_0 = a1_0
 case neg =>
  rw [if_neg c3] at H
  have c3b0 : (a0_0 == a1_0) = false := beq_eq_false_iff_ne.mpr c3
  have c3b1 : (a0_0 != a1_0) = true := bne_iff_ne.mpr c3
  obtain rfl := Option.some.inj H
  go_enter Tryz.func17, Tryz.ntmps17
  go_wp2_with (first | ((with_reducible refine gate_dst (N := 2) rfl ?_); refine boxE_ 2 #[.int .i64 a0_0, .int .i64 a0_1, .slice A0_2 l0_2.length c0_2, .string a0_3] 40 ?_; intro g0 hg w0 hbox hb; have B0 := a_ (hbox); have E0 := a_ ((gE_ hg : w.heap.size ≤ g0)); replace HB := a_ (below_step hB_ hb); clear hb hbox hg) | ((with_reducible refine gate_dst (N := 3) rfl ?_); refine boxE_ 3 #[.int .i64 a1_0, .int .i64 a1_1, .slice A1_2 l1_2.length c1_2, .string a1_3] 40 ?_; intro g1 hg w1 hbox hb; have B1 := a_ (hbox); have E1 := a_ ((gE_ hg : w.heap.size ≤ g1)); replace HB := a_ (below_step hC_ hb); have N0 := a_ ((bL_ B0.out hg : g0 ≠ g1)); have N1 := a_ ((bG_ B0.out hg : g1 ≠ g0)); replace B0 := a_ (bB_ B0.out hb); clear hb hbox hg; have m0 := N0.out; have n0 := N1.out; obtain ⟨z0, z1, z2, z3, f0, f1, f2, f3⟩ := bx4_ B0.out; obtain ⟨z4, z5, z6, z7, f4, f5, f6, f7⟩ := bx4_ B1.out))
  go_ret
  exact ⟨hV_, hC_⟩

 rw [if_pos c3] at H
 have c3b0 : (a0_0 == a1_0) = true := beq_iff_eq.mpr c3
 have c3b1 : (a0_0 != a1_0) = false := bne_eq_false_iff_eq.mpr c3
 clear c3
 by_cases c4 : a0_1 = a1_1
 case neg =>
  rw [if_neg c4] at H
  have c4b0 : (a0_1 == a1_1) = false := beq_eq_false_iff_ne.mpr c4
  have c4b1 : (a0_1 != a1_1) = true := bne_iff_ne.mpr c4
  obtain rfl := Option.some.inj H
  go_enter Tryz.func17, Tryz.ntmps17
  go_wp2_with (first | ((with_reducible refine gate_dst (N := 2) rfl ?_); refine boxE_ 2 #[.int .i64 a0_0, .int .i64 a0_1, .slice A0_2 l0_2.length c0_2, .string a0_3] 40 ?_; intro g0 hg w2 hbox hb; have B0 := a_ (hbox); have E0 := a_ ((gE_ hg : w.heap.size ≤ g0)); replace HB := a_ (below_step hB_ hb); clear hb hbox hg) | ((with_reducible refine gate_dst (N := 3) rfl ?_); refine boxE_ 3 #[.int .i64 a1_0, .int .i64 a1_1, .slice A1_2 l1_2.length c1_2, .string a1_3] 40 ?_; intro g1 hg w3 hbox hb; have B1 := a_ (hbox); have E1 := a_ ((gE_ hg : w.heap.size ≤ g1)); replace HB := a_ (below_step hC_ hb); have N0 := a_ ((bL_ B0.out hg : g0 ≠ g1)); have N1 := a_ ((bG_ B0.out hg : g1 ≠ g0)); replace B0 := a_ (bB_ B0.out hb); clear hb hbox hg; have m1 := N0.out; have n1 := N1.out; obtain ⟨z8, z9, z10, z11, f8, f9, f10, f11⟩ := bx4_ B0.out; obtain ⟨z12, z13, z14, z15, f12, f13, f14, f15⟩ := bx4_ B1.out))
  go_ret
  exact ⟨hV_, hC_⟩
 rw [if_pos c4] at H
 have c4b0 : (a0_1 == a1_1) = true := beq_iff_eq.mpr c4
 have c4b1 : (a0_1 != a1_1) = false := bne_eq_false_iff_eq.mpr c4
 clear c4
 replace H := Option.bind_eq_some_iff.mp H
 obtain ⟨t0, A50, H⟩ := H
 try dsimp only at H
 have A5 := a_ A50
 clear A50
 by_cases c6 : t0 = true
 case pos =>
  subst c6
  rw [if_pos rfl] at H
  obtain rfl := Option.some.inj H
  go_enter Tryz.func17, Tryz.ntmps17
  go_wp2_with (first | ((with_reducible refine gate_dst (N := 2) rfl ?_); refine boxE_ 2 #[.int .i64 a0_0, .int .i64 a0_1, .slice A0_2 l0_2.length c0_2, .string a0_3] 40 ?_; intro g0 hg w7 hbox hb; have B0 := a_ (hbox); have E0 := a_ ((gE_ hg : w.heap.size ≤ g0)); replace HB := a_ (below_step hB_ hb); clear hb hbox hg) | ((with_reducible refine gate_dst (N := 3) rfl ?_); refine boxE_ 3 #[.int .i64 a1_0, .int .i64 a1_1, .slice A1_2 l1_2.length c1_2, .string a1_3] 40 ?_; intro g1 hg w8 hbox hb; have B1 := a_ (hbox); have E1 := a_ ((gE_ hg : w.heap.size ≤ g1)); replace HB := a_ (below_step hC_ hb); have N0 := a_ ((bL_ B0.out hg : g0 ≠ g1)); have N1 := a_ ((bG_ B0.out hg : g1 ≠ g0)); replace B0 := a_ (bB_ B0.out hb); clear hb hbox hg; have m2 := N0.out; have n2 := N1.out; obtain ⟨z16, z17, z18, z19, f16, f17, f18, f19⟩ := bx4_ B0.out; obtain ⟨z20, z21, z22, z23, f20, f21, f22, f23⟩ := bx4_ B1.out) | (go_at_call 35; (with_reducible refine (sleuthlaw0_SameTexts.calls k _ _ l0_2 _ _ l1_2 true _ ?s1 ?s2 ?s3 ?s4 A5.out).mono ?_); (case s1 => exact cB_ HR0_2.out); (case s2 => exact HC0_2.out); (case s3 => exact cB_ HR1_2.out); (case s4 => exact HC1_2.out); rintro e w' ⟨rfl, ⟨nd, rfl⟩⟩))
  go_ret
  exact ⟨hV_, hC_⟩
 replace c6 := Bool.eq_false_iff.mpr c6
 subst c6
 rw [if_neg (show ¬ (false = true) by decide)] at H
 obtain rfl := Option.some.inj H
 go_enter Tryz.func17, Tryz.ntmps17
 go_wp2_with (first | ((with_reducible refine gate_dst (N := 2) rfl ?_); refine boxE_ 2 #[.int .i64 a0_0, .int .i64 a0_1, .slice A0_2 l0_2.length c0_2, .string a0_3] 40 ?_; intro g0 hg w4 hbox hb; have B0 := a_ (hbox); have E0 := a_ ((gE_ hg : w.heap.size ≤ g0)); replace HB := a_ (below_step hB_ hb); clear hb hbox hg) | ((with_reducible refine gate_dst (N := 3) rfl ?_); refine boxE_ 3 #[.int .i64 a1_0, .int .i64 a1_1, .slice A1_2 l1_2.length c1_2, .string a1_3] 40 ?_; intro g1 hg w5 hbox hb; have B1 := a_ (hbox); have E1 := a_ ((gE_ hg : w.heap.size ≤ g1)); replace HB := a_ (below_step hC_ hb); have N0 := a_ ((bL_ B0.out hg : g0 ≠ g1)); have N1 := a_ ((bG_ B0.out hg : g1 ≠ g0)); replace B0 := a_ (bB_ B0.out hb); clear hb hbox hg; have m3 := N0.out; have n3 := N1.out; obtain ⟨z24, z25, z26, z27, f24, f25, f26, f27⟩ := bx4_ B0.out; obtain ⟨z28, z29, z30, z31, f28, f29, f30, f31⟩ := bx4_ B1.out) | (go_at_call 35; (with_reducible refine (sleuthlaw0_SameTexts.calls k _ _ l0_2 _ _ l1_2 false _ ?s1 ?s2 ?s3 ?s4 A5.out).mono ?_); (case s1 => exact cB_ HR0_2.out); (case s2 => exact HC0_2.out); (case s3 => exact cB_ HR1_2.out); (case s4 => exact HC1_2.out); rintro e w' ⟨rfl, ⟨nd, rfl⟩⟩))
 go_ret
 exact ⟨hV_, hC_⟩
set_option maxHeartbeats 8000000
set_option maxRecDepth 100000
attribute [local go_sem] max2_int min2_int max_two min_two max_three min_three max_four min_four   -- for this text's walks alone
set_option linter.unusedVariables false
set_option linter.unusedSimpArgs false

def sleuthlaw0_SameNodes.l0 : Nat → List (S40) → List (S40) → Int → Option (Bool)
 | 0, _, _, _ => none
 | k + 1, x0, x1, x5 => if x5 < (x0.length : Int) then (if 0 ≤ x5 then (if x5 < (x1.length : Int) then ((sleuthlaw0_SameNode.f k ((rd_T40 x0 x5).f0) ((rd_T40 x0 x5).f1) ((rd_T40 x0 x5).f2) ((rd_T40 x0 x5).f3) ((rd_T40 x1 x5).f0) ((rd_T40 x1 x5).f1) ((rd_T40 x1 x5).f2) ((rd_T40 x1 x5).f3)).bind fun t361 => (if t361 = true then (sleuthlaw0_SameNodes.l0 k x0 x1 (wrap64 (x5 + 1))) else (some false))) else (none)) else (none)) else (some true)
def sleuthlaw0_SameNodes.f (k : Nat) (l0 : List (S40)) (l1 : List (S40)) : Option (Bool) := if (l0.length : Int) = (l1.length : Int) then (sleuthlaw0_SameNodes.l0 k l0 l1 0) else (some false)
def sleuthlaw0_SameNodes.T6 : Bool × List (List Nat × List Nat) := (true, [([], []), ([], []), ([0, 1], [0, 1]), ([2], [2]), ([], []), ([], []), ([4, 5], [4, 5]), ([6], [6]), ([3, 7], [3, 7]), ([8], [8])])
def sleuthlaw0_SameNodes.B6 : List Nat := [0, 0, 3, 7, 0, 0, 48, 112, 255, 511]
theorem sleuthlaw0_SameNodes.tab6 : rtab .any (opsOf Tryz.f9 6) = sleuthlaw0_SameNodes.T6 := by kernel_rfl
theorem sleuthlaw0_SameNodes.bits6 : waitsOk sleuthlaw0_SameNodes.T6.2 sleuthlaw0_SameNodes.B6 = true := by kernel_rfl
theorem sleuthlaw0_SameNodes.calls (k : Nat) (A0 : Option Addr) (c0 : Nat) (l0 : List (S40)) (A1 : Option Addr) (c1 : Nat) (l1 : List (S40)) (r : Bool) (w : World) (hr0 : Kd.C k40 w A0 l0.length l0) (hc0 : l0.length ≤ c0) (hr1 : Kd.C k40 w A1 l1.length l1) (hc1 : l1.length ≤ c1) (h : sleuthlaw0_SameNodes.f k l0 l1 = some r) :
 Calls Tryz.prog 9 #[.slice A0 l0.length c0, .slice A1 l1.length c1] w fun e w' => e = .returned (.bool r) ∧ Below w.heap.size w w' := by
 have hu40 := Tryz.underlying40
 have HR0 := a_ hr0
 have HC0 := a_ hc0
 clear hr0 hc0
 have HR1 := a_ hr1
 have HC1 := a_ hc1
 clear hr1 hc1
 have HB := a_ (Below.refl w.heap.size w)
 have H := h; unfold sleuthlaw0_SameNodes.f at H
 clear h
 by_cases c3 : (l0.length : Int) = (l1.length : Int)
 case neg =>
  rw [if_neg c3] at H
  have c3b0 : ((l0.length : Int) == (l1.length : Int)) = false := beq_eq_false_iff_ne.mpr c3
  have c3b1 : ((l0.length : Int) != (l1.length : Int)) = true := bne_iff_ne.mpr c3
  have c3b2 : (l0.length == l1.length) = false := by first | simpa using c3 | (simp at c3 ⊢; omega)
  obtain rfl := Option.some.inj H
  go_enter Tryz.func9, Tryz.ntmps9
  go_wp2
  go_ret
  exact ⟨hV_, hC_⟩

 rw [if_pos c3] at H
 have c3b0 : ((l0.length : Int) == (l1.length : Int)) = true := beq_iff_eq.mpr c3
 have c3b1 : ((l0.length : Int) != (l1.length : Int)) = false := bne_eq_false_iff_eq.mpr c3
 have c3b2 : (l0.length == l1.length) = true := by first | simpa using c3 | (simp at c3 ⊢; omega)
 clear c3
 have H' := a_ H
 clear H
 go_enter Tryz.func9, Tryz.ntmps9
 go_wp2
 go_loopg [5] k (fun kq v5 w' => ∃ (x0 : Int), v5 = .int .i64 x0 ∧ Aside0 (sleuthlaw0_SameNodes.l0 kq l0 l1 x0 = some r) ∧ Aside0 (kq ≤ k) ∧ Aside0 (Below w.heap.size w w'))
 case atStart => exact ⟨(0), hW_, H', ⟨Nat.le_refl _⟩, ⟨hC_⟩⟩
 case round =>
  clear H'
  try clear c1
  try clear p2
  try clear c3
  try clear c3b0
  try clear c3b1
  try clear c3b2
  obtain ⟨x0, rfl, HA, HK1, HB⟩ := hrel
  cases gk with
  | zero => exact absurd HA.out (by simp [sleuthlaw0_SameNodes.l0])
  | succ k1 =>
   have H := HA.out
   clear HA
   simp only [sleuthlaw0_SameNodes.l0] at H
   by_cases c4 : x0 < (l0.length : Int)
   case neg =>
    rw [if_neg c4] at H
    have c4b0 : decide (x0 < (l0.length : Int)) = false := decide_eq_false c4
    clear c4
    obtain rfl := Option.some.inj H
    go_wp2
    go_ret
    exact ⟨hV_, hC_⟩
   rw [if_pos c4] at H
   have c4b0 : decide (x0 < (l0.length : Int)) = true := decide_eq_true c4
   clear c4
   replace H := ifI_ H; obtain ⟨c5, H⟩ := H
   have c5b0 : decide (0 ≤ x0) = true := decide_eq_true c5
   clear c5
   replace H := ifI_ H; obtain ⟨c6, H⟩ := H
   have c6b0 : decide (x0 < (l1.length : Int)) = true := decide_eq_true c6
   clear c6
   replace H := Option.bind_eq_some_iff.mp H
   obtain ⟨t0, A70, H⟩ := H
   try dsimp only at H
   have A7 := a_ A70
   clear A70
   by_cases c8 : t0 = true
   case neg =>
    replace c8 := Bool.eq_false_iff.mpr c8
    subst c8
    rw [if_neg (show ¬ (false = true) by decide)] at H
    obtain rfl := Option.some.inj H
    try go_wp2
    replace HB := a_ (below_drew1 HB.out)
    have p359 : 0 ≤ (x0 : Int) := of_decide_eq_true hA_
    have q359 : x0 < (l0.length : Int) := of_decide_eq_true hA_
    obtain ⟨d0, A359_2, c359_2, e359, h0, h1, h2, h3, hl359_2, hi359_2⟩ := at_T40 HR0.out x0 p359 q359
    have hw359_3 := h3
    have hw359_2 := h2
    have hw359_1 := h1
    have hw359_0 := h0
    cases e359
    replace h0 := cl_ HB.out h0
    replace h1 := cl_ HB.out h1
    replace h2 := cl_ HB.out h2
    replace h3 := cl_ HB.out h3
    have HR359_2 := a_ hi359_2
    have HC359_2 := a_ hl359_2
    clear hi359_2 hl359_2
    replace p359 := eq_true p359
    replace q359 := eq_true q359
    have p360 : 0 ≤ (x0 : Int) := of_decide_eq_true hA_
    have q360 : x0 < (l1.length : Int) := of_decide_eq_true hA_
    obtain ⟨d1, A360_2, c360_2, e360, h4, h5, h6, h7, hl360_2, hi360_2⟩ := at_T40 HR1.out x0 p360 q360
    have hw360_3 := h7
    have hw360_2 := h6
    have hw360_1 := h5
    have hw360_0 := h4
    cases e360
    replace h4 := cl_ HB.out h4
    replace h5 := cl_ HB.out h5
    replace h6 := cl_ HB.out h6
    replace h7 := cl_ HB.out h7
    have HR360_2 := a_ hi360_2
    have HC360_2 := a_ hl360_2
    clear hi360_2 hl360_2
    replace p360 := eq_true p360
    replace q360 := eq_true q360
    refine start_ (n := 10) (S := fun w' => w'.cell? (d0.add ((x0).toNat * 4)) = some (.int .i64 ((rd_T40 l0 x0).f0)) ∧ w'.cell? ⟨(d0.add ((x0).toNat * 4)).block, (d0.add ((x0).toNat * 4)).off + 1, none⟩ = some (.int .i64 ((rd_T40 l0 x0).f1)) ∧ w'.cell? ⟨(d0.add ((x0).toNat * 4)).block, (d0.add ((x0).toNat * 4)).off + 2, none⟩ = some (.slice A359_2 ((rd_T40 l0 x0).f2).length c359_2) ∧ w'.cell? ⟨(d0.add ((x0).toNat * 4)).block, (d0.add ((x0).toNat * 4)).off + 3, none⟩ = some (.string ((rd_T40 l0 x0).f3)) ∧ w'.cell? (d1.add ((x0).toNat * 4)) = some (.int .i64 ((rd_T40 l1 x0).f0)) ∧ w'.cell? ⟨(d1.add ((x0).toNat * 4)).block, (d1.add ((x0).toNat * 4)).off + 1, none⟩ = some (.int .i64 ((rd_T40 l1 x0).f1)) ∧ w'.cell? ⟨(d1.add ((x0).toNat * 4)).block, (d1.add ((x0).toNat * 4)).off + 2, none⟩ = some (.slice A360_2 ((rd_T40 l1 x0).f2).length c360_2) ∧ w'.cell? ⟨(d1.add ((x0).toNat * 4)).block, (d1.add ((x0).toNat * 4)).off + 3, none⟩ = some (.string ((rd_T40 l1 x0).f3))) (ds := []) #[false, false, false, false, false, false, false, false, false, false] (by kernel_rfl) rfl rfl ⟨(cl_ HB.out hw359_0), (cl_ HB.out hw359_1), (cl_ HB.out hw359_2), (cl_ HB.out hw359_3), (cl_ HB.out hw360_0), (cl_ HB.out hw360_1), (cl_ HB.out hw360_2), (cl_ HB.out hw360_3)⟩ (fun hHeld => ?_); refine with_tabW sleuthlaw0_SameNodes.tab6 sleuthlaw0_SameNodes.bits6 (fun HT_ HW_ => ?_)
    generalize wr.drew = w0 at HB HR359_2 HR360_2 h0 h1 h2 h3 h4 h5 h6 h7 hHeld ⊢
    refine pB_ 0 17 HT_.out ?_
    refine pB_ 1 18 HT_.out ?_
    refine pB_ 2 19 HT_.out ?_
    refine pB_ 4 21 HT_.out ?_
    refine pB_ 5 22 HT_.out ?_
    refine pB_ 6 23 HT_.out ?_
    refine tB_ 3 20 HT_.out HW_.out hHeld ?_
    refine tB_ 7 24 HT_.out HW_.out hHeld ?_
    refine one_ (i := 8) (N := some 25) #[true, true, true, true, true, true, true, true, true, false] rfl rfl (one_of HT_.out (by kernel_rfl)) (by decide) (fun K hK => ?_)
    refine goes_ Tryz.func17 (by kernel_rfl) rfl #[.agg #[.int .i64 ((rd_T40 l0 x0).f0), .int .i64 ((rd_T40 l0 x0).f1), .slice A359_2 ((rd_T40 l0 x0).f2).length c359_2, .string ((rd_T40 l0 x0).f3)], .agg #[.int .i64 ((rd_T40 l1 x0).f0), .int .i64 ((rd_T40 l1 x0).f1), .slice A360_2 ((rd_T40 l1 x0).f2).length c360_2, .string ((rd_T40 l1 x0).f3)]] (by rfl) rfl rfl hL_ ?_
    with_reducible refine (sleuthlaw0_SameNode.calls k1 ((rd_T40 l0 x0).f0) ((rd_T40 l0 x0).f1) _ _ ((rd_T40 l0 x0).f2) ((rd_T40 l0 x0).f3) ((rd_T40 l1 x0).f0) ((rd_T40 l1 x0).f1) _ _ ((rd_T40 l1 x0).f2) ((rd_T40 l1 x0).f3) false _ ?s1 ?s2 ?s3 ?s4 A7.out).mono ?_
    (case s1 => exact cB_ HR359_2.out)
    (case s2 => exact HC359_2.out)
    (case s3 => exact cB_ HR360_2.out)
    (case s4 => exact HC360_2.out)
    rintro e w1 ⟨rfl, hb⟩
    refine ⟨_, rfl, ?_⟩
    replace HB := a_ (below_step hB_ hb)
    (try clear hb)
    (try clear hb2)
    (try clear hk)
    (try clear hi)
    refine hK.out _ _ ⟨(cl_ HB.out hw359_0), (cl_ HB.out hw359_1), (cl_ HB.out hw359_2), (cl_ HB.out hw359_3), (cl_ HB.out hw360_0), (cl_ HB.out hw360_1), (cl_ HB.out hw360_2), (cl_ HB.out hw360_3)⟩ (fun hHeld => ?_)
    clear hK K
    refine norm_ (a' := ?_) ?_ ?_
    rotate_left
    · show Act.put _ (some 25) _ = _
      simp only [Act.put, List.setIfInBounds_toArray, List.set_cons_zero, List.set_cons_succ, i64_w, i32_w]
      rfl
    refine pB_ 9 26 HT_.out ?_
    refine done_ (done_of HT_.out (by kernel_rfl)) ?_
    try go_wp2
    go_ret
    exact ⟨hV_, hC_⟩
   subst c8
   rw [if_pos rfl] at H
   have H' := a_ H
   clear H
   try go_wp2
   replace HB := a_ (below_drew1 HB.out)
   have p359 : 0 ≤ (x0 : Int) := of_decide_eq_true hA_
   have q359 : x0 < (l0.length : Int) := of_decide_eq_true hA_
   obtain ⟨d0, A359_2, c359_2, e359, h0, h1, h2, h3, hl359_2, hi359_2⟩ := at_T40 HR0.out x0 p359 q359
   have hw359_3 := h3
   have hw359_2 := h2
   have hw359_1 := h1
   have hw359_0 := h0
   cases e359
   replace h0 := cl_ HB.out h0
   replace h1 := cl_ HB.out h1
   replace h2 := cl_ HB.out h2
   replace h3 := cl_ HB.out h3
   have HR359_2 := a_ hi359_2
   have HC359_2 := a_ hl359_2
   clear hi359_2 hl359_2
   replace p359 := eq_true p359
   replace q359 := eq_true q359
   have p360 : 0 ≤ (x0 : Int) := of_decide_eq_true hA_
   have q360 : x0 < (l1.length : Int) := of_decide_eq_true hA_
   obtain ⟨d1, A360_2, c360_2, e360, h4, h5, h6, h7, hl360_2, hi360_2⟩ := at_T40 HR1.out x0 p360 q360
   have hw360_3 := h7
   have hw360_2 := h6
   have hw360_1 := h5
   have hw360_0 := h4
   cases e360
   replace h4 := cl_ HB.out h4
   replace h5 := cl_ HB.out h5
   replace h6 := cl_ HB.out h6
   replace h7 := cl_ HB.out h7
   have HR360_2 := a_ hi360_2
   have HC360_2 := a_ hl360_2
   clear hi360_2 hl360_2
   replace p360 := eq_true p360
   replace q360 := eq_true q360
   refine start_ (n := 10) (S := fun w' => w'.cell? (d0.add ((x0).toNat * 4)) = some (.int .i64 ((rd_T40 l0 x0).f0)) ∧ w'.cell? ⟨(d0.add ((x0).toNat * 4)).block, (d0.add ((x0).toNat * 4)).off + 1, none⟩ = some (.int .i64 ((rd_T40 l0 x0).f1)) ∧ w'.cell? ⟨(d0.add ((x0).toNat * 4)).block, (d0.add ((x0).toNat * 4)).off + 2, none⟩ = some (.slice A359_2 ((rd_T40 l0 x0).f2).length c359_2) ∧ w'.cell? ⟨(d0.add ((x0).toNat * 4)).block, (d0.add ((x0).toNat * 4)).off + 3, none⟩ = some (.string ((rd_T40 l0 x0).f3)) ∧ w'.cell? (d1.add ((x0).toNat * 4)) = some (.int .i64 ((rd_T40 l1 x0).f0)) ∧ w'.cell? ⟨(d1.add ((x0).toNat * 4)).block, (d1.add ((x0).toNat * 4)).off + 1, none⟩ = some (.int .i64 ((rd_T40 l1 x0).f1)) ∧ w'.cell? ⟨(d1.add ((x0).toNat * 4)).block, (d1.add ((x0).toNat * 4)).off + 2, none⟩ = some (.slice A360_2 ((rd_T40 l1 x0).f2).length c360_2) ∧ w'.cell? ⟨(d1.add ((x0).toNat * 4)).block, (d1.add ((x0).toNat * 4)).off + 3, none⟩ = some (.string ((rd_T40 l1 x0).f3))) (ds := []) #[false, false, false, false, false, false, false, false, false, false] (by kernel_rfl) rfl rfl ⟨(cl_ HB.out hw359_0), (cl_ HB.out hw359_1), (cl_ HB.out hw359_2), (cl_ HB.out hw359_3), (cl_ HB.out hw360_0), (cl_ HB.out hw360_1), (cl_ HB.out hw360_2), (cl_ HB.out hw360_3)⟩ (fun hHeld => ?_); refine with_tabW sleuthlaw0_SameNodes.tab6 sleuthlaw0_SameNodes.bits6 (fun HT_ HW_ => ?_)
   generalize wr.drew = w9 at HB HR359_2 HR360_2 h0 h1 h2 h3 h4 h5 h6 h7 hHeld ⊢
   refine pB_ 0 17 HT_.out ?_
   refine pB_ 1 18 HT_.out ?_
   refine pB_ 2 19 HT_.out ?_
   refine pB_ 4 21 HT_.out ?_
   refine pB_ 5 22 HT_.out ?_
   refine pB_ 6 23 HT_.out ?_
   refine tB_ 3 20 HT_.out HW_.out hHeld ?_
   refine tB_ 7 24 HT_.out HW_.out hHeld ?_
   refine one_ (i := 8) (N := some 25) #[true, true, true, true, true, true, true, true, true, false] rfl rfl (one_of HT_.out (by kernel_rfl)) (by decide) (fun K hK => ?_)
   refine goes_ Tryz.func17 (by kernel_rfl) rfl #[.agg #[.int .i64 ((rd_T40 l0 x0).f0), .int .i64 ((rd_T40 l0 x0).f1), .slice A359_2 ((rd_T40 l0 x0).f2).length c359_2, .string ((rd_T40 l0 x0).f3)], .agg #[.int .i64 ((rd_T40 l1 x0).f0), .int .i64 ((rd_T40 l1 x0).f1), .slice A360_2 ((rd_T40 l1 x0).f2).length c360_2, .string ((rd_T40 l1 x0).f3)]] (by rfl) rfl rfl hL_ ?_
   with_reducible refine (sleuthlaw0_SameNode.calls k1 ((rd_T40 l0 x0).f0) ((rd_T40 l0 x0).f1) _ _ ((rd_T40 l0 x0).f2) ((rd_T40 l0 x0).f3) ((rd_T40 l1 x0).f0) ((rd_T40 l1 x0).f1) _ _ ((rd_T40 l1 x0).f2) ((rd_T40 l1 x0).f3) true _ ?s1 ?s2 ?s3 ?s4 A7.out).mono ?_
   (case s1 => exact cB_ HR359_2.out)
   (case s2 => exact HC359_2.out)
   (case s3 => exact cB_ HR360_2.out)
   (case s4 => exact HC360_2.out)
   rintro e w2 ⟨rfl, hb⟩
   refine ⟨_, rfl, ?_⟩
   replace HB := a_ (below_step hB_ hb)
   (try clear hb)
   (try clear hb2)
   (try clear hk)
   (try clear hi)
   refine hK.out _ _ ⟨(cl_ HB.out hw359_0), (cl_ HB.out hw359_1), (cl_ HB.out hw359_2), (cl_ HB.out hw359_3), (cl_ HB.out hw360_0), (cl_ HB.out hw360_1), (cl_ HB.out hw360_2), (cl_ HB.out hw360_3)⟩ (fun hHeld => ?_)
   clear hK K
   refine norm_ (a' := ?_) ?_ ?_
   rotate_left
   · show Act.put _ (some 25) _ = _
     simp only [Act.put, List.setIfInBounds_toArray, List.set_cons_zero, List.set_cons_succ, i64_w, i32_w]
     rfl
   refine pB_ 9 26 HT_.out ?_
   refine done_ (done_of HT_.out (by kernel_rfl)) ?_
   try go_wp2
   go_roundg k1
   case measure => have := HK1.out; omega
   case rel => exact ⟨(wrap64 (x0 + 1)), hW_, H', ⟨by have := HK1.out; omega⟩, ⟨hC_⟩⟩
end Go.Proofs.YtifhpkakdlfgnaaGreatDoor.G
end
section
namespace Go.Proofs.YtifhpkakdlfgnaaGreatDoor.G
open Go.RowKit Go.Proofs.YtifhpkakdlfgnaaGreatDoorW.PrintWords Go.Proofs.YtifhpkakdlfgnaaGreatDoorW.PrintLast Go.Proofs.YtifhpkakdlfgnaaGreatDoorW.PrintMore
set_option linter.unusedVariables false
set_option linter.unusedSimpArgs false
def fineN (l : List Nd) : Prop := l.length * 56 ≤ 140737488351232 ∧ ∀ x ∈ l, (Lit.int .i64 x.f0).wf = true ∧ (Lit.int .i64 x.f1).wf = true ∧ (x.f2.length * 16 ≤ 140737488351232 ∧ ∀ s ∈ x.f2, s.size ≤ 140737488351232) ∧ x.f3.size ≤ 140737488351232
theorem fineN.ok {l : List Nd} (h : fineN l) : okN l := ⟨by have := h.1; omega, fun x hx => by have := (h.2 x hx).2.2.1.1; omega⟩
theorem copy_l0 (ns : List Nd) (hok : okN ns) : ∀ (n i : Nat), i + n = ns.length → Ev (fun k => sleuthlaw0_CopyNodes.l0 k ns (ns.take i) (i : Int)) ns := by
  intro n
  induction n with
  | zero =>
    intro i hi
    refine Ev.step (f := fun _ => some ns) (fun k => ?_) (Ev.now _)
    simp only [sleuthlaw0_CopyNodes.l0]
    rw [if_neg (by omega), List.take_of_length_le (by omega)]
  | succ n ih =>
    intro i hi
    have hlt : i < ns.length := by omega
    have hl := hok.1
    have hw : wrap64 ((i : Int) + 1) = ((i + 1 : Nat) : Int) := by rw [w64 (by omega) (by omega)]; omega
    refine Ev.step (f := fun k => sleuthlaw0_CopyNodes.l0 k ns (ns.take (i + 1)) ((i + 1 : Nat) : Int)) (fun k => ?_) (ih (i + 1) (by omega))
    have hat := hok.at (i : Int)
    simp only [sleuthlaw0_CopyNodes.l0, Option.bind_some, List.nil_append]
    rw [if_pos (by omega), if_pos (by omega), if_pos (show ([] : List ByteArray).length + (rn ns (i : Int)).f2.length < 8796093022208 by rw [List.length_nil]; omega), if_pos (by rw [List.length_take]; omega), hw]
    have : (ns.take i ++ [(⟨(rn ns (i : Int)).f0, (rn ns (i : Int)).f1, (rn ns (i : Int)).f2, (rn ns (i : Int)).f3⟩ : Nd)]) = ns.take (i + 1) := by
      rw [List.take_succ_eq_append_getElem hlt, rn_eq ns i hlt]
    rw [this]
theorem copy_ev (ns : List Nd) (hok : okN ns) : Ev (fun k => sleuthlaw0_CopyNodes.f k ns) ns := copy_l0 ns hok ns.length 0 (by omega)
theorem sameInts_l0 (a : List Int) (ha : a.length ≤ 9223372036854775806) : ∀ (n i : Nat), i + n = a.length → Ev (fun k => sleuthlaw0_SameInts.l0 k a a (i : Int)) true := by
  intro n
  induction n with
  | zero =>
    intro i hi
    refine Ev.step (f := fun _ => some true) (fun k => ?_) (Ev.now _)
    rw [sleuthlaw0_SameInts.l0, if_neg (by omega)]
  | succ n ih =>
    intro i hi
    have hw : wrap64 ((i : Int) + 1) = ((i + 1 : Nat) : Int) := by rw [w64 (by omega) (by omega)]; omega
    refine Ev.step (f := fun k => sleuthlaw0_SameInts.l0 k a a ((i + 1 : Nat) : Int)) (fun k => ?_) (ih (i + 1) (by omega))
    rw [sleuthlaw0_SameInts.l0, if_pos (by omega), if_pos (by omega), if_pos (by omega), if_pos rfl, hw]
theorem sameInts_ev (a : List Int) (ha : a.length ≤ 9223372036854775806) : Ev (fun k => sleuthlaw0_SameInts.f k a a) true := by
  unfold sleuthlaw0_SameInts.f
  simp only [if_pos]
  exact sameInts_l0 a ha a.length 0 (by omega)
theorem sameTexts_l0 (a : List ByteArray) (ha : a.length ≤ 9223372036854775806) : ∀ (n i : Nat), i + n = a.length → Ev (fun k => sleuthlaw0_SameTexts.l0 k a a (i : Int)) true := by
  intro n
  induction n with
  | zero =>
    intro i hi
    refine Ev.step (f := fun _ => some true) (fun k => ?_) (Ev.now _)
    rw [sleuthlaw0_SameTexts.l0, if_neg (by omega)]
  | succ n ih =>
    intro i hi
    have hw : wrap64 ((i : Int) + 1) = ((i + 1 : Nat) : Int) := by rw [w64 (by omega) (by omega)]; omega
    refine Ev.step (f := fun k => sleuthlaw0_SameTexts.l0 k a a ((i + 1 : Nat) : Int)) (fun k => ?_) (ih (i + 1) (by omega))
    rw [sleuthlaw0_SameTexts.l0, if_pos (by omega), if_pos (by omega), if_pos (by omega), if_pos rfl, hw]
theorem sameTexts_ev (a : List ByteArray) (ha : a.length ≤ 9223372036854775806) : Ev (fun k => sleuthlaw0_SameTexts.f k a a) true := by
  unfold sleuthlaw0_SameTexts.f
  simp only [if_pos]
  exact sameTexts_l0 a ha a.length 0 (by omega)
theorem sameNode_ev (x : Nd) (hx : x.f2.length ≤ 9223372036854775806) : Ev (fun k => sleuthlaw0_SameNode.f k x.f0 x.f1 x.f2 x.f3 x.f0 x.f1 x.f2 x.f3) true := by
  unfold sleuthlaw0_SameNode.f
  simp only [if_pos]
  refine Ev.bind (sameTexts_ev _ hx) ?_
  simp only [if_pos, beq_self_eq_true]
  exact Ev.now _
theorem sameNodes_l0 (a : List Nd) (ha : okN a) : ∀ (n i : Nat), i + n = a.length → Ev (fun k => sleuthlaw0_SameNodes.l0 k a a (i : Int)) true := by
  intro n
  have hl := ha.1
  induction n with
  | zero =>
    intro i hi
    refine Ev.step (f := fun _ => some true) (fun k => ?_) (Ev.now _)
    simp only [sleuthlaw0_SameNodes.l0]
    rw [if_neg (by omega)]
  | succ n ih =>
    intro i hi
    have hw : wrap64 ((i : Int) + 1) = ((i + 1 : Nat) : Int) := by rw [w64 (by omega) (by omega)]; omega
    refine Ev.step (f := fun k => (sleuthlaw0_SameNode.f k (rn a (i : Int)).f0 (rn a (i : Int)).f1 (rn a (i : Int)).f2 (rn a (i : Int)).f3 (rn a (i : Int)).f0 (rn a (i : Int)).f1 (rn a (i : Int)).f2 (rn a (i : Int)).f3).bind fun t => if t = true then sleuthlaw0_SameNodes.l0 k a a ((i + 1 : Nat) : Int) else some false) (fun k => ?_) ?_
    · rw [sleuthlaw0_SameNodes.l0, if_pos (by omega), if_pos (by omega), if_pos (by omega), hw]
    · refine Ev.bind (sameNode_ev (rn a (i : Int)) (Nat.le_trans (ha.at _) (by omega))) ?_
      simp only [if_pos]
      exact ih (i + 1) (by omega)
theorem sameNodes_ev (a : List Nd) (ha : okN a) : Ev (fun k => sleuthlaw0_SameNodes.f k a a) true := by
  unfold sleuthlaw0_SameNodes.f
  simp only [if_pos]
  exact sameNodes_l0 a ha a.length 0 (by omega)
def fineI (l : List Int) : Prop := l.length * 8 ≤ 140737488351232 ∧ ∀ x ∈ l, (Lit.int .i64 x).wf = true
def marksS (ns : List Nd) (ms : List Int) : Bool := mayT ns && (decide (ms.length = ns.length) && !ms.any oddB)
theorem may_top_ev (ns : List Nd) (ms : List Int) : Ev (fun k => top_May.f k ns ms) (marksS ns ms) := by
  unfold top_May.f marksS
  exact Ev.bind (trailMay_ev ns) (Ev.now _)
theorem marksS_spec {ns : List Nd} {ms : List Int} (h : marksS ns ms = true) : mayT ns = true ∧ ms.length = ns.length ∧ ∀ x ∈ ms, oddB x = false := by
  unfold marksS at h
  rw [Bool.and_eq_true, Bool.and_eq_true, decide_eq_true_iff, Bool.not_eq_true'] at h
  exact ⟨h.1, h.2.1, fun x hx => by have := List.any_eq_false.1 h.2.2 x hx; simpa using this⟩
theorem rd_mem {ms : List Int} (i : Nat) (h : i < ms.length) : rd ms (i : Int) ∈ ms := by
  show List.getD _ _ _ ∈ _
  rw [Int.toNat_natCast, List.getD_eq_getElem?_getD, List.getElem?_eq_getElem h]
  exact List.getElem_mem _
theorem marks_at {ns : List Nd} {ms : List Int} (h : marksS ns ms = true) (i : Nat) (hi : i < ns.length) : 0 ≤ rd ms (i : Int) ∧ rd ms (i : Int) ≤ 3 := by
  obtain ⟨_, hl, hx⟩ := marksS_spec h
  have := hx _ (rd_mem i (by omega))
  unfold oddB at this
  rw [Bool.or_eq_false_iff, decide_eq_false_iff_not, decide_eq_false_iff_not] at this
  omega
theorem upTo_odd (x : Int) : (decide (0 ≤ x) && decide (x ≤ 3)) = !oddB x := by
  unfold oddB
  by_cases h1 : x < 0
  · rw [decide_eq_true h1, decide_eq_false (show ¬ 0 ≤ x by omega)]; rfl
  · rw [decide_eq_false h1, decide_eq_true (show 0 ≤ x by omega)]
    by_cases h2 : 3 < x
    · rw [decide_eq_true h2, decide_eq_false (show ¬ x ≤ 3 by omega)]; rfl
    · rw [decide_eq_false h2, decide_eq_true (show x ≤ 3 by omega)]; rfl
theorem refMarks_l0 (ns : List Nd) (hok : okN ns) (ms : List Int) (hl : ms.length ≤ 9223372036854775806) : ∀ n i : Nat, i + n = ms.length → Ev (fun k => sleuthref12_MarksMay.l0 k ns ms (i : Int)) (!(ms.drop i).any oddB && (mayT ns && decide (ms.length = ns.length))) := by
  intro n
  induction n with
  | zero =>
    intro i hi
    refine Ev.step (f := fun k => (sleuthref12_TrailMay.f k ns).bind fun t391 => (if t391 = true then (some ((ms.length : Int) == (ns.length : Int))) else (some false))) (fun k => by rw [sleuthref12_MarksMay.l0, if_neg (by omega)]) ?_
    refine Ev.bind (refTrail_ev ns hok) ?_
    rw [List.drop_eq_nil_of_le (by omega)]
    cases mayT ns with
    | false => simp only [if_neg Bool.false_ne_true]; exact Ev.now _
    | true =>
      simp only [if_pos]
      have e : ((ms.length : Int) == (ns.length : Int)) = decide (ms.length = ns.length) := by
        by_cases c : ms.length = ns.length
        · rw [decide_eq_true c]; exact beq_iff_eq.2 (by omega)
        · rw [decide_eq_false c]; exact beq_eq_false_iff_ne.2 (by omega)
      rw [e]
      exact Ev.now _
  | succ n ih =>
    intro i hi
    have hw : wrap64 ((i : Int) + 1) = ((i + 1 : Nat) : Int) := by rw [w64 (by omega) (by omega)]; omega
    have hd : ms.drop i = rd ms (i : Int) :: ms.drop (i + 1) := by
      rw [List.drop_eq_getElem_cons (show i < ms.length by omega)]
      congr 1
      show _ = List.getD _ _ _
      rw [Int.toNat_natCast, List.getD_eq_getElem?_getD, List.getElem?_eq_getElem (show i < ms.length by omega)]; rfl
    rw [hd, List.any_cons]
    cases c : oddB (rd ms (i : Int)) with
    | true =>
      refine Ev.step (f := fun _ => some false) (fun k => ?_) (Ev.now _)
      rw [sleuthref12_MarksMay.l0, if_pos (by omega), if_pos (by omega), upTo_eq, Option.bind_some, upTo_odd, c]; rfl
    | false =>
      rw [Bool.false_or]
      refine Ev.step (f := fun k => sleuthref12_MarksMay.l0 k ns ms ((i + 1 : Nat) : Int)) (fun k => ?_) (ih (i + 1) (by omega))
      rw [sleuthref12_MarksMay.l0, if_pos (by omega), if_pos (by omega), upTo_eq, Option.bind_some, upTo_odd, c, hw]; rfl
theorem refMarks_ev (ns : List Nd) (hok : okN ns) (ms : List Int) (hl : ms.length ≤ 9223372036854775806) : Ev (fun k => sleuthref12_MarksMay.f k ns ms) (marksS ns ms) := by
  have h := refMarks_l0 ns hok ms hl ms.length 0 (by omega)
  rw [List.drop_zero] at h
  have e : (!ms.any oddB && (mayT ns && decide (ms.length = ns.length))) = marksS ns ms := by
    unfold marksS
    cases ms.any oddB <;> cases mayT ns <;> cases decide (ms.length = ns.length) <;> rfl
  rw [e] at h
  exact h
theorem fstK_spec {ns : List Nd} {ms : List Int} {a m k : Int} (h : fstK ns ms a m = some k) : a < k ∧ k < (ns.length : Int) ∧ (rn ns k).f1 = a ∧ rd ms k = m := by
  unfold fstK at h
  have h1 := kidsTo_rng ns a k ns.length (List.mem_of_find?_eq_some h)
  have h2 := List.find?_some h
  exact ⟨h1.1, h1.2.1, h1.2.2, by simpa using h2⟩
theorem first_eq {ns : List Nd} {ms : List Int} (h : marksS ns ms = true) (a m : Int) (h0 : 0 ≤ a) (h1 : a < (ns.length : Int)) : top_first.f ns ms a m = some (match fstK ns ms a m with | some k => (k, true) | none => (0, false)) := by
  obtain ⟨hm, hl, _⟩ := marksS_spec h
  have hlen := mayT_len hm
  unfold top_first.f
  rw [if_pos ⟨h0, h1, by omega, hlen.2⟩]
  cases fstK ns ms a m <;> rfl
theorem bug_eq {ns : List Nd} {ms : List Int} (h : marksS ns ms = true) (a : Int) (h0 : 0 ≤ a) (h1 : a < (ns.length : Int)) : top_Bug.f ns ms a = some (bugS ns ms a) := by
  obtain ⟨hm, hl, _⟩ := marksS_spec h
  have hlen := mayT_len hm
  unfold top_Bug.f
  rw [if_pos ⟨h0, h1, by omega, hlen.2⟩]
def downT (ns : List Nd) (ms : List Int) : Nat → Int → Int
  | 0, a => a
  | n + 1, a => match fstK ns ms a 2 with | some k => downT ns ms n k | none => a
def finT (ns : List Nd) (ms : List Int) (a : Int) : Int × Int := match fstK ns ms a 0 with | some k => (0, k) | none => bugS ns ms a
def askT (ns : List Nd) (ms : List Int) : Int × Int := if rd ms 0 = 0 then (0, 0) else if rd ms 0 = 1 then (2, 0) else if rd ms 0 = 3 then (3, 0) else finT ns ms (downT ns ms ns.length 0)
theorem ask_l0 {ns : List Nd} {ms : List Int} (h : marksS ns ms = true) : ∀ (n : Nat) (a : Int), 0 ≤ a → a < (ns.length : Int) → (ns.length : Int) ≤ a + n → ∀ p : Int × Bool, p = (match fstK ns ms a 2 with | some k => (k, true) | none => (0, false)) → Ev (fun q => top_Ask.l0 q ns ms a p.1 p.2) (finT ns ms (downT ns ms n a)) := by
  intro n
  induction n with
  | zero => intro a h0 h1 h2; omega
  | succ n ih =>
    intro a h0 h1 h2 p hp
    cases hf : fstK ns ms a 2 with
    | some k =>
      rw [hf] at hp
      subst hp
      have hk := fstK_spec hf
      have e : downT ns ms (n + 1) a = downT ns ms n k := by rw [downT, hf]
      rw [e]
      refine Ev.step (f := fun q => top_Ask.l0 q ns ms k (match fstK ns ms k 2 with | some k => (k, true) | none => (0, false)).1 (match fstK ns ms k 2 with | some k => (k, true) | none => ((0 : Int), false)).2) (fun q => ?_) (ih k (by omega) hk.2.1 (by omega) _ rfl)
      rw [top_Ask.l0]
      simp only [if_pos, first_eq h k 2 (by omega) hk.2.1, Option.bind_some]
    | none =>
      rw [hf] at hp
      subst hp
      have e : downT ns ms (n + 1) a = a := by rw [downT, hf]
      rw [e]
      refine Ev.step (f := fun _ => some (finT ns ms a)) (fun q => ?_) (Ev.now _)
      rw [top_Ask.l0]
      simp only [if_neg Bool.false_ne_true, first_eq h a 0 h0 h1, Option.bind_some, bug_eq h a h0 h1]
      unfold finT
      cases fstK ns ms a 0 with
      | some k => simp only [if_pos]
      | none => simp only [if_neg Bool.false_ne_true]
theorem ask_ev {ns : List Nd} {ms : List Int} (h : marksS ns ms = true) : Ev (fun k => top_Ask.f k ns ms) (askT ns ms) := by
  obtain ⟨hm, hl, _⟩ := marksS_spec h
  have hlen := mayT_len hm
  unfold top_Ask.f askT
  have g : (0 : Int) < (ms.length : Int) := by omega
  simp only [if_pos g]
  by_cases c0 : rd ms 0 = 0
  · simp only [if_pos c0]; exact Ev.now _
  · simp only [if_neg c0]
    by_cases c1 : rd ms 0 = 1
    · simp only [if_pos c1]; exact Ev.now _
    · simp only [if_neg c1]
      by_cases c3 : rd ms 0 = 3
      · simp only [if_pos c3]; exact Ev.now _
      · simp only [if_neg c3, first_eq h 0 2 (by omega) (by omega), Option.bind_some]
        exact ask_l0 h ns.length 0 (by omega) (by omega) (by omega) _ rfl
def lastM (ms : List Int) : Nat → Int
  | 0 => 0
  | n + 1 => if rd ms (n : Int) = 2 then (n : Int) else lastM ms n
theorem lastM_range (ms : List Int) : ∀ n : Nat, 0 < n → 0 ≤ lastM ms n ∧ lastM ms n < (n : Int)
  | 0, h => absurd h (by omega)
  | n + 1, _ => by
    rw [lastM]
    split
    · omega
    · rcases Nat.eq_zero_or_pos n with c | c
      · subst c; show (0 : Int) ≤ 0 ∧ (0 : Int) < _; omega
      · have := lastM_range ms n c; omega
theorem last_half_l0 (ms : List Int) (hl : ms.length ≤ 9223372036854775806) : ∀ n i : Nat, i + n = ms.length → Ev (fun k => half_last.l0 k (lastM ms i) ms (ms.length : Int) (i : Int)) (lastM ms ms.length) := by
  intro n
  induction n with
  | zero =>
    intro i hi
    obtain rfl : i = ms.length := by omega
    refine Ev.step (f := fun _ => some (lastM ms ms.length)) (fun k => ?_) (Ev.now _)
    rw [half_last.l0, if_neg (by omega)]
  | succ n ih =>
    intro i hi
    have hw : wrap64 ((i : Int) + 1) = ((i + 1 : Nat) : Int) := by rw [w64 (by omega) (by omega)]; omega
    refine Ev.step (f := fun k => half_last.l0 k (lastM ms (i + 1)) ms (ms.length : Int) ((i + 1 : Nat) : Int)) (fun k => ?_) (ih (i + 1) (by omega))
    rw [half_last.l0, if_pos (by omega), if_pos (by omega), if_pos (by omega), hw, lastM]
    by_cases c : rd ms (i : Int) = 2
    · rw [if_pos c, if_pos c]
    · rw [if_neg c, if_neg c]
theorem last_half_ev (ms : List Int) (hl : ms.length ≤ 9223372036854775806) : Ev (fun k => half_last.f k ms) (lastM ms ms.length) := last_half_l0 ms hl ms.length 0 (by omega)
/-- which nodes are in doubt, up to place n -/
def dbt (ns : List Nd) (ms : List Int) (w : Nat) : Nat → List Bool
  | 0 => List.replicate ns.length false
  | n + 1 => if n ≤ w then dbt ns ms w n else
    (dbt ns ms w n).set n ((decide (pa ns n = (w : Int)) || rdOf false (dbt ns ms w n) (pa ns n)) && (rd ms (n : Int) != 1))
theorem dbt_len (ns : List Nd) (ms : List Int) (w : Nat) : ∀ n : Nat, (dbt ns ms w n).length = ns.length
  | 0 => List.length_replicate
  | n + 1 => by
    rw [dbt]
    split
    · exact dbt_len ns ms w n
    · rw [List.length_set]; exact dbt_len ns ms w n
theorem doubts_l0 {ns : List Nd} {ms : List Int} (h : marksS ns ms = true) (w : Nat) : ∀ n i : Nat, w < i → i + n = ns.length → Ev (fun k => half_doubts.l0 k ns ms (w : Int) (dbt ns ms w i) (i : Int)) (dbt ns ms w ns.length) := by
  obtain ⟨hm, hl, _⟩ := marksS_spec h
  have hlen := mayT_len hm
  intro n
  induction n with
  | zero =>
    intro i hw hi
    obtain rfl : i = ns.length := by omega
    refine Ev.step (f := fun _ => some (dbt ns ms w ns.length)) (fun k => ?_) (Ev.now _)
    rw [half_doubts.l0, if_neg (by omega)]
  | succ n ih =>
    intro i hwi hi
    have hp := mayT_pa hm i (by omega)
    have hw : wrap64 ((i : Int) + 1) = ((i + 1 : Nat) : Int) := by rw [w64 (by omega) (by omega)]; omega
    have hdl := dbt_len ns ms w i
    have hp' : (rd_T40 ns (i : Int)).f1 = pa ns i := rfl
    refine Ev.step (f := fun k => half_doubts.l0 k ns ms (w : Int) (dbt ns ms w (i + 1)) ((i + 1 : Nat) : Int)) (fun k => ?_) (ih (i + 1) (by omega) (by omega))
    rw [half_doubts.l0, if_pos (by omega), if_pos (by omega), hw, dbt, if_neg (show ¬ i ≤ w by omega), hp', Int.toNat_natCast]
    by_cases c : pa ns i = (w : Int)
    · rw [if_pos c, if_pos (by omega), if_pos (by omega), decide_eq_true c, Bool.true_or, Bool.true_and]
    · rw [if_neg c, if_pos (by omega), if_pos (by omega), decide_eq_false c, Bool.false_or]
      cases hb : rdOf false (dbt ns ms w i) (pa ns i) with
      | true => rw [if_pos rfl, if_pos (by omega), if_pos (by omega), Bool.true_and]
      | false => rw [if_neg Bool.false_ne_true, if_pos (by omega), Bool.false_and]
theorem dbt_low (ns : List Nd) (ms : List Int) (w : Nat) : ∀ n : Nat, n ≤ w + 1 → dbt ns ms w n = List.replicate ns.length false
  | 0, _ => rfl
  | n + 1, h => by rw [dbt, if_pos (by omega)]; exact dbt_low ns ms w n (by omega)
theorem doubts_ev {ns : List Nd} {ms : List Int} (h : marksS ns ms = true) (w : Nat) (hw : w < ns.length) : Ev (fun k => half_doubts.f k ns ms (w : Int)) (dbt ns ms w ns.length) := by
  obtain ⟨hm, hl, _⟩ := marksS_spec h
  have hlen := mayT_len hm
  have hw1 : wrap64 ((w : Int) + 1) = ((w + 1 : Nat) : Int) := by rw [w64 (by omega) (by omega)]; omega
  unfold half_doubts.f
  have g1 : (0 : Int) ≤ (ns.length : Int) := by omega
  have g2 : ns.length ≤ 281474976710656 := by omega
  simp only [if_pos g1, hw1, Int.toNat_natCast]
  simp only [if_pos g2]
  have := doubts_l0 h w (ns.length - (w + 1)) (w + 1) (by omega) (by omega)
  rw [dbt_low ns ms w (w + 1) (Nat.le_refl _)] at this
  exact this
theorem parB_of {ns : List Nd} (h : mayT ns = true) : parB ns = true := by
  unfold parB
  refine List.all_eq_true.2 fun i hi => decide_eq_true ?_
  have := mayT_pa h i (List.mem_range.1 hi)
  show (0 ≤ pa ns i ∧ pa ns i < (i : Int)) ∨ ((i : Int) = 0 ∧ pa ns i = -1)
  omega
def askH (ns : List Nd) (ms : List Int) : Int × Int :=
  if rd ms 0 = 2 then
    (if bestH (szH ns (dbt ns ms (lastM ms ms.length).toNat ns.length) ms) (dbt ns ms (lastM ms ms.length).toNat ns.length) ms (rd (szH ns (dbt ns ms (lastM ms ms.length).toNat ns.length) ms) (lastM ms ms.length)) ns.length < 0 then bugS ns ms (lastM ms ms.length)
      else (0, bestH (szH ns (dbt ns ms (lastM ms ms.length).toNat ns.length) ms) (dbt ns ms (lastM ms ms.length).toNat ns.length) ms (rd (szH ns (dbt ns ms (lastM ms ms.length).toNat ns.length) ms) (lastM ms ms.length)) ns.length))
  else askT ns ms
theorem askH_ev {ns : List Nd} {ms : List Int} (h : marksS ns ms = true) : Ev (fun k => half_Ask.f k ns ms) (askH ns ms) := by
  obtain ⟨hm, hl, _⟩ := marksS_spec h
  have hlen := mayT_len hm
  unfold half_Ask.f askH
  have cg : 0 < ns.length ∧ ns.length ≤ 512 ∧ ms.length = ns.length ∧ parB ns = true := ⟨hlen.1, hlen.2, hl, parB_of hm⟩
  simp only [if_pos cg]
  by_cases c : rd ms 0 = 2
  · simp only [if_pos c]
    have hr := lastM_range ms ms.length (by omega)
    refine Ev.bind (last_half_ev ms (by omega)) ?_
    obtain ⟨w, hw⟩ : ∃ w : Nat, lastM ms ms.length = (w : Int) := ⟨(lastM ms ms.length).toNat, by omega⟩
    rw [hw]
    rw [hw] at hr
    refine Ev.bind (doubts_ev h w (by omega)) ?_
    have cw : 0 ≤ (w : Int) ∧ (w : Int) < (ns.length : Int) ∧ (dbt ns ms w ns.length).length = ns.length := ⟨by omega, by omega, dbt_len ns ms w ns.length⟩
    simp only [if_pos cw, Int.toNat_natCast]
    by_cases cb : bestH (szH ns (dbt ns ms w ns.length) ms) (dbt ns ms w ns.length) ms (rd (szH ns (dbt ns ms w ns.length) ms) (w : Int)) ns.length < 0
    · simp only [if_pos cb, bug_eq h (w : Int) (by omega) (by omega)]; exact Ev.now _
    · simp only [if_neg cb]; exact Ev.now _
  · simp only [if_neg c]
    exact ask_ev h
def nextH (ns : List Nd) (ms : List Int) : Int × Int × Int := if marksS ns ms = true then ((askH ns ms).1, (askH ns ms).2, 0) else (0, 0, 1900)
theorem next_half_ev (ns : List Nd) (ms : List Int) : Ev (fun k => half_Next.f k ns ms) (nextH ns ms) := by
  unfold half_Next.f nextH
  refine Ev.bind (may_top_ev ns ms) ?_
  by_cases c : marksS ns ms = true
  · simp only [if_pos c]
    exact Ev.bind (askH_ev c) (Ev.now _)
  · simp only [if_neg c]; exact Ev.now _
theorem rdOf_set (l : List Bool) (i j : Nat) (v : Bool) : rdOf false (l.set i v) (j : Int) = if j = i ∧ i < l.length then v else rdOf false l (j : Int) := by
  show List.getD _ _ _ = if _ then _ else List.getD _ _ _
  rw [Int.toNat_natCast, List.getD_eq_getElem?_getD, List.getD_eq_getElem?_getD, List.getElem?_set]
  by_cases c : i = j
  · subst c
    by_cases d : i < l.length
    · rw [if_pos rfl, if_pos d, if_pos ⟨rfl, d⟩]; rfl
    · rw [if_pos rfl, if_neg d, if_neg (fun h => d h.2), List.getElem?_eq_none (by omega)]
  · rw [if_neg c, if_neg (fun h => c h.1.symm)]
theorem rdOf_rep (n : Nat) (j : Int) : rdOf false (List.replicate n false) j = false := by
  show List.getD _ _ _ = _
  rw [List.getD_eq_getElem?_getD, List.getElem?_replicate]
  split <;> rfl
theorem dbt_spec {ns : List Nd} (hm : mayT ns = true) (ms : List Int) (w : Nat) : ∀ n : Nat, n ≤ ns.length → ∀ j : Nat, rdOf false (dbt ns ms w n) (j : Int) = true → w < j ∧ j < n ∧ rd ms (j : Int) ≠ 1 ∧ (pa ns j = (w : Int) ∨ (0 ≤ pa ns j ∧ rdOf false (dbt ns ms w n) (pa ns j) = true))
  | 0, _, j, h => by rw [dbt, rdOf_rep] at h; cases h
  | n + 1, hn, j, h => by
    rw [dbt] at h
    by_cases c : n ≤ w
    · rw [if_pos c, dbt_low ns ms w n (by omega), rdOf_rep] at h; cases h
    · rw [if_neg c, rdOf_set] at h
      have hp := mayT_pa hm n (by omega)
      by_cases e : j = n ∧ n < (dbt ns ms w n).length
      · rw [if_pos e] at h
        obtain ⟨rfl, he⟩ := e
        rw [Bool.and_eq_true, Bool.or_eq_true, decide_eq_true_iff, bne_iff_ne] at h
        refine ⟨by omega, by omega, h.2, h.1.elim .inl fun hh => .inr ⟨by omega, ?_⟩⟩
        obtain ⟨p, hpp⟩ : ∃ p : Nat, pa ns j = (p : Int) := ⟨(pa ns j).toNat, by omega⟩
        rw [dbt, if_neg c, hpp, rdOf_set, if_neg (by omega), ← hpp]
        exact hh
      · rw [if_neg e] at h
        obtain ⟨h1, h2, h3, h4⟩ := dbt_spec hm ms w n (by omega) j h
        refine ⟨h1, by omega, h3, h4.elim .inl fun hh => .inr ⟨hh.1, ?_⟩⟩
        have hpj := mayT_pa hm j (by omega)
        obtain ⟨p, hpp⟩ : ∃ p : Nat, pa ns j = (p : Int) := ⟨(pa ns j).toNat, by omega⟩
        rw [dbt, if_neg c, hpp, rdOf_set, if_neg (by omega), ← hpp]
        exact hh.2
end Go.Proofs.YtifhpkakdlfgnaaGreatDoor.G
end
section
namespace Go.Proofs.YtifhpkakdlfgnaaGreatDoor.G
open Go.RowKit
set_option linter.unusedVariables false
set_option linter.unusedSimpArgs false
def Par (ps : List Int) : Prop := ∀ i, i < ps.length → (i = 0 ∧ ps.getD i (-1) = -1) ∨ (0 < i ∧ 0 ≤ ps.getD i (-1) ∧ ps.getD i (-1) < i)
def upB (ps : List Int) (p : Nat) : Nat → Nat → Bool
  | 0, _ => false
  | n + 1, j => j == p || (decide (0 ≤ ps.getD j (-1)) && upB ps p n (ps.getD j (-1)).toNat)
/-- does j stand below p (or is it p)? -/
def dsc (ps : List Int) (p j : Nat) : Bool := upB ps p (j + 1) j
theorem upB_fuel {ps : List Int} (hp : Par ps) (p : Nat) : ∀ n j m, j < ps.length → j < n → j < m → upB ps p n j = upB ps p m j := by
  intro n
  induction n with
  | zero => intro j m _ h; omega
  | succ n ih =>
    intro j m hj hn hm
    cases m with
    | zero => omega
    | succ m =>
      rw [upB, upB]
      by_cases c : 0 ≤ ps.getD j (-1)
      · have := hp j hj
        rw [ih (ps.getD j (-1)).toNat m (by omega) (by omega) (by omega)]
      · rw [decide_eq_false c, Bool.false_and, Bool.false_and]
theorem dsc_step {ps : List Int} (hp : Par ps) (p : Nat) {j : Nat} (hj : j < ps.length) (h0 : 0 < j) : dsc ps p j = (j == p || dsc ps p (ps.getD j (-1)).toNat) := by
  have := hp j hj
  unfold dsc
  rw [upB, decide_eq_true (show 0 ≤ ps.getD j (-1) by omega), Bool.true_and, upB_fuel hp p j _ ((ps.getD j (-1)).toNat + 1) (by omega) (by omega) (by omega)]
theorem dsc_zero {ps : List Int} (hp : Par ps) (p : Nat) (h : 0 < ps.length) : dsc ps p 0 = (0 == p) := by
  have := hp 0 h
  unfold dsc
  rw [upB, decide_eq_false (show ¬ 0 ≤ ps.getD 0 (-1) by omega), Bool.false_and, Bool.or_false]
theorem dsc_self {ps : List Int} (p : Nat) : dsc ps p p = true := by unfold dsc; rw [upB, beq_self_eq_true]; rfl
theorem dsc_le {ps : List Int} (hp : Par ps) {p : Nat} : ∀ (n j : Nat), j < n → j < ps.length → dsc ps p j = true → p ≤ j := by
  intro n
  induction n with
  | zero => intro j h; omega
  | succ n ih =>
    intro j hn hj h
    rcases Nat.eq_zero_or_pos j with rfl | h0
    · rw [dsc_zero hp p hj] at h
      have : 0 = p := beq_iff_eq.1 h
      omega
    · rw [dsc_step hp p hj h0, Bool.or_eq_true, beq_iff_eq] at h
      have h1 := hp j hj
      rcases h with rfl | h
      · exact Nat.le_refl _
      · have := ih _ (by omega) (by omega) h
        omega
theorem dsc_last {ps : List Int} (hp : Par ps) {p j : Nat} (hj : j < ps.length) (h : j < p) : dsc ps p j = false := by
  cases c : dsc ps p j with
  | false => rfl
  | true => have := dsc_le hp (j + 1) j (by omega) hj c; omega
def sumTo (f : Nat → Int) : Nat → Int
  | 0 => 0
  | n + 1 => sumTo f n + f n
theorem sumTo_congr {f g : Nat → Int} : ∀ {n : Nat}, (∀ j, j < n → f j = g j) → sumTo f n = sumTo g n
  | 0, _ => rfl
  | n + 1, h => by rw [sumTo, sumTo, sumTo_congr (fun j hj => h j (by omega)), h n (by omega)]
theorem sumTo_le {f g : Nat → Int} : ∀ {n : Nat}, (∀ j, j < n → f j ≤ g j) → sumTo f n ≤ sumTo g n
  | 0, _ => Int.le_refl _
  | n + 1, h => by
    have := sumTo_le (f := f) (g := g) (n := n) (fun j hj => h j (by omega))
    have := h n (by omega)
    rw [sumTo, sumTo]; omega
theorem sumTo_nonneg {f : Nat → Int} : ∀ {n : Nat}, (∀ j, j < n → 0 ≤ f j) → 0 ≤ sumTo f n
  | 0, _ => Int.le_refl _
  | n + 1, h => by
    have := sumTo_nonneg (f := f) (n := n) (fun j hj => h j (by omega))
    have := h n (by omega)
    rw [sumTo]; omega
theorem sumTo_zero {f : Nat → Int} : ∀ {n : Nat}, (∀ j, j < n → f j = 0) → sumTo f n = 0
  | 0, _ => rfl
  | n + 1, h => by rw [sumTo, sumTo_zero (fun j hj => h j (by omega)), h n (by omega)]; rfl
theorem sumTo_mem {f : Nat → Int} {i : Nat} : ∀ {n : Nat}, (∀ j, j < n → 0 ≤ f j) → i < n → f i ≤ sumTo f n
  | 0, _, h => by omega
  | n + 1, h, hi => by
    rw [sumTo]
    have h1 := sumTo_nonneg (f := f) (n := n) (fun j hj => h j (by omega))
    have h2 := h n (by omega)
    rcases Nat.lt_or_ge i n with c | c
    · have := sumTo_mem (f := f) (i := i) (n := n) (fun j hj => h j (by omega)) c
      omega
    · have : i = n := by omega
      rw [this]; omega
/-- a sum over a row of which one entry has grown -/
theorem sumTo_one {f g : Nat → Int} {i : Nat} {v : Int} : ∀ {n : Nat}, i < n → (∀ j, j < n → f j = if j = i then g j + v else g j) → sumTo f n = sumTo g n + v
  | 0, h, _ => by omega
  | n + 1, h, hf => by
    rw [sumTo, sumTo]
    have hn := hf n (by omega)
    rcases Nat.lt_or_ge i n with c | c
    · rw [sumTo_one (n := n) c (fun j hj => hf j (by omega)), hn, if_neg (by omega)]; omega
    · have : i = n := by omega
      rw [hn, if_pos this.symm, sumTo_congr (n := n) (f := f) (g := g) (fun j hj => by rw [hf j (by omega), if_neg (by omega)])]; omega
/-- what the program does, from the last node on -/
def szL (ps : List Int) (c : Nat → Int) : Nat → List Int → List Int
  | 0, o => o
  | n + 1, o =>
    let o1 := o.set n (wrap64 (o.getD n 0 + c n))
    szL ps c n (if 0 < n then o1.set (ps.getD n (-1)).toNat (wrap64 (o1.getD (ps.getD n (-1)).toNat 0 + o1.getD n 0)) else o1)
theorem getD_set {l : List Int} {i j : Nat} {v : Int} (h : i < l.length) : (l.set i v).getD j 0 = if j = i then v else l.getD j 0 := by
  rw [List.getD_eq_getElem?_getD, List.getD_eq_getElem?_getD, List.getElem?_set]
  by_cases c : i = j
  · subst c; rw [if_pos rfl, if_pos h, if_pos rfl]; rfl
  · rw [if_neg c, if_neg (fun h => c h.symm)]
theorem szL_eq {ps : List Int} (hp : Par ps) (c : Nat → Int) (hc : ∀ j, 0 ≤ c j) : ∀ (n : Nat) (o : List Int), n ≤ ps.length → o.length = ps.length → (∀ j, j < n → 0 ≤ o.getD j 0) → sumTo (fun j => o.getD j 0 + c j) n ≤ 9223372036854775807 →
    ∀ p, (szL ps c n o).getD p 0 = if p < n then sumTo (fun j => if dsc ps p j = true then o.getD j 0 + c j else 0) n else o.getD p 0 := by
  intro n
  induction n with
  | zero => intro o _ _ _ _ p; rw [if_neg (by omega)]; rfl
  | succ n ih =>
    intro o hn ho h0 hs p
    rw [szL]
    rw [sumTo] at hs
    have hsum0 := sumTo_nonneg (f := fun j => o.getD j 0 + c j) (n := n) (fun j hj => by have := h0 j (by omega); have := hc j; omega)
    have hn0 := h0 n (by omega)
    have hcn := hc n
    have hv : wrap64 (o.getD n 0 + c n) = o.getD n 0 + c n := by unfold wrap64; omega
    rw [hv]
    have g1 : ∀ j, (o.set n (o.getD n 0 + c n)).getD j 0 = if j = n then o.getD n 0 + c n else o.getD j 0 := fun j => getD_set (by omega)
    by_cases c0 : 0 < n
    · rw [if_pos c0]
      have hpn := hp n (by omega)
      obtain ⟨q, hq⟩ : ∃ q : Nat, (ps.getD n (-1)).toNat = q := ⟨_, rfl⟩
      have hqn : q < n := by omega
      rw [hq]
      have g2 : (o.set n (o.getD n 0 + c n)).getD q 0 + (o.set n (o.getD n 0 + c n)).getD n 0 = o.getD q 0 + (o.getD n 0 + c n) := by
        rw [g1, g1, if_neg (by omega), if_pos rfl]
      rw [g2]
      have hq1 := sumTo_mem (f := fun j => o.getD j 0 + c j) (i := q) (n := n) (fun j hj => by have := h0 j (by omega); have := hc j; omega) hqn
      have hq0 := h0 q (by omega)
      have hcq := hc q
      have hw : wrap64 (o.getD q 0 + (o.getD n 0 + c n)) = o.getD q 0 + (o.getD n 0 + c n) := by unfold wrap64; omega
      rw [hw]
      have g3 : ∀ j, ((o.set n (o.getD n 0 + c n)).set q (o.getD q 0 + (o.getD n 0 + c n))).getD j 0 = if j = q then o.getD j 0 + (o.getD n 0 + c n) else if j = n then o.getD n 0 + c n else o.getD j 0 := by
        intro j
        rw [getD_set (by rw [List.length_set]; omega), g1]
        by_cases c1 : j = q
        · rw [if_pos c1, if_pos c1, c1]
        · rw [if_neg c1, if_neg c1]
      have hs' : sumTo (fun j => ((o.set n (o.getD n 0 + c n)).set q (o.getD q 0 + (o.getD n 0 + c n))).getD j 0 + c j) n = sumTo (fun j => o.getD j 0 + c j) n + (o.getD n 0 + c n) :=
        sumTo_one hqn (fun j hj => by
          rw [g3]
          by_cases c1 : j = q
          · rw [if_pos c1, if_pos c1]; omega
          · rw [if_neg c1, if_neg c1, if_neg (by omega)])
      rw [ih _ (by omega) (by simp [ho]) (fun j hj => by
        rw [g3]
        have := h0 j (by omega)
        by_cases c1 : j = q
        · rw [if_pos c1]; omega
        · rw [if_neg c1, if_neg (by omega)]; exact this) (by rw [hs']; omega)]
      by_cases cp : p < n
      · rw [if_pos cp, if_pos (by omega), sumTo]
        have hd : dsc ps p n = dsc ps p q := by
          rw [dsc_step hp p (by omega) c0, hq, show (n == p) = false by rw [beq_eq_false_iff_ne]; omega, Bool.false_or]
        rw [hd]
        by_cases c2 : dsc ps p q = true
        · rw [if_pos c2]
          exact sumTo_one hqn (fun j hj => by
            rw [g3]
            by_cases c1 : j = q
            · rw [if_pos c1, if_pos c1, c1, if_pos c2, if_pos c2]; omega
            · rw [if_neg c1, if_neg c1, if_neg (show ¬ j = n by omega)])
        · rw [if_neg c2, Int.add_zero]
          exact sumTo_congr (fun j hj => by
            rw [g3]
            by_cases c1 : j = q
            · rw [c1, if_neg c2, if_neg c2]
            · rw [if_neg c1, if_neg (show ¬ j = n by omega)])
      · rw [if_neg cp, g3, if_neg (by omega)]
        by_cases c1 : p = n
        · rw [if_pos c1, if_pos (by omega), sumTo, c1, if_pos (dsc_self n), sumTo_zero, Int.zero_add]
          intro j hj
          rw [dsc_last hp (by omega) hj, if_neg (by decide)]
        · rw [if_neg c1, if_neg (by omega)]
    · rw [if_neg c0]
      obtain rfl : n = 0 := by omega
      show (o.set 0 (o.getD 0 0 + c 0)).getD p 0 = _
      rw [g1]
      by_cases c1 : p = 0
      · rw [if_pos c1, if_pos (by omega), c1, sumTo, sumTo, if_pos (dsc_self 0), Int.zero_add]
      · rw [if_neg c1, if_neg (by omega)]
end Go.Proofs.YtifhpkakdlfgnaaGreatDoor.G
end
section
namespace Go.Proofs.YtifhpkakdlfgnaaGreatDoor.G
open Go.RowKit Go.Proofs.YtifhpkakdlfgnaaGreatDoorW.PrintWords Go.Proofs.YtifhpkakdlfgnaaGreatDoorW.PrintLast Go.Proofs.YtifhpkakdlfgnaaGreatDoorW.PrintMore
set_option linter.unusedVariables false
set_option linter.unusedSimpArgs false
def ps (ns : List Nd) : List Int := ns.map (·.f1)
theorem ps_len (ns : List Nd) : (ps ns).length = ns.length := List.length_map ..
theorem ps_at (ns : List Nd) (i : Nat) (h : i < ns.length) : (ps ns).getD i (-1) = pa ns i := by
  unfold ps pa
  rw [rn_eq ns i h, List.getD_eq_getElem?_getD, List.getElem?_map, List.getElem?_eq_getElem h]; rfl
theorem par_of {ns : List Nd} (h : mayT ns = true) : Par (ps ns) := fun i hi => by
  rw [ps_len] at hi
  rw [ps_at ns i hi]
  have := mayT_pa h i hi
  omega
theorem sizesL_szL (ns : List Nd) (hp : Par (ps ns)) (c : Int → Int) : ∀ (n : Nat) (o : List Int), n ≤ ns.length → sizesL ns c n o = szL (ps ns) (fun j => c (j : Int)) n o
  | 0, o, _ => rfl
  | n + 1, o, h => by
    have hr : ∀ (l : List Int) (j : Nat), rd l (j : Int) = l.getD j 0 := fun l j => by show l.getD _ _ = _; rw [Int.toNat_natCast]
    rw [sizesL, szL]
    have hpa : (rn ns (n : Int)).f1 = (ps ns).getD n (-1) := (ps_at ns n (by omega)).symm
    simp only [hr]
    by_cases c0 : 0 < n
    · have hp1 := hp n (by rw [ps_len]; omega)
      have hz : (((ps ns).getD n (-1)).toNat : Int) = (ps ns).getD n (-1) := by omega
      rw [if_pos c0, if_pos c0, hpa]
      have hrp : ∀ l : List Int, rd l ((ps ns).getD n (-1)) = l.getD ((ps ns).getD n (-1)).toNat 0 := fun l => rfl
      rw [hrp]
      exact sizesL_szL ns hp c n _ (by omega)
    · rw [if_neg c0, if_neg c0]
      exact sizesL_szL ns hp c n _ (by omega)
theorem sumTo_const : ∀ (n : Nat), sumTo (fun _ => (1 : Int)) n = n
  | 0 => rfl
  | n + 1 => by rw [sumTo, sumTo_const n]; omega
theorem rep_zero (m j : Nat) : (List.replicate m (0 : Int)).getD j 0 = 0 := by
  rw [List.getD_eq_getElem?_getD, List.getElem?_replicate]
  split <;> rfl
theorem sizesP_gen {ns : List Nd} (h : mayT ns = true) (c : Int → Int) (hc : ∀ j : Nat, 0 ≤ c (j : Int)) (hs : sumTo (fun j => c (j : Int)) ns.length ≤ 9223372036854775807) (p : Nat) (hp : p < ns.length) : rd (sizesP ns c) (p : Int) = sumTo (fun j => if dsc (ps ns) p j = true then c (j : Int) else 0) ns.length := by
  have hpar := par_of h
  show (sizesP ns c).getD (p : Int).toNat 0 = _
  rw [Int.toNat_natCast]
  unfold sizesP
  rw [sizesL_szL ns hpar c _ _ (Nat.le_refl _)]
  have hz : ∀ j, (List.replicate ns.length (0 : Int)).getD j 0 + c (j : Int) = c (j : Int) := fun j => by rw [rep_zero]; omega
  have := szL_eq hpar (fun j => c (j : Int)) hc ns.length (List.replicate ns.length 0) (by rw [ps_len]; exact Nat.le_refl _) (by rw [ps_len, List.length_replicate]) (fun j _ => by rw [rep_zero]; exact Int.le_refl _)
    (by simp only [hz]; exact hs) p
  rw [this, if_pos hp]
  exact sumTo_congr (fun j _ => by rw [hz])
def one (p : Int) : Nd := ⟨0, p, [], (⟨#[49]⟩ : ByteArray)⟩
theorem kidsR_l0 (ns : List Nd) (h : mayT ns = true) (a : Int) (h0 : 0 ≤ a) : ∀ (n i : Nat), i + n = ns.length → Ev (fun k => sleuthref12_kids.l0 k ns a (kidsTo ns a i) (i : Int)) (kidsTo ns a ns.length) := by
  have hlen := mayT_len h
  intro n
  induction n with
  | zero =>
    intro i hi
    obtain rfl : i = ns.length := by omega
    refine Ev.step (f := fun _ => some (kidsTo ns a ns.length)) (fun k => ?_) (Ev.now _)
    rw [sleuthref12_kids.l0, if_neg (by omega)]
  | succ n ih =>
    intro i hi
    have hw : wrap64 ((i : Int) + 1) = ((i + 1 : Nat) : Int) := by rw [w64 (by omega) (by omega)]; omega
    have hpa := mayT_pa h i (by omega)
    refine Ev.step (f := fun k => sleuthref12_kids.l0 k ns a (kidsTo ns a (i + 1)) ((i + 1 : Nat) : Int)) (fun k => ?_) (ih (i + 1) (by omega))
    rw [sleuthref12_kids.l0, if_pos (by omega), if_pos (by omega), hw]
    by_cases c : (rn ns (i : Int)).f1 = a
    · have hk := kidsTo_len ns a i
      rw [if_pos c, if_pos (by omega), kidsTo, if_pos ⟨by unfold pa at hpa; omega, c⟩]
    · rw [if_neg c, kidsTo, if_neg (fun hh => c hh.2)]
theorem kidsR_ev {ns : List Nd} (h : mayT ns = true) (a : Int) (h0 : 0 ≤ a) : Ev (fun k => sleuthref12_kids.f k ns a) (kidsTo ns a ns.length) := kidsR_l0 ns h a h0 ns.length 0 (by omega)
theorem drop_rd (l : List Int) (i : Nat) (h : i < l.length) : l.drop i = rd l (i : Int) :: l.drop (i + 1) := by
  rw [List.drop_eq_getElem_cons h]
  congr 1
  show _ = List.getD _ _ _
  rw [Int.toNat_natCast, List.getD_eq_getElem?_getD, List.getElem?_eq_getElem h]; rfl
theorem kids_rng {ns : List Nd} {ms : List Int} (h : marksS ns ms = true) (a : Int) (h0 : 0 ≤ a) : ∀ x ∈ kidsTo ns a ns.length, 0 ≤ x ∧ x < (ms.length : Int) := fun x hx => by
  have h1 := kidsTo_rng ns a x ns.length hx
  obtain ⟨_, hl, _⟩ := marksS_spec h
  omega
theorem kids_max {ns : List Nd} {ms : List Int} (h : marksS ns ms = true) (a : Int) : (kidsTo ns a ns.length).length ≤ 9223372036854775806 := by
  obtain ⟨hm, hl, _⟩ := marksS_spec h
  have hlen := mayT_len hm
  have := kidsTo_len ns a ns.length
  omega
theorem verdict_l0 {L ms : List Int} (hL : ∀ x ∈ L, 0 ≤ x ∧ x < (ms.length : Int)) (hl : L.length ≤ 9223372036854775806) (a : Int) : ∀ n i : Nat, i + n = L.length → Ev (fun k => sleuthref12_verdict.l0 k ms a L (i : Int)) (if ((L.drop i).all fun k => rd ms k == 1) = true then (1, a) else (3, 0)) := by
  intro n
  induction n with
  | zero =>
    intro i hi
    rw [List.drop_eq_nil_of_le (by omega)]
    refine Ev.step (f := fun _ => some (1, a)) (fun k => ?_) (Ev.now _)
    rw [sleuthref12_verdict.l0, if_neg (by omega)]
  | succ n ih =>
    intro i hi
    have hw : wrap64 ((i : Int) + 1) = ((i + 1 : Nat) : Int) := by rw [w64 (by omega) (by omega)]; omega
    have hm := hL _ (rd_mem i (by omega))
    rw [drop_rd L i (by omega), List.all_cons]
    by_cases c : rd ms (rd L (i : Int)) = 1
    · rw [show (rd ms (rd L (i : Int)) == 1) = true from beq_iff_eq.2 c, Bool.true_and]
      refine Ev.step (f := fun k => sleuthref12_verdict.l0 k ms a L ((i + 1 : Nat) : Int)) (fun k => ?_) (ih (i + 1) (by omega))
      rw [sleuthref12_verdict.l0, if_pos (by omega), if_pos (by omega), if_pos hm.1, if_pos hm.2, if_pos c, hw]
    · rw [show (rd ms (rd L (i : Int)) == 1) = false from beq_eq_false_iff_ne.2 c, Bool.false_and]
      refine Ev.step (f := fun _ => some (3, 0)) (fun k => ?_) (Ev.now _)
      rw [sleuthref12_verdict.l0, if_pos (by omega), if_pos (by omega), if_pos hm.1, if_pos hm.2, if_neg c]
theorem verdict_ev {ns : List Nd} {ms : List Int} (h : marksS ns ms = true) (a : Int) (h0 : 0 ≤ a) : Ev (fun k => sleuthref12_verdict.f k ns ms a) (bugS ns ms a) := by
  unfold sleuthref12_verdict.f bugS
  refine Ev.bind (kidsR_ev (marksS_spec h).1 a h0) ?_
  exact verdict_l0 (kids_rng h a h0) (kids_max h a) a (kidsTo ns a ns.length).length 0 (by omega)
theorem rooted_eq {ns : List Nd} {ms : List Int} (h : marksS ns ms = true) (h2 : rd ms 0 ≠ 2) : sleuthref12_rooted.f (rd ms 0) = some (askT ns ms) := by
  have hlen := mayT_len (marksS_spec h).1
  have h00 := marks_at h 0 (by omega)
  rw [show ((0 : Nat) : Int) = 0 from rfl] at h00
  unfold sleuthref12_rooted.f askT
  by_cases c0 : rd ms 0 = 0
  · rw [if_pos c0, if_pos c0]
  · rw [if_neg c0, if_neg c0]
    by_cases c1 : rd ms 0 = 1
    · rw [if_pos c1, if_pos c1]
    · rw [if_neg c1, if_neg c1, if_pos (by omega)]
theorem dbt_stable (ns : List Nd) (ms : List Int) (w n : Nat) (j : Nat) (hj : j < n) : ∀ m : Nat, n ≤ m → rdOf false (dbt ns ms w m) (j : Int) = rdOf false (dbt ns ms w n) (j : Int) := by
  intro m
  induction m with
  | zero => intro h; omega
  | succ m ih =>
    intro h
    rcases Nat.lt_or_ge m n with c | c
    · obtain rfl : n = m + 1 := by omega
      rfl
    · rw [← ih c, dbt]
      split
      · rfl
      · rw [rdOf_set, if_neg (by omega)]
theorem dbt_dsc {ns : List Nd} (hm : mayT ns = true) (ms : List Int) (w : Nat) : ∀ n j : Nat, j < n → rdOf false (dbt ns ms w ns.length) (j : Int) = true → dsc (ps ns) w j = true := by
  have hpar := par_of hm
  intro n
  induction n with
  | zero => intro j h; omega
  | succ n ih =>
    intro j hj hd
    obtain ⟨h1, h2, _, h4⟩ := dbt_spec hm ms w ns.length (Nat.le_refl _) j hd
    have hp := mayT_pa hm j h2
    rw [dsc_step hpar w (by rw [ps_len]; exact h2) (by omega), ps_at ns j h2, Bool.or_eq_true]
    refine .inr ?_
    rcases h4 with h4 | h4
    · rw [h4, Int.toNat_natCast]; exact dsc_self w
    · refine ih _ (by omega) ?_
      rw [show (((pa ns j).toNat : Nat) : Int) = pa ns j by omega]
      exact h4.2
theorem oneB_range (d : List Bool) (ms : List Int) (i : Int) : 0 ≤ oneB d ms i ∧ oneB d ms i ≤ 1 := by
  unfold oneB
  split <;> omega
theorem oneB_low {ns : List Nd} (hm : mayT ns = true) (ms : List Int) (w : Nat) (j : Nat) (h : j ≤ w) : openB (dbt ns ms w ns.length) ms (j : Int) = false := by
  unfold openB
  cases c : rdOf false (dbt ns ms w ns.length) (j : Int) with
  | false => rfl
  | true =>
    have := dbt_spec hm ms w ns.length (Nat.le_refl _) j c
    omega
def oneN (ns : List Nd) (ms : List Int) (w : Nat) (j : Nat) : Int := oneB (dbt ns ms w ns.length) ms (j : Int)
theorem oneN_sum (ns : List Nd) (ms : List Int) (w : Nat) (n : Nat) : 0 ≤ sumTo (oneN ns ms w) n ∧ sumTo (oneN ns ms w) n ≤ (n : Int) := by
  refine ⟨sumTo_nonneg (fun j _ => (oneB_range _ _ _).1), ?_⟩
  have := sumTo_le (f := oneN ns ms w) (g := fun _ => 1) (n := n) (fun j _ => (oneB_range _ _ _).2)
  rw [sumTo_const] at this
  exact this
theorem half_total {ns : List Nd} {ms : List Int} (h : marksS ns ms = true) (w : Nat) (hw : w < ns.length) : rd (szH ns (dbt ns ms w ns.length) ms) (w : Int) = sumTo (oneN ns ms w) ns.length := by
  obtain ⟨hm, hl, _⟩ := marksS_spec h
  have hlen := mayT_len hm
  have hs := oneN_sum ns ms w ns.length
  have := sizesP_gen hm (oneB (dbt ns ms w ns.length) ms) (fun j => (oneB_range _ _ _).1) (by show sumTo (oneN ns ms w) ns.length ≤ _; omega) w hw
  show rd (sizesP ns _) _ = _
  rw [this]
  refine sumTo_congr (fun j hj => ?_)
  by_cases c : openB (dbt ns ms w ns.length) ms (j : Int) = true
  · have c' := c
    unfold openB at c'
    rw [Bool.and_eq_true] at c'
    rw [if_pos (dbt_dsc hm ms w (j + 1) j (by omega) c'.1)]
    rfl
  · have e : oneB (dbt ns ms w ns.length) ms (j : Int) = 0 := by unfold oneB; rw [if_neg c]
    unfold oneN
    rw [e]
    split <;> rfl
/-- the document's weights and their number, up to place n -/
def wtL (ns : List Nd) (ms : List Int) (w : Nat) : Nat → List Int
  | 0 => List.replicate ns.length 0
  | n + 1 => if openB (dbt ns ms w ns.length) ms (n : Int) = true then (wtL ns ms w n).set n 1 else wtL ns ms w n
theorem wtL_len (ns : List Nd) (ms : List Int) (w : Nat) : ∀ n : Nat, (wtL ns ms w n).length = ns.length
  | 0 => List.length_replicate
  | n + 1 => by
    rw [wtL]
    split
    · rw [List.length_set]; exact wtL_len ns ms w n
    · exact wtL_len ns ms w n
theorem rd_setN (l : List Int) (i j : Nat) (v : Int) (h : i < l.length) : rd (l.set i v) (j : Int) = if j = i then v else rd l (j : Int) := by
  show List.getD _ _ _ = if _ then _ else List.getD _ _ _
  rw [Int.toNat_natCast]
  exact getD_set h
theorem rd_rep (n j : Nat) : rd (List.replicate n 0) (j : Int) = 0 := by
  show List.getD _ _ _ = _
  rw [Int.toNat_natCast]
  exact rep_zero n j
theorem wtL_at (ns : List Nd) (ms : List Int) (w : Nat) (j : Nat) : ∀ n : Nat, n ≤ ns.length → rd (wtL ns ms w n) (j : Int) = if j < n then oneN ns ms w j else 0
  | 0, _ => by rw [wtL, rd_rep, if_neg (by omega)]
  | n + 1, hn => by
    have ih := wtL_at ns ms w j n (by omega)
    rw [wtL]
    by_cases c : openB (dbt ns ms w ns.length) ms (n : Int) = true
    · rw [if_pos c, rd_setN _ _ _ _ (by rw [wtL_len]; omega), ih]
      by_cases e : j = n
      · rw [if_pos e, if_pos (by omega), e]
        unfold oneN oneB
        rw [if_pos c]
      · rw [if_neg e]
        by_cases e2 : j < n
        · rw [if_pos e2, if_pos (by omega)]
        · rw [if_neg e2, if_neg (by omega)]
    · rw [if_neg c, ih]
      by_cases e : j = n
      · rw [if_neg (by omega), if_pos (by omega), e]
        unfold oneN oneB
        rw [if_neg c]
      · by_cases e2 : j < n
        · rw [if_pos e2, if_pos (by omega)]
        · rw [if_neg e2, if_neg (by omega)]
theorem wtL_low {ns : List Nd} (hm : mayT ns = true) (ms : List Int) (w : Nat) : ∀ n : Nat, n ≤ w + 1 → wtL ns ms w n = List.replicate ns.length 0
  | 0, _ => rfl
  | n + 1, h => by rw [wtL, oneB_low hm ms w n (by omega), if_neg Bool.false_ne_true]; exact wtL_low hm ms w n (by omega)
theorem oneN_low {ns : List Nd} (hm : mayT ns = true) (ms : List Int) (w : Nat) (j : Nat) (h : j ≤ w) : oneN ns ms w j = 0 := by
  unfold oneN oneB
  rw [oneB_low hm ms w j h, if_neg Bool.false_ne_true]
theorem halves_l1 {ns : List Nd} {ms : List Int} (h : marksS ns ms = true) (w : Nat) (hw : w < ns.length) (R : Int × Int)
    (hR : Ev (fun k => sleuthref12_byHalves.l2 k ns ms (w : Int) (dbt ns ms w ns.length) (wtL ns ms w ns.length) (sumTo (oneN ns ms w) ns.length) ((ns.length : Int) - 1)) R) :
    ∀ n i : Nat, w < i → i + n = ns.length → Ev (fun k => sleuthref12_byHalves.l1 k ns ms (w : Int) (dbt ns ms w i) (wtL ns ms w i) (sumTo (oneN ns ms w) i) (i : Int)) R := by
  obtain ⟨hm, hl, _⟩ := marksS_spec h
  have hlen := mayT_len hm
  intro n
  induction n with
  | zero =>
    intro i hwi hi
    obtain rfl : i = ns.length := by omega
    refine Ev.step (fun k => ?_) hR
    have e : wrap64 ((ns.length : Int) - 1) = (ns.length : Int) - 1 := w64 (by omega) (by omega)
    rw [sleuthref12_byHalves.l1, if_neg (by omega), e]
  | succ n ih =>
    intro i hwi hi
    have hp := mayT_pa hm i (by omega)
    have hw1 : wrap64 ((i : Int) + 1) = ((i + 1 : Nat) : Int) := by rw [w64 (by omega) (by omega)]; omega
    have hdl := dbt_len ns ms w i
    have hwl := wtL_len ns ms w i
    have hp' : (rd_T40 ns (i : Int)).f1 = pa ns i := rfl
    have hsum := oneN_sum ns ms w i
    have hw2 : wrap64 (sumTo (oneN ns ms w) i + 1) = sumTo (oneN ns ms w) i + 1 := w64 (by omega) (by omega)
    have hst := dbt_stable ns ms w (i + 1) i (by omega) ns.length (by omega)
    have key : ∀ k, (if rdOf false (dbt ns ms w (i + 1)) (i : Int) = true then (if rd ms (i : Int) = 0 then sleuthref12_byHalves.l1 k ns ms (w : Int) (dbt ns ms w (i + 1)) ((wtL ns ms w i).set i 1) (sumTo (oneN ns ms w) i + 1) ((i + 1 : Nat) : Int) else sleuthref12_byHalves.l1 k ns ms (w : Int) (dbt ns ms w (i + 1)) (wtL ns ms w i) (sumTo (oneN ns ms w) i) ((i + 1 : Nat) : Int)) else sleuthref12_byHalves.l1 k ns ms (w : Int) (dbt ns ms w (i + 1)) (wtL ns ms w i) (sumTo (oneN ns ms w) i) ((i + 1 : Nat) : Int))
        = sleuthref12_byHalves.l1 k ns ms (w : Int) (dbt ns ms w (i + 1)) (wtL ns ms w (i + 1)) (sumTo (oneN ns ms w) (i + 1)) ((i + 1 : Nat) : Int) := by
      intro k
      rw [wtL, sumTo]
      have hone : oneN ns ms w i = if openB (dbt ns ms w ns.length) ms (i : Int) = true then 1 else 0 := rfl
      rw [hone]
      have hop : openB (dbt ns ms w ns.length) ms (i : Int) = (rdOf false (dbt ns ms w (i + 1)) (i : Int) && (rd ms (i : Int) == 0)) := by unfold openB; rw [hst]
      rw [hop]
      cases rdOf false (dbt ns ms w (i + 1)) (i : Int) with
      | false => rw [if_neg Bool.false_ne_true, Bool.false_and, if_neg Bool.false_ne_true, if_neg Bool.false_ne_true, Int.add_zero]
      | true =>
        rw [if_pos rfl, Bool.true_and]
        by_cases c : rd ms (i : Int) = 0
        · rw [if_pos c, if_pos (beq_iff_eq.2 c), if_pos (beq_iff_eq.2 c)]
        · rw [if_neg c, if_neg (by rw [beq_iff_eq]; exact c), if_neg (by rw [beq_iff_eq]; exact c), Int.add_zero]
    refine Ev.step (f := fun k => sleuthref12_byHalves.l1 k ns ms (w : Int) (dbt ns ms w (i + 1)) (wtL ns ms w (i + 1)) (sumTo (oneN ns ms w) (i + 1)) ((i + 1 : Nat) : Int)) (fun k => ?_) (ih (i + 1) (by omega) (by omega))
    rw [← key k]
    have hd : dbt ns ms w (i + 1) = (dbt ns ms w i).set i ((decide (pa ns i = (w : Int)) || rdOf false (dbt ns ms w i) (pa ns i)) && (rd ms (i : Int) != 1)) := by rw [dbt, if_neg (show ¬ i ≤ w by omega)]
    rw [sleuthref12_byHalves.l1, if_pos (by omega), if_pos (by omega), hw1, hw2, hp', Int.toNat_natCast]
    by_cases c : pa ns i = (w : Int)
    · rw [decide_eq_true c, Bool.true_or, Bool.true_and] at hd
      rw [if_pos c, if_pos (by omega), if_pos (by omega), ← hd, Option.bind_some, if_pos (show (i : Int) < ((wtL ns ms w i).length : Int) by omega)]
    · rw [decide_eq_false c, Bool.false_or] at hd
      rw [if_neg c, if_pos (by omega), if_pos (by omega)]
      cases hb : rdOf false (dbt ns ms w i) (pa ns i) with
      | true =>
        rw [hb, Bool.true_and] at hd
        rw [if_pos rfl, if_pos (by omega), if_pos (by omega), ← hd, Option.bind_some, if_pos (show (i : Int) < ((wtL ns ms w i).length : Int) by omega)]
      | false =>
        rw [hb, Bool.false_and] at hd
        rw [if_neg Bool.false_ne_true, if_pos (by omega), ← hd, Option.bind_some]
        have e : rdOf false (dbt ns ms w (i + 1)) (i : Int) = false := by rw [hd, rdOf_set, if_pos ⟨rfl, by omega⟩]
        rw [e, if_neg Bool.false_ne_true, if_neg Bool.false_ne_true]
theorem rd_ne (l : List Int) (i j : Nat) (v : Int) (h : j ≠ i) : rd (l.set i v) (j : Int) = rd l (j : Int) := by
  show List.getD _ _ _ = List.getD _ _ _
  rw [Int.toNat_natCast, List.getD_eq_getElem?_getD, List.getD_eq_getElem?_getD, List.getElem?_set, if_neg (fun e => h e.symm)]
theorem sizesL_high {ns : List Nd} (hm : mayT ns = true) (c : Int → Int) (j : Nat) : ∀ (n : Nat) (o : List Int), n ≤ j → n ≤ ns.length → rd (sizesL ns c n o) (j : Int) = rd o (j : Int)
  | 0, o, _, _ => rfl
  | n + 1, o, h, hn => by
    rw [sizesL]
    have hp := mayT_pa hm n (by omega)
    have hp' : (rn ns (n : Int)).f1 = pa ns n := rfl
    rw [sizesL_high hm c j n _ (by omega) (by omega), hp']
    by_cases c0 : 0 < n
    · rw [if_pos c0, rd_ne _ _ _ _ (by omega), rd_ne _ _ _ _ (by omega)]
    · rw [if_neg c0, rd_ne _ _ _ _ (by omega)]
theorem halves_l2 {ns : List Nd} {ms : List Int} (h : marksS ns ms = true) (w : Nat) (hw : w < ns.length) (R : Int × Int) (M : Int)
    (hR : ∀ wt : List Int, wt.length = ns.length → (∀ j : Nat, w < j → j < ns.length → rd wt (j : Int) = rd (szH ns (dbt ns ms w ns.length) ms) (j : Int)) → Ev (fun k => sleuthref12_byHalves.l3 k ns ms (w : Int) (dbt ns ms w ns.length) wt M (-1) 0 ((w + 1 : Nat) : Int)) R) :
    ∀ n : Nat, w < n → n ≤ ns.length → ∀ o wt : List Int, o.length = ns.length → wt.length = ns.length → (∀ j : Nat, j < n → 0 ≤ rd o (j : Int)) → sumTo (fun j => rd o (j : Int) + oneN ns ms w j) n ≤ 512 →
      (∀ j : Nat, w < j → j < ns.length → rd wt (j : Int) = if j < n then rd o (j : Int) + oneN ns ms w j else rd o (j : Int)) → (∀ j : Nat, w < j → j < n → rdOf false (dbt ns ms w ns.length) (j : Int) = false → rd o (j : Int) = 0) →
      sizesL ns (oneB (dbt ns ms w ns.length) ms) n o = szH ns (dbt ns ms w ns.length) ms →
      Ev (fun k => sleuthref12_byHalves.l2 k ns ms (w : Int) (dbt ns ms w ns.length) wt M ((n : Int) - 1)) R := by
  obtain ⟨hm, hl, _⟩ := marksS_spec h
  have hlen := mayT_len hm
  have hdl := dbt_len ns ms w ns.length
  intro n
  induction n with
  | zero => intro hn; omega
  | succ m ih =>
    intro hwm hmN o wt ho hwt h0 hs hrel hnd hsz
    have e1 : ((m + 1 : Nat) : Int) - 1 = (m : Int) := by omega
    rw [e1]
    by_cases c : m = w
    · subst c
      have e2 : wrap64 ((m : Int) + 1) = ((m + 1 : Nat) : Int) := by rw [w64 (by omega) (by omega)]; omega
      refine Ev.step (fun k => ?_) (hR wt hwt (fun j hj hjN => ?_))
      · rw [sleuthref12_byHalves.l2, if_neg (by omega), e2]
      · rw [hrel j hj hjN, if_neg (by omega), ← hsz, sizesL_high hm _ j (m + 1) o (by omega) (by omega)]
    · have hp := mayT_pa hm m (by omega)
      obtain ⟨p, hpp⟩ : ∃ p : Nat, pa ns m = (p : Int) := ⟨(pa ns m).toNat, by omega⟩
      have hpm : p < m := by omega
      have hp' : (rn ns (m : Int)).f1 = (p : Int) := hpp
      rw [sumTo] at hs
      have hc0 : ∀ j : Nat, 0 ≤ oneN ns ms w j ∧ oneN ns ms w j ≤ 1 := fun j => oneB_range _ _ _
      have hm0 := h0 m (by omega)
      have hcm := hc0 m
      have hsum0 := sumTo_nonneg (f := fun j => rd o (j : Int) + oneN ns ms w j) (n := m) (fun j hj => by have := h0 j (by omega); have := hc0 j; omega)
      have hq1 := sumTo_mem (f := fun j => rd o (j : Int) + oneN ns ms w j) (i := p) (n := m) (fun j hj => by have := h0 j (by omega); have := hc0 j; omega) hpm
      have hp0 := h0 p (by omega)
      have hcp := hc0 p
      have hone : oneB (dbt ns ms w ns.length) ms (m : Int) = oneN ns ms w m := rfl
      have hv : wrap64 (rd o (m : Int) + oneN ns ms w m) = rd o (m : Int) + oneN ns ms w m := w64 (by omega) (by omega)
      obtain ⟨v, hvv⟩ : ∃ v, rd o (m : Int) + oneN ns ms w m = v := ⟨_, rfl⟩
      have hv0 : 0 ≤ v := by omega
      have g1m : rd (o.set m v) (m : Int) = v := by rw [rd_setN _ _ _ _ (by omega), if_pos rfl]
      have g1p : rd (o.set m v) (p : Int) = rd o (p : Int) := rd_ne _ _ _ _ (by omega)
      have hvp : wrap64 (rd o (p : Int) + v) = rd o (p : Int) + v := w64 (by omega) (by omega)
      have g2 : ∀ j : Nat, rd ((o.set m v).set p (rd o (p : Int) + v)) (j : Int) = if j = p then rd o (p : Int) + v else if j = m then v else rd o (j : Int) := by
        intro j
        rw [rd_setN _ _ _ _ (by rw [List.length_set]; omega)]
        by_cases c1 : j = p
        · rw [if_pos c1, if_pos c1]
        · rw [if_neg c1, if_neg c1, rd_setN _ _ _ _ (by omega)]
      have hnext : sizesL ns (oneB (dbt ns ms w ns.length) ms) m ((o.set m v).set p (rd o (p : Int) + v)) = szH ns (dbt ns ms w ns.length) ms := by
        rw [sizesL] at hsz
        rw [hone, hv, hvv, if_pos (by omega), hp', Int.toNat_natCast, g1m, g1p, hvp] at hsz
        exact hsz
      have hw2 : wrap64 ((m : Int) - 1) = (m : Int) - 1 := w64 (by omega) (by omega)
      have hwm1 : rd wt (m : Int) = v := by rw [hrel m (by omega) (by omega), if_pos (by omega), hvv]
      have hs2 : sumTo (fun j => rd ((o.set m v).set p (rd o (p : Int) + v)) (j : Int) + oneN ns ms w j) m = sumTo (fun j => rd o (j : Int) + oneN ns ms w j) m + v :=
        sumTo_one hpm (fun j hj => by
          rw [g2]
          by_cases c1 : j = p
          · rw [if_pos c1, if_pos c1, c1]; omega
          · rw [if_neg c1, if_neg c1, if_neg (by omega)])
      have hn2 : ∀ j : Nat, j < m → 0 ≤ rd ((o.set m v).set p (rd o (p : Int) + v)) (j : Int) := fun j hj => by
        rw [g2]
        have := h0 j (by omega)
        split
        · omega
        · rw [if_neg (by omega)]; exact this
      have hz : rdOf false (dbt ns ms w ns.length) (m : Int) = false → v = 0 := fun hd => by
        have h1 := hnd m (by omega) (by omega) hd
        have h2 : oneN ns ms w m = 0 := by
          unfold oneN oneB openB
          rw [hd, Bool.false_and, if_neg Bool.false_ne_true]
        omega
      have hd2 : ∀ j : Nat, w < j → j < m → rdOf false (dbt ns ms w ns.length) (j : Int) = false → rd ((o.set m v).set p (rd o (p : Int) + v)) (j : Int) = 0 := fun j hj hjm hd => by
        rw [g2]
        by_cases c1 : j = p
        · rw [if_pos c1]
          subst c1
          have h1 := hnd j hj (by omega) hd
          have h2 : rdOf false (dbt ns ms w ns.length) (m : Int) = false := by
            cases hq : rdOf false (dbt ns ms w ns.length) (m : Int) with
            | false => rfl
            | true =>
              obtain ⟨_, _, _, q4⟩ := dbt_spec hm ms w ns.length (Nat.le_refl _) m hq
              rw [hpp] at q4
              rcases q4 with q4 | q4
              · omega
              · rw [hd] at q4; exact absurd q4.2 Bool.false_ne_true
          rw [h1, hz h2]; rfl
        · rw [if_neg c1, if_neg (by omega)]
          exact hnd j hj (by omega) hd
      by_cases cd : rdOf false (dbt ns ms w ns.length) (m : Int) = true ∧ (p : Int) > (w : Int)
      · have hwp1 : rd wt (p : Int) = rd o (p : Int) + oneN ns ms w p := by rw [hrel p (by omega) (by omega), if_pos (by omega)]
        have hw3 : wrap64 (rd o (p : Int) + oneN ns ms w p + v) = rd o (p : Int) + oneN ns ms w p + v := w64 (by omega) (by omega)
        refine Ev.step (f := fun k => sleuthref12_byHalves.l2 k ns ms (w : Int) (dbt ns ms w ns.length) (wt.set p (rd o (p : Int) + oneN ns ms w p + v)) M ((m : Int) - 1)) (fun k => ?_)
          (ih (by omega) (by omega) _ _ (by rw [List.length_set, List.length_set]; exact ho) (by rw [List.length_set]; exact hwt) hn2 (by rw [hs2]; omega) (fun j hj hjN => ?_) hd2 hnext)
        · have hp2 : (rd_T40 ns (m : Int)).f1 = (p : Int) := hpp
          rw [sleuthref12_byHalves.l2, if_pos (by omega), if_pos (by omega), if_pos (by omega), if_pos cd.1, if_pos (by omega), hp2, if_pos cd.2, if_pos (by omega), if_pos (by omega), if_pos (by omega), hwp1, hwm1, hw3, hw2, Int.toNat_natCast]
        · rw [rd_setN _ _ _ _ (by omega), g2]
          by_cases c1 : j = p
          · rw [if_pos c1, if_pos (by omega), if_pos c1, c1]; omega
          · rw [if_neg c1, if_neg c1, hrel j hj hjN]
            by_cases c2 : j = m
            · rw [if_pos (by omega), if_neg (by omega), if_pos c2, c2, hvv]
            · rw [if_neg c2]
              by_cases c3 : j < m
              · rw [if_pos (by omega), if_pos c3]
              · rw [if_neg (by omega), if_neg c3]
      · refine Ev.step (f := fun k => sleuthref12_byHalves.l2 k ns ms (w : Int) (dbt ns ms w ns.length) wt M ((m : Int) - 1)) (fun k => ?_)
          (ih (by omega) (by omega) _ _ (by rw [List.length_set, List.length_set]; exact ho) hwt hn2 (by rw [hs2]; omega) (fun j hj hjN => ?_) hd2 hnext)
        · have hp2 : (rd_T40 ns (m : Int)).f1 = (p : Int) := hpp
          rw [sleuthref12_byHalves.l2, if_pos (by omega), if_pos (by omega), if_pos (by omega)]
          cases hq : rdOf false (dbt ns ms w ns.length) (m : Int) with
          | false => rw [if_neg Bool.false_ne_true, hw2]
          | true => rw [if_pos rfl, if_pos (by omega), hp2, if_neg (fun hh => cd ⟨hq, hh⟩), hw2]
        · rw [g2, hrel j hj hjN]
          by_cases c1 : j = p
          · have h2 : rdOf false (dbt ns ms w ns.length) (m : Int) = false := by
              cases hq : rdOf false (dbt ns ms w ns.length) (m : Int) with
              | false => rfl
              | true => exact absurd ⟨hq, by omega⟩ cd
            rw [if_pos (by omega), if_pos (by omega), if_pos c1, hz h2, c1]; omega
          · rw [if_neg c1]
            by_cases c2 : j = m
            · rw [if_pos (by omega), if_neg (by omega), if_pos c2, c2, hvv]
            · rw [if_neg c2]
              by_cases c3 : j < m
              · rw [if_pos (by omega), if_pos c3]
              · rw [if_neg (by omega), if_neg c3]
theorem bestH_low {ns : List Nd} (hm : mayT ns = true) (ms sz : List Int) (M : Int) (w : Nat) : ∀ n : Nat, n ≤ w + 1 → bestH sz (dbt ns ms w ns.length) ms M n = -1
  | 0, _ => rfl
  | n + 1, h => by
    rw [bestH, if_neg (fun hh => by rw [oneB_low hm ms w n (by omega)] at hh; exact absurd hh.1 Bool.false_ne_true)]
    exact bestH_low hm ms sz M w n (by omega)
def offO (sz : List Int) (b M : Int) : Int := if b < 0 then 0 else offW (rd sz b) M
theorem halves_l3 {ns : List Nd} {ms : List Int} (h : marksS ns ms = true) (w : Nat) (hw : w < ns.length) (sz wt : List Int) (M : Int) (hwl : wt.length = ns.length) (hwt : ∀ j : Nat, w < j → j < ns.length → rd wt (j : Int) = rd sz (j : Int)) :
    ∀ n i : Nat, w < i → i + n = ns.length → Ev (fun k => sleuthref12_byHalves.l3 k ns ms (w : Int) (dbt ns ms w ns.length) wt M (bestH sz (dbt ns ms w ns.length) ms M i) (offO sz (bestH sz (dbt ns ms w ns.length) ms M i) M) (i : Int))
      (if bestH sz (dbt ns ms w ns.length) ms M ns.length < 0 then bugS ns ms (w : Int) else (0, bestH sz (dbt ns ms w ns.length) ms M ns.length)) := by
  obtain ⟨hm, hl, _⟩ := marksS_spec h
  have hlen := mayT_len hm
  have hdl := dbt_len ns ms w ns.length
  intro n
  induction n with
  | zero =>
    intro i hwi hi
    obtain rfl : i = ns.length := by omega
    generalize bestH sz (dbt ns ms w ns.length) ms M ns.length = b
    by_cases cb : b < 0
    · rw [if_pos cb]
      refine Ev.step (f := fun k => (sleuthref12_verdict.f k ns ms (w : Int)).bind fun bt392 => (some (bt392.1, bt392.2))) (fun k => ?_) (Ev.bind (verdict_ev h (w : Int) (by omega)) (Ev.now _))
      rw [sleuthref12_byHalves.l3, if_neg (by omega), if_neg (by omega)]
    · rw [if_neg cb]
      refine Ev.step (f := fun k => some (0, b)) (fun k => ?_) (Ev.now _)
      rw [sleuthref12_byHalves.l3, if_neg (by omega), if_pos (by omega)]
  | succ n ih =>
    intro i hwi hi
    have hw1 : wrap64 ((i : Int) + 1) = ((i + 1 : Nat) : Int) := by rw [w64 (by omega) (by omega)]; omega
    have ih' := ih (i + 1) (by omega) (by omega)
    have hwi2 := hwt i hwi (by omega)
    have hb : bestH sz (dbt ns ms w ns.length) ms M (i + 1) = if openB (dbt ns ms w ns.length) ms (i : Int) = true ∧ (bestH sz (dbt ns ms w ns.length) ms M i < 0 ∨ offW (rd sz (i : Int)) M < offW (rd sz (bestH sz (dbt ns ms w ns.length) ms M i)) M) then (i : Int) else bestH sz (dbt ns ms w ns.length) ms M i := rfl
    rw [hb] at ih'
    clear hb
    generalize bestH sz (dbt ns ms w ns.length) ms M i = b at ih' ⊢
    generalize (if bestH sz (dbt ns ms w ns.length) ms M ns.length < 0 then bugS ns ms (w : Int) else (0, bestH sz (dbt ns ms w ns.length) ms M ns.length)) = R at ih' ⊢
    by_cases co : openB (dbt ns ms w ns.length) ms (i : Int) = true
    · have co' := co
      unfold openB at co'
      rw [Bool.and_eq_true, beq_iff_eq] at co'
      have hz : (rd ms (i : Int) != 0) = false := by rw [co'.2]; rfl
      refine Ev.step (f := fun k => sleuthref12_byHalves.j4 k ns ms (w : Int) (dbt ns ms w ns.length) wt M b (offO sz b M) (i : Int) false) (fun k => ?_) ?_
      · rw [sleuthref12_byHalves.l3, if_pos (by omega), if_pos (by omega), if_pos (by omega), if_pos co'.1, if_pos (by omega), hz]
      · refine Ev.step (fun k => ?_) ih'
        have hoff : mx (wrap64 ((wrap64 (2 * (rd wt (i : Int)))) - M)) (wrap64 (M - (wrap64 (2 * (rd wt (i : Int)))))) = offW (rd sz (i : Int)) M := by rw [hwi2]; rfl
        rw [sleuthref12_byHalves.j4, if_neg Bool.false_ne_true, if_pos (by omega), if_pos (by omega), hoff, hw1]
        by_cases cb : b < 0
        · rw [if_pos cb, if_pos ⟨co, .inl cb⟩]
          unfold offO
          rw [if_neg (show ¬ (i : Int) < 0 by omega)]
        · rw [if_neg cb]
          have ho : offO sz b M = offW (rd sz b) M := by unfold offO; rw [if_neg cb]
          rw [ho]
          by_cases cl : offW (rd sz (i : Int)) M < offW (rd sz b) M
          · rw [if_pos cl, if_pos ⟨co, .inr cl⟩]
            unfold offO
            rw [if_neg (show ¬ (i : Int) < 0 by omega)]
          · rw [if_neg cl, if_neg (fun hh => hh.2.elim cb cl), ho]
    · rw [if_neg (fun hh => co hh.1)] at ih'
      have co' : ¬ (rdOf false (dbt ns ms w ns.length) (i : Int) = true ∧ rd ms (i : Int) = 0) := fun hh => co (by unfold openB; rw [hh.1, hh.2]; rfl)
      refine Ev.step (f := fun k => sleuthref12_byHalves.j4 k ns ms (w : Int) (dbt ns ms w ns.length) wt M b (offO sz b M) (i : Int) true) (fun k => ?_) (Ev.step (fun k => ?_) ih')
      · rw [sleuthref12_byHalves.l3, if_pos (by omega), if_pos (by omega), if_pos (by omega)]
        cases hq : rdOf false (dbt ns ms w ns.length) (i : Int) with
        | false => rw [if_neg Bool.false_ne_true]
        | true => rw [if_pos rfl, if_pos (by omega), show (rd ms (i : Int) != 0) = true from bne_iff_ne.2 (fun hh => co' ⟨hq, hh⟩)]
      · rw [sleuthref12_byHalves.j4, if_pos rfl, hw1]
theorem halves_l0 {ns : List Nd} {ms : List Int} (h : marksS ns ms = true) (R : Int × Int)
    (hR : Ev (fun k => sleuthref12_byHalves.l1 k ns ms (lastM ms ms.length) (List.replicate ns.length false) (List.replicate ns.length 0) 0 (wrap64 (lastM ms ms.length + 1))) R) :
    ∀ n i : Nat, i + n = ns.length → Ev (fun k => sleuthref12_byHalves.l0 k ns ms (lastM ms i) (i : Int)) R := by
  obtain ⟨hm, hl, _⟩ := marksS_spec h
  have hlen := mayT_len hm
  intro n
  induction n with
  | zero =>
    intro i hi
    obtain rfl : i = ms.length := by omega
    refine Ev.step (fun k => ?_) hR
    rw [sleuthref12_byHalves.l0, if_neg (by omega), if_pos (by omega), Int.toNat_natCast, if_pos (by omega), if_pos (by omega)]
  | succ n ih =>
    intro i hi
    have hw1 : wrap64 ((i : Int) + 1) = ((i + 1 : Nat) : Int) := by rw [w64 (by omega) (by omega)]; omega
    refine Ev.step (fun k => ?_) (ih (i + 1) (by omega))
    rw [sleuthref12_byHalves.l0, if_pos (by omega), if_pos (by omega), if_pos (by omega), hw1, lastM]
    by_cases c : rd ms (i : Int) = 2
    · rw [if_pos c, if_pos c]
    · rw [if_neg c, if_neg c]
theorem byHalves_ev {ns : List Nd} {ms : List Int} (h : marksS ns ms = true) : Ev (fun k => sleuthref12_byHalves.f k ns ms) (askH ns ms) := by
  obtain ⟨hm, hl, _⟩ := marksS_spec h
  have hlen := mayT_len hm
  unfold sleuthref12_byHalves.f
  have g : (0 : Int) < (ms.length : Int) := by omega
  simp only [if_pos g]
  by_cases c2 : rd ms 0 = 2
  · simp only [if_pos c2]
    have hr := lastM_range ms ms.length (by omega)
    obtain ⟨w, hwe⟩ : ∃ w : Nat, lastM ms ms.length = (w : Int) := ⟨(lastM ms ms.length).toNat, by omega⟩
    have hw : w < ns.length := by omega
    have e : askH ns ms = if bestH (szH ns (dbt ns ms w ns.length) ms) (dbt ns ms w ns.length) ms (sumTo (oneN ns ms w) ns.length) ns.length < 0 then bugS ns ms (w : Int) else (0, bestH (szH ns (dbt ns ms w ns.length) ms) (dbt ns ms w ns.length) ms (sumTo (oneN ns ms w) ns.length) ns.length) := by
      unfold askH
      rw [if_pos c2, hwe, Int.toNat_natCast, half_total h w hw]
    rw [e]
    refine halves_l0 h _ ?_ ns.length 0 (by omega)
    have e2 : wrap64 ((w : Int) + 1) = ((w + 1 : Nat) : Int) := by rw [w64 (by omega) (by omega)]; omega
    rw [hwe, e2]
    have hz : sumTo (oneN ns ms w) (w + 1) = 0 := sumTo_zero (fun j hj => oneN_low hm ms w j (by omega))
    have h2 : Ev (fun k => sleuthref12_byHalves.l2 k ns ms (w : Int) (dbt ns ms w ns.length) (wtL ns ms w ns.length) (sumTo (oneN ns ms w) ns.length) ((ns.length : Int) - 1))
        (if bestH (szH ns (dbt ns ms w ns.length) ms) (dbt ns ms w ns.length) ms (sumTo (oneN ns ms w) ns.length) ns.length < 0 then bugS ns ms (w : Int) else (0, bestH (szH ns (dbt ns ms w ns.length) ms) (dbt ns ms w ns.length) ms (sumTo (oneN ns ms w) ns.length) ns.length)) := by
      have hs := oneN_sum ns ms w ns.length
      refine halves_l2 h w hw _ _ (fun wt hwl hwt => ?_) ns.length hw (Nat.le_refl _) (List.replicate ns.length 0) (wtL ns ms w ns.length) List.length_replicate (wtL_len ns ms w ns.length) (fun j hj => by rw [rd_rep]; exact Int.le_refl _) ?_ (fun j hj hjN => ?_) (fun j _ _ _ => rd_rep _ _) rfl
      · have h3 := halves_l3 h w hw (szH ns (dbt ns ms w ns.length) ms) wt (sumTo (oneN ns ms w) ns.length) hwl hwt (ns.length - (w + 1)) (w + 1) (by omega) (by omega)
        rw [bestH_low hm ms _ _ w (w + 1) (Nat.le_refl _)] at h3
        exact h3
      · have e3 : sumTo (fun j => rd (List.replicate ns.length 0) (j : Int) + oneN ns ms w j) ns.length = sumTo (oneN ns ms w) ns.length := sumTo_congr (fun j hj => by rw [rd_rep, Int.zero_add])
        rw [e3]; omega
      · rw [wtL_at ns ms w j ns.length (Nat.le_refl _), if_pos hjN, if_pos hjN, rd_rep, Int.zero_add]
    have h1 := halves_l1 h w hw _ h2 (ns.length - (w + 1)) (w + 1) (by omega) (by omega)
    rw [dbt_low ns ms w (w + 1) (Nat.le_refl _), wtL_low hm ms w (w + 1) (Nat.le_refl _), hz] at h1
    exact h1
  · simp only [if_neg c2, rooted_eq h c2, Option.bind_some]
    have e : askH ns ms = askT ns ms := by unfold askH; rw [if_neg c2]
    rw [e]
    exact Ev.now _
end Go.Proofs.YtifhpkakdlfgnaaGreatDoor.G
end
