/- Parts of this proof, one behind the other: G24, G25, G26, G27. -/
import Derived.Test.YtnhmmbgnaogokaaDoorTHead
import Derived.Test.YtnhmmbgnaogokaaDoorG0
import Derived.Test.YtnhmmbgnaogokaaDoorU8
section
namespace Go.Proofs.YtnhmmbgnaogokaaDoor.G
open Go.RowKit Go.Proofs.YtnhmmbgnaogokaaDoorW.PrintWords Go.Proofs.YtnhmmbgnaogokaaDoorW.PrintLast Go.Proofs.YtnhmmbgnaogokaaDoorW.PrintMore
set_option maxHeartbeats 8000000
set_option maxRecDepth 100000
attribute [local go_sem] max2_int min2_int max_two min_two max_three min_three max_four min_four   -- for this text's walks alone
set_option linter.unusedVariables false
set_option linter.unusedSimpArgs false

def sleuthlaw0_SameTexts.l0 : Nat → List ByteArray → List ByteArray → Int → Option (Bool)
 | 0, _, _, _ => none
 | k + 1, x0, x1, x5 => if x5 < (x0.length : Int) then (if 0 ≤ x5 then (if x5 < (x1.length : Int) then (if (rdOf ByteArray.empty x0 x5).toList = (rdOf ByteArray.empty x1 x5).toList then (sleuthlaw0_SameTexts.l0 k x0 x1 (wrap64 (x5 + 1))) else (some false)) else (none)) else (none)) else (some true)
def sleuthlaw0_SameTexts.f (k : Nat) (l0 : List ByteArray) (l1 : List ByteArray) : Option (Bool) := if (l0.length : Int) = (l1.length : Int) then (sleuthlaw0_SameTexts.l0 k l0 l1 0) else (some false)
theorem sleuthlaw0_SameTexts.calls (k : Nat) (A0 : Option Addr) (c0 : Nat) (l0 : List ByteArray) (A1 : Option Addr) (c1 : Nat) (l1 : List ByteArray) (r : Bool) (w : World) (hr0 : Kd.C Kd.string w A0 l0.length l0) (hc0 : l0.length ≤ c0) (hr1 : Kd.C Kd.string w A1 l1.length l1) (hc1 : l1.length ≤ c1) (h : sleuthlaw0_SameTexts.f k l0 l1 = some r) :
 Calls Tryd.prog 35 #[.slice A0 l0.length c0, .slice A1 l1.length c1] w fun e w' => e = .returned (.bool r) ∧ Drawn0 w w' := by
 have HR0 := a_ hr0
 have HC0 := a_ hc0
 clear hr0 hc0
 have HR1 := a_ hr1
 have HC1 := a_ hc1
 clear hr1 hc1
 have H := h; unfold sleuthlaw0_SameTexts.f at H
 clear h
 by_cases c3 : (l0.length : Int) = (l1.length : Int)
 case neg =>
  rw [if_neg c3] at H
  have c3b0 : ((l0.length : Int) == (l1.length : Int)) = false := beq_eq_false_iff_ne.mpr c3
  have c3b1 : ((l0.length : Int) != (l1.length : Int)) = true := bne_iff_ne.mpr c3
  have c3b2 : (l0.length == l1.length) = false := by first | simpa using c3 | (simp at c3 ⊢; omega)
  obtain rfl := Option.some.inj H
  go_enter Tryd.func35, Tryd.ntmps35
  go_wp2
  repeat (go_quiet (fail); try go_wp2)
  go_ret
  exact ⟨by first | rfl | (simp; done) | (simp [*]; done), by repeat (first | exact Drawn0.refl _ | apply Drawn0.step)⟩

 rw [if_pos c3] at H
 have c3b0 : ((l0.length : Int) == (l1.length : Int)) = true := beq_iff_eq.mpr c3
 have c3b1 : ((l0.length : Int) != (l1.length : Int)) = false := bne_eq_false_iff_eq.mpr c3
 have c3b2 : (l0.length == l1.length) = true := by first | simpa using c3 | (simp at c3 ⊢; omega)
 clear c3
 have H' := a_ H
 clear H
 go_enter Tryd.func35, Tryd.ntmps35
 go_wp2
 repeat (go_quiet (fail); try go_wp2)
 go_loopg [5] k (fun kq v5 w' => ∃ (x0 : Int), v5 = .int .i64 x0 ∧ Aside0 (sleuthlaw0_SameTexts.l0 kq l0 l1 x0 = some r) ∧ Aside0 (kq ≤ k) ∧ Drawn0 w w')
 case atStart => exact ⟨(0), hW_, H', ⟨Nat.le_refl _⟩, by repeat (first | exact Drawn0.refl _ | apply Drawn0.step)⟩
 case round =>
  clear H'
  try clear c1
  try clear p2
  try clear c3
  try clear c3b0
  try clear c3b1
  try clear c3b2
  obtain ⟨x0, rfl, HA, HK1, ⟨m1, rfl⟩⟩ := hrel
  cases gk with
  | zero => exact absurd HA.out (by simp [sleuthlaw0_SameTexts.l0])
  | succ k1 =>
   have H := HA.out
   clear HA
   simp only [sleuthlaw0_SameTexts.l0] at H
   by_cases c4 : x0 < (l0.length : Int)
   case neg =>
    rw [if_neg c4] at H
    have c4b0 : decide (x0 < (l0.length : Int)) = false := decide_eq_false c4
    clear c4
    obtain rfl := Option.some.inj H
    go_wp2
    repeat (go_quiet (fail); try go_wp2)
    go_ret
    exact ⟨by first | rfl | (simp; done) | (simp [*]; done), by repeat (first | exact Drawn0.refl _ | apply Drawn0.step)⟩
   rw [if_pos c4] at H
   have c4b0 : decide (x0 < (l0.length : Int)) = true := decide_eq_true c4
   clear c4
   replace H := ifI_ H; obtain ⟨c5, H⟩ := H
   have c5b0 : decide (0 ≤ x0) = true := decide_eq_true c5
   clear c5
   replace H := ifI_ H; obtain ⟨c6, H⟩ := H
   have c6b0 : decide (x0 < (l1.length : Int)) = true := decide_eq_true c6
   clear c6
   by_cases c7 : (rdOf ByteArray.empty l0 x0).toList = (rdOf ByteArray.empty l1 x0).toList
   case neg =>
    rw [if_neg c7] at H
    have c7b0 : ((rdOf ByteArray.empty l0 x0).toList == (rdOf ByteArray.empty l1 x0).toList) = false := beq_eq_false_iff_ne.mpr c7
    have c7b1 : ((rdOf ByteArray.empty l0 x0).toList != (rdOf ByteArray.empty l1 x0).toList) = true := bne_iff_ne.mpr c7
    obtain rfl := Option.some.inj H
    have p164 : 0 ≤ (x0 : Int) := of_decide_eq_true hA_
    have q164 : x0 < (l0.length : Int) := of_decide_eq_true hA_
    obtain ⟨d0, e164, h0⟩ := Kd.at_string HR0.out x0 p164 q164
    cases e164
    replace p164 := eq_true p164
    replace q164 := eq_true q164
    have p165 : 0 ≤ (x0 : Int) := of_decide_eq_true hA_
    have q165 : x0 < (l1.length : Int) := of_decide_eq_true hA_
    obtain ⟨d1, e165, h1⟩ := Kd.at_string HR1.out x0 p165 q165
    cases e165
    replace p165 := eq_true p165
    replace q165 := eq_true q165
    go_wp2
    repeat (go_quiet (fail); try go_wp2)
    go_ret
    exact ⟨by first | rfl | (simp; done) | (simp [*]; done), by repeat (first | exact Drawn0.refl _ | apply Drawn0.step)⟩
   rw [if_pos c7] at H
   have c7b0 : ((rdOf ByteArray.empty l0 x0).toList == (rdOf ByteArray.empty l1 x0).toList) = true := beq_iff_eq.mpr c7
   have c7b1 : ((rdOf ByteArray.empty l0 x0).toList != (rdOf ByteArray.empty l1 x0).toList) = false := bne_eq_false_iff_eq.mpr c7
   clear c7
   have H' := a_ H
   clear H
   have p164 : 0 ≤ (x0 : Int) := of_decide_eq_true hA_
   have q164 : x0 < (l0.length : Int) := of_decide_eq_true hA_
   obtain ⟨d0, e164, h0⟩ := Kd.at_string HR0.out x0 p164 q164
   cases e164
   replace p164 := eq_true p164
   replace q164 := eq_true q164
   have p165 : 0 ≤ (x0 : Int) := of_decide_eq_true hA_
   have q165 : x0 < (l1.length : Int) := of_decide_eq_true hA_
   obtain ⟨d1, e165, h1⟩ := Kd.at_string HR1.out x0 p165 q165
   cases e165
   replace p165 := eq_true p165
   replace q165 := eq_true q165
   go_wp2
   repeat (go_quiet (fail); try go_wp2)
   go_roundg k1
   case measure => have := HK1.out; omega
   case rel => exact ⟨(wrap64 (x0 + 1)), hW_, H', ⟨by have := HK1.out; omega⟩, by repeat (first | exact Drawn0.refl _ | apply Drawn0.step)⟩
def sleuthlaw0_SameNode.f (k : Nat) (a0_0 : Int) (a0_1 : Int) (l0_2 : List ByteArray) (a0_3 : ByteArray) (a1_0 : Int) (a1_1 : Int) (l1_2 : List ByteArray) (a1_3 : ByteArray) : Option (Bool) := if a0_0 = a1_0 then (if a0_1 = a1_1 then ((sleuthlaw0_SameTexts.f k l0_2 l1_2).bind fun t168 => (if t168 = true then (some (a0_3.toList == a1_3.toList)) else (some false))) else (some false)) else (some false)
theorem sleuthlaw0_SameNode.calls (k : Nat) (a0_0 : Int) (a0_1 : Int) (A0_2 : Option Addr) (c0_2 : Nat) (l0_2 : List ByteArray) (a0_3 : ByteArray) (a1_0 : Int) (a1_1 : Int) (A1_2 : Option Addr) (c1_2 : Nat) (l1_2 : List ByteArray) (a1_3 : ByteArray) (r : Bool) (w : World) (hr0_2 : Kd.C Kd.string w A0_2 l0_2.length l0_2) (hc0_2 : l0_2.length ≤ c0_2) (hr1_2 : Kd.C Kd.string w A1_2 l1_2.length l1_2) (hc1_2 : l1_2.length ≤ c1_2) (h : sleuthlaw0_SameNode.f k a0_0 a0_1 l0_2 a0_3 a1_0 a1_1 l1_2 a1_3 = some r) :
 Calls Tryd.prog 23 #[.agg #[.int .i64 a0_0, .int .i64 a0_1, .slice A0_2 l0_2.length c0_2, .string a0_3], .agg #[.int .i64 a1_0, .int .i64 a1_1, .slice A1_2 l1_2.length c1_2, .string a1_3]] w fun e w' => e = .returned (.bool r) ∧ Below w.heap.size w w' := by
 have hu37 := Tryd.underlying37
 have HR0_2 := a_ hr0_2
 have HC0_2 := a_ hc0_2
 clear hr0_2 hc0_2
 have HR1_2 := a_ hr1_2
 have HC1_2 := a_ hc1_2
 clear hr1_2 hc1_2
 have HB := a_ (Below.refl w.heap.size w)
 have H := h; unfold sleuthlaw0_SameNode.f at H
 clear h
 by_cases c3 : a0_0 = a1_0
 case neg =>
  rw [if_neg c3] at H
  have c3b0 : (a0_0 == a1_0) = false := beq_eq_false_iff_ne.mpr c3
  have c3b1 : (a0_0 != a1_0) = true := bne_iff_ne.mpr c3
  obtain rfl := Option.some.inj H
  go_enter Tryd.func23, Tryd.ntmps23
  go_wp2_with (first | ((with_reducible refine gate_dst (N := 2) rfl ?_); refine boxE_ 2 #[.int .i64 a0_0, .int .i64 a0_1, .slice A0_2 l0_2.length c0_2, .string a0_3] 37 ?_; intro g0 hg w0 hbox hb; have B0 := a_ (hbox); have E0 := a_ ((gE_ hg : w.heap.size ≤ g0)); replace HB := a_ (below_step hB_ hb); clear hb hbox hg) | ((with_reducible refine gate_dst (N := 3) rfl ?_); refine boxE_ 3 #[.int .i64 a1_0, .int .i64 a1_1, .slice A1_2 l1_2.length c1_2, .string a1_3] 37 ?_; intro g1 hg w1 hbox hb; have B1 := a_ (hbox); have E1 := a_ ((gE_ hg : w.heap.size ≤ g1)); replace HB := a_ (below_step hC_ hb); have N0 := a_ ((bL_ B0.out hg : g0 ≠ g1)); have N1 := a_ ((bG_ B0.out hg : g1 ≠ g0)); replace B0 := a_ (bB_ B0.out hb); clear hb hbox hg; have m0 := N0.out; have n0 := N1.out; obtain ⟨z0, z1, z2, z3, f0, f1, f2, f3⟩ := bx4_ B0.out; obtain ⟨z4, z5, z6, z7, f4, f5, f6, f7⟩ := bx4_ B1.out))
  go_ret
  exact ⟨hV_, hC_⟩

 rw [if_pos c3] at H
 have c3b0 : (a0_0 == a1_0) = true := beq_iff_eq.mpr c3
 have c3b1 : (a0_0 != a1_0) = false := bne_eq_false_iff_eq.mpr c3
 clear c3
 by_cases c4 : a0_1 = a1_1
 case neg =>
  rw [if_neg c4] at H
  have c4b0 : (a0_1 == a1_1) = false := beq_eq_false_iff_ne.mpr c4
  have c4b1 : (a0_1 != a1_1) = true := bne_iff_ne.mpr c4
  obtain rfl := Option.some.inj H
  go_enter Tryd.func23, Tryd.ntmps23
  go_wp2_with (first | ((with_reducible refine gate_dst (N := 2) rfl ?_); refine boxE_ 2 #[.int .i64 a0_0, .int .i64 a0_1, .slice A0_2 l0_2.length c0_2, .string a0_3] 37 ?_; intro g0 hg w2 hbox hb; have B0 := a_ (hbox); have E0 := a_ ((gE_ hg : w.heap.size ≤ g0)); replace HB := a_ (below_step hB_ hb); clear hb hbox hg) | ((with_reducible refine gate_dst (N := 3) rfl ?_); refine boxE_ 3 #[.int .i64 a1_0, .int .i64 a1_1, .slice A1_2 l1_2.length c1_2, .string a1_3] 37 ?_; intro g1 hg w3 hbox hb; have B1 := a_ (hbox); have E1 := a_ ((gE_ hg : w.heap.size ≤ g1)); replace HB := a_ (below_step hC_ hb); have N0 := a_ ((bL_ B0.out hg : g0 ≠ g1)); have N1 := a_ ((bG_ B0.out hg : g1 ≠ g0)); replace B0 := a_ (bB_ B0.out hb); clear hb hbox hg; have m1 := N0.out; have n1 := N1.out; obtain ⟨z8, z9, z10, z11, f8, f9, f10, f11⟩ := bx4_ B0.out; obtain ⟨z12, z13, z14, z15, f12, f13, f14, f15⟩ := bx4_ B1.out))
  go_ret
  exact ⟨hV_, hC_⟩
 rw [if_pos c4] at H
 have c4b0 : (a0_1 == a1_1) = true := beq_iff_eq.mpr c4
 have c4b1 : (a0_1 != a1_1) = false := bne_eq_false_iff_eq.mpr c4
 clear c4
 replace H := Option.bind_eq_some_iff.mp H
 obtain ⟨t0, A50, H⟩ := H
 try dsimp only at H
 have A5 := a_ A50
 clear A50
 by_cases c6 : t0 = true
 case pos =>
  subst c6
  rw [if_pos rfl] at H
  obtain rfl := Option.some.inj H
  go_enter Tryd.func23, Tryd.ntmps23
  go_wp2_with (first | ((with_reducible refine gate_dst (N := 2) rfl ?_); refine boxE_ 2 #[.int .i64 a0_0, .int .i64 a0_1, .slice A0_2 l0_2.length c0_2, .string a0_3] 37 ?_; intro g0 hg w7 hbox hb; have B0 := a_ (hbox); have E0 := a_ ((gE_ hg : w.heap.size ≤ g0)); replace HB := a_ (below_step hB_ hb); clear hb hbox hg) | ((with_reducible refine gate_dst (N := 3) rfl ?_); refine boxE_ 3 #[.int .i64 a1_0, .int .i64 a1_1, .slice A1_2 l1_2.length c1_2, .string a1_3] 37 ?_; intro g1 hg w8 hbox hb; have B1 := a_ (hbox); have E1 := a_ ((gE_ hg : w.heap.size ≤ g1)); replace HB := a_ (below_step hC_ hb); have N0 := a_ ((bL_ B0.out hg : g0 ≠ g1)); have N1 := a_ ((bG_ B0.out hg : g1 ≠ g0)); replace B0 := a_ (bB_ B0.out hb); clear hb hbox hg; have m2 := N0.out; have n2 := N1.out; obtain ⟨z16, z17, z18, z19, f16, f17, f18, f19⟩ := bx4_ B0.out; obtain ⟨z20, z21, z22, z23, f20, f21, f22, f23⟩ := bx4_ B1.out) | (go_at_call 35; (with_reducible refine (sleuthlaw0_SameTexts.calls k _ _ l0_2 _ _ l1_2 true _ ?s1 ?s2 ?s3 ?s4 A5.out).mono ?_); (case s1 => exact cB_ HR0_2.out); (case s2 => exact HC0_2.out); (case s3 => exact cB_ HR1_2.out); (case s4 => exact HC1_2.out); rintro e w' ⟨rfl, ⟨nd, rfl⟩⟩))
  go_ret
  exact ⟨hV_, hC_⟩
 replace c6 := Bool.eq_false_iff.mpr c6
 subst c6
 rw [if_neg (show ¬ (false = true) by decide)] at H
 obtain rfl := Option.some.inj H
 go_enter Tryd.func23, Tryd.ntmps23
 go_wp2_with (first | ((with_reducible refine gate_dst (N := 2) rfl ?_); refine boxE_ 2 #[.int .i64 a0_0, .int .i64 a0_1, .slice A0_2 l0_2.length c0_2, .string a0_3] 37 ?_; intro g0 hg w4 hbox hb; have B0 := a_ (hbox); have E0 := a_ ((gE_ hg : w.heap.size ≤ g0)); replace HB := a_ (below_step hB_ hb); clear hb hbox hg) | ((with_reducible refine gate_dst (N := 3) rfl ?_); refine boxE_ 3 #[.int .i64 a1_0, .int .i64 a1_1, .slice A1_2 l1_2.length c1_2, .string a1_3] 37 ?_; intro g1 hg w5 hbox hb; have B1 := a_ (hbox); have E1 := a_ ((gE_ hg : w.heap.size ≤ g1)); replace HB := a_ (below_step hC_ hb); have N0 := a_ ((bL_ B0.out hg : g0 ≠ g1)); have N1 := a_ ((bG_ B0.out hg : g1 ≠ g0)); replace B0 := a_ (bB_ B0.out hb); clear hb hbox hg; have m3 := N0.out; have n3 := N1.out; obtain ⟨z24, z25, z26, z27, f24, f25, f26, f27⟩ := bx4_ B0.out; obtain ⟨z28, z29, z30, z31, f28, f29, f30, f31⟩ := bx4_ B1.out) | (go_at_call 35; (with_reducible refine (sleuthlaw0_SameTexts.calls k _ _ l0_2 _ _ l1_2 false _ ?s1 ?s2 ?s3 ?s4 A5.out).mono ?_); (case s1 => exact cB_ HR0_2.out); (case s2 => exact HC0_2.out); (case s3 => exact cB_ HR1_2.out); (case s4 => exact HC1_2.out); rintro e w' ⟨rfl, ⟨nd, rfl⟩⟩))
 go_ret
 exact ⟨hV_, hC_⟩
set_option maxHeartbeats 8000000
set_option maxRecDepth 100000
attribute [local go_sem] max2_int min2_int max_two min_two max_three min_three max_four min_four   -- for this text's walks alone
set_option linter.unusedVariables false
set_option linter.unusedSimpArgs false

def sleuthlaw0_SameNodes.l0 : Nat → List (S37) → List (S37) → Int → Option (Bool)
 | 0, _, _, _ => none
 | k + 1, x0, x1, x5 => if x5 < (x0.length : Int) then (if 0 ≤ x5 then (if x5 < (x1.length : Int) then ((sleuthlaw0_SameNode.f k ((rd_T37 x0 x5).f0) ((rd_T37 x0 x5).f1) ((rd_T37 x0 x5).f2) ((rd_T37 x0 x5).f3) ((rd_T37 x1 x5).f0) ((rd_T37 x1 x5).f1) ((rd_T37 x1 x5).f2) ((rd_T37 x1 x5).f3)).bind fun t171 => (if t171 = true then (sleuthlaw0_SameNodes.l0 k x0 x1 (wrap64 (x5 + 1))) else (some false))) else (none)) else (none)) else (some true)
def sleuthlaw0_SameNodes.f (k : Nat) (l0 : List (S37)) (l1 : List (S37)) : Option (Bool) := if (l0.length : Int) = (l1.length : Int) then (sleuthlaw0_SameNodes.l0 k l0 l1 0) else (some false)
def sleuthlaw0_SameNodes.T6 : Bool × List (List Nat × List Nat) := (true, [([], []), ([], []), ([0, 1], [0, 1]), ([2], [2]), ([], []), ([], []), ([4, 5], [4, 5]), ([6], [6]), ([3, 7], [3, 7]), ([8], [8])])
def sleuthlaw0_SameNodes.B6 : List Nat := [0, 0, 3, 7, 0, 0, 48, 112, 255, 511]
theorem sleuthlaw0_SameNodes.tab6 : rtab .any (opsOf Tryd.f11 6) = sleuthlaw0_SameNodes.T6 := by kernel_rfl
theorem sleuthlaw0_SameNodes.bits6 : waitsOk sleuthlaw0_SameNodes.T6.2 sleuthlaw0_SameNodes.B6 = true := by kernel_rfl
theorem sleuthlaw0_SameNodes.calls (k : Nat) (A0 : Option Addr) (c0 : Nat) (l0 : List (S37)) (A1 : Option Addr) (c1 : Nat) (l1 : List (S37)) (r : Bool) (w : World) (hr0 : Kd.C k37 w A0 l0.length l0) (hc0 : l0.length ≤ c0) (hr1 : Kd.C k37 w A1 l1.length l1) (hc1 : l1.length ≤ c1) (h : sleuthlaw0_SameNodes.f k l0 l1 = some r) :
 Calls Tryd.prog 11 #[.slice A0 l0.length c0, .slice A1 l1.length c1] w fun e w' => e = .returned (.bool r) ∧ Below w.heap.size w w' := by
 have hu37 := Tryd.underlying37
 have HR0 := a_ hr0
 have HC0 := a_ hc0
 clear hr0 hc0
 have HR1 := a_ hr1
 have HC1 := a_ hc1
 clear hr1 hc1
 have HB := a_ (Below.refl w.heap.size w)
 have H := h; unfold sleuthlaw0_SameNodes.f at H
 clear h
 by_cases c3 : (l0.length : Int) = (l1.length : Int)
 case neg =>
  rw [if_neg c3] at H
  have c3b0 : ((l0.length : Int) == (l1.length : Int)) = false := beq_eq_false_iff_ne.mpr c3
  have c3b1 : ((l0.length : Int) != (l1.length : Int)) = true := bne_iff_ne.mpr c3
  have c3b2 : (l0.length == l1.length) = false := by first | simpa using c3 | (simp at c3 ⊢; omega)
  obtain rfl := Option.some.inj H
  go_enter Tryd.func11, Tryd.ntmps11
  go_wp2
  go_ret
  exact ⟨hV_, hC_⟩

 rw [if_pos c3] at H
 have c3b0 : ((l0.length : Int) == (l1.length : Int)) = true := beq_iff_eq.mpr c3
 have c3b1 : ((l0.length : Int) != (l1.length : Int)) = false := bne_eq_false_iff_eq.mpr c3
 have c3b2 : (l0.length == l1.length) = true := by first | simpa using c3 | (simp at c3 ⊢; omega)
 clear c3
 have H' := a_ H
 clear H
 go_enter Tryd.func11, Tryd.ntmps11
 go_wp2
 go_loopg [5] k (fun kq v5 w' => ∃ (x0 : Int), v5 = .int .i64 x0 ∧ Aside0 (sleuthlaw0_SameNodes.l0 kq l0 l1 x0 = some r) ∧ Aside0 (kq ≤ k) ∧ Aside0 (Below w.heap.size w w'))
 case atStart => exact ⟨(0), hW_, H', ⟨Nat.le_refl _⟩, ⟨hC_⟩⟩
 case round =>
  clear H'
  try clear c1
  try clear p2
  try clear c3
  try clear c3b0
  try clear c3b1
  try clear c3b2
  obtain ⟨x0, rfl, HA, HK1, HB⟩ := hrel
  cases gk with
  | zero => exact absurd HA.out (by simp [sleuthlaw0_SameNodes.l0])
  | succ k1 =>
   have H := HA.out
   clear HA
   simp only [sleuthlaw0_SameNodes.l0] at H
   by_cases c4 : x0 < (l0.length : Int)
   case neg =>
    rw [if_neg c4] at H
    have c4b0 : decide (x0 < (l0.length : Int)) = false := decide_eq_false c4
    clear c4
    obtain rfl := Option.some.inj H
    go_wp2
    go_ret
    exact ⟨hV_, hC_⟩
   rw [if_pos c4] at H
   have c4b0 : decide (x0 < (l0.length : Int)) = true := decide_eq_true c4
   clear c4
   replace H := ifI_ H; obtain ⟨c5, H⟩ := H
   have c5b0 : decide (0 ≤ x0) = true := decide_eq_true c5
   clear c5
   replace H := ifI_ H; obtain ⟨c6, H⟩ := H
   have c6b0 : decide (x0 < (l1.length : Int)) = true := decide_eq_true c6
   clear c6
   replace H := Option.bind_eq_some_iff.mp H
   obtain ⟨t0, A70, H⟩ := H
   try dsimp only at H
   have A7 := a_ A70
   clear A70
   by_cases c8 : t0 = true
   case neg =>
    replace c8 := Bool.eq_false_iff.mpr c8
    subst c8
    rw [if_neg (show ¬ (false = true) by decide)] at H
    obtain rfl := Option.some.inj H
    try go_wp2
    replace HB := a_ (below_drew1 HB.out)
    have p169 : 0 ≤ (x0 : Int) := of_decide_eq_true hA_
    have q169 : x0 < (l0.length : Int) := of_decide_eq_true hA_
    obtain ⟨d0, A169_2, c169_2, e169, h0, h1, h2, h3, hl169_2, hi169_2⟩ := at_T37 HR0.out x0 p169 q169
    have hw169_3 := h3
    have hw169_2 := h2
    have hw169_1 := h1
    have hw169_0 := h0
    cases e169
    replace h0 := cl_ HB.out h0
    replace h1 := cl_ HB.out h1
    replace h2 := cl_ HB.out h2
    replace h3 := cl_ HB.out h3
    have HR169_2 := a_ hi169_2
    have HC169_2 := a_ hl169_2
    clear hi169_2 hl169_2
    replace p169 := eq_true p169
    replace q169 := eq_true q169
    have p170 : 0 ≤ (x0 : Int) := of_decide_eq_true hA_
    have q170 : x0 < (l1.length : Int) := of_decide_eq_true hA_
    obtain ⟨d1, A170_2, c170_2, e170, h4, h5, h6, h7, hl170_2, hi170_2⟩ := at_T37 HR1.out x0 p170 q170
    have hw170_3 := h7
    have hw170_2 := h6
    have hw170_1 := h5
    have hw170_0 := h4
    cases e170
    replace h4 := cl_ HB.out h4
    replace h5 := cl_ HB.out h5
    replace h6 := cl_ HB.out h6
    replace h7 := cl_ HB.out h7
    have HR170_2 := a_ hi170_2
    have HC170_2 := a_ hl170_2
    clear hi170_2 hl170_2
    replace p170 := eq_true p170
    replace q170 := eq_true q170
    refine start_ (n := 10) (S := fun w' => w'.cell? (d0.add ((x0).toNat * 4)) = some (.int .i64 ((rd_T37 l0 x0).f0)) ∧ w'.cell? ⟨(d0.add ((x0).toNat * 4)).block, (d0.add ((x0).toNat * 4)).off + 1, none⟩ = some (.int .i64 ((rd_T37 l0 x0).f1)) ∧ w'.cell? ⟨(d0.add ((x0).toNat * 4)).block, (d0.add ((x0).toNat * 4)).off + 2, none⟩ = some (.slice A169_2 ((rd_T37 l0 x0).f2).length c169_2) ∧ w'.cell? ⟨(d0.add ((x0).toNat * 4)).block, (d0.add ((x0).toNat * 4)).off + 3, none⟩ = some (.string ((rd_T37 l0 x0).f3)) ∧ w'.cell? (d1.add ((x0).toNat * 4)) = some (.int .i64 ((rd_T37 l1 x0).f0)) ∧ w'.cell? ⟨(d1.add ((x0).toNat * 4)).block, (d1.add ((x0).toNat * 4)).off + 1, none⟩ = some (.int .i64 ((rd_T37 l1 x0).f1)) ∧ w'.cell? ⟨(d1.add ((x0).toNat * 4)).block, (d1.add ((x0).toNat * 4)).off + 2, none⟩ = some (.slice A170_2 ((rd_T37 l1 x0).f2).length c170_2) ∧ w'.cell? ⟨(d1.add ((x0).toNat * 4)).block, (d1.add ((x0).toNat * 4)).off + 3, none⟩ = some (.string ((rd_T37 l1 x0).f3))) (ds := []) #[false, false, false, false, false, false, false, false, false, false] (by kernel_rfl) rfl rfl ⟨(cl_ HB.out hw169_0), (cl_ HB.out hw169_1), (cl_ HB.out hw169_2), (cl_ HB.out hw169_3), (cl_ HB.out hw170_0), (cl_ HB.out hw170_1), (cl_ HB.out hw170_2), (cl_ HB.out hw170_3)⟩ (fun hHeld => ?_); refine with_tabW sleuthlaw0_SameNodes.tab6 sleuthlaw0_SameNodes.bits6 (fun HT_ HW_ => ?_)
    generalize wr.drew = w0 at HB HR169_2 HR170_2 h0 h1 h2 h3 h4 h5 h6 h7 hHeld ⊢
    refine pB_ 0 17 HT_.out ?_
    refine pB_ 1 18 HT_.out ?_
    refine pB_ 2 19 HT_.out ?_
    refine pB_ 4 21 HT_.out ?_
    refine pB_ 5 22 HT_.out ?_
    refine pB_ 6 23 HT_.out ?_
    refine tB_ 3 20 HT_.out HW_.out hHeld ?_
    refine tB_ 7 24 HT_.out HW_.out hHeld ?_
    refine one_ (i := 8) (N := some 25) #[true, true, true, true, true, true, true, true, true, false] rfl rfl (one_of HT_.out (by kernel_rfl)) (by decide) (fun K hK => ?_)
    refine goes_ Tryd.func23 (by kernel_rfl) rfl #[.agg #[.int .i64 ((rd_T37 l0 x0).f0), .int .i64 ((rd_T37 l0 x0).f1), .slice A169_2 ((rd_T37 l0 x0).f2).length c169_2, .string ((rd_T37 l0 x0).f3)], .agg #[.int .i64 ((rd_T37 l1 x0).f0), .int .i64 ((rd_T37 l1 x0).f1), .slice A170_2 ((rd_T37 l1 x0).f2).length c170_2, .string ((rd_T37 l1 x0).f3)]] (by rfl) rfl rfl hL_ ?_
    with_reducible refine (sleuthlaw0_SameNode.calls k1 ((rd_T37 l0 x0).f0) ((rd_T37 l0 x0).f1) _ _ ((rd_T37 l0 x0).f2) ((rd_T37 l0 x0).f3) ((rd_T37 l1 x0).f0) ((rd_T37 l1 x0).f1) _ _ ((rd_T37 l1 x0).f2) ((rd_T37 l1 x0).f3) false _ ?s1 ?s2 ?s3 ?s4 A7.out).mono ?_
    (case s1 => exact cB_ HR169_2.out)
    (case s2 => exact HC169_2.out)
    (case s3 => exact cB_ HR170_2.out)
    (case s4 => exact HC170_2.out)
    rintro e w1 ⟨rfl, hb⟩
    refine ⟨_, rfl, ?_⟩
    replace HB := a_ (below_step hB_ hb)
    (try clear hb)
    (try clear hb2)
    (try clear hk)
    (try clear hi)
    refine hK.out _ _ ⟨(cl_ HB.out hw169_0), (cl_ HB.out hw169_1), (cl_ HB.out hw169_2), (cl_ HB.out hw169_3), (cl_ HB.out hw170_0), (cl_ HB.out hw170_1), (cl_ HB.out hw170_2), (cl_ HB.out hw170_3)⟩ (fun hHeld => ?_)
    clear hK K
    refine norm_ (a' := ?_) ?_ ?_
    rotate_left
    · show Act.put _ (some 25) _ = _
      simp only [Act.put, List.setIfInBounds_toArray, List.set_cons_zero, List.set_cons_succ, i64_w, i32_w]
      rfl
    refine pB_ 9 26 HT_.out ?_
    refine done_ (done_of HT_.out (by kernel_rfl)) ?_
    try go_wp2
    go_ret
    exact ⟨hV_, hC_⟩
   subst c8
   rw [if_pos rfl] at H
   have H' := a_ H
   clear H
   try go_wp2
   replace HB := a_ (below_drew1 HB.out)
   have p169 : 0 ≤ (x0 : Int) := of_decide_eq_true hA_
   have q169 : x0 < (l0.length : Int) := of_decide_eq_true hA_
   obtain ⟨d0, A169_2, c169_2, e169, h0, h1, h2, h3, hl169_2, hi169_2⟩ := at_T37 HR0.out x0 p169 q169
   have hw169_3 := h3
   have hw169_2 := h2
   have hw169_1 := h1
   have hw169_0 := h0
   cases e169
   replace h0 := cl_ HB.out h0
   replace h1 := cl_ HB.out h1
   replace h2 := cl_ HB.out h2
   replace h3 := cl_ HB.out h3
   have HR169_2 := a_ hi169_2
   have HC169_2 := a_ hl169_2
   clear hi169_2 hl169_2
   replace p169 := eq_true p169
   replace q169 := eq_true q169
   have p170 : 0 ≤ (x0 : Int) := of_decide_eq_true hA_
   have q170 : x0 < (l1.length : Int) := of_decide_eq_true hA_
   obtain ⟨d1, A170_2, c170_2, e170, h4, h5, h6, h7, hl170_2, hi170_2⟩ := at_T37 HR1.out x0 p170 q170
   have hw170_3 := h7
   have hw170_2 := h6
   have hw170_1 := h5
   have hw170_0 := h4
   cases e170
   replace h4 := cl_ HB.out h4
   replace h5 := cl_ HB.out h5
   replace h6 := cl_ HB.out h6
   replace h7 := cl_ HB.out h7
   have HR170_2 := a_ hi170_2
   have HC170_2 := a_ hl170_2
   clear hi170_2 hl170_2
   replace p170 := eq_true p170
   replace q170 := eq_true q170
   refine start_ (n := 10) (S := fun w' => w'.cell? (d0.add ((x0).toNat * 4)) = some (.int .i64 ((rd_T37 l0 x0).f0)) ∧ w'.cell? ⟨(d0.add ((x0).toNat * 4)).block, (d0.add ((x0).toNat * 4)).off + 1, none⟩ = some (.int .i64 ((rd_T37 l0 x0).f1)) ∧ w'.cell? ⟨(d0.add ((x0).toNat * 4)).block, (d0.add ((x0).toNat * 4)).off + 2, none⟩ = some (.slice A169_2 ((rd_T37 l0 x0).f2).length c169_2) ∧ w'.cell? ⟨(d0.add ((x0).toNat * 4)).block, (d0.add ((x0).toNat * 4)).off + 3, none⟩ = some (.string ((rd_T37 l0 x0).f3)) ∧ w'.cell? (d1.add ((x0).toNat * 4)) = some (.int .i64 ((rd_T37 l1 x0).f0)) ∧ w'.cell? ⟨(d1.add ((x0).toNat * 4)).block, (d1.add ((x0).toNat * 4)).off + 1, none⟩ = some (.int .i64 ((rd_T37 l1 x0).f1)) ∧ w'.cell? ⟨(d1.add ((x0).toNat * 4)).block, (d1.add ((x0).toNat * 4)).off + 2, none⟩ = some (.slice A170_2 ((rd_T37 l1 x0).f2).length c170_2) ∧ w'.cell? ⟨(d1.add ((x0).toNat * 4)).block, (d1.add ((x0).toNat * 4)).off + 3, none⟩ = some (.string ((rd_T37 l1 x0).f3))) (ds := []) #[false, false, false, false, false, false, false, false, false, false] (by kernel_rfl) rfl rfl ⟨(cl_ HB.out hw169_0), (cl_ HB.out hw169_1), (cl_ HB.out hw169_2), (cl_ HB.out hw169_3), (cl_ HB.out hw170_0), (cl_ HB.out hw170_1), (cl_ HB.out hw170_2), (cl_ HB.out hw170_3)⟩ (fun hHeld => ?_); refine with_tabW sleuthlaw0_SameNodes.tab6 sleuthlaw0_SameNodes.bits6 (fun HT_ HW_ => ?_)
   generalize wr.drew = w9 at HB HR169_2 HR170_2 h0 h1 h2 h3 h4 h5 h6 h7 hHeld ⊢
   refine pB_ 0 17 HT_.out ?_
   refine pB_ 1 18 HT_.out ?_
   refine pB_ 2 19 HT_.out ?_
   refine pB_ 4 21 HT_.out ?_
   refine pB_ 5 22 HT_.out ?_
   refine pB_ 6 23 HT_.out ?_
   refine tB_ 3 20 HT_.out HW_.out hHeld ?_
   refine tB_ 7 24 HT_.out HW_.out hHeld ?_
   refine one_ (i := 8) (N := some 25) #[true, true, true, true, true, true, true, true, true, false] rfl rfl (one_of HT_.out (by kernel_rfl)) (by decide) (fun K hK => ?_)
   refine goes_ Tryd.func23 (by kernel_rfl) rfl #[.agg #[.int .i64 ((rd_T37 l0 x0).f0), .int .i64 ((rd_T37 l0 x0).f1), .slice A169_2 ((rd_T37 l0 x0).f2).length c169_2, .string ((rd_T37 l0 x0).f3)], .agg #[.int .i64 ((rd_T37 l1 x0).f0), .int .i64 ((rd_T37 l1 x0).f1), .slice A170_2 ((rd_T37 l1 x0).f2).length c170_2, .string ((rd_T37 l1 x0).f3)]] (by rfl) rfl rfl hL_ ?_
   with_reducible refine (sleuthlaw0_SameNode.calls k1 ((rd_T37 l0 x0).f0) ((rd_T37 l0 x0).f1) _ _ ((rd_T37 l0 x0).f2) ((rd_T37 l0 x0).f3) ((rd_T37 l1 x0).f0) ((rd_T37 l1 x0).f1) _ _ ((rd_T37 l1 x0).f2) ((rd_T37 l1 x0).f3) true _ ?s1 ?s2 ?s3 ?s4 A7.out).mono ?_
   (case s1 => exact cB_ HR169_2.out)
   (case s2 => exact HC169_2.out)
   (case s3 => exact cB_ HR170_2.out)
   (case s4 => exact HC170_2.out)
   rintro e w2 ⟨rfl, hb⟩
   refine ⟨_, rfl, ?_⟩
   replace HB := a_ (below_step hB_ hb)
   (try clear hb)
   (try clear hb2)
   (try clear hk)
   (try clear hi)
   refine hK.out _ _ ⟨(cl_ HB.out hw169_0), (cl_ HB.out hw169_1), (cl_ HB.out hw169_2), (cl_ HB.out hw169_3), (cl_ HB.out hw170_0), (cl_ HB.out hw170_1), (cl_ HB.out hw170_2), (cl_ HB.out hw170_3)⟩ (fun hHeld => ?_)
   clear hK K
   refine norm_ (a' := ?_) ?_ ?_
   rotate_left
   · show Act.put _ (some 25) _ = _
     simp only [Act.put, List.setIfInBounds_toArray, List.set_cons_zero, List.set_cons_succ, i64_w, i32_w]
     rfl
   refine pB_ 9 26 HT_.out ?_
   refine done_ (done_of HT_.out (by kernel_rfl)) ?_
   try go_wp2
   go_roundg k1
   case measure => have := HK1.out; omega
   case rel => exact ⟨(wrap64 (x0 + 1)), hW_, H', ⟨by have := HK1.out; omega⟩, ⟨hC_⟩⟩
set_option maxHeartbeats 8000000
set_option maxRecDepth 100000
attribute [local go_sem] max2_int min2_int max_two min_two max_three min_three max_four min_four   -- for this text's walks alone
set_option linter.unusedVariables false
set_option linter.unusedSimpArgs false

def sleuthlaw17_some.f  : Option ((List (S37))) := some (([(⟨0, (-1), ([] : List ByteArray), (⟨#[57]⟩ : ByteArray)⟩ : S37), (⟨1, 0, (([(⟨#[64, 55, 40, 95, 32, 52, 41]⟩ : ByteArray), (⟨#[53]⟩ : ByteArray)] : List ByteArray)), (⟨#[57]⟩ : ByteArray)⟩ : S37), (⟨2, 0, ([] : List ByteArray), (⟨#[33]⟩ : ByteArray)⟩ : S37), (⟨1, 1, (([(⟨#[49]⟩ : ByteArray), (⟨#[95]⟩ : ByteArray)] : List ByteArray)), (⟨#[95]⟩ : ByteArray)⟩ : S37), (⟨1, 2, (([(⟨#[49]⟩ : ByteArray), (⟨#[95]⟩ : ByteArray)] : List ByteArray)), (⟨#[95]⟩ : ByteArray)⟩ : S37)] : List (S37)))
theorem sleuthlaw17_some.calls  (r : List (S37)) (w : World) (h : sleuthlaw17_some.f  = some r) :
 Calls Tryd.prog 13 #[] w fun e w' => ∃ v0_ : Value, e = .returned (v0_) ∧ Kd.N k37 37 w' w.heap.size (fun k_ => (w.heap.size ≤ k_)) v0_ r ∧ Below w.heap.size w w' := by
 have hu37 := Tryd.underlying37
 have HB := a_ (Below.refl w.heap.size w)
 have H := h; unfold sleuthlaw17_some.f at H
 clear h
 obtain ⟨y0, i0⟩ : ∃ y_ : List ByteArray, y_ = (([(⟨#[64, 55, 40, 95, 32, 52, 41]⟩ : ByteArray), (⟨#[53]⟩ : ByteArray)] : List ByteArray)) := ⟨_, rfl⟩
 replace H : (some (([(⟨0, (-1), ([] : List ByteArray), (⟨#[57]⟩ : ByteArray)⟩ : S37), (⟨1, 0, y0, (⟨#[57]⟩ : ByteArray)⟩ : S37), (⟨2, 0, ([] : List ByteArray), (⟨#[33]⟩ : ByteArray)⟩ : S37), (⟨1, 1, (([(⟨#[49]⟩ : ByteArray), (⟨#[95]⟩ : ByteArray)] : List ByteArray)), (⟨#[95]⟩ : ByteArray)⟩ : S37), (⟨1, 2, (([(⟨#[49]⟩ : ByteArray), (⟨#[95]⟩ : ByteArray)] : List ByteArray)), (⟨#[95]⟩ : ByteArray)⟩ : S37)] : List (S37)))) = some r := by first | (rw [i0]; with_reducible exact H) | (have H2_ := (Option.bind_some _ _).symm.trans H; rw [i0]; with_reducible exact H2_) | (have H2_ := (Option.bind_some _ _).symm.trans H; with_reducible exact H2_) | with_reducible exact H | (rw [i0]; exact H) | exact H
 have Y0 := a_ i0
 clear i0
 obtain ⟨y1, i1⟩ : ∃ y_ : List ByteArray, y_ = (([(⟨#[49]⟩ : ByteArray), (⟨#[95]⟩ : ByteArray)] : List ByteArray)) := ⟨_, rfl⟩
 replace H : (some (([(⟨0, (-1), ([] : List ByteArray), (⟨#[57]⟩ : ByteArray)⟩ : S37), (⟨1, 0, y0, (⟨#[57]⟩ : ByteArray)⟩ : S37), (⟨2, 0, ([] : List ByteArray), (⟨#[33]⟩ : ByteArray)⟩ : S37), (⟨1, 1, y1, (⟨#[95]⟩ : ByteArray)⟩ : S37), (⟨1, 2, (([(⟨#[49]⟩ : ByteArray), (⟨#[95]⟩ : ByteArray)] : List ByteArray)), (⟨#[95]⟩ : ByteArray)⟩ : S37)] : List (S37)))) = some r := by first | (rw [i1]; with_reducible exact H) | (have H2_ := (Option.bind_some _ _).symm.trans H; rw [i1]; with_reducible exact H2_) | (have H2_ := (Option.bind_some _ _).symm.trans H; with_reducible exact H2_) | with_reducible exact H | (rw [i1]; exact H) | exact H
 have Y1 := a_ i1
 clear i1
 obtain ⟨y2, i2⟩ : ∃ y_ : List ByteArray, y_ = (([(⟨#[49]⟩ : ByteArray), (⟨#[95]⟩ : ByteArray)] : List ByteArray)) := ⟨_, rfl⟩
 replace H : (some (([(⟨0, (-1), ([] : List ByteArray), (⟨#[57]⟩ : ByteArray)⟩ : S37), (⟨1, 0, y0, (⟨#[57]⟩ : ByteArray)⟩ : S37), (⟨2, 0, ([] : List ByteArray), (⟨#[33]⟩ : ByteArray)⟩ : S37), (⟨1, 1, y1, (⟨#[95]⟩ : ByteArray)⟩ : S37), (⟨1, 2, y2, (⟨#[95]⟩ : ByteArray)⟩ : S37)] : List (S37)))) = some r := by first | (rw [i2]; with_reducible exact H) | (have H2_ := (Option.bind_some _ _).symm.trans H; rw [i2]; with_reducible exact H2_) | (have H2_ := (Option.bind_some _ _).symm.trans H; with_reducible exact H2_) | with_reducible exact H | (rw [i2]; exact H) | exact H
 have Y2 := a_ i2
 clear i2
 obtain ⟨y3, i3⟩ : ∃ y_ : List (S37), y_ = (([(⟨0, (-1), ([] : List ByteArray), (⟨#[57]⟩ : ByteArray)⟩ : S37), (⟨1, 0, y0, (⟨#[57]⟩ : ByteArray)⟩ : S37), (⟨2, 0, ([] : List ByteArray), (⟨#[33]⟩ : ByteArray)⟩ : S37), (⟨1, 1, y1, (⟨#[95]⟩ : ByteArray)⟩ : S37), (⟨1, 2, y2, (⟨#[95]⟩ : ByteArray)⟩ : S37)] : List (S37))) := ⟨_, rfl⟩
 replace H : (some y3) = some r := by first | (rw [i3]; with_reducible exact H) | (have H2_ := (Option.bind_some _ _).symm.trans H; rw [i3]; with_reducible exact H2_) | (have H2_ := (Option.bind_some _ _).symm.trans H; with_reducible exact H2_) | with_reducible exact H | (rw [i3]; exact H) | exact H
 have Y3 := a_ i3
 clear i3
 obtain rfl := Option.some.inj H
 go_enter Tryd.func13, Tryd.ntmps13
 go_wp2_with (first | ((with_reducible refine gate_dst (N := 2) rfl ?_); refine Kd.R_lit Kd.string _ 9 ?hg (N := 2) ?hd (xs := ([(⟨#[64, 55, 40, 95, 32, 52, 41]⟩ : ByteArray), (⟨#[53]⟩ : ByteArray)] : List ByteArray)) (inner := [.string (⟨#[64, 55, 40, 95, 32, 52, 41]⟩ : ByteArray), .string (⟨#[53]⟩ : ByteArray)]) (ok := fun _ => True) (okp := fun _ => True) ?hr ?hp (fun _ hk => hk) trivial (Below.refl _ _) (Nat.le_refl _) (by simp) ?_; (case hd => rfl); (case hg => rfl); (case hr => first | (go_simp; done) | (go_simp; rfl)); (case hp => exact (Reps.one (show Kd.M Kd.string _ _ _ (⟨#[64, 55, 40, 95, 32, 52, 41]⟩ : ByteArray) [.string (⟨#[64, 55, 40, 95, 32, 52, 41]⟩ : ByteArray)] from rfl) (Reps.one (show Kd.M Kd.string _ _ _ (⟨#[53]⟩ : ByteArray) [.string (⟨#[53]⟩ : ByteArray)] from rfl) (Reps.none _ _)))); intro v0 w1 ho2 hb hg_ hnew_; clear hg_ hnew_; (first | rw [← Y0.out] at ho2 | (simp only [Int.reduceToNat] at ho2; rw [← Y0.out] at ho2)); have P0 := a_ (Kd.R_lower (Kd.R_newM (M := fun k_ => (w.heap.size ≤ k_)) ho2 hS_ (fun k_ h_ => h_)) hS_); replace HB := a_ (below_step hB_ hb); clear hb ho2; obtain ⟨a0, o0, e0⟩ := Kd.R_slice P0.out; subst e0) | ((with_reducible refine gate_dst (N := 5) rfl ?_); refine Kd.R_lit Kd.string _ 9 ?hg (N := 5) ?hd (xs := ([(⟨#[49]⟩ : ByteArray), (⟨#[95]⟩ : ByteArray)] : List ByteArray)) (inner := [.string (⟨#[49]⟩ : ByteArray), .string (⟨#[95]⟩ : ByteArray)]) (ok := fun _ => True) (okp := fun _ => True) ?hr ?hp (fun _ hk => hk) trivial (Below.refl _ _) (Nat.le_refl _) (by simp) ?_; (case hd => rfl); (case hg => rfl); (case hr => first | (go_simp; done) | (go_simp; rfl)); (case hp => exact (Reps.one (show Kd.M Kd.string _ _ _ (⟨#[49]⟩ : ByteArray) [.string (⟨#[49]⟩ : ByteArray)] from rfl) (Reps.one (show Kd.M Kd.string _ _ _ (⟨#[95]⟩ : ByteArray) [.string (⟨#[95]⟩ : ByteArray)] from rfl) (Reps.none _ _)))); intro v1 w4 ho5 hb hg_ hnew_; clear hg_ hnew_; (first | rw [← Y1.out] at ho5 | (simp only [Int.reduceToNat] at ho5; rw [← Y1.out] at ho5)); have P1 := a_ (Kd.R_lower (Kd.R_new' (Kd.R_newM (M := fun k_ => (w.heap.size ≤ k_)) ho5 hS_ (fun k_ h_ => h_)) (Kd.R_lt (hR_ P0.out))) hS_); replace P0 := a_ (Kd.R_elder' (hR_ P0.out) (Kd.R_base ho5) hb); replace HB := a_ (below_step hB_ hb); clear hb ho5; obtain ⟨a1, o1, e1⟩ := Kd.R_slice P1.out; subst e1) | ((with_reducible refine gate_dst (N := 7) rfl ?_); refine Kd.R_lit Kd.string _ 9 ?hg (N := 7) ?hd (xs := ([(⟨#[49]⟩ : ByteArray), (⟨#[95]⟩ : ByteArray)] : List ByteArray)) (inner := [.string (⟨#[49]⟩ : ByteArray), .string (⟨#[95]⟩ : ByteArray)]) (ok := fun _ => True) (okp := fun _ => True) ?hr ?hp (fun _ hk => hk) trivial (Below.refl _ _) (Nat.le_refl _) (by simp) ?_; (case hd => rfl); (case hg => rfl); (case hr => first | (go_simp; done) | (go_simp; rfl)); (case hp => exact (Reps.one (show Kd.M Kd.string _ _ _ (⟨#[49]⟩ : ByteArray) [.string (⟨#[49]⟩ : ByteArray)] from rfl) (Reps.one (show Kd.M Kd.string _ _ _ (⟨#[95]⟩ : ByteArray) [.string (⟨#[95]⟩ : ByteArray)] from rfl) (Reps.none _ _)))); intro v2 w7 ho8 hb hg_ hnew_; clear hg_ hnew_; (first | rw [← Y2.out] at ho8 | (simp only [Int.reduceToNat] at ho8; rw [← Y2.out] at ho8)); have P2 := a_ (Kd.R_lower (Kd.R_new' (Kd.R_new' (Kd.R_newM (M := fun k_ => (w.heap.size ≤ k_)) ho8 hS_ (fun k_ h_ => h_)) (Kd.R_lt (hR_ P0.out))) (Kd.R_lt (hR_ P1.out))) hS_); replace P0 := a_ (Kd.R_elder' (hR_ P0.out) (Kd.R_base ho8) hb); replace P1 := a_ (Kd.R_elder' (hR_ P1.out) (Kd.R_base ho8) hb); replace HB := a_ (below_step hB_ hb); clear hb ho8; obtain ⟨a2, o2, e2⟩ := Kd.R_slice P2.out; subst e2) | ((with_reducible refine gate_dst (N := 9) rfl ?_); refine Kd.N_lit k37 _ 37 ?hg (N' := 9) ?hd (xs := ([(⟨0, (-1), ([] : List ByteArray), (⟨#[57]⟩ : ByteArray)⟩ : S37), (⟨1, 0, y0, (⟨#[57]⟩ : ByteArray)⟩ : S37), (⟨2, 0, ([] : List ByteArray), (⟨#[33]⟩ : ByteArray)⟩ : S37), (⟨1, 1, y1, (⟨#[95]⟩ : ByteArray)⟩ : S37), (⟨1, 2, y2, (⟨#[95]⟩ : ByteArray)⟩ : S37)] : List (S37))) (inner := [.int .i64 0, .int .i64 (-1), .slice none 0 0, .string (⟨#[57]⟩ : ByteArray), .int .i64 1, .int .i64 0, .slice a0 y0.length o0, .string (⟨#[57]⟩ : ByteArray), .int .i64 2, .int .i64 0, .slice none 0 0, .string (⟨#[33]⟩ : ByteArray), .int .i64 1, .int .i64 1, .slice a1 y1.length o1, .string (⟨#[95]⟩ : ByteArray), .int .i64 1, .int .i64 2, .slice a2 y2.length o2, .string (⟨#[95]⟩ : ByteArray)]) (ok := (fun k_ => (w.heap.size ≤ k_))) (okp := (fun k_ => (w.heap.size ≤ k_))) ?hr ?hp (fun _ hk => hk) ((show ∀ k_, w7.heap.size ≤ k_ → (fun k_ => (w.heap.size ≤ k_)) k_ from fun k_ hk => (Nat.le_trans hS_ hk)) _ (Nat.le_refl _)) (Below.refl _ _) (Nat.le_refl _) (by simp) ?_; (case hd => rfl); (case hg => rfl); (case hr => first | (go_simp; done) | (go_simp; rfl)); (case hp => exact (Reps.c4 (show Kd.FK k37 _ _ (⟨0, (-1), ([] : List ByteArray), (⟨#[57]⟩ : ByteArray)⟩ : S37) [.int .i64 0, .int .i64 (-1), .slice none 0 0, .string (⟨#[57]⟩ : ByteArray)] from (k37_mkF _ _ (⟨0, (-1), ([] : List ByteArray), (⟨#[57]⟩ : ByteArray)⟩ : S37) (Nat.le_refl _) (Kd.F_nil _ _ _))) (Reps.c4 (show Kd.FK k37 _ _ (⟨1, 0, y0, (⟨#[57]⟩ : ByteArray)⟩ : S37) [.int .i64 1, .int .i64 0, .slice a0 y0.length o0, .string (⟨#[57]⟩ : ByteArray)] from (k37_mkF _ _ (⟨1, 0, y0, (⟨#[57]⟩ : ByteArray)⟩ : S37) (Kd.R_reads' (Kd.R_mono (ok' := (fun k_ => (w.heap.size ≤ k_))) (P0.out) (fun k_ hk => hk.1.1.1))).2.1 (Kd.R_F (Kd.R_mono (ok' := (fun k_ => (w.heap.size ≤ k_))) (P0.out) (fun k_ hk => hk.1.1.1))))) (Reps.c4 (show Kd.FK k37 _ _ (⟨2, 0, ([] : List ByteArray), (⟨#[33]⟩ : ByteArray)⟩ : S37) [.int .i64 2, .int .i64 0, .slice none 0 0, .string (⟨#[33]⟩ : ByteArray)] from (k37_mkF _ _ (⟨2, 0, ([] : List ByteArray), (⟨#[33]⟩ : ByteArray)⟩ : S37) (Nat.le_refl _) (Kd.F_nil _ _ _))) (Reps.c4 (show Kd.FK k37 _ _ (⟨1, 1, y1, (⟨#[95]⟩ : ByteArray)⟩ : S37) [.int .i64 1, .int .i64 1, .slice a1 y1.length o1, .string (⟨#[95]⟩ : ByteArray)] from (k37_mkF _ _ (⟨1, 1, y1, (⟨#[95]⟩ : ByteArray)⟩ : S37) (Kd.R_reads' (Kd.R_mono (ok' := (fun k_ => (w.heap.size ≤ k_))) (P1.out) (fun k_ hk => hk.1.1.1))).2.1 (Kd.R_F (Kd.R_mono (ok' := (fun k_ => (w.heap.size ≤ k_))) (P1.out) (fun k_ hk => hk.1.1.1))))) (Reps.c4 (show Kd.FK k37 _ _ (⟨1, 2, y2, (⟨#[95]⟩ : ByteArray)⟩ : S37) [.int .i64 1, .int .i64 2, .slice a2 y2.length o2, .string (⟨#[95]⟩ : ByteArray)] from (k37_mkF _ _ (⟨1, 2, y2, (⟨#[95]⟩ : ByteArray)⟩ : S37) (Kd.R_reads' (Kd.R_mono (ok' := (fun k_ => (w.heap.size ≤ k_))) (P2.out) (fun k_ hk => hk.1.1.1))).2.1 (Kd.R_F (Kd.R_mono (ok' := (fun k_ => (w.heap.size ≤ k_))) (P2.out) (fun k_ hk => hk.1.1.1))))) (Reps.none _ _))))))); intro v3 w0 ho11 hb hg_ hnew_; clear hg_ hnew_; (first | rw [← Y3.out] at ho11 | (simp only [Int.reduceToNat] at ho11; rw [← Y3.out] at ho11)); have P3 := a_ (Kd.N_lower ho11 hS_); replace HB := a_ (below_step hB_ hb); clear P0 P1 P2; clear hb ho11))
 go_ret
 exact ⟨_, hV_, hN_ P3.out, hC_⟩

def sleuthlaw17_awake.f (k : Nat)  : Option (Bool) := (sleuthlaw17_some.f).bind fun t184 => ((file_Text.f k t184).bind fun bt187 => (if bt187.1.size + 1 ≤ 9223372036854775807 then ((file_Load.f k (bt187.1 ++ (⟨#[120]⟩ : ByteArray))).bind fun bt189 => ((file_Load.f k (⟨#[]⟩ : ByteArray)).bind fun bt193 => ((file_Text.f k ([] : List (S37))).bind fun bt197 => ((sleuthlaw0_Num.f bt187.2).bind fun t199 => (if t199 = 0 then ((sleuthlaw17_some.f).bind fun t200 => ((sleuthlaw0_SameNodes.f k bt189.1 t200).bind fun t203 => (if t203 = true then (if bt189.2 = (bt187.1.size : Int) then (if (bt193.1.length : Int) = 0 then (if bt193.2 = 0 then ((sleuthlaw0_Num.f bt197.2).bind fun t204 => (some (t204 == 1700))) else (none)) else (none)) else (none)) else (none)))) else (none)))))) else (none)))
theorem sleuthlaw17_awake.calls (k : Nat)  (r : Bool) (w : World) (h : sleuthlaw17_awake.f k  = some r) (hG : GOK w) :
 Calls Tryd.prog 7 #[] w fun e w' => e = .returned (.bool r) ∧ Below w.heap.size w w' := by
 have HB := a_ (Below.refl w.heap.size w)
 have H := h; unfold sleuthlaw17_awake.f at H
 clear h
 replace H := Option.bind_eq_some_iff.mp H
 obtain ⟨t2, A10, H⟩ := H
 try dsimp only at H
 have A1 := a_ A10
 clear A10
 replace H := Option.bind_eq_some_iff.mp H
 obtain ⟨⟨t0, t6⟩, A20, H⟩ := H
 try dsimp only at H
 have A2 := a_ A20
 clear A20
 replace H := ifI_ H; obtain ⟨c3, H⟩ := H
 have c3b0 := eq_true c3
 have c3b1 : decide (t0.size + 1 ≤ 9223372036854775807) = true := decide_eq_true c3
 try have c3b2 : (9223372036854775807 < t0.size + 1) = False := eq_false (Nat.not_lt.2 c3)
 replace H := Option.bind_eq_some_iff.mp H
 obtain ⟨⟨t7, t3⟩, A40, H⟩ := H
 try dsimp only at H
 have A4 := a_ A40
 clear A40
 replace H := Option.bind_eq_some_iff.mp H
 obtain ⟨⟨t1, t4⟩, A50, H⟩ := H
 try dsimp only at H
 have A5 := a_ A50
 clear A50
 replace H := Option.bind_eq_some_iff.mp H
 obtain ⟨⟨t10, t8⟩, A60, H⟩ := H
 try dsimp only at H
 have A6 := a_ A60
 clear A60
 replace H := Option.bind_eq_some_iff.mp H
 obtain ⟨t5, A70, H⟩ := H
 try dsimp only at H
 have A7 := a_ A70
 clear A70
 by_cases c8 : t5 = 0
 case neg =>
  rw [if_neg c8] at H
  have c8b0 : (t5 == 0) = false := beq_eq_false_iff_ne.mpr c8
  have c8b1 : (t5 != 0) = true := bne_iff_ne.mpr c8
  cases H
 rw [if_pos c8] at H
 have c8b0 : (t5 == 0) = true := beq_iff_eq.mpr c8
 have c8b1 : (t5 != 0) = false := bne_eq_false_iff_eq.mpr c8
 clear c8
 replace H := Option.bind_eq_some_iff.mp H
 obtain ⟨t9, A90, H⟩ := H
 try dsimp only at H
 have A9 := a_ A90
 clear A90
 replace H := Option.bind_eq_some_iff.mp H
 obtain ⟨t11, A100, H⟩ := H
 try dsimp only at H
 have A10 := a_ A100
 clear A100
 by_cases c11 : t11 = true
 case neg =>
  replace c11 := Bool.eq_false_iff.mpr c11
  subst c11
  rw [if_neg (show ¬ (false = true) by decide)] at H
  cases H
 subst c11
 rw [if_pos rfl] at H
 by_cases c12 : t3 = (t0.size : Int)
 case neg =>
  rw [if_neg c12] at H
  have c12b0 : (t3 == (t0.size : Int)) = false := beq_eq_false_iff_ne.mpr c12
  have c12b1 : (t3 != (t0.size : Int)) = true := bne_iff_ne.mpr c12
  cases H
 rw [if_pos c12] at H
 have c12b0 : (t3 == (t0.size : Int)) = true := beq_iff_eq.mpr c12
 have c12b1 : (t3 != (t0.size : Int)) = false := bne_eq_false_iff_eq.mpr c12
 clear c12
 by_cases c13 : (t1.length : Int) = 0
 case neg =>
  rw [if_neg c13] at H
  have c13b0 : ((t1.length : Int) == 0) = false := beq_eq_false_iff_ne.mpr c13
  have c13b1 : ((t1.length : Int) != 0) = true := bne_iff_ne.mpr c13
  have c13b2 : ¬ (t1 = []) := fun h_ => c13 (by rw [h_]; rfl)
  cases H
 rw [if_pos c13] at H
 have c13b0 : ((t1.length : Int) == 0) = true := beq_iff_eq.mpr c13
 have c13b1 : ((t1.length : Int) != 0) = false := bne_eq_false_iff_eq.mpr c13
 clear c13
 by_cases c14 : t4 = 0
 case neg =>
  rw [if_neg c14] at H
  have c14b0 : (t4 == 0) = false := beq_eq_false_iff_ne.mpr c14
  have c14b1 : (t4 != 0) = true := bne_iff_ne.mpr c14
  cases H
 rw [if_pos c14] at H
 have c14b0 : (t4 == 0) = true := beq_iff_eq.mpr c14
 have c14b1 : (t4 != 0) = false := bne_eq_false_iff_eq.mpr c14
 clear c14
 replace H := Option.bind_eq_some_iff.mp H
 obtain ⟨t12, A150, H⟩ := H
 try dsimp only at H
 have A15 := a_ A150
 clear A150
 obtain rfl := Option.some.inj H
 go_enter Tryd.func7, Tryd.ntmps7
 go_wp2_with (first | ((with_reducible refine gate_callee (f := 13) rfl ?_); refine goesL_ (some 10) rfl rfl Tryd.func13 (by kernel_rfl) rfl #[] rfl hL_ ?_; (with_reducible refine (sleuthlaw17_some.calls  t2 _ A1.out).mono ?_); rintro e w0 ⟨v2, rfl, ho0, hb⟩; refine ⟨_, rfl, ?_⟩; have P0 := a_ (Kd.N_lower (Kd.N_mono (ok' := fun k_ => True) ho0 (fun k_ hk_ => trivial)) hS_); replace HB := a_ (below_step hB_ hb); (try clear hb); (try clear hb2); (try clear hk); (try clear hi); (try clear ho0); obtain ⟨a0, o0, e0⟩ := Kd.N_slice P0.out; subst e0) | ((with_reducible refine gate_callee (f := 8) rfl ?_); refine goesL_ (some 11) rfl rfl Tryd.func8 (by kernel_rfl) rfl #[.slice a0 t2.length o0] rfl hL_ ?_; (with_reducible refine (file_Text.calls k _ _ t2 t0 t6 _ ?s1 ?s2 A2.out hG_).mono ?_); (case s1 => repeat (first | exact (Kd.N_reads' P0.out).2.2 | (with_reducible refine Kd.C_alloc ?_ _) | (with_reducible refine Kd.C_drewN ?_ _) | (with_reducible refine Kd.C_drew ?_))); (case s2 => exact (Kd.N_reads' P0.out).2.1); rintro e w1 ⟨rfl, hb⟩; refine ⟨_, rfl, ?_⟩; replace P0 := a_ (Kd.N_below (hN_ P0.out) hb); replace HB := a_ (below_step hB_ hb); (try clear hb); (try clear hb2); (try clear hk); (try clear hi)) | ((with_reducible refine gate_callee (f := 10) rfl ?_); refine goesL_ (some 17) rfl rfl Tryd.func10 (by kernel_rfl) rfl #[.string (t0 ++ (⟨#[120]⟩ : ByteArray))] rfl hL_ ?_; (with_reducible refine (file_Load.calls k (t0 ++ (⟨#[120]⟩ : ByteArray)) t7 t3 _ A4.out hG_).mono ?_); rintro e w2 ⟨v0, rfl, ho0, hb⟩; refine ⟨_, rfl, ?_⟩; have P1 := a_ (Kd.N_lower (Kd.N_mono (ok' := fun k_ => some k_ ≠ (.slice a0 t2.length o0 : Value).ownBlock) (Kd.S_N (Kd.S_bound ho0)) (fun k_ hk_ => (Kd.fresh' (Kd.N_lt (hN_ P0.out)) k_ hk_.2.1))) hS_); replace P0 := a_ (Kd.N_elder' (hN_ P0.out) (Kd.N_base (Kd.R_N (Kd.S_R ho0))) hb); replace HB := a_ (below_step hB_ hb); (try clear hb); (try clear hb2); (try clear hk); (try clear hi); (try clear ho0)) | ((with_reducible refine gate_callee (f := 10) rfl ?_); refine goesL_ (some 21) rfl rfl Tryd.func10 (by kernel_rfl) rfl #[.string (⟨#[]⟩ : ByteArray)] rfl hL_ ?_; (with_reducible refine (file_Load.calls k (⟨#[]⟩ : ByteArray) t1 t4 _ A5.out hG_).mono ?_); rintro e w3 ⟨v1, rfl, ho0, hb⟩; refine ⟨_, rfl, ?_⟩; have P2 := a_ (Kd.N_lower (Kd.N_mono (ok' := fun k_ => some k_ ≠ (.slice a0 t2.length o0 : Value).ownBlock ∧ some k_ ≠ (v0 : Value).ownBlock) (Kd.S_N (Kd.S_bound ho0)) (fun k_ hk_ => ⟨(Kd.fresh' (Kd.N_lt (hN_ P0.out)) k_ hk_.2.1), (Kd.fresh' (Kd.N_lt (hN_ P1.out)) k_ hk_.2.1)⟩)) hS_); replace P0 := a_ (Kd.N_elder' (hN_ P0.out) (Kd.N_base (Kd.R_N (Kd.S_R ho0))) hb); replace P1 := a_ (Kd.N_elder' (hN_ P1.out) (Kd.N_base (Kd.R_N (Kd.S_R ho0))) hb); replace HB := a_ (below_step hB_ hb); (try clear hb); (try clear hb2); (try clear hk); (try clear hi); (try clear ho0)) | ((with_reducible refine gate_callee (f := 8) rfl ?_); refine goesL_ (some 25) rfl rfl Tryd.func8 (by kernel_rfl) rfl #[.slice none 0 0] rfl hL_ ?_; (refine (file_Text.calls k _ _ ([] : List (S37)) t10 t8 _ ?s1 ?s2 A6.out hG_).mono ?_); (case s1 => exact Kd.C_nil _ _); (case s2 => exact Nat.le_refl _); rintro e w4 ⟨rfl, hb⟩; refine ⟨_, rfl, ?_⟩; replace P0 := a_ (Kd.N_below (hN_ P0.out) hb); replace P1 := a_ (Kd.N_below (hN_ P1.out) hb); replace P2 := a_ (Kd.N_below (hN_ P2.out) hb); replace HB := a_ (below_step hB_ hb); (try clear hb); (try clear hb2); (try clear hk); (try clear hi)) | ((with_reducible refine gate_callee (f := 9) rfl ?_); refine goesL_ _ rfl rfl Tryd.func9 (by kernel_rfl) rfl #[.int .i64 t6] rfl hL_ ?_; (with_reducible refine (sleuthlaw0_Num.calls t6 t5 _ A7.out).mono ?_); rintro e w' ⟨rfl, ⟨nd, rfl⟩⟩; refine ⟨_, rfl, ?_⟩) | (go_at_call 13; (with_reducible refine (sleuthlaw17_some.calls  t9 _ A9.out).mono ?_); rintro e w5 ⟨v3, rfl, ho0, hb⟩; have P3 := a_ (Kd.N_lower (Kd.N_mono (ok' := fun k_ => some k_ ≠ (.slice a0 t2.length o0 : Value).ownBlock ∧ some k_ ≠ (v0 : Value).ownBlock ∧ some k_ ≠ (v1 : Value).ownBlock) ho0 (fun k_ hk_ => ⟨(Kd.fresh' (Kd.N_lt (hN_ P0.out)) k_ hk_), (Kd.fresh' (Kd.N_lt (hN_ P1.out)) k_ hk_), (Kd.fresh' (Kd.N_lt (hN_ P2.out)) k_ hk_)⟩)) hS_); replace P0 := a_ (Kd.N_elder' (hN_ P0.out) (Kd.N_base ho0) hb); replace P1 := a_ (Kd.N_elder' (hN_ P1.out) (Kd.N_base ho0) hb); replace P2 := a_ (Kd.N_elder' (hN_ P2.out) (Kd.N_base ho0) hb); replace HB := a_ (below_step hB_ hb); (try clear hb); (try clear hb2); (try clear hk); (try clear hi); (try clear ho0); obtain ⟨a1, o1, e1⟩ := Kd.N_slice P1.out; subst e1; obtain ⟨a2, o2, e2⟩ := Kd.N_slice P3.out; subst e2) | (go_at_call 11; (with_reducible refine (sleuthlaw0_SameNodes.calls k _ _ t7 _ _ t9 true _ ?s1 ?s2 ?s3 ?s4 A10.out).mono ?_); (case s1 => repeat (first | exact (Kd.N_reads' P1.out).2.2 | (with_reducible refine Kd.C_alloc ?_ _) | (with_reducible refine Kd.C_drewN ?_ _) | (with_reducible refine Kd.C_drew ?_))); (case s2 => exact (Kd.N_reads' P1.out).2.1); (case s3 => repeat (first | exact (Kd.N_reads' P3.out).2.2 | (with_reducible refine Kd.C_alloc ?_ _) | (with_reducible refine Kd.C_drewN ?_ _) | (with_reducible refine Kd.C_drew ?_))); (case s4 => exact (Kd.N_reads' P3.out).2.1); rintro e w6 ⟨rfl, hb⟩; replace P0 := a_ (Kd.N_below (hN_ P0.out) hb); replace P1 := a_ (Kd.N_below (hN_ P1.out) hb); replace P2 := a_ (Kd.N_below (hN_ P2.out) hb); replace P3 := a_ (Kd.N_below (hN_ P3.out) hb); replace HB := a_ (below_step hB_ hb); (try clear hb); (try clear hb2); (try clear hk); (try clear hi); obtain ⟨a3, o3, e3⟩ := Kd.N_slice P2.out; subst e3) | (go_at_call 9; (with_reducible refine (sleuthlaw0_Num.calls t8 t12 _ A15.out).mono ?_); rintro e w' ⟨rfl, ⟨nd, rfl⟩⟩))
 go_ret
 exact ⟨hV_, hC_⟩
def sleuthref1_bad.f  : Option (Int × Int × List ByteArray × Int) := some (0, 0, ([] : List ByteArray), (-1))
theorem sleuthref1_bad.calls  (r1 : Int) (r2 : Int) (r3 : List ByteArray) (r4 : Int) (w : World) (h : sleuthref1_bad.f  = some (r1, r2, r3, r4)) :
 Calls Tryd.prog 58 #[] w fun e w' => ∃ v2_ : Value, e = .returned (.agg #[.int .i64 r1, .int .i64 r2, v2_, .int .i64 r4]) ∧ Kd.R Kd.string 9 w' w.heap.size (fun _ => True) v2_ r3 ∧ Below w.heap.size w w' := by
 have hu94 := Tryd.underlying94
 have HB := a_ (Below.refl w.heap.size w)
 have H := h; unfold sleuthref1_bad.f at H
 clear h
 simp only [Option.some.injEq, Prod.mk.injEq] at H
 obtain ⟨rfl, rfl, rfl, rfl⟩ := H
 go_enter Tryd.func58, Tryd.ntmps58
 go_wp2_with (first | ((with_reducible refine gate_dst (N := 0) rfl ?_); refine boxE_ 0 #[.int .i64 0, .int .i64 0, .slice none 0 0, .int .i64 0] 94 ?_; intro g0 hg w1 hbox hb; have B0 := a_ (hbox); have E0 := a_ ((gE_ hg : w.heap.size ≤ g0)); replace HB := a_ (below_step hB_ hb); clear hb hbox hg; obtain ⟨z0, z1, z2, z3, f0, f1, f2, f3⟩ := bx4_ B0.out))
 refine bodyPost_ret (results_cell_row rfl _ _ g0 94 #[.int .i64 0, .int .i64 0, .slice none 0 0, .int .i64 (-1)] (0, 0) _ rfl (bP_ (bP_ (bP_ (bP_ (hK_ B0.out))))) Tryd.underlying94 rfl (by kernel_rfl)) rfl ?_
 exact ⟨_, hV_, by first | exact Kd.R_nil _ _ _ _ _ | exact Kd.N_nil _ _ _ _ _ | exact Kd.V_nil _ _ _ _ _ | exact Kd.Q_nil _ _ _ _ _ | exact Kd.S_nil _ _ _ _ _, hC_⟩

set_option maxHeartbeats 8000000
set_option maxRecDepth 100000
attribute [local go_sem] max2_int min2_int max_two min_two max_three min_three max_four min_four   -- for this text's walks alone
set_option linter.unusedVariables false
set_option linter.unusedSimpArgs false

def sleuthref1_digits.l0 : Nat → ByteArray → Int → Int → Option (Int × Int)
 | 0, _, _, _ => none
 | k + 1, x0, x4, x5 => if x5 < (x0.size : Int) then (if x5 < 6 then (if 0 ≤ x5 then (if (bt x0 x5) ≥ 48 then (if (bt x0 x5) ≤ 57 then (if x5 = 0 then (sleuthref1_digits.l0 k x0 (wrap64 ((wrap64 (10 * x4)) + (((bt x0 x5) - 48) % 256))) (wrap64 (x5 + 1))) else (if 0 < (x0.size : Int) then (if (bt x0 0) = 48 then (some (x4, x5)) else (sleuthref1_digits.l0 k x0 (wrap64 ((wrap64 (10 * x4)) + (((bt x0 x5) - 48) % 256))) (wrap64 (x5 + 1)))) else (none))) else (some (x4, x5))) else (some (x4, x5))) else (none)) else (some (x4, x5))) else (some (x4, x5))
def sleuthref1_digits.f (k : Nat) (a0 : ByteArray) : Option (Int × Int) := sleuthref1_digits.l0 k a0 0 0
theorem sleuthref1_digits.calls (k : Nat) (a0 : ByteArray) (r1 : Int) (r2 : Int) (w : World) (h : sleuthref1_digits.f k a0 = some (r1, r2)) :
 Calls Tryd.prog 59 #[.string a0] w fun e w' => e = .returned (.tuple #[.int .i64 r1, .int .i64 r2]) ∧ Drawn0 w w' := by
 have H : (sleuthref1_digits.l0 k a0 0 0) = some (r1, r2) := h
 clear h
 have H' := a_ H
 clear H
 go_enter Tryd.func59, Tryd.ntmps59
 go_wp2
 go_loopg [4, 5] k (fun kq v4 v5 w' => ∃ (x1 : Int) (x0 : Int), v4 = .int .i64 x1 ∧ v5 = .int .i64 x0 ∧ Aside0 (sleuthref1_digits.l0 kq a0 x1 x0 = some (r1, r2)) ∧ Aside0 (kq ≤ k) ∧ Drawn0 w w')
 case atStart => exact ⟨(0), (0), hW_, hW_, H', ⟨Nat.le_refl _⟩, by repeat (first | exact Drawn0.refl _ | apply Drawn0.step)⟩
 case round =>
  clear H'
  obtain ⟨x1, x0, rfl, rfl, HA, HK1, ⟨m1, rfl⟩⟩ := hrel
  cases gk with
  | zero => exact absurd HA.out (by simp [sleuthref1_digits.l0])
  | succ k1 =>
   have H := HA.out
   clear HA
   simp only [sleuthref1_digits.l0] at H
   by_cases c2 : x0 < (a0.size : Int)
   case neg =>
    rw [if_neg c2] at H
    have c2b0 : decide (x0 < (a0.size : Int)) = false := decide_eq_false c2
    clear c2
    simp only [Option.some.injEq, Prod.mk.injEq] at H
    obtain ⟨rfl, rfl⟩ := H
    go_wp2
    go_ret2
    exact ⟨by first | rfl | (simp; done) | (simp [*]; done), by repeat (first | exact Drawn0.refl _ | apply Drawn0.step)⟩

   rw [if_pos c2] at H
   have c2b0 : decide (x0 < (a0.size : Int)) = true := decide_eq_true c2
   clear c2
   by_cases c3 : x0 < 6
   case neg =>
    rw [if_neg c3] at H
    have c3b0 : decide (x0 < 6) = false := decide_eq_false c3
    clear c3
    simp only [Option.some.injEq, Prod.mk.injEq] at H
    obtain ⟨rfl, rfl⟩ := H
    go_wp2
    go_ret2
    exact ⟨by first | rfl | (simp; done) | (simp [*]; done), by repeat (first | exact Drawn0.refl _ | apply Drawn0.step)⟩
   rw [if_pos c3] at H
   have c3b0 : decide (x0 < 6) = true := decide_eq_true c3
   clear c3
   replace H := ifI_ H; obtain ⟨c4, H⟩ := H
   have c4b0 : decide (0 ≤ x0) = true := decide_eq_true c4
   clear c4
   by_cases c6 : (bt a0 x0) ≥ 48
   case neg =>
    rw [if_neg c6] at H
    have c6b0 : decide (48 ≤ (bt a0 x0)) = false := decide_eq_false c6
    clear c6
    simp only [Option.some.injEq, Prod.mk.injEq] at H
    obtain ⟨rfl, rfl⟩ := H
    have p5 : 0 ≤ (x0 : Int) := of_decide_eq_true hA_
    have q5 : x0 < (a0.size : Int) := of_decide_eq_true hA_
    have h0 := bt_at a0 x0
    replace p5 := eq_true p5
    replace q5 := eq_true q5
    go_wp2
    go_ret2
    exact ⟨by first | rfl | (simp; done) | (simp [*]; done), by repeat (first | exact Drawn0.refl _ | apply Drawn0.step)⟩
   rw [if_pos c6] at H
   have c6b0 : decide (48 ≤ (bt a0 x0)) = true := decide_eq_true c6
   clear c6
   by_cases c8 : (bt a0 x0) ≤ 57
   case neg =>
    rw [if_neg c8] at H
    have c8b0 : decide ((bt a0 x0) ≤ 57) = false := decide_eq_false c8
    clear c8
    simp only [Option.some.injEq, Prod.mk.injEq] at H
    obtain ⟨rfl, rfl⟩ := H
    have p5 : 0 ≤ (x0 : Int) := of_decide_eq_true hA_
    have q5 : x0 < (a0.size : Int) := of_decide_eq_true hA_
    have h0 := bt_at a0 x0
    replace p5 := eq_true p5
    replace q5 := eq_true q5
    have p7 : 0 ≤ (x0 : Int) := of_decide_eq_true hA_
    have q7 : x0 < (a0.size : Int) := of_decide_eq_true hA_
    have h1 := bt_at a0 x0
    replace p7 := eq_true p7
    replace q7 := eq_true q7
    go_wp2
    go_ret2
    exact ⟨by first | rfl | (simp; done) | (simp [*]; done), by repeat (first | exact Drawn0.refl _ | apply Drawn0.step)⟩
   rw [if_pos c8] at H
   have c8b0 : decide ((bt a0 x0) ≤ 57) = true := decide_eq_true c8
   clear c8
   by_cases c9 : x0 = 0
   case pos =>
    rw [if_pos c9] at H
    have c9b0 : (x0 == 0) = true := beq_iff_eq.mpr c9
    have c9b1 : (x0 != 0) = false := bne_eq_false_iff_eq.mpr c9
    clear c9
    have H' := a_ H
    clear H
    have p5 : 0 ≤ (x0 : Int) := of_decide_eq_true hA_
    have q5 : x0 < (a0.size : Int) := of_decide_eq_true hA_
    have h0 := bt_at a0 x0
    replace p5 := eq_true p5
    replace q5 := eq_true q5
    have p7 : 0 ≤ (x0 : Int) := of_decide_eq_true hA_
    have q7 : x0 < (a0.size : Int) := of_decide_eq_true hA_
    have h1 := bt_at a0 x0
    replace p7 := eq_true p7
    replace q7 := eq_true q7
    have p10 : 0 ≤ (x0 : Int) := of_decide_eq_true hA_
    have q10 : x0 < (a0.size : Int) := of_decide_eq_true hA_
    have h3 := bt_at a0 x0
    replace p10 := eq_true p10
    replace q10 := eq_true q10
    go_wp2
    go_roundg k1
    case measure => have := HK1.out; omega
    case rel => exact ⟨(wrap64 ((wrap64 (10 * x1)) + (((bt a0 x0) - 48) % 256))), (wrap64 (x0 + 1)), hW_, hW_, H', ⟨by have := HK1.out; omega⟩, by repeat (first | exact Drawn0.refl _ | apply Drawn0.step)⟩
   rw [if_neg c9] at H
   have c9b0 : (x0 == 0) = false := beq_eq_false_iff_ne.mpr c9
   have c9b1 : (x0 != 0) = true := bne_iff_ne.mpr c9
   replace H := ifI_ H; obtain ⟨c11, H⟩ := H
   have c11b0 : decide (0 < (a0.size : Int)) = true := decide_eq_true c11
   have c11b1 : decide (0 < a0.size) = true := decide_eq_true (by omega)
   clear c11
   by_cases c13 : (bt a0 0) = 48
   case pos =>
    rw [if_pos c13] at H
    have c13b0 : ((bt a0 0) == 48) = true := beq_iff_eq.mpr c13
    have c13b1 : ((bt a0 0) != 48) = false := bne_eq_false_iff_eq.mpr c13
    clear c13
    simp only [Option.some.injEq, Prod.mk.injEq] at H
    obtain ⟨rfl, rfl⟩ := H
    have p5 : 0 ≤ (x0 : Int) := of_decide_eq_true hA_
    have q5 : x0 < (a0.size : Int) := of_decide_eq_true hA_
    have h0 := bt_at a0 x0
    replace p5 := eq_true p5
    replace q5 := eq_true q5
    have p7 : 0 ≤ (x0 : Int) := of_decide_eq_true hA_
    have q7 : x0 < (a0.size : Int) := of_decide_eq_true hA_
    have h1 := bt_at a0 x0
    replace p7 := eq_true p7
    replace q7 := eq_true q7
    have p12 : 0 ≤ (0 : Int) := (by omega)
    have q12 : 0 < a0.size := (by have : (0 : Int) < (a0.size : Int) := of_decide_eq_true hA_; omega)
    have h2 : ∀ h : 0 < a0.size, ((a0[0]'h).toNat : Int) = bt a0 0 := bt_at a0 0
    clear p12
    have qi12 : (0 < (a0.size : Int)) = True := eq_true (of_decide_eq_true hA_)
    replace q12 := eq_true q12
    go_wp2
    go_ret2
    exact ⟨by first | rfl | (simp; done) | (simp [*]; done), by repeat (first | exact Drawn0.refl _ | apply Drawn0.step)⟩
   rw [if_neg c13] at H
   have c13b0 : ((bt a0 0) == 48) = false := beq_eq_false_iff_ne.mpr c13
   have c13b1 : ((bt a0 0) != 48) = true := bne_iff_ne.mpr c13
   have H' := a_ H
   clear H
   have p5 : 0 ≤ (x0 : Int) := of_decide_eq_true hA_
   have q5 : x0 < (a0.size : Int) := of_decide_eq_true hA_
   have h0 := bt_at a0 x0
   replace p5 := eq_true p5
   replace q5 := eq_true q5
   have p7 : 0 ≤ (x0 : Int) := of_decide_eq_true hA_
   have q7 : x0 < (a0.size : Int) := of_decide_eq_true hA_
   have h1 := bt_at a0 x0
   replace p7 := eq_true p7
   replace q7 := eq_true q7
   have p12 : 0 ≤ (0 : Int) := (by omega)
   have q12 : 0 < a0.size := (by have : (0 : Int) < (a0.size : Int) := of_decide_eq_true hA_; omega)
   have h2 : ∀ h : 0 < a0.size, ((a0[0]'h).toNat : Int) = bt a0 0 := bt_at a0 0
   clear p12
   have qi12 : (0 < (a0.size : Int)) = True := eq_true (of_decide_eq_true hA_)
   replace q12 := eq_true q12
   have p14 : 0 ≤ (x0 : Int) := of_decide_eq_true hA_
   have q14 : x0 < (a0.size : Int) := of_decide_eq_true hA_
   have h4 := bt_at a0 x0
   replace p14 := eq_true p14
   replace q14 := eq_true q14
   go_wp2
   go_roundg k1
   case measure => have := HK1.out; omega
   case rel => exact ⟨(wrap64 ((wrap64 (10 * x1)) + (((bt a0 x0) - 48) % 256))), (wrap64 (x0 + 1)), hW_, hW_, H', ⟨by have := HK1.out; omega⟩, by repeat (first | exact Drawn0.refl _ | apply Drawn0.step)⟩
-- (function 60, sleuthref1_parts: with its fellows)

def sleuthref1_upTo.f (a0 : Int) (a1 : Int) (a2 : Int) : Option (Bool) := if a0 ≥ a1 then (some (decide (a0 ≤ a2))) else (some false)
theorem sleuthref1_upTo.calls (a0 : Int) (a1 : Int) (a2 : Int) (r : Bool) (w : World) (h : sleuthref1_upTo.f a0 a1 a2 = some r) :
 Calls Tryd.prog 69 #[.int .i64 a0, .int .i64 a1, .int .i64 a2] w fun e w' => e = .returned (.bool r) ∧ Drawn0 w w' := by
 have H := h; unfold sleuthref1_upTo.f at H
 clear h
 by_cases c4 : a0 ≥ a1
 case pos =>
  rw [if_pos c4] at H
  have c4b0 : decide (a1 ≤ a0) = true := decide_eq_true c4
  clear c4
  obtain rfl := Option.some.inj H
  go_enter Tryd.func69, Tryd.ntmps69
  go_wp2
  go_ret
  exact ⟨by first | rfl | (simp; done) | (simp [*]; done), by repeat (first | exact Drawn0.refl _ | apply Drawn0.step)⟩
 rw [if_neg c4] at H
 have c4b0 : decide (a1 ≤ a0) = false := decide_eq_false c4
 clear c4
 obtain rfl := Option.some.inj H
 go_enter Tryd.func69, Tryd.ntmps69
 go_wp2
 go_ret
 exact ⟨by first | rfl | (simp; done) | (simp [*]; done), by repeat (first | exact Drawn0.refl _ | apply Drawn0.step)⟩

def sleuthref1_NumMay.f (a0 : Int) : Option (Bool) := (sleuthref1_upTo.f a0 (-32768) 32767).bind fun t236 => (some t236)
theorem sleuthref1_NumMay.calls (a0 : Int) (r : Bool) (w : World) (h : sleuthref1_NumMay.f a0 = some r) :
 Calls Tryd.prog 61 #[.int .i64 a0] w fun e w' => e = .returned (.bool r) ∧ Drawn0 w w' := by
 have H := h; unfold sleuthref1_NumMay.f at H
 clear h
 replace H := Option.bind_eq_some_iff.mp H
 obtain ⟨t0, A20, H⟩ := H
 try dsimp only at H
 have A2 := a_ A20
 clear A20
 obtain rfl := Option.some.inj H
 go_enter Tryd.func61, Tryd.ntmps61
 go_wp2_with (first | ((with_reducible refine gate_callee (f := 69) rfl ?_); refine goesL_ _ rfl rfl Tryd.func69 (by kernel_rfl) rfl #[.int .i64 a0, .int .i64 (-32768), .int .i64 32767] rfl hL_ ?_; (with_reducible refine (sleuthref1_upTo.calls a0 (-32768) 32767 t0 _ A2.out).mono ?_); rintro e w' ⟨rfl, ⟨nd, rfl⟩⟩; refine ⟨_, rfl, ?_⟩))
 go_ret
 exact ⟨by first | rfl | (simp; done) | (simp [*]; done), by repeat (first | exact Drawn0.refl _ | apply Drawn0.step)⟩

end Go.Proofs.YtnhmmbgnaogokaaDoor.G
end
