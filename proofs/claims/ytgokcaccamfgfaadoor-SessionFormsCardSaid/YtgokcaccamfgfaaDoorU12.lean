/- Parts of this proof, one behind the other: G45, G46, TNodes, TBits, G35, TopVals, HalfVals, HalfMore, TreeMath, TSizes, G36, G37, G38, NextRef, TSess, G1. -/
import Derived.Test.YtgokcaccamfgfaaDoorG0
import Derived.Test.YtgokcaccamfgfaaDoorU11
import Derived.Test.YtgokcaccamfgfaaDoorU9
import Derived.Test.YtgokcaccamfgfaaDoorU8
section
-- Laid by the session's own driver gp.py over the kit's printer. Not trusted: Lean checks it.
namespace Go.Proofs.YtgokcaccamfgfaaDoor.G
open Go.RowKit Go.Proofs.YtgokcaccamfgfaaDoorW.PrintWords Go.Proofs.YtgokcaccamfgfaaDoorW.PrintLast Go.Proofs.YtgokcaccamfgfaaDoorW.PrintMore
attribute [local go_sem] max2_int min2_int max_two min_two max_three min_three max_four min_four   -- for this text's walks alone
set_option linter.unusedVariables false
set_option linter.unusedSimpArgs false

/-! ### sleuthlaw0_SameTexts: function 56 -/
def sleuthlaw0_SameTexts.l0 : Nat → List ByteArray → List ByteArray → Int → Option (Bool)
  | 0, _, _, _ => none
  | k + 1, x0, x1, x5 => if x5 < (x0.length : Int) then (if 0 ≤ x5 then (if x5 < (x1.length : Int) then (if (rdOf ByteArray.empty x0 x5).toList = (rdOf ByteArray.empty x1 x5).toList then (sleuthlaw0_SameTexts.l0 k x0 x1 (wrap64 (x5 + 1))) else (some false)) else (none)) else (none)) else (some true)
def sleuthlaw0_SameTexts.f (k : Nat) (l0 : List ByteArray) (l1 : List ByteArray) : Option (Bool) := if (l0.length : Int) = (l1.length : Int) then (sleuthlaw0_SameTexts.l0 k l0 l1 0) else (some false)
theorem sleuthlaw0_SameTexts.mono_l : ∀ k, (∀ y0 y1 y2, LeO (sleuthlaw0_SameTexts.l0 k y0 y1 y2) (sleuthlaw0_SameTexts.l0 (k + 1) y0 y1 y2))
  | 0 => fun _ _ _ r h => by simp [sleuthlaw0_SameTexts.l0] at h
  | k + 1 => by
    have ih0 := sleuthlaw0_SameTexts.mono_l k
    · intro y0 y1 y2
      unfold sleuthlaw0_SameTexts.l0
      repeat' first
      | (with_reducible exact ih0 _ _ _)
      | (with_reducible exact LeO.refl _)
      | (with_reducible exact LeO.none _)
      | (with_reducible refine LeO.ite ?_ ?_)
      | (with_reducible refine LeO.bind ?_ (fun _ => ?_))
      | exact ih0 _ _ _
      | exact LeO.none _
      | refine LeO.ite ?_ ?_
      | refine LeO.bind ?_ (fun _ => ?_)
theorem sleuthlaw0_SameTexts.mono : ∀ a0 a1 k, LeO (sleuthlaw0_SameTexts.f k a0 a1) (sleuthlaw0_SameTexts.f (k + 1) a0 a1) := by
  intro a0 a1 k
  have ih0 := sleuthlaw0_SameTexts.mono_l k
  unfold sleuthlaw0_SameTexts.f
  repeat' first
      | (with_reducible exact ih0 _ _ _)
      | (with_reducible exact LeO.refl _)
      | (with_reducible exact LeO.none _)
      | (with_reducible refine LeO.ite ?_ ?_)
      | (with_reducible refine LeO.bind ?_ (fun _ => ?_))
      | exact ih0 _ _ _
      | exact LeO.none _
      | refine LeO.ite ?_ ?_
      | refine LeO.bind ?_ (fun _ => ?_)
set_option maxHeartbeats 8000000 in
set_option maxRecDepth 100000 in
theorem sleuthlaw0_SameTexts.calls (k : Nat) (A0 : Option Addr) (c0 : Nat) (l0 : List ByteArray) (A1 : Option Addr) (c1 : Nat) (l1 : List ByteArray) (r : Bool) (w : World) (hr0 : Kd.C Kd.string w A0 l0.length l0) (hc0 : l0.length ≤ c0) (hr1 : Kd.C Kd.string w A1 l1.length l1) (hc1 : l1.length ≤ c1) (h : sleuthlaw0_SameTexts.f k l0 l1 = some r) :
    Calls Tryd.prog 56 #[.slice A0 l0.length c0, .slice A1 l1.length c1] w fun e w' => e = .returned (.bool r) ∧ Drawn0 w w' := by
  have HR0 := Aside0.mk hr0
  have HC0 := Aside0.mk hc0
  clear hr0 hc0
  have HR1 := Aside0.mk hr1
  have HC1 := Aside0.mk hc1
  clear hr1 hc1
  have H : (if (l0.length : Int) = (l1.length : Int) then (sleuthlaw0_SameTexts.l0 k l0 l1 0) else (some false)) = some r := h
  clear h
  by_cases c3 : (l0.length : Int) = (l1.length : Int)
  case neg =>
    rw [if_neg c3] at H
    have c3b0 : ((l0.length : Int) == (l1.length : Int)) = false := beq_eq_false_iff_ne.mpr c3
    have c3b1 : ((l0.length : Int) != (l1.length : Int)) = true := bne_iff_ne.mpr c3
    have c3b2 : (l0.length == l1.length) = false := by first | simpa using c3 | (simp at c3 ⊢; omega)
    obtain rfl := Option.some.inj H
    go_enter Tryd.func56, Tryd.ntmps56
    go_wp2
    repeat (go_quiet (fail); try go_wp2)
    go_ret
    exact ⟨by first | rfl | (simp; done) | (simp [*]; done), by repeat (first | exact Drawn0.refl _ | apply Drawn0.step)⟩

  rw [if_pos c3] at H
  have c3b0 : ((l0.length : Int) == (l1.length : Int)) = true := beq_iff_eq.mpr c3
  have c3b1 : ((l0.length : Int) != (l1.length : Int)) = false := bne_eq_false_iff_eq.mpr c3
  have c3b2 : (l0.length == l1.length) = true := by first | simpa using c3 | (simp at c3 ⊢; omega)
  clear c3
  have H' := Aside0.mk H
  clear H
  go_enter Tryd.func56, Tryd.ntmps56
  go_wp2
  repeat (go_quiet (fail); try go_wp2)
  go_loopg [5] k (fun kq v5 w' => ∃ (x5_1 : Int), v5 = .int .i64 x5_1 ∧ Aside0 (sleuthlaw0_SameTexts.l0 kq l0 l1 x5_1 = some r) ∧ Aside0 (kq ≤ k) ∧ Drawn0 w w')
  case atStart => exact ⟨(0), hW_, H', ⟨Nat.le_refl _⟩, by repeat (first | exact Drawn0.refl _ | apply Drawn0.step)⟩
  case round =>
    clear H'
    try clear c1
    try clear p2
    try clear c3
    try clear c3b0
    try clear c3b1
    try clear c3b2
    obtain ⟨x5_1, rfl, HA, HK1, ⟨m1, rfl⟩⟩ := hrel
    cases gk with
    | zero => exact absurd HA.out (by simp [sleuthlaw0_SameTexts.l0])
    | succ k1 =>
      have H := HA.out
      clear HA
      simp only [sleuthlaw0_SameTexts.l0] at H
      by_cases c4 : x5_1 < (l0.length : Int)
      case neg =>
        rw [if_neg c4] at H
        have c4b0 : decide (x5_1 < (l0.length : Int)) = false := decide_eq_false c4
        clear c4
        obtain rfl := Option.some.inj H
        go_wp2
        repeat (go_quiet (fail); try go_wp2)
        go_ret
        exact ⟨by first | rfl | (simp; done) | (simp [*]; done), by repeat (first | exact Drawn0.refl _ | apply Drawn0.step)⟩
      rw [if_pos c4] at H
      have c4b0 : decide (x5_1 < (l0.length : Int)) = true := decide_eq_true c4
      clear c4
      replace H := ifI_ H; obtain ⟨c5, H⟩ := H
      have c5b0 : decide (0 ≤ x5_1) = true := decide_eq_true c5
      clear c5
      replace H := ifI_ H; obtain ⟨c6, H⟩ := H
      have c6b0 : decide (x5_1 < (l1.length : Int)) = true := decide_eq_true c6
      clear c6
      by_cases c7 : (rdOf ByteArray.empty l0 x5_1).toList = (rdOf ByteArray.empty l1 x5_1).toList
      case neg =>
        rw [if_neg c7] at H
        have c7b0 : ((rdOf ByteArray.empty l0 x5_1).toList == (rdOf ByteArray.empty l1 x5_1).toList) = false := beq_eq_false_iff_ne.mpr c7
        have c7b1 : ((rdOf ByteArray.empty l0 x5_1).toList != (rdOf ByteArray.empty l1 x5_1).toList) = true := bne_iff_ne.mpr c7
        obtain rfl := Option.some.inj H
        have p454 : 0 ≤ (x5_1 : Int) := of_decide_eq_true hA_
        have q454 : x5_1 < (l0.length : Int) := of_decide_eq_true hA_
        obtain ⟨ad454, e454, hx454_0⟩ := Kd.at_string HR0.out x5_1 p454 q454
        cases e454
        replace p454 := eq_true p454
        replace q454 := eq_true q454
        have p455 : 0 ≤ (x5_1 : Int) := of_decide_eq_true hA_
        have q455 : x5_1 < (l1.length : Int) := of_decide_eq_true hA_
        obtain ⟨ad455, e455, hx455_0⟩ := Kd.at_string HR1.out x5_1 p455 q455
        cases e455
        replace p455 := eq_true p455
        replace q455 := eq_true q455
        go_wp2
        repeat (go_quiet (fail); try go_wp2)
        go_ret
        exact ⟨by first | rfl | (simp; done) | (simp [*]; done), by repeat (first | exact Drawn0.refl _ | apply Drawn0.step)⟩
      rw [if_pos c7] at H
      have c7b0 : ((rdOf ByteArray.empty l0 x5_1).toList == (rdOf ByteArray.empty l1 x5_1).toList) = true := beq_iff_eq.mpr c7
      have c7b1 : ((rdOf ByteArray.empty l0 x5_1).toList != (rdOf ByteArray.empty l1 x5_1).toList) = false := bne_eq_false_iff_eq.mpr c7
      clear c7
      have H' := Aside0.mk H
      clear H
      have p454 : 0 ≤ (x5_1 : Int) := of_decide_eq_true hA_
      have q454 : x5_1 < (l0.length : Int) := of_decide_eq_true hA_
      obtain ⟨ad454, e454, hx454_0⟩ := Kd.at_string HR0.out x5_1 p454 q454
      cases e454
      replace p454 := eq_true p454
      replace q454 := eq_true q454
      have p455 : 0 ≤ (x5_1 : Int) := of_decide_eq_true hA_
      have q455 : x5_1 < (l1.length : Int) := of_decide_eq_true hA_
      obtain ⟨ad455, e455, hx455_0⟩ := Kd.at_string HR1.out x5_1 p455 q455
      cases e455
      replace p455 := eq_true p455
      replace q455 := eq_true q455
      go_wp2
      repeat (go_quiet (fail); try go_wp2)
      go_roundg k1
      case measure => have := HK1.out; omega
      case rel => exact ⟨(wrap64 (x5_1 + 1)), hW_, H', ⟨by have := HK1.out; omega⟩, by repeat (first | exact Drawn0.refl _ | apply Drawn0.step)⟩
/-! ### sleuthlaw0_SameNode: function 51 -/
def sleuthlaw0_SameNode.f (k : Nat) (a0_0 : Int) (a0_1 : Int) (l0_2 : List ByteArray) (a0_3 : ByteArray) (a1_0 : Int) (a1_1 : Int) (l1_2 : List ByteArray) (a1_3 : ByteArray) : Option (Bool) := if a0_0 = a1_0 then (if a0_1 = a1_1 then ((sleuthlaw0_SameTexts.f k l0_2 l1_2).bind fun t458 => (if t458 = true then (some (a0_3.toList == a1_3.toList)) else (some false))) else (some false)) else (some false)
theorem sleuthlaw0_SameNode.mono : ∀ a0 a1 a2 a3 a4 a5 a6 a7 k, LeO (sleuthlaw0_SameNode.f k a0 a1 a2 a3 a4 a5 a6 a7) (sleuthlaw0_SameNode.f (k + 1) a0 a1 a2 a3 a4 a5 a6 a7) := by
  intro a0 a1 a2 a3 a4 a5 a6 a7 k
  unfold sleuthlaw0_SameNode.f
  repeat' first
      | (with_reducible exact sleuthlaw0_SameTexts.mono _ _ _)
      | (with_reducible exact LeO.refl _)
      | (with_reducible exact LeO.none _)
      | (with_reducible refine LeO.ite ?_ ?_)
      | (with_reducible refine LeO.bind ?_ (fun _ => ?_))
      | exact sleuthlaw0_SameTexts.mono _ _ _
      | exact LeO.none _
      | refine LeO.ite ?_ ?_
      | refine LeO.bind ?_ (fun _ => ?_)
set_option maxHeartbeats 8000000 in
set_option maxRecDepth 100000 in
theorem sleuthlaw0_SameNode.calls (k : Nat) (a0_0 : Int) (a0_1 : Int) (A0_2 : Option Addr) (c0_2 : Nat) (l0_2 : List ByteArray) (a0_3 : ByteArray) (a1_0 : Int) (a1_1 : Int) (A1_2 : Option Addr) (c1_2 : Nat) (l1_2 : List ByteArray) (a1_3 : ByteArray) (r : Bool) (w : World) (hr0_2 : Kd.C Kd.string w A0_2 l0_2.length l0_2) (hc0_2 : l0_2.length ≤ c0_2) (hr1_2 : Kd.C Kd.string w A1_2 l1_2.length l1_2) (hc1_2 : l1_2.length ≤ c1_2) (h : sleuthlaw0_SameNode.f k a0_0 a0_1 l0_2 a0_3 a1_0 a1_1 l1_2 a1_3 = some r) :
    Calls Tryd.prog 51 #[.agg #[.int .i64 a0_0, .int .i64 a0_1, .slice A0_2 l0_2.length c0_2, .string a0_3], .agg #[.int .i64 a1_0, .int .i64 a1_1, .slice A1_2 l1_2.length c1_2, .string a1_3]] w fun e w' => e = .returned (.bool r) ∧ Below w.heap.size w w' := by
  have hu33 := Tryd.underlying33
  have HR0_2 := Aside0.mk hr0_2
  have HC0_2 := Aside0.mk hc0_2
  clear hr0_2 hc0_2
  have HR1_2 := Aside0.mk hr1_2
  have HC1_2 := Aside0.mk hc1_2
  clear hr1_2 hc1_2
  have HB := Aside0.mk (Below.refl w.heap.size w)
  have H : (if a0_0 = a1_0 then (if a0_1 = a1_1 then ((sleuthlaw0_SameTexts.f k l0_2 l1_2).bind fun t458 => (if t458 = true then (some (a0_3.toList == a1_3.toList)) else (some false))) else (some false)) else (some false)) = some r := h
  clear h
  by_cases c3 : a0_0 = a1_0
  case neg =>
    rw [if_neg c3] at H
    have c3b0 : (a0_0 == a1_0) = false := beq_eq_false_iff_ne.mpr c3
    have c3b1 : (a0_0 != a1_0) = true := bne_iff_ne.mpr c3
    obtain rfl := Option.some.inj H
    go_enter Tryd.func51, Tryd.ntmps51
    go_wp2_with (first | ((with_reducible refine gate_dst (N := 2) rfl ?_); refine boxE_ 2 #[.int .i64 a0_0, .int .i64 a0_1, .slice A0_2 l0_2.length c0_2, .string a0_3] 33 ?_; intro gb456 hg w22 hbox hb; have n0_ := Aside0.mk (below_step hB_ hb); have n1_ := Aside0.mk (hbox); have n2_ := Aside0.mk ((gE_ hg : w.heap.size ≤ gb456)); have n3_ := Aside0.mk ((gE_ hg : w.heap.size ≤ gb456)); clear HB; have HB := n0_; have BK456 := n1_; have GW456 := n2_; have GE456 := n3_; clear n0_ n1_ n2_ n3_; clear hb hbox hg) | ((with_reducible refine gate_dst (N := 3) rfl ?_); refine boxE_ 3 #[.int .i64 a1_0, .int .i64 a1_1, .slice A1_2 l1_2.length c1_2, .string a1_3] 33 ?_; intro gb457 hg w23 hbox hb; have n0_ := Aside0.mk (bB_ BK456.out hb); have n1_ := Aside0.mk (below_step hC_ hb); have n2_ := Aside0.mk (hbox); have n3_ := Aside0.mk ((gE_ hg : w.heap.size ≤ gb457)); have n4_ := Aside0.mk ((gE_ hg : w.heap.size ≤ gb457)); have n5_ := Aside0.mk ((bL_ BK456.out hg : gb456 ≠ gb457)); have n6_ := Aside0.mk ((bG_ BK456.out hg : gb457 ≠ gb456)); clear BK456 HB; have BK456 := n0_; have HB := n1_; have BK457 := n2_; have GW457 := n3_; have GE457 := n4_; have NB456_457 := n5_; have NB457_456 := n6_; clear n0_ n1_ n2_ n3_ n4_ n5_ n6_; clear hb hbox hg; have hnb24 := NB456_457.out; have hnc24 := NB457_456.out; obtain ⟨hcz25_0, hcz25_1, hcz25_2, hcz25_3, hfz25_0, hfz25_1, hfz25_2, hfz25_3⟩ := bx4_ BK456.out; obtain ⟨hcz26_0, hcz26_1, hcz26_2, hcz26_3, hfz26_0, hfz26_1, hfz26_2, hfz26_3⟩ := bx4_ BK457.out))
    go_ret
    exact ⟨hV_, hC_⟩

  rw [if_pos c3] at H
  have c3b0 : (a0_0 == a1_0) = true := beq_iff_eq.mpr c3
  have c3b1 : (a0_0 != a1_0) = false := bne_eq_false_iff_eq.mpr c3
  clear c3
  by_cases c4 : a0_1 = a1_1
  case neg =>
    rw [if_neg c4] at H
    have c4b0 : (a0_1 == a1_1) = false := beq_eq_false_iff_ne.mpr c4
    have c4b1 : (a0_1 != a1_1) = true := bne_iff_ne.mpr c4
    obtain rfl := Option.some.inj H
    go_enter Tryd.func51, Tryd.ntmps51
    go_wp2_with (first | ((with_reducible refine gate_dst (N := 2) rfl ?_); refine boxE_ 2 #[.int .i64 a0_0, .int .i64 a0_1, .slice A0_2 l0_2.length c0_2, .string a0_3] 33 ?_; intro gb456 hg w17 hbox hb; have n0_ := Aside0.mk (below_step hB_ hb); have n1_ := Aside0.mk (hbox); have n2_ := Aside0.mk ((gE_ hg : w.heap.size ≤ gb456)); have n3_ := Aside0.mk ((gE_ hg : w.heap.size ≤ gb456)); clear HB; have HB := n0_; have BK456 := n1_; have GW456 := n2_; have GE456 := n3_; clear n0_ n1_ n2_ n3_; clear hb hbox hg) | ((with_reducible refine gate_dst (N := 3) rfl ?_); refine boxE_ 3 #[.int .i64 a1_0, .int .i64 a1_1, .slice A1_2 l1_2.length c1_2, .string a1_3] 33 ?_; intro gb457 hg w18 hbox hb; have n0_ := Aside0.mk (bB_ BK456.out hb); have n1_ := Aside0.mk (below_step hC_ hb); have n2_ := Aside0.mk (hbox); have n3_ := Aside0.mk ((gE_ hg : w.heap.size ≤ gb457)); have n4_ := Aside0.mk ((gE_ hg : w.heap.size ≤ gb457)); have n5_ := Aside0.mk ((bL_ BK456.out hg : gb456 ≠ gb457)); have n6_ := Aside0.mk ((bG_ BK456.out hg : gb457 ≠ gb456)); clear BK456 HB; have BK456 := n0_; have HB := n1_; have BK457 := n2_; have GW457 := n3_; have GE457 := n4_; have NB456_457 := n5_; have NB457_456 := n6_; clear n0_ n1_ n2_ n3_ n4_ n5_ n6_; clear hb hbox hg; have hnb19 := NB456_457.out; have hnc19 := NB457_456.out; obtain ⟨hcz20_0, hcz20_1, hcz20_2, hcz20_3, hfz20_0, hfz20_1, hfz20_2, hfz20_3⟩ := bx4_ BK456.out; obtain ⟨hcz21_0, hcz21_1, hcz21_2, hcz21_3, hfz21_0, hfz21_1, hfz21_2, hfz21_3⟩ := bx4_ BK457.out))
    go_ret
    exact ⟨hV_, hC_⟩
  rw [if_pos c4] at H
  have c4b0 : (a0_1 == a1_1) = true := beq_iff_eq.mpr c4
  have c4b1 : (a0_1 != a1_1) = false := bne_eq_false_iff_eq.mpr c4
  clear c4
  replace H := Option.bind_eq_some_iff.mp H
  obtain ⟨t458, A50, H⟩ := H
  replace H : (if t458 = true then (some (a0_3.toList == a1_3.toList)) else (some false)) = some r := H
  have A5 := Aside0.mk A50
  clear A50
  by_cases c6 : t458 = true
  case pos =>
    subst c6
    have H1 : (some (a0_3.toList == a1_3.toList)) = some r := by rw [if_pos rfl] at H; exact H
    clear H
    have H := H1
    clear H1
    obtain rfl := Option.some.inj H
    go_enter Tryd.func51, Tryd.ntmps51
    go_wp2_with (first | ((with_reducible refine gate_dst (N := 2) rfl ?_); refine boxE_ 2 #[.int .i64 a0_0, .int .i64 a0_1, .slice A0_2 l0_2.length c0_2, .string a0_3] 33 ?_; intro gb456 hg w7 hbox hb; have n0_ := Aside0.mk (below_step hB_ hb); have n1_ := Aside0.mk (hbox); have n2_ := Aside0.mk ((gE_ hg : w.heap.size ≤ gb456)); have n3_ := Aside0.mk ((gE_ hg : w.heap.size ≤ gb456)); clear HB; have HB := n0_; have BK456 := n1_; have GW456 := n2_; have GE456 := n3_; clear n0_ n1_ n2_ n3_; clear hb hbox hg) | ((with_reducible refine gate_dst (N := 3) rfl ?_); refine boxE_ 3 #[.int .i64 a1_0, .int .i64 a1_1, .slice A1_2 l1_2.length c1_2, .string a1_3] 33 ?_; intro gb457 hg w8 hbox hb; have n0_ := Aside0.mk (bB_ BK456.out hb); have n1_ := Aside0.mk (below_step hC_ hb); have n2_ := Aside0.mk (hbox); have n3_ := Aside0.mk ((gE_ hg : w.heap.size ≤ gb457)); have n4_ := Aside0.mk ((gE_ hg : w.heap.size ≤ gb457)); have n5_ := Aside0.mk ((bL_ BK456.out hg : gb456 ≠ gb457)); have n6_ := Aside0.mk ((bG_ BK456.out hg : gb457 ≠ gb456)); clear BK456 HB; have BK456 := n0_; have HB := n1_; have BK457 := n2_; have GW457 := n3_; have GE457 := n4_; have NB456_457 := n5_; have NB457_456 := n6_; clear n0_ n1_ n2_ n3_ n4_ n5_ n6_; clear hb hbox hg; have hnb9 := NB456_457.out; have hnc9 := NB457_456.out; obtain ⟨hcz10_0, hcz10_1, hcz10_2, hcz10_3, hfz10_0, hfz10_1, hfz10_2, hfz10_3⟩ := bx4_ BK456.out; obtain ⟨hcz11_0, hcz11_1, hcz11_2, hcz11_3, hfz11_0, hfz11_1, hfz11_2, hfz11_3⟩ := bx4_ BK457.out) | (go_at_call 56; (with_reducible refine (sleuthlaw0_SameTexts.calls k _ _ l0_2 _ _ l1_2 true _ ?side1 ?side2 ?side3 ?side4 A5.out).mono ?_); (case side1 => exact cB_ HR0_2.out); (case side2 => exact HC0_2.out); (case side3 => exact cB_ HR1_2.out); (case side4 => exact HC1_2.out); rintro e w' ⟨rfl, ⟨nd, rfl⟩⟩))
    go_ret
    exact ⟨hV_, hC_⟩
  replace c6 := Bool.eq_false_iff.mpr c6
  subst c6
  have H1 : (some false) = some r := by rw [if_neg (show ¬ (false = true) by decide)] at H; exact H
  clear H
  have H := H1
  clear H1
  obtain rfl := Option.some.inj H
  go_enter Tryd.func51, Tryd.ntmps51
  go_wp2_with (first | ((with_reducible refine gate_dst (N := 2) rfl ?_); refine boxE_ 2 #[.int .i64 a0_0, .int .i64 a0_1, .slice A0_2 l0_2.length c0_2, .string a0_3] 33 ?_; intro gb456 hg w12 hbox hb; have n0_ := Aside0.mk (below_step hB_ hb); have n1_ := Aside0.mk (hbox); have n2_ := Aside0.mk ((gE_ hg : w.heap.size ≤ gb456)); have n3_ := Aside0.mk ((gE_ hg : w.heap.size ≤ gb456)); clear HB; have HB := n0_; have BK456 := n1_; have GW456 := n2_; have GE456 := n3_; clear n0_ n1_ n2_ n3_; clear hb hbox hg) | ((with_reducible refine gate_dst (N := 3) rfl ?_); refine boxE_ 3 #[.int .i64 a1_0, .int .i64 a1_1, .slice A1_2 l1_2.length c1_2, .string a1_3] 33 ?_; intro gb457 hg w13 hbox hb; have n0_ := Aside0.mk (bB_ BK456.out hb); have n1_ := Aside0.mk (below_step hC_ hb); have n2_ := Aside0.mk (hbox); have n3_ := Aside0.mk ((gE_ hg : w.heap.size ≤ gb457)); have n4_ := Aside0.mk ((gE_ hg : w.heap.size ≤ gb457)); have n5_ := Aside0.mk ((bL_ BK456.out hg : gb456 ≠ gb457)); have n6_ := Aside0.mk ((bG_ BK456.out hg : gb457 ≠ gb456)); clear BK456 HB; have BK456 := n0_; have HB := n1_; have BK457 := n2_; have GW457 := n3_; have GE457 := n4_; have NB456_457 := n5_; have NB457_456 := n6_; clear n0_ n1_ n2_ n3_ n4_ n5_ n6_; clear hb hbox hg; have hnb14 := NB456_457.out; have hnc14 := NB457_456.out; obtain ⟨hcz15_0, hcz15_1, hcz15_2, hcz15_3, hfz15_0, hfz15_1, hfz15_2, hfz15_3⟩ := bx4_ BK456.out; obtain ⟨hcz16_0, hcz16_1, hcz16_2, hcz16_3, hfz16_0, hfz16_1, hfz16_2, hfz16_3⟩ := bx4_ BK457.out) | (go_at_call 56; (with_reducible refine (sleuthlaw0_SameTexts.calls k _ _ l0_2 _ _ l1_2 false _ ?side1 ?side2 ?side3 ?side4 A5.out).mono ?_); (case side1 => exact cB_ HR0_2.out); (case side2 => exact HC0_2.out); (case side3 => exact cB_ HR1_2.out); (case side4 => exact HC1_2.out); rintro e w' ⟨rfl, ⟨nd, rfl⟩⟩))
  go_ret
  exact ⟨hV_, hC_⟩
end Go.Proofs.YtgokcaccamfgfaaDoor.G
end
section
-- Laid by the session's own driver gp.py over the kit's printer. Not trusted: Lean checks it.
namespace Go.Proofs.YtgokcaccamfgfaaDoor.G
open Go.RowKit Go.Proofs.YtgokcaccamfgfaaDoorW.PrintWords Go.Proofs.YtgokcaccamfgfaaDoorW.PrintLast Go.Proofs.YtgokcaccamfgfaaDoorW.PrintMore
attribute [local go_sem] max2_int min2_int max_two min_two max_three min_three max_four min_four   -- for this text's walks alone
set_option linter.unusedVariables false
set_option linter.unusedSimpArgs false

/-! ### sleuthlaw0_SameNodes: function 36 -/
def sleuthlaw0_SameNodes.l0 : Nat → List (S33) → List (S33) → Int → Option (Bool)
  | 0, _, _, _ => none
  | k + 1, x0, x1, x5 => if x5 < (x0.length : Int) then (if 0 ≤ x5 then (if x5 < (x1.length : Int) then ((sleuthlaw0_SameNode.f k ((rd_T33 x0 x5).f0) ((rd_T33 x0 x5).f1) ((rd_T33 x0 x5).f2) ((rd_T33 x0 x5).f3) ((rd_T33 x1 x5).f0) ((rd_T33 x1 x5).f1) ((rd_T33 x1 x5).f2) ((rd_T33 x1 x5).f3)).bind fun t461 => (if t461 = true then (sleuthlaw0_SameNodes.l0 k x0 x1 (wrap64 (x5 + 1))) else (some false))) else (none)) else (none)) else (some true)
def sleuthlaw0_SameNodes.f (k : Nat) (l0 : List (S33)) (l1 : List (S33)) : Option (Bool) := if (l0.length : Int) = (l1.length : Int) then (sleuthlaw0_SameNodes.l0 k l0 l1 0) else (some false)
theorem sleuthlaw0_SameNodes.mono_l : ∀ k, (∀ y0 y1 y2, LeO (sleuthlaw0_SameNodes.l0 k y0 y1 y2) (sleuthlaw0_SameNodes.l0 (k + 1) y0 y1 y2))
  | 0 => fun _ _ _ r h => by simp [sleuthlaw0_SameNodes.l0] at h
  | k + 1 => by
    have ih0 := sleuthlaw0_SameNodes.mono_l k
    · intro y0 y1 y2
      unfold sleuthlaw0_SameNodes.l0
      repeat' first
      | (with_reducible exact ih0 _ _ _)
      | (with_reducible exact sleuthlaw0_SameNode.mono _ _ _ _ _ _ _ _ _)
      | (with_reducible exact LeO.refl _)
      | (with_reducible exact LeO.none _)
      | (with_reducible refine LeO.ite ?_ ?_)
      | (with_reducible refine LeO.bind ?_ (fun _ => ?_))
      | exact ih0 _ _ _
      | exact sleuthlaw0_SameNode.mono _ _ _ _ _ _ _ _ _
      | exact LeO.none _
      | refine LeO.ite ?_ ?_
      | refine LeO.bind ?_ (fun _ => ?_)
theorem sleuthlaw0_SameNodes.mono : ∀ a0 a1 k, LeO (sleuthlaw0_SameNodes.f k a0 a1) (sleuthlaw0_SameNodes.f (k + 1) a0 a1) := by
  intro a0 a1 k
  have ih0 := sleuthlaw0_SameNodes.mono_l k
  unfold sleuthlaw0_SameNodes.f
  repeat' first
      | (with_reducible exact ih0 _ _ _)
      | (with_reducible exact sleuthlaw0_SameNode.mono _ _ _ _ _ _ _ _ _)
      | (with_reducible exact LeO.refl _)
      | (with_reducible exact LeO.none _)
      | (with_reducible refine LeO.ite ?_ ?_)
      | (with_reducible refine LeO.bind ?_ (fun _ => ?_))
      | exact ih0 _ _ _
      | exact sleuthlaw0_SameNode.mono _ _ _ _ _ _ _ _ _
      | exact LeO.none _
      | refine LeO.ite ?_ ?_
      | refine LeO.bind ?_ (fun _ => ?_)
def sleuthlaw0_SameNodes.T6 : Bool × List (List Nat × List Nat) := (true, [([], []), ([], []), ([0, 1], [0, 1]), ([2], [2]), ([], []), ([], []), ([4, 5], [4, 5]), ([6], [6]), ([3, 7], [3, 7]), ([8], [8])])
def sleuthlaw0_SameNodes.B6 : List Nat := [0, 0, 3, 7, 0, 0, 48, 112, 255, 511]
theorem sleuthlaw0_SameNodes.tab6 : rtab .any (opsOf Tryd.f36 6) = sleuthlaw0_SameNodes.T6 := by kernel_rfl
theorem sleuthlaw0_SameNodes.bits6 : waitsOk sleuthlaw0_SameNodes.T6.2 sleuthlaw0_SameNodes.B6 = true := by kernel_rfl
set_option maxHeartbeats 8000000 in
set_option maxRecDepth 100000 in
theorem sleuthlaw0_SameNodes.calls (k : Nat) (A0 : Option Addr) (c0 : Nat) (l0 : List (S33)) (A1 : Option Addr) (c1 : Nat) (l1 : List (S33)) (r : Bool) (w : World) (hr0 : Kd.C k33 w A0 l0.length l0) (hc0 : l0.length ≤ c0) (hr1 : Kd.C k33 w A1 l1.length l1) (hc1 : l1.length ≤ c1) (h : sleuthlaw0_SameNodes.f k l0 l1 = some r) :
    Calls Tryd.prog 36 #[.slice A0 l0.length c0, .slice A1 l1.length c1] w fun e w' => e = .returned (.bool r) ∧ Below w.heap.size w w' := by
  have hu33 := Tryd.underlying33
  have HR0 := Aside0.mk hr0
  have HC0 := Aside0.mk hc0
  clear hr0 hc0
  have HR1 := Aside0.mk hr1
  have HC1 := Aside0.mk hc1
  clear hr1 hc1
  have HB := Aside0.mk (Below.refl w.heap.size w)
  have H : (if (l0.length : Int) = (l1.length : Int) then (sleuthlaw0_SameNodes.l0 k l0 l1 0) else (some false)) = some r := h
  clear h
  by_cases c3 : (l0.length : Int) = (l1.length : Int)
  case neg =>
    rw [if_neg c3] at H
    have c3b0 : ((l0.length : Int) == (l1.length : Int)) = false := beq_eq_false_iff_ne.mpr c3
    have c3b1 : ((l0.length : Int) != (l1.length : Int)) = true := bne_iff_ne.mpr c3
    have c3b2 : (l0.length == l1.length) = false := by first | simpa using c3 | (simp at c3 ⊢; omega)
    obtain rfl := Option.some.inj H
    go_enter Tryd.func36, Tryd.ntmps36
    go_wp2
    go_ret
    exact ⟨hV_, hC_⟩

  rw [if_pos c3] at H
  have c3b0 : ((l0.length : Int) == (l1.length : Int)) = true := beq_iff_eq.mpr c3
  have c3b1 : ((l0.length : Int) != (l1.length : Int)) = false := bne_eq_false_iff_eq.mpr c3
  have c3b2 : (l0.length == l1.length) = true := by first | simpa using c3 | (simp at c3 ⊢; omega)
  clear c3
  have H' := Aside0.mk H
  clear H
  go_enter Tryd.func36, Tryd.ntmps36
  go_wp2
  go_loopg [5] k (fun kq v5 w' => ∃ (x5_1 : Int), v5 = .int .i64 x5_1 ∧ Aside0 (sleuthlaw0_SameNodes.l0 kq l0 l1 x5_1 = some r) ∧ Aside0 (kq ≤ k) ∧ Aside0 (Below w.heap.size w w'))
  case atStart => exact ⟨(0), hW_, H', ⟨Nat.le_refl _⟩, ⟨hC_⟩⟩
  case round =>
    clear H'
    try clear c1
    try clear p2
    try clear c3
    try clear c3b0
    try clear c3b1
    try clear c3b2
    obtain ⟨x5_1, rfl, HA, HK1, HB⟩ := hrel
    cases gk with
    | zero => exact absurd HA.out (by simp [sleuthlaw0_SameNodes.l0])
    | succ k1 =>
      have H := HA.out
      clear HA
      simp only [sleuthlaw0_SameNodes.l0] at H
      by_cases c4 : x5_1 < (l0.length : Int)
      case neg =>
        rw [if_neg c4] at H
        have c4b0 : decide (x5_1 < (l0.length : Int)) = false := decide_eq_false c4
        clear c4
        obtain rfl := Option.some.inj H
        go_wp2
        go_ret
        exact ⟨hV_, hC_⟩
      rw [if_pos c4] at H
      have c4b0 : decide (x5_1 < (l0.length : Int)) = true := decide_eq_true c4
      clear c4
      replace H := ifI_ H; obtain ⟨c5, H⟩ := H
      have c5b0 : decide (0 ≤ x5_1) = true := decide_eq_true c5
      clear c5
      replace H := ifI_ H; obtain ⟨c6, H⟩ := H
      have c6b0 : decide (x5_1 < (l1.length : Int)) = true := decide_eq_true c6
      clear c6
      replace H := Option.bind_eq_some_iff.mp H
      obtain ⟨t461, A70, H⟩ := H
      replace H : (if t461 = true then (sleuthlaw0_SameNodes.l0 k1 l0 l1 (wrap64 (x5_1 + 1))) else (some false)) = some r := H
      have A7 := Aside0.mk A70
      clear A70
      by_cases c8 : t461 = true
      case neg =>
        replace c8 := Bool.eq_false_iff.mpr c8
        subst c8
        have H1 : (some false) = some r := by rw [if_neg (show ¬ (false = true) by decide)] at H; exact H
        clear H
        have H := H1
        clear H1
        obtain rfl := Option.some.inj H
        try go_wp2
        have n0_ := Aside0.mk (below_drew1 HB.out)
        clear HB
        have HB := n0_
        clear n0_
        have p459 : 0 ≤ (x5_1 : Int) := of_decide_eq_true hA_
        have q459 : x5_1 < (l0.length : Int) := of_decide_eq_true hA_
        obtain ⟨ad459, A459_2, c459_2, e459, hx459_0, hx459_1, hx459_2, hx459_3, hl459_2, hi459_2⟩ := at_T33 HR0.out x5_1 p459 q459
        have hw459_3 := hx459_3
        have hw459_2 := hx459_2
        have hw459_1 := hx459_1
        have hw459_0 := hx459_0
        cases e459
        replace hx459_0 := cl_ HB.out hx459_0
        replace hx459_1 := cl_ HB.out hx459_1
        replace hx459_2 := cl_ HB.out hx459_2
        replace hx459_3 := cl_ HB.out hx459_3
        have HR459_2 := Aside0.mk hi459_2
        have HC459_2 := Aside0.mk hl459_2
        clear hi459_2 hl459_2
        replace p459 := eq_true p459
        replace q459 := eq_true q459
        have p460 : 0 ≤ (x5_1 : Int) := of_decide_eq_true hA_
        have q460 : x5_1 < (l1.length : Int) := of_decide_eq_true hA_
        obtain ⟨ad460, A460_2, c460_2, e460, hx460_0, hx460_1, hx460_2, hx460_3, hl460_2, hi460_2⟩ := at_T33 HR1.out x5_1 p460 q460
        have hw460_3 := hx460_3
        have hw460_2 := hx460_2
        have hw460_1 := hx460_1
        have hw460_0 := hx460_0
        cases e460
        replace hx460_0 := cl_ HB.out hx460_0
        replace hx460_1 := cl_ HB.out hx460_1
        replace hx460_2 := cl_ HB.out hx460_2
        replace hx460_3 := cl_ HB.out hx460_3
        have HR460_2 := Aside0.mk hi460_2
        have HC460_2 := Aside0.mk hl460_2
        clear hi460_2 hl460_2
        replace p460 := eq_true p460
        replace q460 := eq_true q460
        refine start_ (n := 10) (S := fun w' => w'.cell? (ad459.add ((x5_1).toNat * 4)) = some (.int .i64 ((rd_T33 l0 x5_1).f0)) ∧ w'.cell? ⟨(ad459.add ((x5_1).toNat * 4)).block, (ad459.add ((x5_1).toNat * 4)).off + 1, none⟩ = some (.int .i64 ((rd_T33 l0 x5_1).f1)) ∧ w'.cell? ⟨(ad459.add ((x5_1).toNat * 4)).block, (ad459.add ((x5_1).toNat * 4)).off + 2, none⟩ = some (.slice A459_2 ((rd_T33 l0 x5_1).f2).length c459_2) ∧ w'.cell? ⟨(ad459.add ((x5_1).toNat * 4)).block, (ad459.add ((x5_1).toNat * 4)).off + 3, none⟩ = some (.string ((rd_T33 l0 x5_1).f3)) ∧ w'.cell? (ad460.add ((x5_1).toNat * 4)) = some (.int .i64 ((rd_T33 l1 x5_1).f0)) ∧ w'.cell? ⟨(ad460.add ((x5_1).toNat * 4)).block, (ad460.add ((x5_1).toNat * 4)).off + 1, none⟩ = some (.int .i64 ((rd_T33 l1 x5_1).f1)) ∧ w'.cell? ⟨(ad460.add ((x5_1).toNat * 4)).block, (ad460.add ((x5_1).toNat * 4)).off + 2, none⟩ = some (.slice A460_2 ((rd_T33 l1 x5_1).f2).length c460_2) ∧ w'.cell? ⟨(ad460.add ((x5_1).toNat * 4)).block, (ad460.add ((x5_1).toNat * 4)).off + 3, none⟩ = some (.string ((rd_T33 l1 x5_1).f3))) (ds := []) #[false, false, false, false, false, false, false, false, false, false] (by kernel_rfl) rfl rfl ⟨(cl_ HB.out hw459_0), (cl_ HB.out hw459_1), (cl_ HB.out hw459_2), (cl_ HB.out hw459_3), (cl_ HB.out hw460_0), (cl_ HB.out hw460_1), (cl_ HB.out hw460_2), (cl_ HB.out hw460_3)⟩ (fun hHeld => ?_); refine with_tabW sleuthlaw0_SameNodes.tab6 sleuthlaw0_SameNodes.bits6 (fun HT_ HW_ => ?_)
        generalize wr.drew = w11 at HB HR459_2 HR460_2 hx459_0 hx459_1 hx459_2 hx459_3 hx460_0 hx460_1 hx460_2 hx460_3 hHeld ⊢
        refine pA_ 0 17 #[true, false, false, false, false, false, false, false, false, false] HT_.out ?_
        refine pA_ 1 18 #[true, true, false, false, false, false, false, false, false, false] HT_.out ?_
        refine pA_ 2 19 #[true, true, true, false, false, false, false, false, false, false] HT_.out ?_
        refine pA_ 4 21 #[true, true, true, false, true, false, false, false, false, false] HT_.out ?_
        refine pA_ 5 22 #[true, true, true, false, true, true, false, false, false, false] HT_.out ?_
        refine pA_ 6 23 #[true, true, true, false, true, true, true, false, false, false] HT_.out ?_
        refine tA_ 3 20 #[true, true, true, true, true, true, true, false, false, false] HT_.out HW_.out hHeld ?_
        refine tA_ 7 24 #[true, true, true, true, true, true, true, true, false, false] HT_.out HW_.out hHeld ?_
        refine one_ (i := 8) (N := some 25) #[true, true, true, true, true, true, true, true, true, false] rfl rfl (one_of HT_.out (by kernel_rfl)) (by decide) (fun K hK => ?_)
        refine goes_ Tryd.func51 (by kernel_rfl) rfl #[.agg #[.int .i64 ((rd_T33 l0 x5_1).f0), .int .i64 ((rd_T33 l0 x5_1).f1), .slice A459_2 ((rd_T33 l0 x5_1).f2).length c459_2, .string ((rd_T33 l0 x5_1).f3)], .agg #[.int .i64 ((rd_T33 l1 x5_1).f0), .int .i64 ((rd_T33 l1 x5_1).f1), .slice A460_2 ((rd_T33 l1 x5_1).f2).length c460_2, .string ((rd_T33 l1 x5_1).f3)]] (by rfl) rfl rfl hL_ ?_
        with_reducible refine (sleuthlaw0_SameNode.calls k1 ((rd_T33 l0 x5_1).f0) ((rd_T33 l0 x5_1).f1) _ _ ((rd_T33 l0 x5_1).f2) ((rd_T33 l0 x5_1).f3) ((rd_T33 l1 x5_1).f0) ((rd_T33 l1 x5_1).f1) _ _ ((rd_T33 l1 x5_1).f2) ((rd_T33 l1 x5_1).f3) false _ ?side1 ?side2 ?side3 ?side4 A7.out).mono ?_
        (case side1 => exact cB_ HR459_2.out)
        (case side2 => exact HC459_2.out)
        (case side3 => exact cB_ HR460_2.out)
        (case side4 => exact HC460_2.out)
        rintro e w12 ⟨rfl, hb⟩
        refine ⟨_, rfl, ?_⟩
        have n0_ := Aside0.mk (below_step hB_ hb)
        clear HB
        have HB := n0_
        clear n0_
        (try clear hb)
        (try clear hb2)
        (try clear hk)
        (try clear hi)
        refine hK.out _ _ ⟨(cl_ HB.out hw459_0), (cl_ HB.out hw459_1), (cl_ HB.out hw459_2), (cl_ HB.out hw459_3), (cl_ HB.out hw460_0), (cl_ HB.out hw460_1), (cl_ HB.out hw460_2), (cl_ HB.out hw460_3)⟩ (fun hHeld => ?_)
        clear hK K
        refine norm_ (a' := ?_) ?_ ?_
        rotate_left
        · show Act.put _ (some 25) _ = _
          simp only [Act.put, List.setIfInBounds_toArray, List.set_cons_zero, List.set_cons_succ, i64_w, i32_w]
          rfl
        refine pA_ 9 26 #[true, true, true, true, true, true, true, true, true, true] HT_.out ?_
        refine done_ (done_of HT_.out (by kernel_rfl)) ?_
        try go_wp2
        go_ret
        exact ⟨hV_, hC_⟩
      subst c8
      have H1 : (sleuthlaw0_SameNodes.l0 k1 l0 l1 (wrap64 (x5_1 + 1))) = some r := by rw [if_pos rfl] at H; exact H
      clear H
      have H := H1
      clear H1
      have H' := Aside0.mk H
      clear H
      try go_wp2
      have n0_ := Aside0.mk (below_drew1 HB.out)
      clear HB
      have HB := n0_
      clear n0_
      have p459 : 0 ≤ (x5_1 : Int) := of_decide_eq_true hA_
      have q459 : x5_1 < (l0.length : Int) := of_decide_eq_true hA_
      obtain ⟨ad459, A459_2, c459_2, e459, hx459_0, hx459_1, hx459_2, hx459_3, hl459_2, hi459_2⟩ := at_T33 HR0.out x5_1 p459 q459
      have hw459_3 := hx459_3
      have hw459_2 := hx459_2
      have hw459_1 := hx459_1
      have hw459_0 := hx459_0
      cases e459
      replace hx459_0 := cl_ HB.out hx459_0
      replace hx459_1 := cl_ HB.out hx459_1
      replace hx459_2 := cl_ HB.out hx459_2
      replace hx459_3 := cl_ HB.out hx459_3
      have HR459_2 := Aside0.mk hi459_2
      have HC459_2 := Aside0.mk hl459_2
      clear hi459_2 hl459_2
      replace p459 := eq_true p459
      replace q459 := eq_true q459
      have p460 : 0 ≤ (x5_1 : Int) := of_decide_eq_true hA_
      have q460 : x5_1 < (l1.length : Int) := of_decide_eq_true hA_
      obtain ⟨ad460, A460_2, c460_2, e460, hx460_0, hx460_1, hx460_2, hx460_3, hl460_2, hi460_2⟩ := at_T33 HR1.out x5_1 p460 q460
      have hw460_3 := hx460_3
      have hw460_2 := hx460_2
      have hw460_1 := hx460_1
      have hw460_0 := hx460_0
      cases e460
      replace hx460_0 := cl_ HB.out hx460_0
      replace hx460_1 := cl_ HB.out hx460_1
      replace hx460_2 := cl_ HB.out hx460_2
      replace hx460_3 := cl_ HB.out hx460_3
      have HR460_2 := Aside0.mk hi460_2
      have HC460_2 := Aside0.mk hl460_2
      clear hi460_2 hl460_2
      replace p460 := eq_true p460
      replace q460 := eq_true q460
      refine start_ (n := 10) (S := fun w' => w'.cell? (ad459.add ((x5_1).toNat * 4)) = some (.int .i64 ((rd_T33 l0 x5_1).f0)) ∧ w'.cell? ⟨(ad459.add ((x5_1).toNat * 4)).block, (ad459.add ((x5_1).toNat * 4)).off + 1, none⟩ = some (.int .i64 ((rd_T33 l0 x5_1).f1)) ∧ w'.cell? ⟨(ad459.add ((x5_1).toNat * 4)).block, (ad459.add ((x5_1).toNat * 4)).off + 2, none⟩ = some (.slice A459_2 ((rd_T33 l0 x5_1).f2).length c459_2) ∧ w'.cell? ⟨(ad459.add ((x5_1).toNat * 4)).block, (ad459.add ((x5_1).toNat * 4)).off + 3, none⟩ = some (.string ((rd_T33 l0 x5_1).f3)) ∧ w'.cell? (ad460.add ((x5_1).toNat * 4)) = some (.int .i64 ((rd_T33 l1 x5_1).f0)) ∧ w'.cell? ⟨(ad460.add ((x5_1).toNat * 4)).block, (ad460.add ((x5_1).toNat * 4)).off + 1, none⟩ = some (.int .i64 ((rd_T33 l1 x5_1).f1)) ∧ w'.cell? ⟨(ad460.add ((x5_1).toNat * 4)).block, (ad460.add ((x5_1).toNat * 4)).off + 2, none⟩ = some (.slice A460_2 ((rd_T33 l1 x5_1).f2).length c460_2) ∧ w'.cell? ⟨(ad460.add ((x5_1).toNat * 4)).block, (ad460.add ((x5_1).toNat * 4)).off + 3, none⟩ = some (.string ((rd_T33 l1 x5_1).f3))) (ds := []) #[false, false, false, false, false, false, false, false, false, false] (by kernel_rfl) rfl rfl ⟨(cl_ HB.out hw459_0), (cl_ HB.out hw459_1), (cl_ HB.out hw459_2), (cl_ HB.out hw459_3), (cl_ HB.out hw460_0), (cl_ HB.out hw460_1), (cl_ HB.out hw460_2), (cl_ HB.out hw460_3)⟩ (fun hHeld => ?_); refine with_tabW sleuthlaw0_SameNodes.tab6 sleuthlaw0_SameNodes.bits6 (fun HT_ HW_ => ?_)
      generalize wr.drew = w9 at HB HR459_2 HR460_2 hx459_0 hx459_1 hx459_2 hx459_3 hx460_0 hx460_1 hx460_2 hx460_3 hHeld ⊢
      refine pA_ 0 17 #[true, false, false, false, false, false, false, false, false, false] HT_.out ?_
      refine pA_ 1 18 #[true, true, false, false, false, false, false, false, false, false] HT_.out ?_
      refine pA_ 2 19 #[true, true, true, false, false, false, false, false, false, false] HT_.out ?_
      refine pA_ 4 21 #[true, true, true, false, true, false, false, false, false, false] HT_.out ?_
      refine pA_ 5 22 #[true, true, true, false, true, true, false, false, false, false] HT_.out ?_
      refine pA_ 6 23 #[true, true, true, false, true, true, true, false, false, false] HT_.out ?_
      refine tA_ 3 20 #[true, true, true, true, true, true, true, false, false, false] HT_.out HW_.out hHeld ?_
      refine tA_ 7 24 #[true, true, true, true, true, true, true, true, false, false] HT_.out HW_.out hHeld ?_
      refine one_ (i := 8) (N := some 25) #[true, true, true, true, true, true, true, true, true, false] rfl rfl (one_of HT_.out (by kernel_rfl)) (by decide) (fun K hK => ?_)
      refine goes_ Tryd.func51 (by kernel_rfl) rfl #[.agg #[.int .i64 ((rd_T33 l0 x5_1).f0), .int .i64 ((rd_T33 l0 x5_1).f1), .slice A459_2 ((rd_T33 l0 x5_1).f2).length c459_2, .string ((rd_T33 l0 x5_1).f3)], .agg #[.int .i64 ((rd_T33 l1 x5_1).f0), .int .i64 ((rd_T33 l1 x5_1).f1), .slice A460_2 ((rd_T33 l1 x5_1).f2).length c460_2, .string ((rd_T33 l1 x5_1).f3)]] (by rfl) rfl rfl hL_ ?_
      with_reducible refine (sleuthlaw0_SameNode.calls k1 ((rd_T33 l0 x5_1).f0) ((rd_T33 l0 x5_1).f1) _ _ ((rd_T33 l0 x5_1).f2) ((rd_T33 l0 x5_1).f3) ((rd_T33 l1 x5_1).f0) ((rd_T33 l1 x5_1).f1) _ _ ((rd_T33 l1 x5_1).f2) ((rd_T33 l1 x5_1).f3) true _ ?side1 ?side2 ?side3 ?side4 A7.out).mono ?_
      (case side1 => exact cB_ HR459_2.out)
      (case side2 => exact HC459_2.out)
      (case side3 => exact cB_ HR460_2.out)
      (case side4 => exact HC460_2.out)
      rintro e w10 ⟨rfl, hb⟩
      refine ⟨_, rfl, ?_⟩
      have n0_ := Aside0.mk (below_step hB_ hb)
      clear HB
      have HB := n0_
      clear n0_
      (try clear hb)
      (try clear hb2)
      (try clear hk)
      (try clear hi)
      refine hK.out _ _ ⟨(cl_ HB.out hw459_0), (cl_ HB.out hw459_1), (cl_ HB.out hw459_2), (cl_ HB.out hw459_3), (cl_ HB.out hw460_0), (cl_ HB.out hw460_1), (cl_ HB.out hw460_2), (cl_ HB.out hw460_3)⟩ (fun hHeld => ?_)
      clear hK K
      refine norm_ (a' := ?_) ?_ ?_
      rotate_left
      · show Act.put _ (some 25) _ = _
        simp only [Act.put, List.setIfInBounds_toArray, List.set_cons_zero, List.set_cons_succ, i64_w, i32_w]
        rfl
      refine pA_ 9 26 #[true, true, true, true, true, true, true, true, true, true] HT_.out ?_
      refine done_ (done_of HT_.out (by kernel_rfl)) ?_
      try go_wp2
      go_roundg k1
      case measure => have := HK1.out; omega
      case rel => exact ⟨(wrap64 (x5_1 + 1)), hW_, H', ⟨by have := HK1.out; omega⟩, ⟨hC_⟩⟩
end Go.Proofs.YtgokcaccamfgfaaDoor.G
end
section
namespace Go.Proofs.YtgokcaccamfgfaaDoor.G
open Go.RowKit Go.Proofs.YtgokcaccamfgfaaDoorW.PrintWords Go.Proofs.YtgokcaccamfgfaaDoorW.PrintLast Go.Proofs.YtgokcaccamfgfaaDoorW.PrintMore
set_option linter.unusedVariables false
set_option linter.unusedSimpArgs false
def fineN (l : List Nd) : Prop := l.length * 56 ≤ 140737488351232 ∧ ∀ x ∈ l, (Lit.int .i64 x.f0).wf = true ∧ (Lit.int .i64 x.f1).wf = true ∧ (x.f2.length * 16 ≤ 140737488351232 ∧ ∀ s ∈ x.f2, s.size ≤ 140737488351232) ∧ x.f3.size ≤ 140737488351232
theorem fineN.ok {l : List Nd} (h : fineN l) : okN l := ⟨by have := h.1; omega, fun x hx => by have := (h.2 x hx).2.2.1.1; omega⟩
theorem sameInts_l0 (a : List Int) (ha : a.length ≤ 9223372036854775806) : ∀ (n i : Nat), i + n = a.length → Ev (fun k => sleuthlaw0_SameInts.l0 k a a (i : Int)) true := by
  intro n
  induction n with
  | zero =>
    intro i hi
    refine Ev.step (f := fun _ => some true) (fun k => ?_) (Ev.now _)
    rw [sleuthlaw0_SameInts.l0, if_neg (by omega)]
  | succ n ih =>
    intro i hi
    have hw : wrap64 ((i : Int) + 1) = ((i + 1 : Nat) : Int) := by rw [w64 (by omega) (by omega)]; omega
    refine Ev.step (f := fun k => sleuthlaw0_SameInts.l0 k a a ((i + 1 : Nat) : Int)) (fun k => ?_) (ih (i + 1) (by omega))
    rw [sleuthlaw0_SameInts.l0, if_pos (by omega), if_pos (by omega), if_pos (by omega), if_pos rfl, hw]
theorem sameInts_ev (a : List Int) (ha : a.length ≤ 9223372036854775806) : Ev (fun k => sleuthlaw0_SameInts.f k a a) true := by
  unfold sleuthlaw0_SameInts.f
  simp only [if_pos]
  exact sameInts_l0 a ha a.length 0 (by omega)
theorem sameTexts_l0 (a : List ByteArray) (ha : a.length ≤ 9223372036854775806) : ∀ (n i : Nat), i + n = a.length → Ev (fun k => sleuthlaw0_SameTexts.l0 k a a (i : Int)) true := by
  intro n
  induction n with
  | zero =>
    intro i hi
    refine Ev.step (f := fun _ => some true) (fun k => ?_) (Ev.now _)
    rw [sleuthlaw0_SameTexts.l0, if_neg (by omega)]
  | succ n ih =>
    intro i hi
    have hw : wrap64 ((i : Int) + 1) = ((i + 1 : Nat) : Int) := by rw [w64 (by omega) (by omega)]; omega
    refine Ev.step (f := fun k => sleuthlaw0_SameTexts.l0 k a a ((i + 1 : Nat) : Int)) (fun k => ?_) (ih (i + 1) (by omega))
    rw [sleuthlaw0_SameTexts.l0, if_pos (by omega), if_pos (by omega), if_pos (by omega), if_pos rfl, hw]
theorem sameTexts_ev (a : List ByteArray) (ha : a.length ≤ 9223372036854775806) : Ev (fun k => sleuthlaw0_SameTexts.f k a a) true := by
  unfold sleuthlaw0_SameTexts.f
  simp only [if_pos]
  exact sameTexts_l0 a ha a.length 0 (by omega)
theorem sameNode_ev (x : Nd) (hx : x.f2.length ≤ 9223372036854775806) : Ev (fun k => sleuthlaw0_SameNode.f k x.f0 x.f1 x.f2 x.f3 x.f0 x.f1 x.f2 x.f3) true := by
  unfold sleuthlaw0_SameNode.f
  simp only [if_pos]
  refine Ev.bind (sameTexts_ev _ hx) ?_
  simp only [if_pos, beq_self_eq_true]
  exact Ev.now _
theorem sameNodes_l0 (a : List Nd) (ha : okN a) : ∀ (n i : Nat), i + n = a.length → Ev (fun k => sleuthlaw0_SameNodes.l0 k a a (i : Int)) true := by
  intro n
  have hl := ha.1
  induction n with
  | zero =>
    intro i hi
    refine Ev.step (f := fun _ => some true) (fun k => ?_) (Ev.now _)
    simp only [sleuthlaw0_SameNodes.l0]
    rw [if_neg (by omega)]
  | succ n ih =>
    intro i hi
    have hw : wrap64 ((i : Int) + 1) = ((i + 1 : Nat) : Int) := by rw [w64 (by omega) (by omega)]; omega
    refine Ev.step (f := fun k => (sleuthlaw0_SameNode.f k (rn a (i : Int)).f0 (rn a (i : Int)).f1 (rn a (i : Int)).f2 (rn a (i : Int)).f3 (rn a (i : Int)).f0 (rn a (i : Int)).f1 (rn a (i : Int)).f2 (rn a (i : Int)).f3).bind fun t => if t = true then sleuthlaw0_SameNodes.l0 k a a ((i + 1 : Nat) : Int) else some false) (fun k => ?_) ?_
    · rw [sleuthlaw0_SameNodes.l0, if_pos (by omega), if_pos (by omega), if_pos (by omega), hw]
    · refine Ev.bind (sameNode_ev (rn a (i : Int)) (Nat.le_trans (ha.at _) (by omega))) ?_
      simp only [if_pos]
      exact ih (i + 1) (by omega)
theorem sameNodes_ev (a : List Nd) (ha : okN a) : Ev (fun k => sleuthlaw0_SameNodes.f k a a) true := by
  unfold sleuthlaw0_SameNodes.f
  simp only [if_pos]
  exact sameNodes_l0 a ha a.length 0 (by omega)
end Go.Proofs.YtgokcaccamfgfaaDoor.G
end
section
/- What is known of an argument that is a trail, and small facts on numbers. -/
namespace Go.Proofs.YtgokcaccamfgfaaDoor.G
open Go.RowKit Go.Proofs.YtgokcaccamfgfaaDoorW.PrintWords Go.Proofs.YtgokcaccamfgfaaDoorW.PrintLast Go.Proofs.YtgokcaccamfgfaaDoorW.PrintMore
set_option linter.unusedVariables false
set_option linter.unusedSimpArgs false
def fineI (l : List Int) : Prop := l.length * 8 ≤ 140737488351232 ∧ ∀ x ∈ l, (Lit.int .i64 x).wf = true
theorem and_range (x : Int) (m : Nat) (hm : m < 9223372036854775808) : 0 ≤ Go.bits .and .i64 x (m : Int) ∧ Go.bits .and .i64 x (m : Int) ≤ m := by
  have h : (BitVec.ofInt IntKind.i64.bits x &&& BitVec.ofInt IntKind.i64.bits (m : Int)).toNat ≤ m := by
    rw [BitVec.toNat_and, BitVec.ofInt_natCast, BitVec.toNat_ofNat]
    exact Nat.le_trans Nat.and_le_right (Nat.mod_le _ _)
  unfold Go.bits
  simp only [IntKind.wrap_i64]
  omega
theorem bits_nat (x : Int) (m : Nat) (hm : m < 9223372036854775808) : ∃ i : Nat, i ≤ m ∧ Go.bits .and .i64 x (m : Int) = (i : Int) := by
  have h := and_range x m hm
  exact ⟨(Go.bits .and .i64 x (m : Int)).toNat, by omega, by omega⟩
theorem umod (a : Int) (k : Nat) (h0 : 0 < k) (h1 : k ≤ 140737488355328) : IntKind.u64.wrap (k : Int) = (k : Int) ∧ ∃ m : Nat, m < k ∧ wrap64 (Int.tmod (IntKind.u64.wrap a) (k : Int)) = (m : Int) := by
  have e1 : IntKind.u64.wrap (k : Int) = (k : Int) := by
    show (k : Int) % 18446744073709551616 = _
    omega
  refine ⟨e1, ?_⟩
  have h2 : 0 ≤ IntKind.u64.wrap a ∧ IntKind.u64.wrap a < 18446744073709551616 := by
    show 0 ≤ a % 18446744073709551616 ∧ a % 18446744073709551616 < 18446744073709551616
    omega
  generalize IntKind.u64.wrap a = y at h2
  refine ⟨(y % (k : Int)).toNat, ?_, ?_⟩
  · have := Int.emod_lt_of_pos y (show (0 : Int) < k by omega)
    have := Int.emod_nonneg y (show (k : Int) ≠ 0 by omega)
    omega
  · have := Int.emod_lt_of_pos y (show (0 : Int) < k by omega)
    have := Int.emod_nonneg y (show (k : Int) ≠ 0 by omega)
    rw [Int.tmod_eq_emod_of_nonneg h2.1, w64 (by omega) (by omega)]
    omega
end Go.Proofs.YtgokcaccamfgfaaDoor.G
end
section
-- Laid by the session's own driver gp.py over the kit's printer. Not trusted: Lean checks it.
namespace Go.Proofs.YtgokcaccamfgfaaDoor.G
open Go.RowKit Go.Proofs.YtgokcaccamfgfaaDoorW.PrintWords Go.Proofs.YtgokcaccamfgfaaDoorW.PrintLast Go.Proofs.YtgokcaccamfgfaaDoorW.PrintMore
attribute [local go_sem] max2_int min2_int max_two min_two max_three min_three max_four min_four   -- for this text's walks alone
set_option linter.unusedVariables false
set_option linter.unusedSimpArgs false

/-! ### sleuthref12_MarksMay: function 22 -/
def sleuthref12_MarksMay.l0 : Nat → List (S33) → List Int → Int → Option (Bool)
  | 0, _, _, _ => none
  | k + 1, x0, x1, x5 => if x5 < (x1.length : Int) then (if 0 ≤ x5 then ((sleuthref12_upTo.f (rd x1 x5) 0 3).bind fun t375 => (if t375 = true then (sleuthref12_MarksMay.l0 k x0 x1 (wrap64 (x5 + 1))) else (some false))) else (none)) else ((sleuthref12_TrailMay.f k x0).bind fun t376 => (if t376 = true then (some ((x1.length : Int) == (x0.length : Int))) else (some false)))
def sleuthref12_MarksMay.f (k : Nat) (l0 : List (S33)) (l1 : List Int) : Option (Bool) := sleuthref12_MarksMay.l0 k l0 l1 0
theorem sleuthref12_MarksMay.mono_l : ∀ k, (∀ y0 y1 y2, LeO (sleuthref12_MarksMay.l0 k y0 y1 y2) (sleuthref12_MarksMay.l0 (k + 1) y0 y1 y2))
  | 0 => fun _ _ _ r h => by simp [sleuthref12_MarksMay.l0] at h
  | k + 1 => by
    have ih0 := sleuthref12_MarksMay.mono_l k
    · intro y0 y1 y2
      unfold sleuthref12_MarksMay.l0
      repeat' first
      | (with_reducible exact ih0 _ _ _)
      | (with_reducible exact sleuthref12_TrailMay.mono _ _)
      | (with_reducible exact LeO.refl _)
      | (with_reducible exact LeO.none _)
      | (with_reducible refine LeO.ite ?_ ?_)
      | (with_reducible refine LeO.bind ?_ (fun _ => ?_))
      | exact ih0 _ _ _
      | exact sleuthref12_TrailMay.mono _ _
      | exact LeO.none _
      | refine LeO.ite ?_ ?_
      | refine LeO.bind ?_ (fun _ => ?_)
theorem sleuthref12_MarksMay.mono : ∀ a0 a1 k, LeO (sleuthref12_MarksMay.f k a0 a1) (sleuthref12_MarksMay.f (k + 1) a0 a1) := by
  intro a0 a1 k
  have ih0 := sleuthref12_MarksMay.mono_l k
  unfold sleuthref12_MarksMay.f
  repeat' first
      | (with_reducible exact ih0 _ _ _)
      | (with_reducible exact sleuthref12_TrailMay.mono _ _)
      | (with_reducible exact LeO.refl _)
      | (with_reducible exact LeO.none _)
      | (with_reducible refine LeO.ite ?_ ?_)
      | (with_reducible refine LeO.bind ?_ (fun _ => ?_))
      | exact ih0 _ _ _
      | exact sleuthref12_TrailMay.mono _ _
      | exact LeO.none _
      | refine LeO.ite ?_ ?_
      | refine LeO.bind ?_ (fun _ => ?_)
set_option maxHeartbeats 8000000 in
set_option maxRecDepth 100000 in
theorem sleuthref12_MarksMay.calls (k : Nat) (A0 : Option Addr) (c0 : Nat) (l0 : List (S33)) (A1 : Option Addr) (c1 : Nat) (l1 : List Int) (r : Bool) (w : World) (hr0 : Kd.C k33 w A0 l0.length l0) (hc0 : l0.length ≤ c0) (hr1 : Kd.C (Kd.int .i64) w A1 l1.length l1) (hc1 : l1.length ≤ c1) (h : sleuthref12_MarksMay.f k l0 l1 = some r) :
    Calls Tryd.prog 22 #[.slice A0 l0.length c0, .slice A1 l1.length c1] w fun e w' => e = .returned (.bool r) ∧ Below w.heap.size w w' := by
  have HR0 := Aside0.mk hr0
  have HC0 := Aside0.mk hc0
  clear hr0 hc0
  have HR1 := Aside0.mk hr1
  have HC1 := Aside0.mk hc1
  clear hr1 hc1
  have HB := Aside0.mk (Below.refl w.heap.size w)
  have H : (sleuthref12_MarksMay.l0 k l0 l1 0) = some r := h
  clear h
  have H' := Aside0.mk H
  clear H
  go_enter Tryd.func22, Tryd.ntmps22
  go_wp2
  go_loopg [5] k (fun kq v5 w' => ∃ (x5_1 : Int), v5 = .int .i64 x5_1 ∧ Aside0 (sleuthref12_MarksMay.l0 kq l0 l1 x5_1 = some r) ∧ Aside0 (kq ≤ k) ∧ Aside0 (Below w.heap.size w w'))
  case atStart => exact ⟨(0), hW_, H', ⟨Nat.le_refl _⟩, ⟨hC_⟩⟩
  case round =>
    clear H'
    try clear c1
    try clear c2
    try clear p2
    obtain ⟨x5_1, rfl, HA, HK1, HB⟩ := hrel
    cases gk with
    | zero => exact absurd HA.out (by simp [sleuthref12_MarksMay.l0])
    | succ k1 =>
      have H := HA.out
      clear HA
      simp only [sleuthref12_MarksMay.l0] at H
      by_cases c3 : x5_1 < (l1.length : Int)
      case neg =>
        rw [if_neg c3] at H
        have c3b0 : decide (x5_1 < (l1.length : Int)) = false := decide_eq_false c3
        clear c3
        replace H := Option.bind_eq_some_iff.mp H
        obtain ⟨t376, A70, H⟩ := H
        replace H : (if t376 = true then (some ((l1.length : Int) == (l0.length : Int))) else (some false)) = some r := H
        have A7 := Aside0.mk A70
        clear A70
        by_cases c8 : t376 = true
        case pos =>
          subst c8
          have H1 : (some ((l1.length : Int) == (l0.length : Int))) = some r := by rw [if_pos rfl] at H; exact H
          clear H
          have H := H1
          clear H1
          obtain rfl := Option.some.inj H
          go_wp2_with (first | ((with_reducible refine gate_callee (f := 31) rfl ?_); refine goesL_ (some 19) rfl rfl Tryd.func31 (by kernel_rfl) rfl #[.slice A0 l0.length c0] rfl hL_ ?_; (with_reducible refine (sleuthref12_TrailMay.calls k1 _ _ l0 true _ ?side1 ?side2 A7.out).mono ?_); (case side1 => exact cB_ HR0.out); (case side2 => exact HC0.out); rintro e w9 ⟨rfl, hb⟩; refine ⟨_, rfl, ?_⟩; have n0_ := Aside0.mk (below_step hB_ hb); clear HB; have HB := n0_; clear n0_; (try clear hb); (try clear hb2); (try clear hk); (try clear hi)))
          go_ret
          exact ⟨hV_, hC_⟩
        replace c8 := Bool.eq_false_iff.mpr c8
        subst c8
        have H1 : (some false) = some r := by rw [if_neg (show ¬ (false = true) by decide)] at H; exact H
        clear H
        have H := H1
        clear H1
        obtain rfl := Option.some.inj H
        go_wp2_with (first | ((with_reducible refine gate_callee (f := 31) rfl ?_); refine goesL_ (some 19) rfl rfl Tryd.func31 (by kernel_rfl) rfl #[.slice A0 l0.length c0] rfl hL_ ?_; (with_reducible refine (sleuthref12_TrailMay.calls k1 _ _ l0 false _ ?side1 ?side2 A7.out).mono ?_); (case side1 => exact cB_ HR0.out); (case side2 => exact HC0.out); rintro e w10 ⟨rfl, hb⟩; refine ⟨_, rfl, ?_⟩; have n0_ := Aside0.mk (below_step hB_ hb); clear HB; have HB := n0_; clear n0_; (try clear hb); (try clear hb2); (try clear hk); (try clear hi)))
        go_ret
        exact ⟨hV_, hC_⟩

      rw [if_pos c3] at H
      have c3b0 : decide (x5_1 < (l1.length : Int)) = true := decide_eq_true c3
      clear c3
      replace H := ifI_ H; obtain ⟨c4, H⟩ := H
      have c4b0 : decide (0 ≤ x5_1) = true := decide_eq_true c4
      clear c4
      replace H := Option.bind_eq_some_iff.mp H
      obtain ⟨t375, A50, H⟩ := H
      replace H : (if t375 = true then (sleuthref12_MarksMay.l0 k1 l0 l1 (wrap64 (x5_1 + 1))) else (some false)) = some r := H
      have A5 := Aside0.mk A50
      clear A50
      by_cases c6 : t375 = true
      case neg =>
        replace c6 := Bool.eq_false_iff.mpr c6
        subst c6
        have H1 : (some false) = some r := by rw [if_neg (show ¬ (false = true) by decide)] at H; exact H
        clear H
        have H := H1
        clear H1
        obtain rfl := Option.some.inj H
        have p374 : 0 ≤ (x5_1 : Int) := of_decide_eq_true hA_
        have q374 : x5_1 < (l1.length : Int) := of_decide_eq_true hA_
        obtain ⟨ad374, e374, hx374_0⟩ := Kd.at_int HR1.out x5_1 p374 q374
        cases e374
        replace hx374_0 := cl_ HB.out hx374_0
        replace p374 := eq_true p374
        replace q374 := eq_true q374
        go_wp2_with (first | ((with_reducible refine gate_callee (f := 30) rfl ?_); refine goesL_ (some 16) rfl rfl Tryd.func30 (by kernel_rfl) rfl #[.int .i64 (rd l1 x5_1), .int .i64 0, .int .i64 3] rfl hL_ ?_; (with_reducible refine (sleuthref12_upTo.calls (rd l1 x5_1) 0 3 false _ A5.out).mono ?_); rintro e w' ⟨rfl, ⟨nd, rfl⟩⟩; refine ⟨_, rfl, ?_⟩))
        go_ret
        exact ⟨hV_, hC_⟩
      subst c6
      have H1 : (sleuthref12_MarksMay.l0 k1 l0 l1 (wrap64 (x5_1 + 1))) = some r := by rw [if_pos rfl] at H; exact H
      clear H
      have H := H1
      clear H1
      have H' := Aside0.mk H
      clear H
      have p374 : 0 ≤ (x5_1 : Int) := of_decide_eq_true hA_
      have q374 : x5_1 < (l1.length : Int) := of_decide_eq_true hA_
      obtain ⟨ad374, e374, hx374_0⟩ := Kd.at_int HR1.out x5_1 p374 q374
      cases e374
      replace hx374_0 := cl_ HB.out hx374_0
      replace p374 := eq_true p374
      replace q374 := eq_true q374
      go_wp2_with (first | ((with_reducible refine gate_callee (f := 30) rfl ?_); refine goesL_ (some 16) rfl rfl Tryd.func30 (by kernel_rfl) rfl #[.int .i64 (rd l1 x5_1), .int .i64 0, .int .i64 3] rfl hL_ ?_; (with_reducible refine (sleuthref12_upTo.calls (rd l1 x5_1) 0 3 true _ A5.out).mono ?_); rintro e w' ⟨rfl, ⟨nd, rfl⟩⟩; refine ⟨_, rfl, ?_⟩))
      go_roundg k1
      case measure => have := HK1.out; omega
      case rel => exact ⟨(wrap64 (x5_1 + 1)), hW_, H', ⟨by have := HK1.out; omega⟩, ⟨hC_⟩⟩
/-! ### sleuthref12_rooted: function 32 -/
def sleuthref12_rooted.f (a0 : Int) : Option (Int × Int) := if a0 = 0 then (some (0, 0)) else (if a0 = 1 then (some (2, 0)) else (some (3, 0)))
set_option maxHeartbeats 8000000 in
set_option maxRecDepth 100000 in
theorem sleuthref12_rooted.calls (a0 : Int) (r1 : Int) (r2 : Int) (w : World) (h : sleuthref12_rooted.f a0 = some (r1, r2)) :
    Calls Tryd.prog 32 #[.int .i64 a0] w fun e w' => e = .returned (.agg #[.int .i64 r1, .int .i64 r2]) ∧ Below w.heap.size w w' := by
  have hu39 := Tryd.underlying39
  have HB := Aside0.mk (Below.refl w.heap.size w)
  have H : (if a0 = 0 then (some (0, 0)) else (if a0 = 1 then (some (2, 0)) else (some (3, 0)))) = some (r1, r2) := h
  clear h
  by_cases c2 : a0 = 0
  case pos =>
    rw [if_pos c2] at H
    have c2b0 : (a0 == 0) = true := beq_iff_eq.mpr c2
    have c2b1 : (a0 != 0) = false := bne_eq_false_iff_eq.mpr c2
    clear c2
    simp only [Option.some.injEq, Prod.mk.injEq] at H
    obtain ⟨rfl, rfl⟩ := H
    go_enter Tryd.func32, Tryd.ntmps32
    go_wp2_with (first | ((with_reducible refine gate_dst (N := 2) rfl ?_); refine boxE_ 2 #[.int .i64 0, .int .i64 0] 39 ?_; intro gb377 hg w3 hbox hb; have n0_ := Aside0.mk (below_step hB_ hb); have n1_ := Aside0.mk (hbox); have n2_ := Aside0.mk ((gE_ hg : w.heap.size ≤ gb377)); have n3_ := Aside0.mk ((gE_ hg : w.heap.size ≤ gb377)); clear HB; have HB := n0_; have BK377 := n1_; have GW377 := n2_; have GE377 := n3_; clear n0_ n1_ n2_ n3_; clear hb hbox hg; obtain ⟨hcz4_0, hcz4_1, hfz4_0, hfz4_1⟩ := bx2_ BK377.out))
    refine bodyPost_ret (results_cell_row rfl _ _ gb377 39 #[.int .i64 0, .int .i64 0] (0, 0) _ rfl (bP_ (bP_ (hK_ BK377.out))) Tryd.underlying39 rfl (by kernel_rfl)) rfl ?_
    exact ⟨hV_, hC_⟩
  rw [if_neg c2] at H
  have c2b0 : (a0 == 0) = false := beq_eq_false_iff_ne.mpr c2
  have c2b1 : (a0 != 0) = true := bne_iff_ne.mpr c2
  by_cases c5 : a0 = 1
  case neg =>
    rw [if_neg c5] at H
    have c5b0 : (a0 == 1) = false := beq_eq_false_iff_ne.mpr c5
    have c5b1 : (a0 != 1) = true := bne_iff_ne.mpr c5
    simp only [Option.some.injEq, Prod.mk.injEq] at H
    obtain ⟨rfl, rfl⟩ := H
    go_enter Tryd.func32, Tryd.ntmps32
    go_wp2_with (first | ((with_reducible refine gate_dst (N := 2) rfl ?_); refine boxE_ 2 #[.int .i64 0, .int .i64 0] 39 ?_; intro gb377 hg w8 hbox hb; have n0_ := Aside0.mk (below_step hB_ hb); have n1_ := Aside0.mk (hbox); have n2_ := Aside0.mk ((gE_ hg : w.heap.size ≤ gb377)); have n3_ := Aside0.mk ((gE_ hg : w.heap.size ≤ gb377)); clear HB; have HB := n0_; have BK377 := n1_; have GW377 := n2_; have GE377 := n3_; clear n0_ n1_ n2_ n3_; clear hb hbox hg; obtain ⟨hcz9_0, hcz9_1, hfz9_0, hfz9_1⟩ := bx2_ BK377.out))
    refine bodyPost_ret (results_cell_row rfl _ _ gb377 39 #[.int .i64 3, .int .i64 0] (0, 0) _ rfl (bP_ (bP_ (hK_ BK377.out))) Tryd.underlying39 rfl (by kernel_rfl)) rfl ?_
    exact ⟨hV_, hC_⟩

  rw [if_pos c5] at H
  have c5b0 : (a0 == 1) = true := beq_iff_eq.mpr c5
  have c5b1 : (a0 != 1) = false := bne_eq_false_iff_eq.mpr c5
  clear c5
  simp only [Option.some.injEq, Prod.mk.injEq] at H
  obtain ⟨rfl, rfl⟩ := H
  go_enter Tryd.func32, Tryd.ntmps32
  go_wp2_with (first | ((with_reducible refine gate_dst (N := 2) rfl ?_); refine boxE_ 2 #[.int .i64 0, .int .i64 0] 39 ?_; intro gb377 hg w6 hbox hb; have n0_ := Aside0.mk (below_step hB_ hb); have n1_ := Aside0.mk (hbox); have n2_ := Aside0.mk ((gE_ hg : w.heap.size ≤ gb377)); have n3_ := Aside0.mk ((gE_ hg : w.heap.size ≤ gb377)); clear HB; have HB := n0_; have BK377 := n1_; have GW377 := n2_; have GE377 := n3_; clear n0_ n1_ n2_ n3_; clear hb hbox hg; obtain ⟨hcz7_0, hcz7_1, hfz7_0, hfz7_1⟩ := bx2_ BK377.out))
  refine bodyPost_ret (results_cell_row rfl _ _ gb377 39 #[.int .i64 2, .int .i64 0] (0, 0) _ rfl (bP_ (bP_ (hK_ BK377.out))) Tryd.underlying39 rfl (by kernel_rfl)) rfl ?_
  exact ⟨hV_, hC_⟩
end Go.Proofs.YtgokcaccamfgfaaDoor.G
end
section
/- What package top answers, as plain functions. -/
namespace Go.Proofs.YtgokcaccamfgfaaDoor.G
open Go.RowKit Go.Proofs.YtgokcaccamfgfaaDoorW.PrintWords Go.Proofs.YtgokcaccamfgfaaDoorW.PrintLast Go.Proofs.YtgokcaccamfgfaaDoorW.PrintMore
set_option linter.unusedVariables false
set_option linter.unusedSimpArgs false
def oddB (x : Int) : Bool := decide (x < 0) || decide (3 < x)
def marksS (ns : List Nd) (ms : List Int) : Bool := mayT ns && (decide (ms.length = ns.length) && !ms.any oddB)
theorem marksS_spec {ns : List Nd} {ms : List Int} (h : marksS ns ms = true) : mayT ns = true ∧ ms.length = ns.length ∧ ∀ x ∈ ms, oddB x = false := by
  unfold marksS at h
  rw [Bool.and_eq_true, Bool.and_eq_true, decide_eq_true_iff, Bool.not_eq_true'] at h
  exact ⟨h.1, h.2.1, fun x hx => by have := List.any_eq_false.1 h.2.2 x hx; simpa using this⟩
theorem rd_mem {ms : List Int} (i : Nat) (h : i < ms.length) : rd ms (i : Int) ∈ ms := by
  show List.getD _ _ _ ∈ _
  rw [Int.toNat_natCast, List.getD_eq_getElem?_getD, List.getElem?_eq_getElem h]
  exact List.getElem_mem _
theorem marks_at {ns : List Nd} {ms : List Int} (h : marksS ns ms = true) (i : Nat) (hi : i < ns.length) : 0 ≤ rd ms (i : Int) ∧ rd ms (i : Int) ≤ 3 := by
  obtain ⟨_, hl, hx⟩ := marksS_spec h
  have := hx _ (rd_mem i (by omega))
  unfold oddB at this
  rw [Bool.or_eq_false_iff, decide_eq_false_iff_not, decide_eq_false_iff_not] at this
  omega
theorem upTo_odd (x : Int) : (decide (0 ≤ x) && decide (x ≤ 3)) = !oddB x := by
  unfold oddB
  by_cases h1 : x < 0
  · rw [decide_eq_true h1, decide_eq_false (show ¬ 0 ≤ x by omega)]; rfl
  · rw [decide_eq_false h1, decide_eq_true (show 0 ≤ x by omega)]
    by_cases h2 : 3 < x
    · rw [decide_eq_true h2, decide_eq_false (show ¬ x ≤ 3 by omega)]; rfl
    · rw [decide_eq_false h2, decide_eq_true (show x ≤ 3 by omega)]; rfl
theorem refMarks_l0 (ns : List Nd) (hok : okN ns) (ms : List Int) (hl : ms.length ≤ 9223372036854775806) : ∀ n i : Nat, i + n = ms.length → Ev (fun k => sleuthref12_MarksMay.l0 k ns ms (i : Int)) (!(ms.drop i).any oddB && (mayT ns && decide (ms.length = ns.length))) := by
  intro n
  induction n with
  | zero =>
    intro i hi
    refine Ev.step (f := fun k => (sleuthref12_TrailMay.f k ns).bind fun t391 => (if t391 = true then (some ((ms.length : Int) == (ns.length : Int))) else (some false))) (fun k => by rw [sleuthref12_MarksMay.l0, if_neg (by omega)]) ?_
    refine Ev.bind (refTrail_ev ns hok) ?_
    rw [List.drop_eq_nil_of_le (by omega)]
    cases mayT ns with
    | false => simp only [if_neg Bool.false_ne_true]; exact Ev.now _
    | true =>
      simp only [if_pos]
      have e : ((ms.length : Int) == (ns.length : Int)) = decide (ms.length = ns.length) := by
        by_cases c : ms.length = ns.length
        · rw [decide_eq_true c]; exact beq_iff_eq.2 (by omega)
        · rw [decide_eq_false c]; exact beq_eq_false_iff_ne.2 (by omega)
      rw [e]
      exact Ev.now _
  | succ n ih =>
    intro i hi
    have hw : wrap64 ((i : Int) + 1) = ((i + 1 : Nat) : Int) := by rw [w64 (by omega) (by omega)]; omega
    have hd : ms.drop i = rd ms (i : Int) :: ms.drop (i + 1) := by
      rw [List.drop_eq_getElem_cons (show i < ms.length by omega)]
      congr 1
      show _ = List.getD _ _ _
      rw [Int.toNat_natCast, List.getD_eq_getElem?_getD, List.getElem?_eq_getElem (show i < ms.length by omega)]; rfl
    rw [hd, List.any_cons]
    cases c : oddB (rd ms (i : Int)) with
    | true =>
      refine Ev.step (f := fun _ => some false) (fun k => ?_) (Ev.now _)
      rw [sleuthref12_MarksMay.l0, if_pos (by omega), if_pos (by omega), upTo_eq, Option.bind_some, upTo_odd, c]; rfl
    | false =>
      rw [Bool.false_or]
      refine Ev.step (f := fun k => sleuthref12_MarksMay.l0 k ns ms ((i + 1 : Nat) : Int)) (fun k => ?_) (ih (i + 1) (by omega))
      rw [sleuthref12_MarksMay.l0, if_pos (by omega), if_pos (by omega), upTo_eq, Option.bind_some, upTo_odd, c, hw]; rfl
theorem refMarks_ev (ns : List Nd) (hok : okN ns) (ms : List Int) (hl : ms.length ≤ 9223372036854775806) : Ev (fun k => sleuthref12_MarksMay.f k ns ms) (marksS ns ms) := by
  have h := refMarks_l0 ns hok ms hl ms.length 0 (by omega)
  rw [List.drop_zero] at h
  have e : (!ms.any oddB && (mayT ns && decide (ms.length = ns.length))) = marksS ns ms := by
    unfold marksS
    cases ms.any oddB <;> cases mayT ns <;> cases decide (ms.length = ns.length) <;> rfl
  rw [e] at h
  exact h
theorem fstK_spec {ns : List Nd} {ms : List Int} {a m k : Int} (h : fstK ns ms a m = some k) : a < k ∧ k < (ns.length : Int) ∧ (rn ns k).f1 = a ∧ rd ms k = m := by
  unfold fstK at h
  have h1 := kidsTo_rng ns a k ns.length (List.mem_of_find?_eq_some h)
  have h2 := List.find?_some h
  exact ⟨h1.1, h1.2.1, h1.2.2, by simpa using h2⟩
theorem first_eq {ns : List Nd} {ms : List Int} (h : marksS ns ms = true) (a m : Int) (h0 : 0 ≤ a) (h1 : a < (ns.length : Int)) : top_first.f ns ms a m = some (match fstK ns ms a m with | some k => (k, true) | none => (0, false)) := by
  obtain ⟨hm, hl, _⟩ := marksS_spec h
  have hlen := mayT_len hm
  unfold top_first.f
  rw [if_pos ⟨h0, h1, by omega, hlen.2⟩]
  cases fstK ns ms a m <;> rfl
theorem bug_eq {ns : List Nd} {ms : List Int} (h : marksS ns ms = true) (a : Int) (h0 : 0 ≤ a) (h1 : a < (ns.length : Int)) : top_Bug.f ns ms a = some (bugS ns ms a) := by
  obtain ⟨hm, hl, _⟩ := marksS_spec h
  have hlen := mayT_len hm
  unfold top_Bug.f
  rw [if_pos ⟨h0, h1, by omega, hlen.2⟩]
def downT (ns : List Nd) (ms : List Int) : Nat → Int → Int
  | 0, a => a
  | n + 1, a => match fstK ns ms a 2 with | some k => downT ns ms n k | none => a
def finT (ns : List Nd) (ms : List Int) (a : Int) : Int × Int := match fstK ns ms a 0 with | some k => (0, k) | none => bugS ns ms a
def askT (ns : List Nd) (ms : List Int) : Int × Int := if rd ms 0 = 0 then (0, 0) else if rd ms 0 = 1 then (2, 0) else if rd ms 0 = 3 then (3, 0) else finT ns ms (downT ns ms ns.length 0)
theorem ask_l0 {ns : List Nd} {ms : List Int} (h : marksS ns ms = true) : ∀ (n : Nat) (a : Int), 0 ≤ a → a < (ns.length : Int) → (ns.length : Int) ≤ a + n → ∀ p : Int × Bool, p = (match fstK ns ms a 2 with | some k => (k, true) | none => (0, false)) → Ev (fun q => top_Ask.l0 q ns ms a p.1 p.2) (finT ns ms (downT ns ms n a)) := by
  intro n
  induction n with
  | zero => intro a h0 h1 h2; omega
  | succ n ih =>
    intro a h0 h1 h2 p hp
    cases hf : fstK ns ms a 2 with
    | some k =>
      rw [hf] at hp
      subst hp
      have hk := fstK_spec hf
      have e : downT ns ms (n + 1) a = downT ns ms n k := by rw [downT, hf]
      rw [e]
      refine Ev.step (f := fun q => top_Ask.l0 q ns ms k (match fstK ns ms k 2 with | some k => (k, true) | none => (0, false)).1 (match fstK ns ms k 2 with | some k => (k, true) | none => ((0 : Int), false)).2) (fun q => ?_) (ih k (by omega) hk.2.1 (by omega) _ rfl)
      rw [top_Ask.l0]
      simp only [if_pos, first_eq h k 2 (by omega) hk.2.1, Option.bind_some]
    | none =>
      rw [hf] at hp
      subst hp
      have e : downT ns ms (n + 1) a = a := by rw [downT, hf]
      rw [e]
      refine Ev.step (f := fun _ => some (finT ns ms a)) (fun q => ?_) (Ev.now _)
      rw [top_Ask.l0]
      simp only [if_neg Bool.false_ne_true, first_eq h a 0 h0 h1, Option.bind_some, bug_eq h a h0 h1]
      unfold finT
      cases fstK ns ms a 0 with
      | some k => simp only [if_pos]
      | none => simp only [if_neg Bool.false_ne_true]
theorem ask_ev {ns : List Nd} {ms : List Int} (h : marksS ns ms = true) : Ev (fun k => top_Ask.f k ns ms) (askT ns ms) := by
  obtain ⟨hm, hl, _⟩ := marksS_spec h
  have hlen := mayT_len hm
  unfold top_Ask.f askT
  have g : (0 : Int) < (ms.length : Int) := by omega
  simp only [if_pos g]
  by_cases c0 : rd ms 0 = 0
  · simp only [if_pos c0]; exact Ev.now _
  · simp only [if_neg c0]
    by_cases c1 : rd ms 0 = 1
    · simp only [if_pos c1]; exact Ev.now _
    · simp only [if_neg c1]
      by_cases c3 : rd ms 0 = 3
      · simp only [if_pos c3]; exact Ev.now _
      · simp only [if_neg c3, first_eq h 0 2 (by omega) (by omega), Option.bind_some]
        exact ask_l0 h ns.length 0 (by omega) (by omega) (by omega) _ rfl
theorem downT_spec {ns : List Nd} {ms : List Int} : ∀ (n : Nat) (a : Int), 0 ≤ a → a < (ns.length : Int) → (ns.length : Int) ≤ a + n → rd ms a = 2 → 0 ≤ downT ns ms n a ∧ downT ns ms n a < (ns.length : Int) ∧ rd ms (downT ns ms n a) = 2
  | 0, a, h0, h1, h2, _ => by omega
  | n + 1, a, h0, h1, h2, h3 => by
    rw [downT]
    cases hf : fstK ns ms a 2 with
    | some k =>
      have hk := fstK_spec hf
      exact downT_spec n k (by omega) hk.2.1 (by omega) hk.2.2.2
    | none => exact ⟨h0, h1, h3⟩
end Go.Proofs.YtgokcaccamfgfaaDoor.G
end
section
/- What package half answers, as plain functions. -/
namespace Go.Proofs.YtgokcaccamfgfaaDoor.G
open Go.RowKit Go.Proofs.YtgokcaccamfgfaaDoorW.PrintWords Go.Proofs.YtgokcaccamfgfaaDoorW.PrintLast Go.Proofs.YtgokcaccamfgfaaDoorW.PrintMore
set_option linter.unusedVariables false
set_option linter.unusedSimpArgs false
def lastM (ms : List Int) : Nat → Int
  | 0 => 0
  | n + 1 => if rd ms (n : Int) = 2 then (n : Int) else lastM ms n
theorem lastM_range (ms : List Int) : ∀ n : Nat, 0 < n → 0 ≤ lastM ms n ∧ lastM ms n < (n : Int)
  | 0, h => absurd h (by omega)
  | n + 1, _ => by
    rw [lastM]
    split
    · omega
    · rcases Nat.eq_zero_or_pos n with c | c
      · subst c; show (0 : Int) ≤ 0 ∧ (0 : Int) < _; omega
      · have := lastM_range ms n c; omega
theorem last_half_l0 (ms : List Int) (hl : ms.length ≤ 9223372036854775806) : ∀ n i : Nat, i + n = ms.length → Ev (fun k => half_last.l0 k (lastM ms i) ms (ms.length : Int) (i : Int)) (lastM ms ms.length) := by
  intro n
  induction n with
  | zero =>
    intro i hi
    obtain rfl : i = ms.length := by omega
    refine Ev.step (f := fun _ => some (lastM ms ms.length)) (fun k => ?_) (Ev.now _)
    rw [half_last.l0, if_neg (by omega)]
  | succ n ih =>
    intro i hi
    have hw : wrap64 ((i : Int) + 1) = ((i + 1 : Nat) : Int) := by rw [w64 (by omega) (by omega)]; omega
    refine Ev.step (f := fun k => half_last.l0 k (lastM ms (i + 1)) ms (ms.length : Int) ((i + 1 : Nat) : Int)) (fun k => ?_) (ih (i + 1) (by omega))
    rw [half_last.l0, if_pos (by omega), if_pos (by omega), if_pos (by omega), hw, lastM]
    by_cases c : rd ms (i : Int) = 2
    · rw [if_pos c, if_pos c]
    · rw [if_neg c, if_neg c]
theorem last_half_ev (ms : List Int) (hl : ms.length ≤ 9223372036854775806) : Ev (fun k => half_last.f k ms) (lastM ms ms.length) := last_half_l0 ms hl ms.length 0 (by omega)
/-- which nodes are in doubt, up to place n -/
def dbt (ns : List Nd) (ms : List Int) (w : Nat) : Nat → List Bool
  | 0 => List.replicate ns.length false
  | n + 1 => if n ≤ w then dbt ns ms w n else
    (dbt ns ms w n).set n ((decide (pa ns n = (w : Int)) || rdOf false (dbt ns ms w n) (pa ns n)) && (rd ms (n : Int) != 1))
theorem dbt_len (ns : List Nd) (ms : List Int) (w : Nat) : ∀ n : Nat, (dbt ns ms w n).length = ns.length
  | 0 => List.length_replicate
  | n + 1 => by
    rw [dbt]
    split
    · exact dbt_len ns ms w n
    · rw [List.length_set]; exact dbt_len ns ms w n
theorem doubts_l0 {ns : List Nd} {ms : List Int} (h : marksS ns ms = true) (w : Nat) : ∀ n i : Nat, w < i → i + n = ns.length → Ev (fun k => half_doubts.l0 k ns ms (w : Int) (dbt ns ms w i) (i : Int)) (dbt ns ms w ns.length) := by
  obtain ⟨hm, hl, _⟩ := marksS_spec h
  have hlen := mayT_len hm
  intro n
  induction n with
  | zero =>
    intro i hw hi
    obtain rfl : i = ns.length := by omega
    refine Ev.step (f := fun _ => some (dbt ns ms w ns.length)) (fun k => ?_) (Ev.now _)
    rw [half_doubts.l0, if_neg (by omega)]
  | succ n ih =>
    intro i hwi hi
    have hp := mayT_pa hm i (by omega)
    have hw : wrap64 ((i : Int) + 1) = ((i + 1 : Nat) : Int) := by rw [w64 (by omega) (by omega)]; omega
    have hdl := dbt_len ns ms w i
    have hp' : (rd_T33 ns (i : Int)).f1 = pa ns i := rfl
    refine Ev.step (f := fun k => half_doubts.l0 k ns ms (w : Int) (dbt ns ms w (i + 1)) ((i + 1 : Nat) : Int)) (fun k => ?_) (ih (i + 1) (by omega) (by omega))
    rw [half_doubts.l0, if_pos (by omega), if_pos (by omega), hw, dbt, if_neg (show ¬ i ≤ w by omega), hp', Int.toNat_natCast]
    by_cases c : pa ns i = (w : Int)
    · rw [if_pos c, if_pos (by omega), if_pos (by omega), decide_eq_true c, Bool.true_or, Bool.true_and]
    · rw [if_neg c, if_pos (by omega), if_pos (by omega), decide_eq_false c, Bool.false_or]
      cases hb : rdOf false (dbt ns ms w i) (pa ns i) with
      | true => rw [if_pos rfl, if_pos (by omega), if_pos (by omega), Bool.true_and]
      | false => rw [if_neg Bool.false_ne_true, if_pos (by omega), Bool.false_and]
theorem dbt_low (ns : List Nd) (ms : List Int) (w : Nat) : ∀ n : Nat, n ≤ w + 1 → dbt ns ms w n = List.replicate ns.length false
  | 0, _ => rfl
  | n + 1, h => by rw [dbt, if_pos (by omega)]; exact dbt_low ns ms w n (by omega)
theorem doubts_ev {ns : List Nd} {ms : List Int} (h : marksS ns ms = true) (w : Nat) (hw : w < ns.length) : Ev (fun k => half_doubts.f k ns ms (w : Int)) (dbt ns ms w ns.length) := by
  obtain ⟨hm, hl, _⟩ := marksS_spec h
  have hlen := mayT_len hm
  have hw1 : wrap64 ((w : Int) + 1) = ((w + 1 : Nat) : Int) := by rw [w64 (by omega) (by omega)]; omega
  unfold half_doubts.f
  have g1 : (0 : Int) ≤ (ns.length : Int) := by omega
  have g2 : ns.length ≤ 281474976710656 := by omega
  simp only [if_pos g1, hw1, Int.toNat_natCast]
  simp only [if_pos g2]
  have := doubts_l0 h w (ns.length - (w + 1)) (w + 1) (by omega) (by omega)
  rw [dbt_low ns ms w (w + 1) (Nat.le_refl _)] at this
  exact this
theorem parB_of {ns : List Nd} (h : mayT ns = true) : parB ns = true := by
  unfold parB
  refine List.all_eq_true.2 fun i hi => decide_eq_true ?_
  have := mayT_pa h i (List.mem_range.1 hi)
  show (0 ≤ pa ns i ∧ pa ns i < (i : Int)) ∨ ((i : Int) = 0 ∧ pa ns i = -1)
  omega
def askH (ns : List Nd) (ms : List Int) : Int × Int :=
  if rd ms 0 = 2 then
    (if bestH (szH ns (dbt ns ms (lastM ms ms.length).toNat ns.length) ms) (dbt ns ms (lastM ms ms.length).toNat ns.length) ms (rd (szH ns (dbt ns ms (lastM ms ms.length).toNat ns.length) ms) (lastM ms ms.length)) ns.length < 0 then bugS ns ms (lastM ms ms.length)
      else (0, bestH (szH ns (dbt ns ms (lastM ms ms.length).toNat ns.length) ms) (dbt ns ms (lastM ms ms.length).toNat ns.length) ms (rd (szH ns (dbt ns ms (lastM ms ms.length).toNat ns.length) ms) (lastM ms ms.length)) ns.length))
  else askT ns ms
theorem askH_ev {ns : List Nd} {ms : List Int} (h : marksS ns ms = true) : Ev (fun k => half_Ask.f k ns ms) (askH ns ms) := by
  obtain ⟨hm, hl, _⟩ := marksS_spec h
  have hlen := mayT_len hm
  unfold half_Ask.f askH
  have cg : 0 < ns.length ∧ ns.length ≤ 512 ∧ ms.length = ns.length ∧ parB ns = true := ⟨hlen.1, hlen.2, hl, parB_of hm⟩
  simp only [if_pos cg]
  by_cases c : rd ms 0 = 2
  · simp only [if_pos c]
    have hr := lastM_range ms ms.length (by omega)
    refine Ev.bind (last_half_ev ms (by omega)) ?_
    obtain ⟨w, hw⟩ : ∃ w : Nat, lastM ms ms.length = (w : Int) := ⟨(lastM ms ms.length).toNat, by omega⟩
    rw [hw]
    rw [hw] at hr
    refine Ev.bind (doubts_ev h w (by omega)) ?_
    have cw : 0 ≤ (w : Int) ∧ (w : Int) < (ns.length : Int) ∧ (dbt ns ms w ns.length).length = ns.length := ⟨by omega, by omega, dbt_len ns ms w ns.length⟩
    simp only [if_pos cw, Int.toNat_natCast]
    by_cases cb : bestH (szH ns (dbt ns ms w ns.length) ms) (dbt ns ms w ns.length) ms (rd (szH ns (dbt ns ms w ns.length) ms) (w : Int)) ns.length < 0
    · simp only [if_pos cb, bug_eq h (w : Int) (by omega) (by omega)]; exact Ev.now _
    · simp only [if_neg cb]; exact Ev.now _
  · simp only [if_neg c]
    exact ask_ev h
end Go.Proofs.YtgokcaccamfgfaaDoor.G
end
section
/- What is known of the nodes in doubt. -/
namespace Go.Proofs.YtgokcaccamfgfaaDoor.G
open Go.RowKit Go.Proofs.YtgokcaccamfgfaaDoorW.PrintWords Go.Proofs.YtgokcaccamfgfaaDoorW.PrintLast Go.Proofs.YtgokcaccamfgfaaDoorW.PrintMore
set_option linter.unusedVariables false
set_option linter.unusedSimpArgs false
theorem bestH_spec (sz : List Int) (d : List Bool) (ms : List Int) (m : Int) : ∀ n : Nat, 0 ≤ bestH sz d ms m n → openB d ms (bestH sz d ms m n) = true
  | 0, h => absurd h (by show ¬ (0 : Int) ≤ -1; omega)
  | n + 1, h => by
    rw [bestH] at h ⊢
    by_cases c : openB d ms (n : Int) = true ∧ (bestH sz d ms m n < 0 ∨ offW (rd sz (n : Int)) m < offW (rd sz (bestH sz d ms m n)) m)
    · rw [if_pos c]; exact c.1
    · rw [if_neg c] at h ⊢
      exact bestH_spec sz d ms m n h
end Go.Proofs.YtgokcaccamfgfaaDoor.G
end
section
namespace Go.Proofs.YtgokcaccamfgfaaDoor.G
open Go.RowKit
set_option linter.unusedVariables false
set_option linter.unusedSimpArgs false

end Go.Proofs.YtgokcaccamfgfaaDoor.G
end
section
/- Sizes over a trail, as sums (for a seat that has tree.Sizes, but not tree.Size). -/
namespace Go.Proofs.YtgokcaccamfgfaaDoor.G
open Go.RowKit Go.Proofs.YtgokcaccamfgfaaDoorW.PrintWords Go.Proofs.YtgokcaccamfgfaaDoorW.PrintLast Go.Proofs.YtgokcaccamfgfaaDoorW.PrintMore
set_option linter.unusedVariables false
set_option linter.unusedSimpArgs false
def ps (ns : List Nd) : List Int := ns.map (·.f1)
def one (p : Int) : Nd := ⟨0, p, [], (⟨#[49]⟩ : ByteArray)⟩
end Go.Proofs.YtgokcaccamfgfaaDoor.G
end
section
-- Laid by the session's own driver gp.py over the kit's printer. Not trusted: Lean checks it.
namespace Go.Proofs.YtgokcaccamfgfaaDoor.G
open Go.RowKit Go.Proofs.YtgokcaccamfgfaaDoorW.PrintWords Go.Proofs.YtgokcaccamfgfaaDoorW.PrintLast Go.Proofs.YtgokcaccamfgfaaDoorW.PrintMore
attribute [local go_sem] max2_int min2_int max_two min_two max_three min_three max_four min_four   -- for this text's walks alone
set_option linter.unusedVariables false
set_option linter.unusedSimpArgs false

/-! ### sleuthref12_kids: function 33 -/
def sleuthref12_kids.l0 : Nat → List (S33) → Int → List Int → Int → Option (List Int)
  | 0, _, _, _, _ => none
  | k + 1, x0, x1, x5, x6 => if x6 < (x0.length : Int) then (if 0 ≤ x6 then (if ((rd_T33 x0 x6).f1) = x1 then (if x5.length < 17592186044416 then (sleuthref12_kids.l0 k x0 x1 (x5 ++ [x6]) (wrap64 (x6 + 1))) else (none)) else (sleuthref12_kids.l0 k x0 x1 x5 (wrap64 (x6 + 1)))) else (none)) else (some x5)
def sleuthref12_kids.f (k : Nat) (l0 : List (S33)) (a1 : Int) : Option (List Int) := sleuthref12_kids.l0 k l0 a1 ([] : List Int) 0
theorem sleuthref12_kids.mono_l : ∀ k, (∀ y0 y1 y2 y3, LeO (sleuthref12_kids.l0 k y0 y1 y2 y3) (sleuthref12_kids.l0 (k + 1) y0 y1 y2 y3))
  | 0 => fun _ _ _ _ r h => by simp [sleuthref12_kids.l0] at h
  | k + 1 => by
    have ih0 := sleuthref12_kids.mono_l k
    · intro y0 y1 y2 y3
      unfold sleuthref12_kids.l0
      repeat' first
      | (with_reducible exact ih0 _ _ _ _)
      | (with_reducible exact LeO.refl _)
      | (with_reducible exact LeO.none _)
      | (with_reducible refine LeO.ite ?_ ?_)
      | (with_reducible refine LeO.bind ?_ (fun _ => ?_))
      | exact ih0 _ _ _ _
      | exact LeO.none _
      | refine LeO.ite ?_ ?_
      | refine LeO.bind ?_ (fun _ => ?_)
theorem sleuthref12_kids.mono : ∀ a0 a1 k, LeO (sleuthref12_kids.f k a0 a1) (sleuthref12_kids.f (k + 1) a0 a1) := by
  intro a0 a1 k
  have ih0 := sleuthref12_kids.mono_l k
  unfold sleuthref12_kids.f
  repeat' first
      | (with_reducible exact ih0 _ _ _ _)
      | (with_reducible exact LeO.refl _)
      | (with_reducible exact LeO.none _)
      | (with_reducible refine LeO.ite ?_ ?_)
      | (with_reducible refine LeO.bind ?_ (fun _ => ?_))
      | exact ih0 _ _ _ _
      | exact LeO.none _
      | refine LeO.ite ?_ ?_
      | refine LeO.bind ?_ (fun _ => ?_)
set_option maxHeartbeats 8000000 in
set_option maxRecDepth 100000 in
theorem sleuthref12_kids.calls (k : Nat) (A0 : Option Addr) (c0 : Nat) (l0 : List (S33)) (a1 : Int) (r : List Int) (w : World) (hr0 : Kd.C k33 w A0 l0.length l0) (hc0 : l0.length ≤ c0) (h : sleuthref12_kids.f k l0 a1 = some r) :
    Calls Tryd.prog 33 #[.slice A0 l0.length c0, .int .i64 a1] w fun e w' => ∃ v0_ : Value, e = .returned (v0_) ∧ Kd.R (Kd.int .i64) 3 w' w.heap.size (fun _ => True) v0_ r ∧ Below w.heap.size w w' := by
  have HR0 := Aside0.mk hr0
  have HC0 := Aside0.mk hc0
  clear hr0 hc0
  have HB := Aside0.mk (Below.refl w.heap.size w)
  have H : (sleuthref12_kids.l0 k l0 a1 ([] : List Int) 0) = some r := h
  clear h
  have H' := Aside0.mk H
  clear H
  go_enter Tryd.func33, Tryd.ntmps33
  go_wp2
  go_loopg [5, 6] k (fun kq v5 v6 w' => ∃ (x5_1 : List Int) (x6_1 : Int), v6 = .int .i64 x6_1 ∧ Aside0 (sleuthref12_kids.l0 kq l0 a1 x5_1 x6_1 = some r) ∧ Aside0 (kq ≤ k) ∧ Aside0 (Kd.R (Kd.int .i64) 3 w' w.heap.size (fun _ => True) v5 x5_1) ∧ Aside0 (Below w.heap.size w w'))
  case atStart => exact ⟨(([] : List Int)), (0), hW_, H', ⟨Nat.le_refl _⟩, ⟨by first | exact Kd.R_nil _ _ _ _ _ | exact Kd.N_nil _ _ _ _ _ | exact Kd.V_nil _ _ _ _ _ | exact Kd.Q_nil _ _ _ _ _ | exact Kd.S_nil _ _ _ _ _⟩, ⟨hC_⟩⟩
  case round =>
    clear H'
    try clear p2
    obtain ⟨x5_1, x6_1, rfl, HA, HK1, HO_5, HB⟩ := hrel
    cases gk with
    | zero => exact absurd HA.out (by simp [sleuthref12_kids.l0])
    | succ k1 =>
      have H := HA.out
      clear HA
      simp only [sleuthref12_kids.l0] at H
      by_cases c3 : x6_1 < (l0.length : Int)
      case neg =>
        rw [if_neg c3] at H
        have c3b0 : decide (x6_1 < (l0.length : Int)) = false := decide_eq_false c3
        clear c3
        obtain rfl := Option.some.inj H
        go_wp2
        go_ret
        exact ⟨_, hV_, hR_ HO_5.out, hC_⟩

      rw [if_pos c3] at H
      have c3b0 : decide (x6_1 < (l0.length : Int)) = true := decide_eq_true c3
      clear c3
      replace H := ifI_ H; obtain ⟨c4, H⟩ := H
      have c4b0 : decide (0 ≤ x6_1) = true := decide_eq_true c4
      clear c4
      by_cases c5 : ((rd_T33 l0 x6_1).f1) = a1
      case neg =>
        rw [if_neg c5] at H
        have c5b0 : (((rd_T33 l0 x6_1).f1) == a1) = false := beq_eq_false_iff_ne.mpr c5
        have c5b1 : (((rd_T33 l0 x6_1).f1) != a1) = true := bne_iff_ne.mpr c5
        have H' := Aside0.mk H
        clear H
        have p378 : 0 ≤ (x6_1 : Int) := of_decide_eq_true hA_
        have q378 : x6_1 < (l0.length : Int) := of_decide_eq_true hA_
        obtain ⟨ad378, A378_2, c378_2, e378, hx378_0, hx378_1, hx378_2, hx378_3, hl378_2, hi378_2⟩ := at_T33 HR0.out x6_1 p378 q378
        cases e378
        replace hx378_0 := cl_ HB.out hx378_0
        replace hx378_1 := cl_ HB.out hx378_1
        replace hx378_2 := cl_ HB.out hx378_2
        replace hx378_3 := cl_ HB.out hx378_3
        have HR378_2 := Aside0.mk hi378_2
        have HC378_2 := Aside0.mk hl378_2
        clear hi378_2 hl378_2
        replace p378 := eq_true p378
        replace q378 := eq_true q378
        go_wp2
        go_roundg k1
        case measure => have := HK1.out; omega
        case rel => exact ⟨(x5_1), (wrap64 (x6_1 + 1)), hW_, H', ⟨by have := HK1.out; omega⟩, ⟨hR_ HO_5.out⟩, ⟨hC_⟩⟩
      rw [if_pos c5] at H
      have c5b0 : (((rd_T33 l0 x6_1).f1) == a1) = true := beq_iff_eq.mpr c5
      have c5b1 : (((rd_T33 l0 x6_1).f1) != a1) = false := bne_eq_false_iff_eq.mpr c5
      clear c5
      replace H := ifI_ H; obtain ⟨c6, H⟩ := H
      have LMc6 := Aside0.mk c6
      clear c6
      obtain ⟨y379, hy379⟩ : ∃ y_ : List Int, y_ = (x5_1 ++ [x6_1]) := ⟨_, rfl⟩
      replace H : (sleuthref12_kids.l0 k1 l0 a1 y379 (wrap64 (x6_1 + 1))) = some r := by first | (rw [hy379]; with_reducible exact H) | (have H2_ := (Option.bind_some _ _).symm.trans H; rw [hy379]; with_reducible exact H2_) | (have H2_ := (Option.bind_some _ _).symm.trans H; with_reducible exact H2_) | with_reducible exact H | (rw [hy379]; exact H) | exact H
      have Ny379 := Aside0.mk hy379
      clear hy379
      have H' := Aside0.mk H
      clear H
      have p378 : 0 ≤ (x6_1 : Int) := of_decide_eq_true hA_
      have q378 : x6_1 < (l0.length : Int) := of_decide_eq_true hA_
      obtain ⟨ad378, A378_2, c378_2, e378, hx378_0, hx378_1, hx378_2, hx378_3, hl378_2, hi378_2⟩ := at_T33 HR0.out x6_1 p378 q378
      cases e378
      replace hx378_0 := cl_ HB.out hx378_0
      replace hx378_1 := cl_ HB.out hx378_1
      replace hx378_2 := cl_ HB.out hx378_2
      replace hx378_3 := cl_ HB.out hx378_3
      have HR378_2 := Aside0.mk hi378_2
      have HC378_2 := Aside0.mk hl378_2
      clear hi378_2 hl378_2
      replace p378 := eq_true p378
      replace q378 := eq_true q378
      go_wp2_with (first | ((with_reducible refine gate_builtin (b := .append) (xs := #[.tmp 20, .tmp 22]) rfl ?_); at_builtin; refine Kd.R_append (Kd.int .i64) (w0 := w) w.heap.size rfl (.tmp 20) (.tmp 22) 34 3 (.int .i64 0) 8 rfl Tryd.underlying34 info3 rfl (by decide) (by omega) u5 x5_1 x6_1 [.int .i64 x6_1] (fun _ => True) (fun _ => False) rfl rfl ?aP (fun _ hk => hk.elim) ?aF ?aO ?aB ?aS ?aL ?_; (case aP => exact rfl); (case aB => exact hB_); (case aF => exact (fun _ _ => trivial)); (case aO => exact (hR_ HO_5.out)); (case aS => exact hS_); (case aL => have := LMc6.out; omega); intro v380 w7 ho hb hg hat; rw [← Ny379.out] at ho; have n0_ := Aside0.mk (hb); have n1_ := Aside0.mk (ho); clear HB HO_5; have HB := n0_; have HO381 := n1_; clear n0_ n1_; clear ho hb hg hat))
      go_roundg k1
      case measure => have := HK1.out; omega
      case rel => exact ⟨(y379), (wrap64 (x6_1 + 1)), hW_, H', ⟨by have := HK1.out; omega⟩, ⟨hR_ HO381.out⟩, ⟨hC_⟩⟩
/-! ### sleuthref12_firstOf: function 34 -/
def sleuthref12_firstOf.l0 : Nat → List Int → List Int → Int → Int → Option (Int)
  | 0, _, _, _, _ => none
  | k + 1, x0, x1, x2, x7 => if x7 < (x0.length : Int) then (if 0 ≤ x7 then (if 0 ≤ (rd x0 x7) then (if (rd x0 x7) < (x1.length : Int) then (if (rd x1 (rd x0 x7)) = x2 then (some (rd x0 x7)) else (sleuthref12_firstOf.l0 k x0 x1 x2 (wrap64 (x7 + 1)))) else (none)) else (none)) else (none)) else (some (-1))
def sleuthref12_firstOf.f (k : Nat) (l0 : List Int) (l1 : List Int) (a2 : Int) : Option (Int) := sleuthref12_firstOf.l0 k l0 l1 a2 0
theorem sleuthref12_firstOf.mono_l : ∀ k, (∀ y0 y1 y2 y3, LeO (sleuthref12_firstOf.l0 k y0 y1 y2 y3) (sleuthref12_firstOf.l0 (k + 1) y0 y1 y2 y3))
  | 0 => fun _ _ _ _ r h => by simp [sleuthref12_firstOf.l0] at h
  | k + 1 => by
    have ih0 := sleuthref12_firstOf.mono_l k
    · intro y0 y1 y2 y3
      unfold sleuthref12_firstOf.l0
      repeat' first
      | (with_reducible exact ih0 _ _ _ _)
      | (with_reducible exact LeO.refl _)
      | (with_reducible exact LeO.none _)
      | (with_reducible refine LeO.ite ?_ ?_)
      | (with_reducible refine LeO.bind ?_ (fun _ => ?_))
      | exact ih0 _ _ _ _
      | exact LeO.none _
      | refine LeO.ite ?_ ?_
      | refine LeO.bind ?_ (fun _ => ?_)
theorem sleuthref12_firstOf.mono : ∀ a0 a1 a2 k, LeO (sleuthref12_firstOf.f k a0 a1 a2) (sleuthref12_firstOf.f (k + 1) a0 a1 a2) := by
  intro a0 a1 a2 k
  have ih0 := sleuthref12_firstOf.mono_l k
  unfold sleuthref12_firstOf.f
  repeat' first
      | (with_reducible exact ih0 _ _ _ _)
      | (with_reducible exact LeO.refl _)
      | (with_reducible exact LeO.none _)
      | (with_reducible refine LeO.ite ?_ ?_)
      | (with_reducible refine LeO.bind ?_ (fun _ => ?_))
      | exact ih0 _ _ _ _
      | exact LeO.none _
      | refine LeO.ite ?_ ?_
      | refine LeO.bind ?_ (fun _ => ?_)
set_option maxHeartbeats 8000000 in
set_option maxRecDepth 100000 in
theorem sleuthref12_firstOf.calls (k : Nat) (A0 : Option Addr) (c0 : Nat) (l0 : List Int) (A1 : Option Addr) (c1 : Nat) (l1 : List Int) (a2 : Int) (r : Int) (w : World) (hr0 : Kd.C (Kd.int .i64) w A0 l0.length l0) (hc0 : l0.length ≤ c0) (hr1 : Kd.C (Kd.int .i64) w A1 l1.length l1) (hc1 : l1.length ≤ c1) (h : sleuthref12_firstOf.f k l0 l1 a2 = some r) :
    Calls Tryd.prog 34 #[.slice A0 l0.length c0, .slice A1 l1.length c1, .int .i64 a2] w fun e w' => e = .returned (.int .i64 r) ∧ Drawn0 w w' := by
  have HR0 := Aside0.mk hr0
  have HC0 := Aside0.mk hc0
  clear hr0 hc0
  have HR1 := Aside0.mk hr1
  have HC1 := Aside0.mk hc1
  clear hr1 hc1
  have H : (sleuthref12_firstOf.l0 k l0 l1 a2 0) = some r := h
  clear h
  have H' := Aside0.mk H
  clear H
  go_enter Tryd.func34, Tryd.ntmps34
  go_wp2
  go_loopg [7] k (fun kq v7 w' => ∃ (x7_1 : Int), v7 = .int .i64 x7_1 ∧ Aside0 (sleuthref12_firstOf.l0 kq l0 l1 a2 x7_1 = some r) ∧ Aside0 (kq ≤ k) ∧ Drawn0 w w')
  case atStart => exact ⟨(0), hW_, H', ⟨Nat.le_refl _⟩, by repeat (first | exact Drawn0.refl _ | apply Drawn0.step)⟩
  case round =>
    clear H'
    try clear c1
    try clear p2
    try clear c3
    obtain ⟨x7_1, rfl, HA, HK1, ⟨m1, rfl⟩⟩ := hrel
    cases gk with
    | zero => exact absurd HA.out (by simp [sleuthref12_firstOf.l0])
    | succ k1 =>
      have H := HA.out
      clear HA
      simp only [sleuthref12_firstOf.l0] at H
      by_cases c4 : x7_1 < (l0.length : Int)
      case neg =>
        rw [if_neg c4] at H
        have c4b0 : decide (x7_1 < (l0.length : Int)) = false := decide_eq_false c4
        clear c4
        obtain rfl := Option.some.inj H
        go_wp2
        go_ret
        exact ⟨by first | rfl | (simp; done) | (simp [*]; done), by repeat (first | exact Drawn0.refl _ | apply Drawn0.step)⟩

      rw [if_pos c4] at H
      have c4b0 : decide (x7_1 < (l0.length : Int)) = true := decide_eq_true c4
      clear c4
      replace H := ifI_ H; obtain ⟨c5, H⟩ := H
      have c5b0 : decide (0 ≤ x7_1) = true := decide_eq_true c5
      clear c5
      replace H := ifI_ H; obtain ⟨c6, H⟩ := H
      have c6b0 : decide (0 ≤ (rd l0 x7_1)) = true := decide_eq_true c6
      clear c6
      replace H := ifI_ H; obtain ⟨c7, H⟩ := H
      have c7b0 : decide ((rd l0 x7_1) < (l1.length : Int)) = true := decide_eq_true c7
      clear c7
      by_cases c8 : (rd l1 (rd l0 x7_1)) = a2
      case neg =>
        rw [if_neg c8] at H
        have c8b0 : ((rd l1 (rd l0 x7_1)) == a2) = false := beq_eq_false_iff_ne.mpr c8
        have c8b1 : ((rd l1 (rd l0 x7_1)) != a2) = true := bne_iff_ne.mpr c8
        have H' := Aside0.mk H
        clear H
        have p382 : 0 ≤ (x7_1 : Int) := of_decide_eq_true hA_
        have q382 : x7_1 < (l0.length : Int) := of_decide_eq_true hA_
        obtain ⟨ad382, e382, hx382_0⟩ := Kd.at_int HR0.out x7_1 p382 q382
        cases e382
        replace p382 := eq_true p382
        replace q382 := eq_true q382
        have p383 : 0 ≤ ((rd l0 x7_1) : Int) := of_decide_eq_true hA_
        have q383 : (rd l0 x7_1) < (l1.length : Int) := of_decide_eq_true hA_
        obtain ⟨ad383, e383, hx383_0⟩ := Kd.at_int HR1.out (rd l0 x7_1) p383 q383
        cases e383
        replace p383 := eq_true p383
        replace q383 := eq_true q383
        go_wp2
        go_roundg k1
        case measure => have := HK1.out; omega
        case rel => exact ⟨(wrap64 (x7_1 + 1)), hW_, H', ⟨by have := HK1.out; omega⟩, by repeat (first | exact Drawn0.refl _ | apply Drawn0.step)⟩
      rw [if_pos c8] at H
      have c8b0 : ((rd l1 (rd l0 x7_1)) == a2) = true := beq_iff_eq.mpr c8
      have c8b1 : ((rd l1 (rd l0 x7_1)) != a2) = false := bne_eq_false_iff_eq.mpr c8
      clear c8
      obtain rfl := Option.some.inj H
      have p382 : 0 ≤ (x7_1 : Int) := of_decide_eq_true hA_
      have q382 : x7_1 < (l0.length : Int) := of_decide_eq_true hA_
      obtain ⟨ad382, e382, hx382_0⟩ := Kd.at_int HR0.out x7_1 p382 q382
      cases e382
      replace p382 := eq_true p382
      replace q382 := eq_true q382
      have p383 : 0 ≤ ((rd l0 x7_1) : Int) := of_decide_eq_true hA_
      have q383 : (rd l0 x7_1) < (l1.length : Int) := of_decide_eq_true hA_
      obtain ⟨ad383, e383, hx383_0⟩ := Kd.at_int HR1.out (rd l0 x7_1) p383 q383
      cases e383
      replace p383 := eq_true p383
      replace q383 := eq_true q383
      have p384 : 0 ≤ (x7_1 : Int) := of_decide_eq_true hA_
      have q384 : x7_1 < (l0.length : Int) := of_decide_eq_true hA_
      obtain ⟨ad384, e384, hx384_0⟩ := Kd.at_int HR0.out x7_1 p384 q384
      obtain rfl : ad382 = ad384 := (by injection e384)
      replace p384 := eq_true p384
      replace q384 := eq_true q384
      go_wp2
      go_ret
      exact ⟨by first | rfl | (simp; done) | (simp [*]; done), by repeat (first | exact Drawn0.refl _ | apply Drawn0.step)⟩
end Go.Proofs.YtgokcaccamfgfaaDoor.G
end
section
-- Laid by the session's own driver gp.py over the kit's printer. Not trusted: Lean checks it.
namespace Go.Proofs.YtgokcaccamfgfaaDoor.G
open Go.RowKit Go.Proofs.YtgokcaccamfgfaaDoorW.PrintWords Go.Proofs.YtgokcaccamfgfaaDoorW.PrintLast Go.Proofs.YtgokcaccamfgfaaDoorW.PrintMore
attribute [local go_sem] max2_int min2_int max_two min_two max_three min_three max_four min_four   -- for this text's walks alone
set_option linter.unusedVariables false
set_option linter.unusedSimpArgs false

/-! ### sleuthref12_verdict: function 35 -/
def sleuthref12_verdict.l0 : Nat → List Int → Int → List Int → Int → Option (Int × Int)
  | 0, _, _, _, _ => none
  | k + 1, x1, x2, x7, x8 => if x8 < (x7.length : Int) then (if 0 ≤ x8 then (if 0 ≤ (rd x7 x8) then (if (rd x7 x8) < (x1.length : Int) then (if (rd x1 (rd x7 x8)) = 1 then (sleuthref12_verdict.l0 k x1 x2 x7 (wrap64 (x8 + 1))) else (some (3, 0))) else (none)) else (none)) else (none)) else (some (1, x2))
def sleuthref12_verdict.f (k : Nat) (l0 : List (S33)) (l1 : List Int) (a2 : Int) : Option (Int × Int) := (sleuthref12_kids.f k l0 a2).bind fun t386 => (sleuthref12_verdict.l0 k l1 a2 t386 0)
theorem sleuthref12_verdict.mono_l : ∀ k, (∀ y0 y1 y2 y3, LeO (sleuthref12_verdict.l0 k y0 y1 y2 y3) (sleuthref12_verdict.l0 (k + 1) y0 y1 y2 y3))
  | 0 => fun _ _ _ _ r h => by simp [sleuthref12_verdict.l0] at h
  | k + 1 => by
    have ih0 := sleuthref12_verdict.mono_l k
    · intro y0 y1 y2 y3
      unfold sleuthref12_verdict.l0
      repeat' first
      | (with_reducible exact ih0 _ _ _ _)
      | (with_reducible exact sleuthref12_kids.mono _ _ _)
      | (with_reducible exact LeO.refl _)
      | (with_reducible exact LeO.none _)
      | (with_reducible refine LeO.ite ?_ ?_)
      | (with_reducible refine LeO.bind ?_ (fun _ => ?_))
      | exact ih0 _ _ _ _
      | exact sleuthref12_kids.mono _ _ _
      | exact LeO.none _
      | refine LeO.ite ?_ ?_
      | refine LeO.bind ?_ (fun _ => ?_)
theorem sleuthref12_verdict.mono : ∀ a0 a1 a2 k, LeO (sleuthref12_verdict.f k a0 a1 a2) (sleuthref12_verdict.f (k + 1) a0 a1 a2) := by
  intro a0 a1 a2 k
  have ih0 := sleuthref12_verdict.mono_l k
  unfold sleuthref12_verdict.f
  repeat' first
      | (with_reducible exact ih0 _ _ _ _)
      | (with_reducible exact sleuthref12_kids.mono _ _ _)
      | (with_reducible exact LeO.refl _)
      | (with_reducible exact LeO.none _)
      | (with_reducible refine LeO.ite ?_ ?_)
      | (with_reducible refine LeO.bind ?_ (fun _ => ?_))
      | exact ih0 _ _ _ _
      | exact sleuthref12_kids.mono _ _ _
      | exact LeO.none _
      | refine LeO.ite ?_ ?_
      | refine LeO.bind ?_ (fun _ => ?_)
set_option maxHeartbeats 8000000 in
set_option maxRecDepth 100000 in
theorem sleuthref12_verdict.calls (k : Nat) (A0 : Option Addr) (c0 : Nat) (l0 : List (S33)) (A1 : Option Addr) (c1 : Nat) (l1 : List Int) (a2 : Int) (r1 : Int) (r2 : Int) (w : World) (hr0 : Kd.C k33 w A0 l0.length l0) (hc0 : l0.length ≤ c0) (hr1 : Kd.C (Kd.int .i64) w A1 l1.length l1) (hc1 : l1.length ≤ c1) (h : sleuthref12_verdict.f k l0 l1 a2 = some (r1, r2)) :
    Calls Tryd.prog 35 #[.slice A0 l0.length c0, .slice A1 l1.length c1, .int .i64 a2] w fun e w' => e = .returned (.agg #[.int .i64 r1, .int .i64 r2]) ∧ Below w.heap.size w w' := by
  have hu39 := Tryd.underlying39
  have HR0 := Aside0.mk hr0
  have HC0 := Aside0.mk hc0
  clear hr0 hc0
  have HR1 := Aside0.mk hr1
  have HC1 := Aside0.mk hc1
  clear hr1 hc1
  have HB := Aside0.mk (Below.refl w.heap.size w)
  have H : ((sleuthref12_kids.f k l0 a2).bind fun t386 => (sleuthref12_verdict.l0 k l1 a2 t386 0)) = some (r1, r2) := h
  clear h
  replace H := Option.bind_eq_some_iff.mp H
  obtain ⟨t386, A40, H⟩ := H
  replace H : (sleuthref12_verdict.l0 k l1 a2 t386 0) = some (r1, r2) := H
  have A4 := Aside0.mk A40
  clear A40
  have H' := Aside0.mk H
  clear H
  go_enter Tryd.func35, Tryd.ntmps35
  go_wp2_with (first | ((with_reducible refine gate_dst (N := 6) rfl ?_); refine boxE_ 6 #[.int .i64 0, .int .i64 0] 39 ?_; intro gb385 hg w5 hbox hb; have n0_ := Aside0.mk (below_step hB_ hb); have n1_ := Aside0.mk (hbox); have n2_ := Aside0.mk ((gE_ hg : w.heap.size ≤ gb385)); have n3_ := Aside0.mk ((gE_ hg : w.heap.size ≤ gb385)); clear HB; have HB := n0_; have BK385 := n1_; have GW385 := n2_; have GE385 := n3_; clear n0_ n1_ n2_ n3_; clear hb hbox hg) | ((with_reducible refine gate_callee (f := 33) rfl ?_); refine goesL_ (some 11) rfl rfl Tryd.func33 (by kernel_rfl) rfl #[.slice A0 l0.length c0, .int .i64 a2] rfl hL_ ?_; (with_reducible refine (sleuthref12_kids.calls k _ _ l0 a2 t386 _ ?side1 ?side2 A4.out).mono ?_); (case side1 => exact cB_ HR0.out); (case side2 => exact HC0.out); rintro e w6 ⟨v387, rfl, ho0, hb⟩; refine ⟨_, rfl, ?_⟩; have n0_ := Aside0.mk (Kd.R_lower ho0 (below_size hC_)); have n1_ := Aside0.mk (bB_ BK385.out hb); have n2_ := Aside0.mk (below_step hC_ hb); clear BK385 HB; have HO388 := n0_; have BK385 := n1_; have HB := n2_; clear n0_ n1_ n2_; (try clear hb); (try clear hb2); (try clear hk); (try clear hi); (try clear ho0)))
  (try simp only [Act.put, List.setIfInBounds_toArray, List.set_cons_zero, List.set_cons_succ])
  go_loopg [8] k (fun kq v8 w' => ∃ (x8_1 : Int) (x386000_1 : Int) (x386001_1 : Int), v8 = .int .i64 x8_1 ∧ Aside0 (sleuthref12_verdict.l0 kq l1 a2 t386 x8_1 = some (r1, r2)) ∧ Aside0 (kq ≤ k) ∧ Aside0 (Kd.R (Kd.int .i64) 3 w' w.heap.size (fun _ => True) v387 t386) ∧ Aside0 (w'.heap[gb385]? = some (.cells #[.int .i64 x386000_1, .int .i64 x386001_1] 39 (0, 0))) ∧ Aside0 (Below w.heap.size w w'))
  case atStart => exact ⟨(0), (0), (0), hW_, H', ⟨Nat.le_refl _⟩, ⟨hR_ HO388.out⟩, ⟨(hK_ BK385.out)⟩, ⟨hC_⟩⟩
  case round =>
    clear H'
    try clear c1
    try clear p2
    try clear c3
    obtain ⟨x8_1, x386000_1, x386001_1, rfl, HA, HK1, HO_7, BK385, HB⟩ := hrel
    cases gk with
    | zero => exact absurd HA.out (by simp [sleuthref12_verdict.l0])
    | succ k1 =>
      have H := HA.out
      clear HA
      simp only [sleuthref12_verdict.l0] at H
      by_cases c7 : x8_1 < (t386.length : Int)
      case neg =>
        rw [if_neg c7] at H
        have c7b0 : decide (x8_1 < (t386.length : Int)) = false := decide_eq_false c7
        clear c7
        simp only [Option.some.injEq, Prod.mk.injEq] at H
        obtain ⟨rfl, rfl⟩ := H
        obtain ⟨Ao15, co15, eo15⟩ := Kd.R_slice HO_7.out
        subst eo15
        obtain ⟨hcz16_0, hcz16_1, hfz16_0, hfz16_1⟩ := bx2_ BK385.out
        go_wp2
        refine bodyPost_ret (results_cell_row rfl _ _ gb385 39 #[.int .i64 1, .int .i64 a2] (0, 0) _ rfl (bP_ (bP_ (hK_ BK385.out))) Tryd.underlying39 rfl (by kernel_rfl)) rfl ?_
        exact ⟨hV_, hC_⟩

      rw [if_pos c7] at H
      have c7b0 : decide (x8_1 < (t386.length : Int)) = true := decide_eq_true c7
      clear c7
      replace H := ifI_ H; obtain ⟨c8, H⟩ := H
      have c8b0 : decide (0 ≤ x8_1) = true := decide_eq_true c8
      clear c8
      replace H := ifI_ H; obtain ⟨c9, H⟩ := H
      have c9b0 : decide (0 ≤ (rd t386 x8_1)) = true := decide_eq_true c9
      clear c9
      replace H := ifI_ H; obtain ⟨c10, H⟩ := H
      have c10b0 : decide ((rd t386 x8_1) < (l1.length : Int)) = true := decide_eq_true c10
      clear c10
      by_cases c11 : (rd l1 (rd t386 x8_1)) = 1
      case pos =>
        rw [if_pos c11] at H
        have c11b0 : ((rd l1 (rd t386 x8_1)) == 1) = true := beq_iff_eq.mpr c11
        have c11b1 : ((rd l1 (rd t386 x8_1)) != 1) = false := bne_eq_false_iff_eq.mpr c11
        clear c11
        have H' := Aside0.mk H
        clear H
        obtain ⟨Ao12, co12, eo12⟩ := Kd.R_slice HO_7.out
        subst eo12
        have p389 : 0 ≤ (x8_1 : Int) := of_decide_eq_true hA_
        have q389 : x8_1 < (t386.length : Int) := of_decide_eq_true hA_
        obtain ⟨ad389, e389, hx389_0⟩ := Kd.at_int (Kd.R_reads' HO_7.out).2.2 x8_1 p389 q389
        cases e389
        replace p389 := eq_true p389
        replace q389 := eq_true q389
        have p390 : 0 ≤ ((rd t386 x8_1) : Int) := of_decide_eq_true hA_
        have q390 : (rd t386 x8_1) < (l1.length : Int) := of_decide_eq_true hA_
        obtain ⟨ad390, e390, hx390_0⟩ := Kd.at_int HR1.out (rd t386 x8_1) p390 q390
        cases e390
        replace hx390_0 := cl_ HB.out hx390_0
        replace p390 := eq_true p390
        replace q390 := eq_true q390
        go_wp2
        go_roundg k1
        case measure => have := HK1.out; omega
        case rel => exact ⟨(wrap64 (x8_1 + 1)), (x386000_1), (x386001_1), hW_, H', ⟨by have := HK1.out; omega⟩, ⟨hR_ HO_7.out⟩, ⟨(hK_ BK385.out)⟩, ⟨hC_⟩⟩
      rw [if_neg c11] at H
      have c11b0 : ((rd l1 (rd t386 x8_1)) == 1) = false := beq_eq_false_iff_ne.mpr c11
      have c11b1 : ((rd l1 (rd t386 x8_1)) != 1) = true := bne_iff_ne.mpr c11
      simp only [Option.some.injEq, Prod.mk.injEq] at H
      obtain ⟨rfl, rfl⟩ := H
      obtain ⟨Ao13, co13, eo13⟩ := Kd.R_slice HO_7.out
      subst eo13
      have p389 : 0 ≤ (x8_1 : Int) := of_decide_eq_true hA_
      have q389 : x8_1 < (t386.length : Int) := of_decide_eq_true hA_
      obtain ⟨ad389, e389, hx389_0⟩ := Kd.at_int (Kd.R_reads' HO_7.out).2.2 x8_1 p389 q389
      cases e389
      replace p389 := eq_true p389
      replace q389 := eq_true q389
      have p390 : 0 ≤ ((rd t386 x8_1) : Int) := of_decide_eq_true hA_
      have q390 : (rd t386 x8_1) < (l1.length : Int) := of_decide_eq_true hA_
      obtain ⟨ad390, e390, hx390_0⟩ := Kd.at_int HR1.out (rd t386 x8_1) p390 q390
      cases e390
      replace hx390_0 := cl_ HB.out hx390_0
      replace p390 := eq_true p390
      replace q390 := eq_true q390
      obtain ⟨hcz14_0, hcz14_1, hfz14_0, hfz14_1⟩ := bx2_ BK385.out
      go_wp2
      refine bodyPost_ret (results_cell_row rfl _ _ gb385 39 #[.int .i64 3, .int .i64 0] (0, 0) _ rfl (bP_ (bP_ (hK_ BK385.out))) Tryd.underlying39 rfl (by kernel_rfl)) rfl ?_
      exact ⟨hV_, hC_⟩
end Go.Proofs.YtgokcaccamfgfaaDoor.G
end
section
-- Laid by the session's own driver gp.py over the kit's printer. Not trusted: Lean checks it.
namespace Go.Proofs.YtgokcaccamfgfaaDoor.G
open Go.RowKit Go.Proofs.YtgokcaccamfgfaaDoorW.PrintWords Go.Proofs.YtgokcaccamfgfaaDoorW.PrintLast Go.Proofs.YtgokcaccamfgfaaDoorW.PrintMore
attribute [local go_sem] max2_int min2_int max_two min_two max_three min_three max_four min_four   -- for this text's walks alone
set_option linter.unusedVariables false
set_option linter.unusedSimpArgs false

/-! ### sleuthref12_topDown: function 23 -/
def sleuthref12_topDown.l0 : Nat → List (S33) → List Int → Int → Option (Int × Int)
  | 0, _, _, _ => none
  | k + 1, x0, x1, x5 => (sleuthref12_kids.f k x0 x5).bind fun t396 => ((sleuthref12_firstOf.f k t396 x1 2).bind fun t399 => (if t399 < 0 then ((sleuthref12_kids.f k x0 x5).bind fun t400 => ((sleuthref12_firstOf.f k t400 x1 0).bind fun t403 => (if t403 ≥ 0 then (some (0, t403)) else ((sleuthref12_verdict.f k x0 x1 x5).bind fun bt404 => (some (bt404.1, bt404.2)))))) else (sleuthref12_topDown.l0 k x0 x1 t399)))
def sleuthref12_topDown.f (k : Nat) (l0 : List (S33)) (l1 : List Int) : Option (Int × Int) := if 0 < (l1.length : Int) then (if (rd l1 0) = 2 then (sleuthref12_topDown.l0 k l0 l1 0) else ((sleuthref12_rooted.f (rd l1 0)).bind fun bt394 => (some (bt394.1, bt394.2)))) else (none)
theorem sleuthref12_topDown.mono_l : ∀ k, (∀ y0 y1 y2, LeO (sleuthref12_topDown.l0 k y0 y1 y2) (sleuthref12_topDown.l0 (k + 1) y0 y1 y2))
  | 0 => fun _ _ _ r h => by simp [sleuthref12_topDown.l0] at h
  | k + 1 => by
    have ih0 := sleuthref12_topDown.mono_l k
    · intro y0 y1 y2
      unfold sleuthref12_topDown.l0
      repeat' first
      | (with_reducible exact ih0 _ _ _)
      | (with_reducible exact sleuthref12_firstOf.mono _ _ _ _)
      | (with_reducible exact sleuthref12_kids.mono _ _ _)
      | (with_reducible exact sleuthref12_verdict.mono _ _ _ _)
      | (with_reducible exact LeO.refl _)
      | (with_reducible exact LeO.none _)
      | (with_reducible refine LeO.ite ?_ ?_)
      | (with_reducible refine LeO.bind ?_ (fun _ => ?_))
      | exact ih0 _ _ _
      | exact sleuthref12_firstOf.mono _ _ _ _
      | exact sleuthref12_kids.mono _ _ _
      | exact sleuthref12_verdict.mono _ _ _ _
      | exact LeO.none _
      | refine LeO.ite ?_ ?_
      | refine LeO.bind ?_ (fun _ => ?_)
theorem sleuthref12_topDown.mono : ∀ a0 a1 k, LeO (sleuthref12_topDown.f k a0 a1) (sleuthref12_topDown.f (k + 1) a0 a1) := by
  intro a0 a1 k
  have ih0 := sleuthref12_topDown.mono_l k
  unfold sleuthref12_topDown.f
  repeat' first
      | (with_reducible exact ih0 _ _ _)
      | (with_reducible exact sleuthref12_firstOf.mono _ _ _ _)
      | (with_reducible exact sleuthref12_kids.mono _ _ _)
      | (with_reducible exact sleuthref12_verdict.mono _ _ _ _)
      | (with_reducible exact LeO.refl _)
      | (with_reducible exact LeO.none _)
      | (with_reducible refine LeO.ite ?_ ?_)
      | (with_reducible refine LeO.bind ?_ (fun _ => ?_))
      | exact ih0 _ _ _
      | exact sleuthref12_firstOf.mono _ _ _ _
      | exact sleuthref12_kids.mono _ _ _
      | exact sleuthref12_verdict.mono _ _ _ _
      | exact LeO.none _
      | refine LeO.ite ?_ ?_
      | refine LeO.bind ?_ (fun _ => ?_)
set_option maxHeartbeats 8000000 in
set_option maxRecDepth 100000 in
theorem sleuthref12_topDown.calls (k : Nat) (A0 : Option Addr) (c0 : Nat) (l0 : List (S33)) (A1 : Option Addr) (c1 : Nat) (l1 : List Int) (r1 : Int) (r2 : Int) (w : World) (hr0 : Kd.C k33 w A0 l0.length l0) (hc0 : l0.length ≤ c0) (hr1 : Kd.C (Kd.int .i64) w A1 l1.length l1) (hc1 : l1.length ≤ c1) (h : sleuthref12_topDown.f k l0 l1 = some (r1, r2)) :
    Calls Tryd.prog 23 #[.slice A0 l0.length c0, .slice A1 l1.length c1] w fun e w' => e = .returned (.agg #[.int .i64 r1, .int .i64 r2]) ∧ Below w.heap.size w w' := by
  have hu39 := Tryd.underlying39
  have HR0 := Aside0.mk hr0
  have HC0 := Aside0.mk hc0
  clear hr0 hc0
  have HR1 := Aside0.mk hr1
  have HC1 := Aside0.mk hc1
  clear hr1 hc1
  have HB := Aside0.mk (Below.refl w.heap.size w)
  have H : (if 0 < (l1.length : Int) then (if (rd l1 0) = 2 then (sleuthref12_topDown.l0 k l0 l1 0) else ((sleuthref12_rooted.f (rd l1 0)).bind fun bt394 => (some (bt394.1, bt394.2)))) else (none)) = some (r1, r2) := h
  clear h
  replace H := ifI_ H; obtain ⟨c3, H⟩ := H
  have c3b0 : decide (0 < (l1.length : Int)) = true := decide_eq_true c3
  have c3b1 : decide (0 < l1.length) = true := decide_eq_true (by omega)
  clear c3
  by_cases c4 : (rd l1 0) = 2
  case neg =>
    rw [if_neg c4] at H
    have c4b0 : ((rd l1 0) == 2) = false := beq_eq_false_iff_ne.mpr c4
    have c4b1 : ((rd l1 0) != 2) = true := bne_iff_ne.mpr c4
    replace H := Option.bind_eq_some_iff.mp H
    obtain ⟨⟨t394, t395⟩, A260, H⟩ := H
    replace H : (some (t394, t395)) = some (r1, r2) := H
    have A26 := Aside0.mk A260
    clear A260
    simp only [Option.some.injEq, Prod.mk.injEq] at H
    obtain ⟨rfl, rfl⟩ := H
    go_enter Tryd.func23, Tryd.ntmps23
    go_wp2_with (first | ((with_reducible refine gate_dst (N := 4) rfl ?_); refine boxE_ 4 #[.int .i64 0, .int .i64 0] 39 ?_; intro gb391 hg w27 hbox hb; have n0_ := Aside0.mk (below_step hB_ hb); have n1_ := Aside0.mk (hbox); have n2_ := Aside0.mk ((gE_ hg : w.heap.size ≤ gb391)); have n3_ := Aside0.mk ((gE_ hg : w.heap.size ≤ gb391)); clear HB; have HB := n0_; have BK391 := n1_; have GW391 := n2_; have GE391 := n3_; clear n0_ n1_ n2_ n3_; clear hb hbox hg; have p392 : 0 ≤ (0 : Int) := (by omega); have q392 : 0 < (l1.length : Int) := of_decide_eq_true hA_; obtain ⟨ad392, e392, hx392_0⟩ := Kd.at_int HR1.out 0 p392 q392; cases e392; have qi392 : (0 < l1.length) = True := eq_true (by omega); (try rw [show ((0 : Int)).toNat = 0 from rfl] at hx392_0); (try rw [Addr.add_zero'] at hx392_0); replace hx392_0 := cl_ HB.out hx392_0; replace p392 := eq_true p392; replace q392 := eq_true q392; have p393 : 0 ≤ (0 : Int) := (by omega); have q393 : 0 < (l1.length : Int) := of_decide_eq_true hA_; obtain ⟨ad393, e393, hx393_0⟩ := Kd.at_int HR1.out 0 p393 q393; obtain rfl : ad392 = ad393 := (by injection e393); have qi393 : (0 < l1.length) = True := eq_true (by omega); (try rw [show ((0 : Int)).toNat = 0 from rfl] at hx393_0); (try rw [Addr.add_zero'] at hx393_0); replace hx393_0 := cl_ HB.out hx393_0; replace p393 := eq_true p393; replace q393 := eq_true q393) | ((with_reducible refine gate_callee (f := 32) rfl ?_); refine goesL_ (some 16) rfl rfl Tryd.func32 (by kernel_rfl) rfl #[.int .i64 (rd l1 0)] rfl hL_ ?_; (with_reducible refine (sleuthref12_rooted.calls (rd l1 0) t394 t395 _ A26.out).mono ?_); rintro e w28 ⟨rfl, hb⟩; refine ⟨_, rfl, ?_⟩; have n0_ := Aside0.mk (bB_ BK391.out hb); have n1_ := Aside0.mk (below_step hC_ hb); clear BK391 HB; have BK391 := n0_; have HB := n1_; clear n0_ n1_; (try clear hb); (try clear hb2); (try clear hk); (try clear hi); obtain ⟨hcz29_0, hcz29_1, hfz29_0, hfz29_1⟩ := bx2_ BK391.out))
    refine bodyPost_ret (results_cell_row rfl _ _ gb391 39 #[.int .i64 t394, .int .i64 t395] (0, 0) _ rfl (bP_ (bP_ (hK_ BK391.out))) Tryd.underlying39 rfl (by kernel_rfl)) rfl ?_
    exact ⟨hV_, hC_⟩
  rw [if_pos c4] at H
  have c4b0 : ((rd l1 0) == 2) = true := beq_iff_eq.mpr c4
  have c4b1 : ((rd l1 0) != 2) = false := bne_eq_false_iff_eq.mpr c4
  clear c4
  have H' := Aside0.mk H
  clear H
  go_enter Tryd.func23, Tryd.ntmps23
  go_wp2_with (first | ((with_reducible refine gate_dst (N := 4) rfl ?_); refine boxE_ 4 #[.int .i64 0, .int .i64 0] 39 ?_; intro gb391 hg w5 hbox hb; have n0_ := Aside0.mk (below_step hB_ hb); have n1_ := Aside0.mk (hbox); have n2_ := Aside0.mk ((gE_ hg : w.heap.size ≤ gb391)); have n3_ := Aside0.mk ((gE_ hg : w.heap.size ≤ gb391)); clear HB; have HB := n0_; have BK391 := n1_; have GW391 := n2_; have GE391 := n3_; clear n0_ n1_ n2_ n3_; clear hb hbox hg; have p392 : 0 ≤ (0 : Int) := (by omega); have q392 : 0 < (l1.length : Int) := of_decide_eq_true hA_; obtain ⟨ad392, e392, hx392_0⟩ := Kd.at_int HR1.out 0 p392 q392; cases e392; have qi392 : (0 < l1.length) = True := eq_true (by omega); (try rw [show ((0 : Int)).toNat = 0 from rfl] at hx392_0); (try rw [Addr.add_zero'] at hx392_0); replace hx392_0 := cl_ HB.out hx392_0; replace p392 := eq_true p392; replace q392 := eq_true q392))
  (try simp only [Act.put, List.setIfInBounds_toArray, List.set_cons_zero, List.set_cons_succ])
  go_loopg [5] k (fun kq v5 w' => ∃ (x5_1 : Int), v5 = .int .i64 x5_1 ∧ Aside0 (sleuthref12_topDown.l0 kq l0 l1 x5_1 = some (r1, r2)) ∧ Aside0 (kq ≤ k) ∧ Aside0 (w'.heap[gb391]? = some (.cells #[.int .i64 0, .int .i64 0] 39 (0, 0))) ∧ Aside0 (Below w.heap.size w w'))
  case atStart => exact ⟨(0), hW_, H', ⟨Nat.le_refl _⟩, ⟨(hK_ BK391.out)⟩, ⟨hC_⟩⟩
  case round =>
    clear H'
    try clear c1
    try clear c2
    try clear p2
    try clear c3
    try clear c3b0
    try clear c3b1
    try clear p3
    try clear q3
    try clear hx3
    try clear qi3
    try clear c4
    try clear c4b0
    try clear c4b1
    try clear hx392_0
    try clear p392
    try clear q392
    obtain ⟨x5_1, rfl, HA, HK1, BK391, HB⟩ := hrel
    cases gk with
    | zero => exact absurd HA.out (by simp [sleuthref12_topDown.l0])
    | succ k1 =>
      have H := HA.out
      clear HA
      simp only [sleuthref12_topDown.l0] at H
      replace H := Option.bind_eq_some_iff.mp H
      obtain ⟨t396, A60, H⟩ := H
      replace H : ((sleuthref12_firstOf.f k1 t396 l1 2).bind fun t399 => (if t399 < 0 then ((sleuthref12_kids.f k1 l0 x5_1).bind fun t400 => ((sleuthref12_firstOf.f k1 t400 l1 0).bind fun t403 => (if t403 ≥ 0 then (some (0, t403)) else ((sleuthref12_verdict.f k1 l0 l1 x5_1).bind fun bt404 => (some (bt404.1, bt404.2)))))) else (sleuthref12_topDown.l0 k1 l0 l1 t399))) = some (r1, r2) := H
      have A6 := Aside0.mk A60
      clear A60
      replace H := Option.bind_eq_some_iff.mp H
      obtain ⟨t399, A70, H⟩ := H
      replace H : (if t399 < 0 then ((sleuthref12_kids.f k1 l0 x5_1).bind fun t400 => ((sleuthref12_firstOf.f k1 t400 l1 0).bind fun t403 => (if t403 ≥ 0 then (some (0, t403)) else ((sleuthref12_verdict.f k1 l0 l1 x5_1).bind fun bt404 => (some (bt404.1, bt404.2)))))) else (sleuthref12_topDown.l0 k1 l0 l1 t399)) = some (r1, r2) := H
      have A7 := Aside0.mk A70
      clear A70
      by_cases c8 : t399 < 0
      case neg =>
        rw [if_neg c8] at H
        have c8b0 : decide (t399 < 0) = false := decide_eq_false c8
        clear c8
        have H' := Aside0.mk H
        clear H
        go_wp2_with (first | ((with_reducible refine gate_callee (f := 33) rfl ?_); refine goesL_ (some 19) rfl rfl Tryd.func33 (by kernel_rfl) rfl #[.slice A0 l0.length c0, .int .i64 x5_1] rfl hL_ ?_; (with_reducible refine (sleuthref12_kids.calls k1 _ _ l0 x5_1 t396 _ ?side1 ?side2 A6.out).mono ?_); (case side1 => exact cB_ HR0.out); (case side2 => exact HC0.out); rintro e w24 ⟨v397, rfl, ho0, hb⟩; refine ⟨_, rfl, ?_⟩; have n0_ := Aside0.mk (Kd.R_lower ho0 (below_size hC_)); have n1_ := Aside0.mk (bB_ BK391.out hb); have n2_ := Aside0.mk (below_step hC_ hb); clear BK391 HB; have HO398 := n0_; have BK391 := n1_; have HB := n2_; clear n0_ n1_ n2_; (try clear hb); (try clear hb2); (try clear hk); (try clear hi); (try clear ho0); obtain ⟨Ao25, co25, eo25⟩ := Kd.R_slice HO398.out; subst eo25) | ((with_reducible refine gate_callee (f := 34) rfl ?_); refine goesL_ (some 22) rfl rfl Tryd.func34 (by kernel_rfl) rfl #[.slice Ao25 t396.length co25, .slice (some ad392) l1.length c1, .int .i64 2] rfl hL_ ?_; (with_reducible refine (sleuthref12_firstOf.calls k1 _ _ t396 _ _ l1 2 t399 _ ?side1 ?side2 ?side3 ?side4 A7.out).mono ?_); (case side1 => exact cC_ (Kd.R_reads' HO398.out).2.2); (case side2 => exact (Kd.R_reads' HO398.out).2.1); (case side3 => exact cB_ HR1.out); (case side4 => exact HC1.out); rintro e w' ⟨rfl, ⟨nd, rfl⟩⟩; refine ⟨_, rfl, ?_⟩))
        go_roundg k1
        case measure => have := HK1.out; omega
        case rel => exact ⟨(t399), hW_, H', ⟨by have := HK1.out; omega⟩, ⟨(hK_ BK391.out)⟩, ⟨hC_⟩⟩
      rw [if_pos c8] at H
      have c8b0 : decide (t399 < 0) = true := decide_eq_true c8
      clear c8
      replace H := Option.bind_eq_some_iff.mp H
      obtain ⟨t400, A90, H⟩ := H
      replace H : ((sleuthref12_firstOf.f k1 t400 l1 0).bind fun t403 => (if t403 ≥ 0 then (some (0, t403)) else ((sleuthref12_verdict.f k1 l0 l1 x5_1).bind fun bt404 => (some (bt404.1, bt404.2))))) = some (r1, r2) := H
      have A9 := Aside0.mk A90
      clear A90
      replace H := Option.bind_eq_some_iff.mp H
      obtain ⟨t403, A100, H⟩ := H
      replace H : (if t403 ≥ 0 then (some (0, t403)) else ((sleuthref12_verdict.f k1 l0 l1 x5_1).bind fun bt404 => (some (bt404.1, bt404.2)))) = some (r1, r2) := H
      have A10 := Aside0.mk A100
      clear A100
      by_cases c11 : t403 ≥ 0
      case pos =>
        rw [if_pos c11] at H
        have c11b0 : decide (0 ≤ t403) = true := decide_eq_true c11
        clear c11
        simp only [Option.some.injEq, Prod.mk.injEq] at H
        obtain ⟨rfl, rfl⟩ := H
        go_wp2_with (first | ((with_reducible refine gate_callee (f := 33) rfl ?_); refine goesL_ (some 19) rfl rfl Tryd.func33 (by kernel_rfl) rfl #[.slice A0 l0.length c0, .int .i64 x5_1] rfl hL_ ?_; (with_reducible refine (sleuthref12_kids.calls k1 _ _ l0 x5_1 t396 _ ?side1 ?side2 A6.out).mono ?_); (case side1 => exact cB_ HR0.out); (case side2 => exact HC0.out); rintro e w12 ⟨v397, rfl, ho0, hb⟩; refine ⟨_, rfl, ?_⟩; have n0_ := Aside0.mk (Kd.R_lower ho0 (below_size hC_)); have n1_ := Aside0.mk (bB_ BK391.out hb); have n2_ := Aside0.mk (below_step hC_ hb); clear BK391 HB; have HO398 := n0_; have BK391 := n1_; have HB := n2_; clear n0_ n1_ n2_; (try clear hb); (try clear hb2); (try clear hk); (try clear hi); (try clear ho0); obtain ⟨Ao13, co13, eo13⟩ := Kd.R_slice HO398.out; subst eo13) | ((with_reducible refine gate_callee (f := 34) rfl ?_); refine goesL_ (some 22) rfl rfl Tryd.func34 (by kernel_rfl) rfl #[.slice Ao13 t396.length co13, .slice (some ad392) l1.length c1, .int .i64 2] rfl hL_ ?_; (with_reducible refine (sleuthref12_firstOf.calls k1 _ _ t396 _ _ l1 2 t399 _ ?side1 ?side2 ?side3 ?side4 A7.out).mono ?_); (case side1 => exact cC_ (Kd.R_reads' HO398.out).2.2); (case side2 => exact (Kd.R_reads' HO398.out).2.1); (case side3 => exact cB_ HR1.out); (case side4 => exact HC1.out); rintro e w' ⟨rfl, ⟨nd, rfl⟩⟩; refine ⟨_, rfl, ?_⟩; (try (rw [drewN_self w12]; generalize hq_ : World.drewN w12 _ = w12; have n0_ : Aside0 (Kd.R (Kd.int .i64) 3 w12 w.heap.size (fun _ => True) (.slice Ao13 t396.length co13) t396) := ⟨by rw [← hq_]; exact (hR_ HO398.out)⟩; have n1_ : Aside0 (w12.heap[gb391]? = some (.cells #[.int .i64 0, .int .i64 0] 39 (0, 0))) := ⟨by rw [← hq_]; exact (hK_ BK391.out)⟩; have n2_ : Aside0 (Below w.heap.size w w12) := ⟨by rw [← hq_]; exact hC_⟩; clear HO398 BK391 HB hq_; have HO398 := n0_; have BK391 := n1_; have HB := n2_; clear n0_ n1_ n2_; (try have hcu0_0 := bc0_ BK391.out); (try have hfu0_0 := blk_frozen BK391.out 0); (try have hcu0_1 := bc1_ BK391.out); (try have hfu0_1 := blk_frozen BK391.out 1)))) | ((with_reducible refine gate_callee (f := 33) rfl ?_); refine goesL_ (some 28) rfl rfl Tryd.func33 (by kernel_rfl) rfl #[.slice A0 l0.length c0, .int .i64 x5_1] rfl hL_ ?_; (with_reducible refine (sleuthref12_kids.calls k1 _ _ l0 x5_1 t400 _ ?side1 ?side2 A9.out).mono ?_); (case side1 => exact cB_ HR0.out); (case side2 => exact HC0.out); rintro e w14 ⟨v401, rfl, ho0, hb⟩; refine ⟨_, rfl, ?_⟩; have n0_ := Aside0.mk (Kd.R_elder' (hR_ HO398.out) (Kd.R_base ho0) hb); have n1_ := Aside0.mk (Kd.R_lower (Kd.R_new' ho0 (Kd.R_lt (hR_ HO398.out))) (below_size hC_)); have n2_ := Aside0.mk (bB_ BK391.out hb); have n3_ := Aside0.mk (below_step hC_ hb); clear HO398 BK391 HB; have HO398 := n0_; have HO402 := n1_; have BK391 := n2_; have HB := n3_; clear n0_ n1_ n2_ n3_; (try clear hb); (try clear hb2); (try clear hk); (try clear hi); (try clear ho0); obtain ⟨Ao15, co15, eo15⟩ := Kd.R_slice HO402.out; subst eo15) | ((with_reducible refine gate_callee (f := 34) rfl ?_); refine goesL_ (some 30) rfl rfl Tryd.func34 (by kernel_rfl) rfl #[.slice Ao15 t400.length co15, .slice (some ad392) l1.length c1, .int .i64 0] rfl hL_ ?_; (with_reducible refine (sleuthref12_firstOf.calls k1 _ _ t400 _ _ l1 0 t403 _ ?side1 ?side2 ?side3 ?side4 A10.out).mono ?_); (case side1 => exact cC_ (Kd.R_reads' HO402.out).2.2); (case side2 => exact (Kd.R_reads' HO402.out).2.1); (case side3 => exact cB_ HR1.out); (case side4 => exact HC1.out); rintro e w' ⟨rfl, ⟨nd, rfl⟩⟩; refine ⟨_, rfl, ?_⟩; (try (rw [drewN_self w14]; generalize hq_ : World.drewN w14 _ = w14; have n0_ : Aside0 (Kd.R (Kd.int .i64) 3 w14 w.heap.size (fun k_ => some k_ ≠ (.slice Ao15 t400.length co15 : Value).ownBlock) (.slice Ao13 t396.length co13) t396) := ⟨by rw [← hq_]; exact (by (with_reducible repeat (first | apply Kd.R_alloc | apply Kd.R_drewN | apply Kd.R_drew)); exact Kd.R_mono HO398.out (fun _ hk => hk.2))⟩; have n1_ : Aside0 (Kd.R (Kd.int .i64) 3 w14 w.heap.size (fun k_ => some k_ ≠ (.slice Ao13 t396.length co13 : Value).ownBlock) (.slice Ao15 t400.length co15) t400) := ⟨by rw [← hq_]; exact (by (with_reducible repeat (first | apply Kd.R_alloc | apply Kd.R_drewN | apply Kd.R_drew)); exact Kd.R_mono HO402.out (fun _ hk => hk.2))⟩; have n2_ : Aside0 (w14.heap[gb391]? = some (.cells #[.int .i64 0, .int .i64 0] 39 (0, 0))) := ⟨by rw [← hq_]; exact (hK_ BK391.out)⟩; have n3_ : Aside0 (Below w.heap.size w w14) := ⟨by rw [← hq_]; exact hC_⟩; clear HO398 HO402 BK391 HB hq_; have HO398 := n0_; have HO402 := n1_; have BK391 := n2_; have HB := n3_; clear n0_ n1_ n2_ n3_; (try have hcu0_0 := bc0_ BK391.out); (try have hfu0_0 := blk_frozen BK391.out 0); (try have hcu0_1 := bc1_ BK391.out); (try have hfu0_1 := blk_frozen BK391.out 1))); obtain ⟨hcz16_0, hcz16_1, hfz16_0, hfz16_1⟩ := bx2_ BK391.out))
        refine bodyPost_ret (results_cell_row rfl _ _ gb391 39 #[.int .i64 0, .int .i64 t403] (0, 0) _ rfl (bP_ (bP_ (hK_ BK391.out))) Tryd.underlying39 rfl (by kernel_rfl)) rfl ?_
        exact ⟨hV_, hC_⟩
      rw [if_neg c11] at H
      have c11b0 : decide (0 ≤ t403) = false := decide_eq_false c11
      clear c11
      replace H := Option.bind_eq_some_iff.mp H
      obtain ⟨⟨t404, t405⟩, A170, H⟩ := H
      replace H : (some (t404, t405)) = some (r1, r2) := H
      have A17 := Aside0.mk A170
      clear A170
      simp only [Option.some.injEq, Prod.mk.injEq] at H
      obtain ⟨rfl, rfl⟩ := H
      go_wp2_with (first | ((with_reducible refine gate_callee (f := 33) rfl ?_); refine goesL_ (some 19) rfl rfl Tryd.func33 (by kernel_rfl) rfl #[.slice A0 l0.length c0, .int .i64 x5_1] rfl hL_ ?_; (with_reducible refine (sleuthref12_kids.calls k1 _ _ l0 x5_1 t396 _ ?side1 ?side2 A6.out).mono ?_); (case side1 => exact cB_ HR0.out); (case side2 => exact HC0.out); rintro e w18 ⟨v397, rfl, ho0, hb⟩; refine ⟨_, rfl, ?_⟩; have n0_ := Aside0.mk (Kd.R_lower ho0 (below_size hC_)); have n1_ := Aside0.mk (bB_ BK391.out hb); have n2_ := Aside0.mk (below_step hC_ hb); clear BK391 HB; have HO398 := n0_; have BK391 := n1_; have HB := n2_; clear n0_ n1_ n2_; (try clear hb); (try clear hb2); (try clear hk); (try clear hi); (try clear ho0); obtain ⟨Ao19, co19, eo19⟩ := Kd.R_slice HO398.out; subst eo19) | ((with_reducible refine gate_callee (f := 34) rfl ?_); refine goesL_ (some 22) rfl rfl Tryd.func34 (by kernel_rfl) rfl #[.slice Ao19 t396.length co19, .slice (some ad392) l1.length c1, .int .i64 2] rfl hL_ ?_; (with_reducible refine (sleuthref12_firstOf.calls k1 _ _ t396 _ _ l1 2 t399 _ ?side1 ?side2 ?side3 ?side4 A7.out).mono ?_); (case side1 => exact cC_ (Kd.R_reads' HO398.out).2.2); (case side2 => exact (Kd.R_reads' HO398.out).2.1); (case side3 => exact cB_ HR1.out); (case side4 => exact HC1.out); rintro e w' ⟨rfl, ⟨nd, rfl⟩⟩; refine ⟨_, rfl, ?_⟩; (try (rw [drewN_self w18]; generalize hq_ : World.drewN w18 _ = w18; have n0_ : Aside0 (Kd.R (Kd.int .i64) 3 w18 w.heap.size (fun _ => True) (.slice Ao19 t396.length co19) t396) := ⟨by rw [← hq_]; exact (hR_ HO398.out)⟩; have n1_ : Aside0 (w18.heap[gb391]? = some (.cells #[.int .i64 0, .int .i64 0] 39 (0, 0))) := ⟨by rw [← hq_]; exact (hK_ BK391.out)⟩; have n2_ : Aside0 (Below w.heap.size w w18) := ⟨by rw [← hq_]; exact hC_⟩; clear HO398 BK391 HB hq_; have HO398 := n0_; have BK391 := n1_; have HB := n2_; clear n0_ n1_ n2_; (try have hcu0_0 := bc0_ BK391.out); (try have hfu0_0 := blk_frozen BK391.out 0); (try have hcu0_1 := bc1_ BK391.out); (try have hfu0_1 := blk_frozen BK391.out 1)))) | ((with_reducible refine gate_callee (f := 33) rfl ?_); refine goesL_ (some 28) rfl rfl Tryd.func33 (by kernel_rfl) rfl #[.slice A0 l0.length c0, .int .i64 x5_1] rfl hL_ ?_; (with_reducible refine (sleuthref12_kids.calls k1 _ _ l0 x5_1 t400 _ ?side1 ?side2 A9.out).mono ?_); (case side1 => exact cB_ HR0.out); (case side2 => exact HC0.out); rintro e w20 ⟨v401, rfl, ho0, hb⟩; refine ⟨_, rfl, ?_⟩; have n0_ := Aside0.mk (Kd.R_elder' (hR_ HO398.out) (Kd.R_base ho0) hb); have n1_ := Aside0.mk (Kd.R_lower (Kd.R_new' ho0 (Kd.R_lt (hR_ HO398.out))) (below_size hC_)); have n2_ := Aside0.mk (bB_ BK391.out hb); have n3_ := Aside0.mk (below_step hC_ hb); clear HO398 BK391 HB; have HO398 := n0_; have HO402 := n1_; have BK391 := n2_; have HB := n3_; clear n0_ n1_ n2_ n3_; (try clear hb); (try clear hb2); (try clear hk); (try clear hi); (try clear ho0); obtain ⟨Ao21, co21, eo21⟩ := Kd.R_slice HO402.out; subst eo21) | ((with_reducible refine gate_callee (f := 34) rfl ?_); refine goesL_ (some 30) rfl rfl Tryd.func34 (by kernel_rfl) rfl #[.slice Ao21 t400.length co21, .slice (some ad392) l1.length c1, .int .i64 0] rfl hL_ ?_; (with_reducible refine (sleuthref12_firstOf.calls k1 _ _ t400 _ _ l1 0 t403 _ ?side1 ?side2 ?side3 ?side4 A10.out).mono ?_); (case side1 => exact cC_ (Kd.R_reads' HO402.out).2.2); (case side2 => exact (Kd.R_reads' HO402.out).2.1); (case side3 => exact cB_ HR1.out); (case side4 => exact HC1.out); rintro e w' ⟨rfl, ⟨nd, rfl⟩⟩; refine ⟨_, rfl, ?_⟩; (try (rw [drewN_self w20]; generalize hq_ : World.drewN w20 _ = w20; have n0_ : Aside0 (Kd.R (Kd.int .i64) 3 w20 w.heap.size (fun k_ => some k_ ≠ (.slice Ao21 t400.length co21 : Value).ownBlock) (.slice Ao19 t396.length co19) t396) := ⟨by rw [← hq_]; exact (by (with_reducible repeat (first | apply Kd.R_alloc | apply Kd.R_drewN | apply Kd.R_drew)); exact Kd.R_mono HO398.out (fun _ hk => hk.2))⟩; have n1_ : Aside0 (Kd.R (Kd.int .i64) 3 w20 w.heap.size (fun k_ => some k_ ≠ (.slice Ao19 t396.length co19 : Value).ownBlock) (.slice Ao21 t400.length co21) t400) := ⟨by rw [← hq_]; exact (by (with_reducible repeat (first | apply Kd.R_alloc | apply Kd.R_drewN | apply Kd.R_drew)); exact Kd.R_mono HO402.out (fun _ hk => hk.2))⟩; have n2_ : Aside0 (w20.heap[gb391]? = some (.cells #[.int .i64 0, .int .i64 0] 39 (0, 0))) := ⟨by rw [← hq_]; exact (hK_ BK391.out)⟩; have n3_ : Aside0 (Below w.heap.size w w20) := ⟨by rw [← hq_]; exact hC_⟩; clear HO398 HO402 BK391 HB hq_; have HO398 := n0_; have HO402 := n1_; have BK391 := n2_; have HB := n3_; clear n0_ n1_ n2_ n3_; (try have hcu0_0 := bc0_ BK391.out); (try have hfu0_0 := blk_frozen BK391.out 0); (try have hcu0_1 := bc1_ BK391.out); (try have hfu0_1 := blk_frozen BK391.out 1)))) | ((with_reducible refine gate_callee (f := 35) rfl ?_); refine goesL_ (some 38) rfl rfl Tryd.func35 (by kernel_rfl) rfl #[.slice A0 l0.length c0, .slice (some ad392) l1.length c1, .int .i64 x5_1] rfl hL_ ?_; (with_reducible refine (sleuthref12_verdict.calls k1 _ _ l0 _ _ l1 x5_1 t404 t405 _ ?side1 ?side2 ?side3 ?side4 A17.out).mono ?_); (case side1 => exact cB_ HR0.out); (case side2 => exact HC0.out); (case side3 => exact cB_ HR1.out); (case side4 => exact HC1.out); rintro e w22 ⟨rfl, hb⟩; refine ⟨_, rfl, ?_⟩; have n0_ := Aside0.mk (Kd.R_below (hR_ HO398.out) hb); have n1_ := Aside0.mk (Kd.R_below (hR_ HO402.out) hb); have n2_ := Aside0.mk (bB_ BK391.out hb); have n3_ := Aside0.mk (below_step hC_ hb); clear HO398 HO402 BK391 HB; have HO398 := n0_; have HO402 := n1_; have BK391 := n2_; have HB := n3_; clear n0_ n1_ n2_ n3_; (try clear hb); (try clear hb2); (try clear hk); (try clear hi); obtain ⟨hcz23_0, hcz23_1, hfz23_0, hfz23_1⟩ := bx2_ BK391.out))
      refine bodyPost_ret (results_cell_row rfl _ _ gb391 39 #[.int .i64 t404, .int .i64 t405] (0, 0) _ rfl (bP_ (bP_ (hK_ BK391.out))) Tryd.underlying39 rfl (by kernel_rfl)) rfl ?_
      exact ⟨hV_, hC_⟩
/-! ### sleuthref12_Top: function 12 -/
def sleuthref12_Top.f (k : Nat) (l0 : List (S33)) (l1 : List Int) : Option (Int × Int × Int) := (sleuthref12_MarksMay.f k l0 l1).bind fun t407 => (if t407 = true then ((sleuthref12_topDown.f k l0 l1).bind fun bt408 => (some (bt408.1, bt408.2, 0))) else (some (0, 0, 1800)))
theorem sleuthref12_Top.mono : ∀ a0 a1 k, LeO (sleuthref12_Top.f k a0 a1) (sleuthref12_Top.f (k + 1) a0 a1) := by
  intro a0 a1 k
  unfold sleuthref12_Top.f
  repeat' first
      | (with_reducible exact sleuthref12_MarksMay.mono _ _ _)
      | (with_reducible exact sleuthref12_topDown.mono _ _ _)
      | (with_reducible exact LeO.refl _)
      | (with_reducible exact LeO.none _)
      | (with_reducible refine LeO.ite ?_ ?_)
      | (with_reducible refine LeO.bind ?_ (fun _ => ?_))
      | exact sleuthref12_MarksMay.mono _ _ _
      | exact sleuthref12_topDown.mono _ _ _
      | exact LeO.none _
      | refine LeO.ite ?_ ?_
      | refine LeO.bind ?_ (fun _ => ?_)
set_option maxHeartbeats 8000000 in
set_option maxRecDepth 100000 in
theorem sleuthref12_Top.calls (k : Nat) (A0 : Option Addr) (c0 : Nat) (l0 : List (S33)) (A1 : Option Addr) (c1 : Nat) (l1 : List Int) (r1 : Int) (r2 : Int) (r3 : Int) (w : World) (hr0 : Kd.C k33 w A0 l0.length l0) (hc0 : l0.length ≤ c0) (hr1 : Kd.C (Kd.int .i64) w A1 l1.length l1) (hc1 : l1.length ≤ c1) (h : sleuthref12_Top.f k l0 l1 = some (r1, r2, r3)) :
    Calls Tryd.prog 12 #[.slice A0 l0.length c0, .slice A1 l1.length c1] w fun e w' => e = .returned (.tuple #[.agg #[.int .i64 r1, .int .i64 r2], .int .i64 r3]) ∧ Below w.heap.size w w' := by
  have hu39 := Tryd.underlying39
  have HR0 := Aside0.mk hr0
  have HC0 := Aside0.mk hc0
  clear hr0 hc0
  have HR1 := Aside0.mk hr1
  have HC1 := Aside0.mk hc1
  clear hr1 hc1
  have HB := Aside0.mk (Below.refl w.heap.size w)
  have H : ((sleuthref12_MarksMay.f k l0 l1).bind fun t407 => (if t407 = true then ((sleuthref12_topDown.f k l0 l1).bind fun bt408 => (some (bt408.1, bt408.2, 0))) else (some (0, 0, 1800)))) = some (r1, r2, r3) := h
  clear h
  replace H := Option.bind_eq_some_iff.mp H
  obtain ⟨t407, A30, H⟩ := H
  replace H : (if t407 = true then ((sleuthref12_topDown.f k l0 l1).bind fun bt408 => (some (bt408.1, bt408.2, 0))) else (some (0, 0, 1800))) = some (r1, r2, r3) := H
  have A3 := Aside0.mk A30
  clear A30
  by_cases c4 : t407 = true
  case neg =>
    replace c4 := Bool.eq_false_iff.mpr c4
    subst c4
    have H1 : (some (0, 0, 1800)) = some (r1, r2, r3) := by rw [if_neg (show ¬ (false = true) by decide)] at H; exact H
    clear H
    have H := H1
    clear H1
    simp only [Option.some.injEq, Prod.mk.injEq] at H
    obtain ⟨rfl, rfl, rfl⟩ := H
    go_enter Tryd.func12, Tryd.ntmps12
    go_wp2_with (first | ((with_reducible refine gate_dst (N := 4) rfl ?_); refine boxE_ 4 #[.int .i64 0, .int .i64 0] 39 ?_; intro gb406 hg w10 hbox hb; have n0_ := Aside0.mk (below_step hB_ hb); have n1_ := Aside0.mk (hbox); have n2_ := Aside0.mk ((gE_ hg : w.heap.size ≤ gb406)); have n3_ := Aside0.mk ((gE_ hg : w.heap.size ≤ gb406)); clear HB; have HB := n0_; have BK406 := n1_; have GW406 := n2_; have GE406 := n3_; clear n0_ n1_ n2_ n3_; clear hb hbox hg) | ((with_reducible refine gate_callee (f := 22) rfl ?_); refine goesL_ (some 8) rfl rfl Tryd.func22 (by kernel_rfl) rfl #[.slice A0 l0.length c0, .slice A1 l1.length c1] rfl hL_ ?_; (with_reducible refine (sleuthref12_MarksMay.calls k _ _ l0 _ _ l1 false _ ?side1 ?side2 ?side3 ?side4 A3.out).mono ?_); (case side1 => exact cB_ HR0.out); (case side2 => exact HC0.out); (case side3 => exact cB_ HR1.out); (case side4 => exact HC1.out); rintro e w11 ⟨rfl, hb⟩; refine ⟨_, rfl, ?_⟩; have n0_ := Aside0.mk (bB_ BK406.out hb); have n1_ := Aside0.mk (below_step hC_ hb); clear BK406 HB; have BK406 := n0_; have HB := n1_; clear n0_ n1_; (try clear hb); (try clear hb2); (try clear hk); (try clear hi); obtain ⟨hcz12_0, hcz12_1, hfz12_0, hfz12_1⟩ := bx2_ BK406.out))
    refine bodyPost_ret (results_ct rfl _ _ gb406 39 #[.int .i64 0, .int .i64 0] (0, 0) _ rfl (bP_ (bP_ (hK_ BK406.out))) Tryd.underlying39 rfl (by kernel_rfl)) rfl ?_
    exact ⟨hV_, hC_⟩

  subst c4
  have H1 : ((sleuthref12_topDown.f k l0 l1).bind fun bt408 => (some (bt408.1, bt408.2, 0))) = some (r1, r2, r3) := by rw [if_pos rfl] at H; exact H
  clear H
  have H := H1
  clear H1
  replace H := Option.bind_eq_some_iff.mp H
  obtain ⟨⟨t408, t409⟩, A50, H⟩ := H
  replace H : (some (t408, t409, 0)) = some (r1, r2, r3) := H
  have A5 := Aside0.mk A50
  clear A50
  simp only [Option.some.injEq, Prod.mk.injEq] at H
  obtain ⟨rfl, rfl, rfl⟩ := H
  go_enter Tryd.func12, Tryd.ntmps12
  go_wp2_with (first | ((with_reducible refine gate_dst (N := 4) rfl ?_); refine boxE_ 4 #[.int .i64 0, .int .i64 0] 39 ?_; intro gb406 hg w6 hbox hb; have n0_ := Aside0.mk (below_step hB_ hb); have n1_ := Aside0.mk (hbox); have n2_ := Aside0.mk ((gE_ hg : w.heap.size ≤ gb406)); have n3_ := Aside0.mk ((gE_ hg : w.heap.size ≤ gb406)); clear HB; have HB := n0_; have BK406 := n1_; have GW406 := n2_; have GE406 := n3_; clear n0_ n1_ n2_ n3_; clear hb hbox hg) | ((with_reducible refine gate_callee (f := 22) rfl ?_); refine goesL_ (some 8) rfl rfl Tryd.func22 (by kernel_rfl) rfl #[.slice A0 l0.length c0, .slice A1 l1.length c1] rfl hL_ ?_; (with_reducible refine (sleuthref12_MarksMay.calls k _ _ l0 _ _ l1 true _ ?side1 ?side2 ?side3 ?side4 A3.out).mono ?_); (case side1 => exact cB_ HR0.out); (case side2 => exact HC0.out); (case side3 => exact cB_ HR1.out); (case side4 => exact HC1.out); rintro e w7 ⟨rfl, hb⟩; refine ⟨_, rfl, ?_⟩; have n0_ := Aside0.mk (bB_ BK406.out hb); have n1_ := Aside0.mk (below_step hC_ hb); clear BK406 HB; have BK406 := n0_; have HB := n1_; clear n0_ n1_; (try clear hb); (try clear hb2); (try clear hk); (try clear hi)) | ((with_reducible refine gate_callee (f := 23) rfl ?_); refine goesL_ (some 13) rfl rfl Tryd.func23 (by kernel_rfl) rfl #[.slice A0 l0.length c0, .slice A1 l1.length c1] rfl hL_ ?_; (with_reducible refine (sleuthref12_topDown.calls k _ _ l0 _ _ l1 t408 t409 _ ?side1 ?side2 ?side3 ?side4 A5.out).mono ?_); (case side1 => exact cB_ HR0.out); (case side2 => exact HC0.out); (case side3 => exact cB_ HR1.out); (case side4 => exact HC1.out); rintro e w8 ⟨rfl, hb⟩; refine ⟨_, rfl, ?_⟩; have n0_ := Aside0.mk (bB_ BK406.out hb); have n1_ := Aside0.mk (below_step hC_ hb); clear BK406 HB; have BK406 := n0_; have HB := n1_; clear n0_ n1_; (try clear hb); (try clear hb2); (try clear hk); (try clear hi); obtain ⟨hcz9_0, hcz9_1, hfz9_0, hfz9_1⟩ := bx2_ BK406.out))
  refine bodyPost_ret (results_ct rfl _ _ gb406 39 #[.int .i64 t408, .int .i64 t409] (0, 0) _ rfl (bP_ (bP_ (hK_ BK406.out))) Tryd.underlying39 rfl (by kernel_rfl)) rfl ?_
  exact ⟨hV_, hC_⟩
end Go.Proofs.YtgokcaccamfgfaaDoor.G
end
section
/- The document's own answers of chapters 18 and 19, for trails and marks that may be, are the program's. -/
namespace Go.Proofs.YtgokcaccamfgfaaDoor.G
open Go.RowKit Go.Proofs.YtgokcaccamfgfaaDoorW.PrintWords Go.Proofs.YtgokcaccamfgfaaDoorW.PrintLast Go.Proofs.YtgokcaccamfgfaaDoorW.PrintMore
set_option linter.unusedVariables false
set_option linter.unusedSimpArgs false
theorem kidsR_l0 (ns : List Nd) (h : mayT ns = true) (a : Int) (h0 : 0 ≤ a) : ∀ (n i : Nat), i + n = ns.length → Ev (fun k => sleuthref12_kids.l0 k ns a (kidsTo ns a i) (i : Int)) (kidsTo ns a ns.length) := by
  have hlen := mayT_len h
  intro n
  induction n with
  | zero =>
    intro i hi
    obtain rfl : i = ns.length := by omega
    refine Ev.step (f := fun _ => some (kidsTo ns a ns.length)) (fun k => ?_) (Ev.now _)
    rw [sleuthref12_kids.l0, if_neg (by omega)]
  | succ n ih =>
    intro i hi
    have hw : wrap64 ((i : Int) + 1) = ((i + 1 : Nat) : Int) := by rw [w64 (by omega) (by omega)]; omega
    have hpa := mayT_pa h i (by omega)
    refine Ev.step (f := fun k => sleuthref12_kids.l0 k ns a (kidsTo ns a (i + 1)) ((i + 1 : Nat) : Int)) (fun k => ?_) (ih (i + 1) (by omega))
    rw [sleuthref12_kids.l0, if_pos (by omega), if_pos (by omega), hw]
    by_cases c : (rn ns (i : Int)).f1 = a
    · have hk := kidsTo_len ns a i
      rw [if_pos c, if_pos (by omega), kidsTo, if_pos ⟨by unfold pa at hpa; omega, c⟩]
    · rw [if_neg c, kidsTo, if_neg (fun hh => c hh.2)]
theorem kidsR_ev {ns : List Nd} (h : mayT ns = true) (a : Int) (h0 : 0 ≤ a) : Ev (fun k => sleuthref12_kids.f k ns a) (kidsTo ns a ns.length) := kidsR_l0 ns h a h0 ns.length 0 (by omega)
theorem drop_rd (l : List Int) (i : Nat) (h : i < l.length) : l.drop i = rd l (i : Int) :: l.drop (i + 1) := by
  rw [List.drop_eq_getElem_cons h]
  congr 1
  show _ = List.getD _ _ _
  rw [Int.toNat_natCast, List.getD_eq_getElem?_getD, List.getElem?_eq_getElem h]; rfl
theorem firstOf_l0 {L ms : List Int} (hL : ∀ x ∈ L, 0 ≤ x ∧ x < (ms.length : Int)) (hl : L.length ≤ 9223372036854775806) (m : Int) : ∀ n i : Nat, i + n = L.length → Ev (fun k => sleuthref12_firstOf.l0 k L ms m (i : Int)) (((L.drop i).find? fun k => rd ms k == m).getD (-1)) := by
  intro n
  induction n with
  | zero =>
    intro i hi
    rw [List.drop_eq_nil_of_le (by omega)]
    refine Ev.step (f := fun _ => some (-1)) (fun k => ?_) (Ev.now _)
    rw [sleuthref12_firstOf.l0, if_neg (by omega)]
  | succ n ih =>
    intro i hi
    have hw : wrap64 ((i : Int) + 1) = ((i + 1 : Nat) : Int) := by rw [w64 (by omega) (by omega)]; omega
    have hm := hL _ (rd_mem i (by omega))
    rw [drop_rd L i (by omega), List.find?_cons]
    by_cases c : rd ms (rd L (i : Int)) = m
    · rw [show (rd ms (rd L (i : Int)) == m) = true from beq_iff_eq.2 c]
      refine Ev.step (f := fun _ => some (rd L (i : Int))) (fun k => ?_) (Ev.now _)
      rw [sleuthref12_firstOf.l0, if_pos (by omega), if_pos (by omega), if_pos hm.1, if_pos hm.2, if_pos c]
    · rw [show (rd ms (rd L (i : Int)) == m) = false from beq_eq_false_iff_ne.2 c]
      refine Ev.step (f := fun k => sleuthref12_firstOf.l0 k L ms m ((i + 1 : Nat) : Int)) (fun k => ?_) (ih (i + 1) (by omega))
      rw [sleuthref12_firstOf.l0, if_pos (by omega), if_pos (by omega), if_pos hm.1, if_pos hm.2, if_neg c, hw]
theorem kids_rng {ns : List Nd} {ms : List Int} (h : marksS ns ms = true) (a : Int) (h0 : 0 ≤ a) : ∀ x ∈ kidsTo ns a ns.length, 0 ≤ x ∧ x < (ms.length : Int) := fun x hx => by
  have h1 := kidsTo_rng ns a x ns.length hx
  obtain ⟨_, hl, _⟩ := marksS_spec h
  omega
theorem kids_max {ns : List Nd} {ms : List Int} (h : marksS ns ms = true) (a : Int) : (kidsTo ns a ns.length).length ≤ 9223372036854775806 := by
  obtain ⟨hm, hl, _⟩ := marksS_spec h
  have hlen := mayT_len hm
  have := kidsTo_len ns a ns.length
  omega
theorem firstOf_ev {ns : List Nd} {ms : List Int} (h : marksS ns ms = true) (a : Int) (h0 : 0 ≤ a) (m : Int) : Ev (fun k => sleuthref12_firstOf.f k (kidsTo ns a ns.length) ms m) ((fstK ns ms a m).getD (-1)) :=
  firstOf_l0 (kids_rng h a h0) (kids_max h a) m (kidsTo ns a ns.length).length 0 (by omega)
theorem verdict_l0 {L ms : List Int} (hL : ∀ x ∈ L, 0 ≤ x ∧ x < (ms.length : Int)) (hl : L.length ≤ 9223372036854775806) (a : Int) : ∀ n i : Nat, i + n = L.length → Ev (fun k => sleuthref12_verdict.l0 k ms a L (i : Int)) (if ((L.drop i).all fun k => rd ms k == 1) = true then (1, a) else (3, 0)) := by
  intro n
  induction n with
  | zero =>
    intro i hi
    rw [List.drop_eq_nil_of_le (by omega)]
    refine Ev.step (f := fun _ => some (1, a)) (fun k => ?_) (Ev.now _)
    rw [sleuthref12_verdict.l0, if_neg (by omega)]
  | succ n ih =>
    intro i hi
    have hw : wrap64 ((i : Int) + 1) = ((i + 1 : Nat) : Int) := by rw [w64 (by omega) (by omega)]; omega
    have hm := hL _ (rd_mem i (by omega))
    rw [drop_rd L i (by omega), List.all_cons]
    by_cases c : rd ms (rd L (i : Int)) = 1
    · rw [show (rd ms (rd L (i : Int)) == 1) = true from beq_iff_eq.2 c, Bool.true_and]
      refine Ev.step (f := fun k => sleuthref12_verdict.l0 k ms a L ((i + 1 : Nat) : Int)) (fun k => ?_) (ih (i + 1) (by omega))
      rw [sleuthref12_verdict.l0, if_pos (by omega), if_pos (by omega), if_pos hm.1, if_pos hm.2, if_pos c, hw]
    · rw [show (rd ms (rd L (i : Int)) == 1) = false from beq_eq_false_iff_ne.2 c, Bool.false_and]
      refine Ev.step (f := fun _ => some (3, 0)) (fun k => ?_) (Ev.now _)
      rw [sleuthref12_verdict.l0, if_pos (by omega), if_pos (by omega), if_pos hm.1, if_pos hm.2, if_neg c]
theorem verdict_ev {ns : List Nd} {ms : List Int} (h : marksS ns ms = true) (a : Int) (h0 : 0 ≤ a) : Ev (fun k => sleuthref12_verdict.f k ns ms a) (bugS ns ms a) := by
  unfold sleuthref12_verdict.f bugS
  refine Ev.bind (kidsR_ev (marksS_spec h).1 a h0) ?_
  exact verdict_l0 (kids_rng h a h0) (kids_max h a) a (kidsTo ns a ns.length).length 0 (by omega)
theorem topDown_l0 {ns : List Nd} {ms : List Int} (h : marksS ns ms = true) : ∀ (n : Nat) (a : Int), 0 ≤ a → a < (ns.length : Int) → (ns.length : Int) ≤ a + n → Ev (fun q => sleuthref12_topDown.l0 q ns ms a) (finT ns ms (downT ns ms n a)) := by
  have hm := (marksS_spec h).1
  intro n
  induction n with
  | zero => intro a h0 h1 h2; omega
  | succ n ih =>
    intro a h0 h1 h2
    refine Ev.step (f := fun k => (sleuthref12_kids.f k ns a).bind fun t347 => ((sleuthref12_firstOf.f k t347 ms 2).bind fun t350 => (if t350 < 0 then ((sleuthref12_kids.f k ns a).bind fun t351 => ((sleuthref12_firstOf.f k t351 ms 0).bind fun t354 => (if t354 ≥ 0 then (some (0, t354)) else ((sleuthref12_verdict.f k ns ms a).bind fun bt355 => (some (bt355.1, bt355.2)))))) else (sleuthref12_topDown.l0 k ns ms t350)))) (fun k => by rw [sleuthref12_topDown.l0]) ?_
    refine Ev.bind (kidsR_ev hm a h0) ?_
    refine Ev.bind (firstOf_ev h a h0 2) ?_
    rw [downT]
    cases hf : fstK ns ms a 2 with
    | some k =>
      have hk := fstK_spec hf
      have hk0 : ¬ (some k).getD (-1) < 0 := by show ¬ k < 0; omega
      simp only [if_neg hk0]
      exact ih k (by omega) hk.2.1 (by omega)
    | none =>
      have hk0 : (none : Option Int).getD (-1) < 0 := by decide
      simp only [if_pos hk0]
      refine Ev.bind (kidsR_ev hm a h0) ?_
      refine Ev.bind (firstOf_ev h a h0 0) ?_
      unfold finT
      cases hg : fstK ns ms a 0 with
      | some k =>
        have hk := fstK_spec hg
        have hk1 : (some k).getD (-1) ≥ 0 := by show k ≥ 0; omega
        simp only [if_pos hk1]
        exact Ev.now _
      | none =>
        have hk1 : ¬ (none : Option Int).getD (-1) ≥ 0 := by decide
        simp only [if_neg hk1]
        exact Ev.bind (verdict_ev h a h0) (Ev.now _)
theorem rooted_eq {ns : List Nd} {ms : List Int} (h : marksS ns ms = true) (h2 : rd ms 0 ≠ 2) : sleuthref12_rooted.f (rd ms 0) = some (askT ns ms) := by
  have hlen := mayT_len (marksS_spec h).1
  have h00 := marks_at h 0 (by omega)
  rw [show ((0 : Nat) : Int) = 0 from rfl] at h00
  unfold sleuthref12_rooted.f askT
  by_cases c0 : rd ms 0 = 0
  · rw [if_pos c0, if_pos c0]
  · rw [if_neg c0, if_neg c0]
    by_cases c1 : rd ms 0 = 1
    · rw [if_pos c1, if_pos c1]
    · rw [if_neg c1, if_neg c1, if_pos (by omega)]
theorem topDown_ev {ns : List Nd} {ms : List Int} (h : marksS ns ms = true) : Ev (fun k => sleuthref12_topDown.f k ns ms) (askT ns ms) := by
  obtain ⟨hm, hl, _⟩ := marksS_spec h
  have hlen := mayT_len hm
  unfold sleuthref12_topDown.f
  have g : (0 : Int) < (ms.length : Int) := by omega
  simp only [if_pos g]
  by_cases c2 : rd ms 0 = 2
  · have e : askT ns ms = finT ns ms (downT ns ms ns.length 0) := by
      unfold askT
      rw [if_neg (by omega), if_neg (by omega), if_neg (by omega)]
    simp only [if_pos c2]
    rw [e]
    exact topDown_l0 h ns.length 0 (by omega) (by omega) (by omega)
  · simp only [if_neg c2, rooted_eq h c2, Option.bind_some]
    exact Ev.now _
end Go.Proofs.YtgokcaccamfgfaaDoor.G
end
section
/- A session by its fields, as the cards open it. -/
namespace Go.Proofs.YtgokcaccamfgfaaDoor.G
open Go.RowKit Go.Proofs.YtgokcaccamfgfaaDoorW.PrintWords Go.Proofs.YtgokcaccamfgfaaDoorW.PrintLast Go.Proofs.YtgokcaccamfgfaaDoorW.PrintMore
end Go.Proofs.YtgokcaccamfgfaaDoor.G
end
section
-- Laid by the session's own driver gp.py over the kit's printer. Not trusted: Lean checks it.
namespace Go.Proofs.YtgokcaccamfgfaaDoor.G
open Go.RowKit Go.Proofs.YtgokcaccamfgfaaDoorW.PrintWords Go.Proofs.YtgokcaccamfgfaaDoorW.PrintLast Go.Proofs.YtgokcaccamfgfaaDoorW.PrintMore
attribute [local go_sem] max2_int min2_int max_two min_two max_three min_three max_four min_four   -- for this text's walks alone
set_option linter.unusedVariables false
set_option linter.unusedSimpArgs false

theorem eqA26 (d : Nat) (w : World) (x0 y0 : Int) (x1 y1 : Int) :
    (Op.equalIn (d + 2) 26 (.agg #[.int .i64 x0, .int .i64 x1]) (.agg #[.int .i64 y0, .int .i64 y1])).run Tryd.prog w = .ok (x0 == y0 && (x1 == y1)) w := by
  refine eqA_of Tryd.underlying26 (by kernel_rfl) ?_
  refine eqf_cons (by rfl) (by go_simp; rfl) (by go_simp; rfl) (by go_simp) ?_
  exact eqf_last (by rfl) (by go_simp; rfl) (by go_simp; rfl) (by go_simp)
end Go.Proofs.YtgokcaccamfgfaaDoor.G
end
