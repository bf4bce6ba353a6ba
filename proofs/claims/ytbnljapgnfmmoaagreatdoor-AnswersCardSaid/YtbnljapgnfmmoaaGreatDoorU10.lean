/- Parts of this proof, one behind the other: G50, TNodes, TBits, TopVals, HalfVals, HalfMore, TreeMath, TSizes, G36, G37, G38, G39. -/
import Derived.Test.YtbnljapgnfmmoaaGreatDoorU2
import Derived.Test.YtbnljapgnfmmoaaGreatDoorG0
import Derived.Test.YtbnljapgnfmmoaaGreatDoorU9
import Derived.Test.YtbnljapgnfmmoaaGreatDoorU5
import Derived.Test.YtbnljapgnfmmoaaGreatDoorU6
section
namespace Go.Proofs.YtbnljapgnfmmoaaGreatDoor.G
open Go.RowKit Go.Proofs.YtbnljapgnfmmoaaGreatDoorW.PrintWords Go.Proofs.YtbnljapgnfmmoaaGreatDoorW.PrintLast Go.Proofs.YtbnljapgnfmmoaaGreatDoorW.PrintMore
set_option maxHeartbeats 8000000
set_option maxRecDepth 100000
attribute [local go_sem] max2_int min2_int max_two min_two max_three min_three max_four min_four   -- for this text's walks alone
set_option linter.unusedVariables false
set_option linter.unusedSimpArgs false

attribute [local go_sem high] eqA53
def sleuthlaw0_SameAnswers.l0 : Nat → List (S53) → List (S53) → Int → Option (Bool)
 | 0, _, _, _ => none
 | k + 1, x0, x1, x5 => if x5 < (x0.length : Int) then (if 0 ≤ x5 then (if x5 < (x1.length : Int) then (if (!(((rd_T53 x0 x5).f0) == ((rd_T53 x1 x5).f0)) || (!(((rd_T53 x0 x5).f1) == ((rd_T53 x1 x5).f1)))) = true then (some false) else (sleuthlaw0_SameAnswers.l0 k x0 x1 (wrap64 (x5 + 1)))) else (none)) else (none)) else (some true)
def sleuthlaw0_SameAnswers.f (k : Nat) (l0 : List (S53)) (l1 : List (S53)) : Option (Bool) := if (l0.length : Int) = (l1.length : Int) then (sleuthlaw0_SameAnswers.l0 k l0 l1 0) else (some false)
theorem sleuthlaw0_SameAnswers.calls (k : Nat) (A0 : Option Addr) (c0 : Nat) (l0 : List (S53)) (A1 : Option Addr) (c1 : Nat) (l1 : List (S53)) (r : Bool) (w : World) (hr0 : Kd.C k53 w A0 l0.length l0) (hc0 : l0.length ≤ c0) (hr1 : Kd.C k53 w A1 l1.length l1) (hc1 : l1.length ≤ c1) (h : sleuthlaw0_SameAnswers.f k l0 l1 = some r) :
 Calls Tryz.prog 29 #[.slice A0 l0.length c0, .slice A1 l1.length c1] w fun e w' => e = .returned (.bool r) ∧ Drawn0 w w' := by
 have hu53 := Tryz.underlying53
 have HR0 := a_ hr0
 have HC0 := a_ hc0
 clear hr0 hc0
 have HR1 := a_ hr1
 have HC1 := a_ hc1
 clear hr1 hc1
 have H := h; unfold sleuthlaw0_SameAnswers.f at H
 clear h
 by_cases c3 : (l0.length : Int) = (l1.length : Int)
 case neg =>
  rw [if_neg c3] at H
  have c3b0 : ((l0.length : Int) == (l1.length : Int)) = false := beq_eq_false_iff_ne.mpr c3
  have c3b1 : ((l0.length : Int) != (l1.length : Int)) = true := bne_iff_ne.mpr c3
  have c3b2 : (l0.length == l1.length) = false := by first | simpa using c3 | (simp at c3 ⊢; omega)
  obtain rfl := Option.some.inj H
  go_enter Tryz.func29, Tryz.ntmps29
  go_wp2
  repeat (go_quiet (fail); try go_wp2)
  go_ret
  exact ⟨by first | rfl | (simp; done) | (simp [*]; done), by repeat (first | exact Drawn0.refl _ | apply Drawn0.step)⟩

 rw [if_pos c3] at H
 have c3b0 : ((l0.length : Int) == (l1.length : Int)) = true := beq_iff_eq.mpr c3
 have c3b1 : ((l0.length : Int) != (l1.length : Int)) = false := bne_eq_false_iff_eq.mpr c3
 have c3b2 : (l0.length == l1.length) = true := by first | simpa using c3 | (simp at c3 ⊢; omega)
 clear c3
 have H' := a_ H
 clear H
 go_enter Tryz.func29, Tryz.ntmps29
 go_wp2
 repeat (go_quiet (fail); try go_wp2)
 go_loopg [5] k (fun kq v5 w' => ∃ (x0 : Int), v5 = .int .i64 x0 ∧ Aside0 (sleuthlaw0_SameAnswers.l0 kq l0 l1 x0 = some r) ∧ Aside0 (kq ≤ k) ∧ Drawn0 w w')
 case atStart => exact ⟨(0), hW_, H', ⟨Nat.le_refl _⟩, by repeat (first | exact Drawn0.refl _ | apply Drawn0.step)⟩
 case round =>
  clear H'
  try clear c1
  try clear c2
  try clear p2
  try clear c3
  try clear c3b0
  try clear c3b1
  try clear c3b2
  obtain ⟨x0, rfl, HA, HK1, ⟨m1, rfl⟩⟩ := hrel
  cases gk with
  | zero => exact absurd HA.out (by simp [sleuthlaw0_SameAnswers.l0])
  | succ k1 =>
   have H := HA.out
   clear HA
   simp only [sleuthlaw0_SameAnswers.l0] at H
   by_cases c4 : x0 < (l0.length : Int)
   case neg =>
    rw [if_neg c4] at H
    have c4b0 : decide (x0 < (l0.length : Int)) = false := decide_eq_false c4
    clear c4
    obtain rfl := Option.some.inj H
    go_wp2
    repeat (go_quiet (fail); try go_wp2)
    go_ret
    exact ⟨by first | rfl | (simp; done) | (simp [*]; done), by repeat (first | exact Drawn0.refl _ | apply Drawn0.step)⟩
   rw [if_pos c4] at H
   have c4b0 : decide (x0 < (l0.length : Int)) = true := decide_eq_true c4
   clear c4
   replace H := ifI_ H; obtain ⟨c5, H⟩ := H
   have c5b0 : decide (0 ≤ x0) = true := decide_eq_true c5
   clear c5
   replace H := ifI_ H; obtain ⟨c6, H⟩ := H
   have c6b0 : decide (x0 < (l1.length : Int)) = true := decide_eq_true c6
   clear c6
   by_cases c7 : (!(((rd_T53 l0 x0).f0) == ((rd_T53 l1 x0).f0)) || (!(((rd_T53 l0 x0).f1) == ((rd_T53 l1 x0).f1)))) = true
   case pos =>
    rw [if_pos c7] at H
    have c7b0 : (!(((rd_T53 l0 x0).f0) == ((rd_T53 l1 x0).f0)) || (!(((rd_T53 l0 x0).f1) == ((rd_T53 l1 x0).f1)))) = true := c7
    clear c7
    obtain rfl := Option.some.inj H
    have p526 : 0 ≤ (x0 : Int) := of_decide_eq_true hA_
    have q526 : x0 < (l0.length : Int) := of_decide_eq_true hA_
    obtain ⟨d0, e526, h0, h1⟩ := at_T53 HR0.out x0 p526 q526
    cases e526
    replace p526 := eq_true p526
    replace q526 := eq_true q526
    have p527 : 0 ≤ (x0 : Int) := of_decide_eq_true hA_
    have q527 : x0 < (l1.length : Int) := of_decide_eq_true hA_
    obtain ⟨d1, e527, h2, h3⟩ := at_T53 HR1.out x0 p527 q527
    cases e527
    replace p527 := eq_true p527
    replace q527 := eq_true q527
    go_wp2
    repeat (go_quiet (fail); try go_wp2)
    go_ret
    exact ⟨by first | rfl | (simp; done) | (simp [*]; done), by repeat (first | exact Drawn0.refl _ | apply Drawn0.step)⟩
   rw [if_neg c7] at H
   have c7b0 : (!(((rd_T53 l0 x0).f0) == ((rd_T53 l1 x0).f0)) || (!(((rd_T53 l0 x0).f1) == ((rd_T53 l1 x0).f1)))) = false := by simpa using c7
   clear c7
   have H' := a_ H
   clear H
   have p526 : 0 ≤ (x0 : Int) := of_decide_eq_true hA_
   have q526 : x0 < (l0.length : Int) := of_decide_eq_true hA_
   obtain ⟨d0, e526, h0, h1⟩ := at_T53 HR0.out x0 p526 q526
   cases e526
   replace p526 := eq_true p526
   replace q526 := eq_true q526
   have p527 : 0 ≤ (x0 : Int) := of_decide_eq_true hA_
   have q527 : x0 < (l1.length : Int) := of_decide_eq_true hA_
   obtain ⟨d1, e527, h2, h3⟩ := at_T53 HR1.out x0 p527 q527
   cases e527
   replace p527 := eq_true p527
   replace q527 := eq_true q527
   go_wp2
   repeat (go_quiet (fail); try go_wp2)
   go_roundg k1
   case measure => have := HK1.out; omega
   case rel => exact ⟨(wrap64 (x0 + 1)), hW_, H', ⟨by have := HK1.out; omega⟩, by repeat (first | exact Drawn0.refl _ | apply Drawn0.step)⟩
def sleuthlaw0_SameSession.f (k : Nat) (l0_0 : List (S66)) (a0_1 : Int) (l0_2 : List (S53)) (l1_0 : List (S66)) (a1_1 : Int) (l1_2 : List (S53)) : Option (Bool) := (sleuthlaw0_SameNodes.f k l0_0 l1_0).bind fun t530 => (if t530 = true then (if a0_1 = a1_1 then ((sleuthlaw0_SameAnswers.f k l0_2 l1_2).bind fun t531 => (some t531)) else (some false)) else (some false))
theorem sleuthlaw0_SameSession.calls (k : Nat) (A0_0 : Option Addr) (c0_0 : Nat) (l0_0 : List (S66)) (a0_1 : Int) (A0_2 : Option Addr) (c0_2 : Nat) (l0_2 : List (S53)) (A1_0 : Option Addr) (c1_0 : Nat) (l1_0 : List (S66)) (a1_1 : Int) (A1_2 : Option Addr) (c1_2 : Nat) (l1_2 : List (S53)) (r : Bool) (w : World) (hr0_0 : Kd.C k66 w A0_0 l0_0.length l0_0) (hc0_0 : l0_0.length ≤ c0_0) (hr0_2 : Kd.C k53 w A0_2 l0_2.length l0_2) (hc0_2 : l0_2.length ≤ c0_2) (hr1_0 : Kd.C k66 w A1_0 l1_0.length l1_0) (hc1_0 : l1_0.length ≤ c1_0) (hr1_2 : Kd.C k53 w A1_2 l1_2.length l1_2) (hc1_2 : l1_2.length ≤ c1_2) (h : sleuthlaw0_SameSession.f k l0_0 a0_1 l0_2 l1_0 a1_1 l1_2 = some r) :
 Calls Tryz.prog 12 #[.agg #[.slice A0_0 l0_0.length c0_0, .int .i64 a0_1, .slice A0_2 l0_2.length c0_2], .agg #[.slice A1_0 l1_0.length c1_0, .int .i64 a1_1, .slice A1_2 l1_2.length c1_2]] w fun e w' => e = .returned (.bool r) ∧ Below w.heap.size w w' := by
 have hu25 := Tryz.underlying25
 have HR0_0 := a_ hr0_0
 have HC0_0 := a_ hc0_0
 clear hr0_0 hc0_0
 have HR0_2 := a_ hr0_2
 have HC0_2 := a_ hc0_2
 clear hr0_2 hc0_2
 have HR1_0 := a_ hr1_0
 have HC1_0 := a_ hc1_0
 clear hr1_0 hc1_0
 have HR1_2 := a_ hr1_2
 have HC1_2 := a_ hc1_2
 clear hr1_2 hc1_2
 have HB := a_ (Below.refl w.heap.size w)
 have H := h; unfold sleuthlaw0_SameSession.f at H
 clear h
 replace H := Option.bind_eq_some_iff.mp H
 obtain ⟨t0, A30, H⟩ := H
 try dsimp only at H
 have A3 := a_ A30
 clear A30
 by_cases c4 : t0 = true
 case neg =>
  replace c4 := Bool.eq_false_iff.mpr c4
  subst c4
  rw [if_neg (show ¬ (false = true) by decide)] at H
  obtain rfl := Option.some.inj H
  go_enter Tryz.func12, Tryz.ntmps12
  go_wp2_with (first | ((with_reducible refine gate_dst (N := 2) rfl ?_); refine boxE_ 2 #[.slice A0_0 l0_0.length c0_0, .int .i64 a0_1, .slice A0_2 l0_2.length c0_2] 25 ?_; intro g0 hg w0 hbox hb; have B0 := a_ (hbox); have E0 := a_ ((gE_ hg : w.heap.size ≤ g0)); replace HB := a_ (below_step hB_ hb); clear hb hbox hg) | ((with_reducible refine gate_dst (N := 3) rfl ?_); refine boxE_ 3 #[.slice A1_0 l1_0.length c1_0, .int .i64 a1_1, .slice A1_2 l1_2.length c1_2] 25 ?_; intro g1 hg w1 hbox hb; have B1 := a_ (hbox); have E1 := a_ ((gE_ hg : w.heap.size ≤ g1)); replace HB := a_ (below_step hC_ hb); have N0 := a_ ((bL_ B0.out hg : g0 ≠ g1)); have N1 := a_ ((bG_ B0.out hg : g1 ≠ g0)); replace B0 := a_ (bB_ B0.out hb); clear hb hbox hg; have m0 := N0.out; have n0 := N1.out; obtain ⟨z0, z1, z2, f0, f1, f2⟩ := bx3_ B0.out; obtain ⟨z3, z4, z5, f3, f4, f5⟩ := bx3_ B1.out) | ((with_reducible refine gate_callee (f := 28) rfl ?_); refine goesL_ (some 9) rfl rfl Tryz.func28 (by kernel_rfl) rfl #[.slice A0_0 l0_0.length c0_0, .slice A1_0 l1_0.length c1_0] rfl hL_ ?_; (with_reducible refine (sleuthlaw0_SameNodes.calls k _ _ l0_0 _ _ l1_0 false _ ?s1 ?s2 ?s3 ?s4 A3.out).mono ?_); (case s1 => exact cB_ HR0_0.out); (case s2 => exact HC0_0.out); (case s3 => exact cB_ HR1_0.out); (case s4 => exact HC1_0.out); rintro e w2 ⟨rfl, hb⟩; refine ⟨_, rfl, ?_⟩; replace B0 := a_ (bB_ B0.out hb); replace B1 := a_ (bB_ B1.out hb); replace HB := a_ (below_step hC_ hb); (try clear hb); (try clear hb2); (try clear hk); (try clear hi)))
  go_ret
  exact ⟨hV_, hC_⟩

 subst c4
 rw [if_pos rfl] at H
 by_cases c5 : a0_1 = a1_1
 case neg =>
  rw [if_neg c5] at H
  have c5b0 : (a0_1 == a1_1) = false := beq_eq_false_iff_ne.mpr c5
  have c5b1 : (a0_1 != a1_1) = true := bne_iff_ne.mpr c5
  obtain rfl := Option.some.inj H
  go_enter Tryz.func12, Tryz.ntmps12
  go_wp2_with (first | ((with_reducible refine gate_dst (N := 2) rfl ?_); refine boxE_ 2 #[.slice A0_0 l0_0.length c0_0, .int .i64 a0_1, .slice A0_2 l0_2.length c0_2] 25 ?_; intro g0 hg w3 hbox hb; have B0 := a_ (hbox); have E0 := a_ ((gE_ hg : w.heap.size ≤ g0)); replace HB := a_ (below_step hB_ hb); clear hb hbox hg) | ((with_reducible refine gate_dst (N := 3) rfl ?_); refine boxE_ 3 #[.slice A1_0 l1_0.length c1_0, .int .i64 a1_1, .slice A1_2 l1_2.length c1_2] 25 ?_; intro g1 hg w4 hbox hb; have B1 := a_ (hbox); have E1 := a_ ((gE_ hg : w.heap.size ≤ g1)); replace HB := a_ (below_step hC_ hb); have N0 := a_ ((bL_ B0.out hg : g0 ≠ g1)); have N1 := a_ ((bG_ B0.out hg : g1 ≠ g0)); replace B0 := a_ (bB_ B0.out hb); clear hb hbox hg; have m1 := N0.out; have n1 := N1.out; obtain ⟨z6, z7, z8, f6, f7, f8⟩ := bx3_ B0.out; obtain ⟨z9, z10, z11, f9, f10, f11⟩ := bx3_ B1.out) | ((with_reducible refine gate_callee (f := 28) rfl ?_); refine goesL_ (some 9) rfl rfl Tryz.func28 (by kernel_rfl) rfl #[.slice A0_0 l0_0.length c0_0, .slice A1_0 l1_0.length c1_0] rfl hL_ ?_; (with_reducible refine (sleuthlaw0_SameNodes.calls k _ _ l0_0 _ _ l1_0 true _ ?s1 ?s2 ?s3 ?s4 A3.out).mono ?_); (case s1 => exact cB_ HR0_0.out); (case s2 => exact HC0_0.out); (case s3 => exact cB_ HR1_0.out); (case s4 => exact HC1_0.out); rintro e w5 ⟨rfl, hb⟩; refine ⟨_, rfl, ?_⟩; replace B0 := a_ (bB_ B0.out hb); replace B1 := a_ (bB_ B1.out hb); replace HB := a_ (below_step hC_ hb); (try clear hb); (try clear hb2); (try clear hk); (try clear hi); obtain ⟨z12, z13, z14, f12, f13, f14⟩ := bx3_ B0.out; obtain ⟨z15, z16, z17, f15, f16, f17⟩ := bx3_ B1.out))
  go_ret
  exact ⟨hV_, hC_⟩
 rw [if_pos c5] at H
 have c5b0 : (a0_1 == a1_1) = true := beq_iff_eq.mpr c5
 have c5b1 : (a0_1 != a1_1) = false := bne_eq_false_iff_eq.mpr c5
 clear c5
 replace H := Option.bind_eq_some_iff.mp H
 obtain ⟨t1, A60, H⟩ := H
 try dsimp only at H
 have A6 := a_ A60
 clear A60
 obtain rfl := Option.some.inj H
 go_enter Tryz.func12, Tryz.ntmps12
 go_wp2_with (first | ((with_reducible refine gate_dst (N := 2) rfl ?_); refine boxE_ 2 #[.slice A0_0 l0_0.length c0_0, .int .i64 a0_1, .slice A0_2 l0_2.length c0_2] 25 ?_; intro g0 hg w7 hbox hb; have B0 := a_ (hbox); have E0 := a_ ((gE_ hg : w.heap.size ≤ g0)); replace HB := a_ (below_step hB_ hb); clear hb hbox hg) | ((with_reducible refine gate_dst (N := 3) rfl ?_); refine boxE_ 3 #[.slice A1_0 l1_0.length c1_0, .int .i64 a1_1, .slice A1_2 l1_2.length c1_2] 25 ?_; intro g1 hg w8 hbox hb; have B1 := a_ (hbox); have E1 := a_ ((gE_ hg : w.heap.size ≤ g1)); replace HB := a_ (below_step hC_ hb); have N0 := a_ ((bL_ B0.out hg : g0 ≠ g1)); have N1 := a_ ((bG_ B0.out hg : g1 ≠ g0)); replace B0 := a_ (bB_ B0.out hb); clear hb hbox hg; have m2 := N0.out; have n2 := N1.out; obtain ⟨z18, z19, z20, f18, f19, f20⟩ := bx3_ B0.out; obtain ⟨z21, z22, z23, f21, f22, f23⟩ := bx3_ B1.out) | ((with_reducible refine gate_callee (f := 28) rfl ?_); refine goesL_ _ rfl rfl Tryz.func28 (by kernel_rfl) rfl #[.slice A0_0 l0_0.length c0_0, .slice A1_0 l1_0.length c1_0] rfl hL_ ?_; (with_reducible refine (sleuthlaw0_SameNodes.calls k _ _ l0_0 _ _ l1_0 true _ ?s1 ?s2 ?s3 ?s4 A3.out).mono ?_); (case s1 => exact cB_ HR0_0.out); (case s2 => exact HC0_0.out); (case s3 => exact cB_ HR1_0.out); (case s4 => exact HC1_0.out); rintro e w6 ⟨rfl, hb⟩; refine ⟨_, rfl, ?_⟩; replace B0 := a_ (bB_ B0.out hb); replace B1 := a_ (bB_ B1.out hb); replace HB := a_ (below_step hC_ hb); (try clear hb); (try clear hb2); (try clear hk); (try clear hi); obtain ⟨z24, z25, z26, f24, f25, f26⟩ := bx3_ B0.out; obtain ⟨z27, z28, z29, f27, f28, f29⟩ := bx3_ B1.out) | (go_at_call 29; (with_reducible refine (sleuthlaw0_SameAnswers.calls k _ _ l0_2 _ _ l1_2 t1 _ ?s1 ?s2 ?s3 ?s4 A6.out).mono ?_); (case s1 => exact cB_ HR0_2.out); (case s2 => exact HC0_2.out); (case s3 => exact cB_ HR1_2.out); (case s4 => exact HC1_2.out); rintro e w' ⟨rfl, ⟨nd, rfl⟩⟩))
 go_ret
 exact ⟨hV_, hC_⟩
def sleuthlaw0_Num.f (a0 : Int) : Option (Int) := some a0
theorem sleuthlaw0_Num.calls (a0 : Int) (r : Int) (w : World) (h : sleuthlaw0_Num.f a0 = some r) :
 Calls Tryz.prog 13 #[.int .i64 a0] w fun e w' => e = .returned (.int .i64 r) ∧ Drawn0 w w' := by
 have H : (some a0) = some r := h
 clear h
 obtain rfl := Option.some.inj H
 go_enter Tryz.func13, Tryz.ntmps13
 go_wp2
 go_ret
 exact ⟨by first | rfl | (simp; done) | (simp [*]; done), by repeat (first | exact Drawn0.refl _ | apply Drawn0.step)⟩

end Go.Proofs.YtbnljapgnfmmoaaGreatDoor.G
end
section
namespace Go.Proofs.YtbnljapgnfmmoaaGreatDoor.G
open Go.RowKit Go.Proofs.YtbnljapgnfmmoaaGreatDoorW.PrintWords Go.Proofs.YtbnljapgnfmmoaaGreatDoorW.PrintLast Go.Proofs.YtbnljapgnfmmoaaGreatDoorW.PrintMore
set_option linter.unusedVariables false
set_option linter.unusedSimpArgs false
def fineN (l : List Nd) : Prop := l.length * 56 ≤ 140737488351232 ∧ ∀ x ∈ l, (Lit.int .i64 x.f0).wf = true ∧ (Lit.int .i64 x.f1).wf = true ∧ (x.f2.length * 16 ≤ 140737488351232 ∧ ∀ s ∈ x.f2, s.size ≤ 140737488351232) ∧ x.f3.size ≤ 140737488351232
theorem fineN.ok {l : List Nd} (h : fineN l) : okN l := ⟨by have := h.1; omega, fun x hx => by have := (h.2 x hx).2.2.1.1; omega⟩
theorem copy_l0 (ns : List Nd) (hok : okN ns) : ∀ (n i : Nat), i + n = ns.length → Ev (fun k => sleuthlaw0_CopyNodes.l0 k ns (ns.take i) (i : Int)) ns := by
  intro n
  induction n with
  | zero =>
    intro i hi
    refine Ev.step (f := fun _ => some ns) (fun k => ?_) (Ev.now _)
    simp only [sleuthlaw0_CopyNodes.l0]
    rw [if_neg (by omega), List.take_of_length_le (by omega)]
  | succ n ih =>
    intro i hi
    have hlt : i < ns.length := by omega
    have hl := hok.1
    have hw : wrap64 ((i : Int) + 1) = ((i + 1 : Nat) : Int) := by rw [w64 (by omega) (by omega)]; omega
    refine Ev.step (f := fun k => sleuthlaw0_CopyNodes.l0 k ns (ns.take (i + 1)) ((i + 1 : Nat) : Int)) (fun k => ?_) (ih (i + 1) (by omega))
    have hat := hok.at (i : Int)
    simp only [sleuthlaw0_CopyNodes.l0, Option.bind_some, List.nil_append]
    rw [if_pos (by omega), if_pos (by omega), if_pos (show ([] : List ByteArray).length + (rn ns (i : Int)).f2.length < 8796093022208 by rw [List.length_nil]; omega), if_pos (by rw [List.length_take]; omega), hw]
    have : (ns.take i ++ [(⟨(rn ns (i : Int)).f0, (rn ns (i : Int)).f1, (rn ns (i : Int)).f2, (rn ns (i : Int)).f3⟩ : Nd)]) = ns.take (i + 1) := by
      rw [List.take_succ_eq_append_getElem hlt, rn_eq ns i hlt]
    rw [this]
theorem copy_ev (ns : List Nd) (hok : okN ns) : Ev (fun k => sleuthlaw0_CopyNodes.f k ns) ns := copy_l0 ns hok ns.length 0 (by omega)
theorem sameTexts_l0 (a : List ByteArray) (ha : a.length ≤ 9223372036854775806) : ∀ (n i : Nat), i + n = a.length → Ev (fun k => sleuthlaw0_SameTexts.l0 k a a (i : Int)) true := by
  intro n
  induction n with
  | zero =>
    intro i hi
    refine Ev.step (f := fun _ => some true) (fun k => ?_) (Ev.now _)
    rw [sleuthlaw0_SameTexts.l0, if_neg (by omega)]
  | succ n ih =>
    intro i hi
    have hw : wrap64 ((i : Int) + 1) = ((i + 1 : Nat) : Int) := by rw [w64 (by omega) (by omega)]; omega
    refine Ev.step (f := fun k => sleuthlaw0_SameTexts.l0 k a a ((i + 1 : Nat) : Int)) (fun k => ?_) (ih (i + 1) (by omega))
    rw [sleuthlaw0_SameTexts.l0, if_pos (by omega), if_pos (by omega), if_pos (by omega), if_pos rfl, hw]
theorem sameTexts_ev (a : List ByteArray) (ha : a.length ≤ 9223372036854775806) : Ev (fun k => sleuthlaw0_SameTexts.f k a a) true := by
  unfold sleuthlaw0_SameTexts.f
  simp only [if_pos]
  exact sameTexts_l0 a ha a.length 0 (by omega)
theorem sameNode_ev (x : Nd) (hx : x.f2.length ≤ 9223372036854775806) : Ev (fun k => sleuthlaw0_SameNode.f k x.f0 x.f1 x.f2 x.f3 x.f0 x.f1 x.f2 x.f3) true := by
  unfold sleuthlaw0_SameNode.f
  simp only [if_pos]
  refine Ev.bind (sameTexts_ev _ hx) ?_
  simp only [if_pos, beq_self_eq_true]
  exact Ev.now _
theorem sameNodes_l0 (a : List Nd) (ha : okN a) : ∀ (n i : Nat), i + n = a.length → Ev (fun k => sleuthlaw0_SameNodes.l0 k a a (i : Int)) true := by
  intro n
  have hl := ha.1
  induction n with
  | zero =>
    intro i hi
    refine Ev.step (f := fun _ => some true) (fun k => ?_) (Ev.now _)
    simp only [sleuthlaw0_SameNodes.l0]
    rw [if_neg (by omega)]
  | succ n ih =>
    intro i hi
    have hw : wrap64 ((i : Int) + 1) = ((i + 1 : Nat) : Int) := by rw [w64 (by omega) (by omega)]; omega
    refine Ev.step (f := fun k => (sleuthlaw0_SameNode.f k (rn a (i : Int)).f0 (rn a (i : Int)).f1 (rn a (i : Int)).f2 (rn a (i : Int)).f3 (rn a (i : Int)).f0 (rn a (i : Int)).f1 (rn a (i : Int)).f2 (rn a (i : Int)).f3).bind fun t => if t = true then sleuthlaw0_SameNodes.l0 k a a ((i + 1 : Nat) : Int) else some false) (fun k => ?_) ?_
    · rw [sleuthlaw0_SameNodes.l0, if_pos (by omega), if_pos (by omega), if_pos (by omega), hw]
    · refine Ev.bind (sameNode_ev (rn a (i : Int)) (Nat.le_trans (ha.at _) (by omega))) ?_
      simp only [if_pos]
      exact ih (i + 1) (by omega)
theorem sameNodes_ev (a : List Nd) (ha : okN a) : Ev (fun k => sleuthlaw0_SameNodes.f k a a) true := by
  unfold sleuthlaw0_SameNodes.f
  simp only [if_pos]
  exact sameNodes_l0 a ha a.length 0 (by omega)

def oddB (x : Int) : Bool := decide (x < 0) || decide (3 < x)
def marksS (ns : List Nd) (ms : List Int) : Bool := mayT ns && (decide (ms.length = ns.length) && !ms.any oddB)
theorem marksS_spec {ns : List Nd} {ms : List Int} (h : marksS ns ms = true) : mayT ns = true ∧ ms.length = ns.length ∧ ∀ x ∈ ms, oddB x = false := by
  unfold marksS at h
  rw [Bool.and_eq_true, Bool.and_eq_true, decide_eq_true_iff, Bool.not_eq_true'] at h
  exact ⟨h.1, h.2.1, fun x hx => by have := List.any_eq_false.1 h.2.2 x hx; simpa using this⟩
theorem rd_mem {ms : List Int} (i : Nat) (h : i < ms.length) : rd ms (i : Int) ∈ ms := by
  show List.getD _ _ _ ∈ _
  rw [Int.toNat_natCast, List.getD_eq_getElem?_getD, List.getElem?_eq_getElem h]
  exact List.getElem_mem _
theorem marks_at {ns : List Nd} {ms : List Int} (h : marksS ns ms = true) (i : Nat) (hi : i < ns.length) : 0 ≤ rd ms (i : Int) ∧ rd ms (i : Int) ≤ 3 := by
  obtain ⟨_, hl, hx⟩ := marksS_spec h
  have := hx _ (rd_mem i (by omega))
  unfold oddB at this
  rw [Bool.or_eq_false_iff, decide_eq_false_iff_not, decide_eq_false_iff_not] at this
  omega
theorem fstK_spec {ns : List Nd} {ms : List Int} {a m k : Int} (h : fstK ns ms a m = some k) : a < k ∧ k < (ns.length : Int) ∧ (rn ns k).f1 = a ∧ rd ms k = m := by
  unfold fstK at h
  have h1 := kidsTo_rng ns a k ns.length (List.mem_of_find?_eq_some h)
  have h2 := List.find?_some h
  exact ⟨h1.1, h1.2.1, h1.2.2, by simpa using h2⟩
theorem first_eq {ns : List Nd} {ms : List Int} (h : marksS ns ms = true) (a m : Int) (h0 : 0 ≤ a) (h1 : a < (ns.length : Int)) : top_first.f ns ms a m = some (match fstK ns ms a m with | some k => (k, true) | none => (0, false)) := by
  obtain ⟨hm, hl, _⟩ := marksS_spec h
  have hlen := mayT_len hm
  unfold top_first.f
  rw [if_pos ⟨h0, h1, by omega, hlen.2⟩]
  cases fstK ns ms a m <;> rfl
theorem bug_eq {ns : List Nd} {ms : List Int} (h : marksS ns ms = true) (a : Int) (h0 : 0 ≤ a) (h1 : a < (ns.length : Int)) : top_Bug.f ns ms a = some (bugS ns ms a) := by
  obtain ⟨hm, hl, _⟩ := marksS_spec h
  have hlen := mayT_len hm
  unfold top_Bug.f
  rw [if_pos ⟨h0, h1, by omega, hlen.2⟩]
def downT (ns : List Nd) (ms : List Int) : Nat → Int → Int
  | 0, a => a
  | n + 1, a => match fstK ns ms a 2 with | some k => downT ns ms n k | none => a
def finT (ns : List Nd) (ms : List Int) (a : Int) : Int × Int := match fstK ns ms a 0 with | some k => (0, k) | none => bugS ns ms a
def askT (ns : List Nd) (ms : List Int) : Int × Int := if rd ms 0 = 0 then (0, 0) else if rd ms 0 = 1 then (2, 0) else if rd ms 0 = 3 then (3, 0) else finT ns ms (downT ns ms ns.length 0)
theorem ask_l0 {ns : List Nd} {ms : List Int} (h : marksS ns ms = true) : ∀ (n : Nat) (a : Int), 0 ≤ a → a < (ns.length : Int) → (ns.length : Int) ≤ a + n → ∀ p : Int × Bool, p = (match fstK ns ms a 2 with | some k => (k, true) | none => (0, false)) → Ev (fun q => top_Ask.l0 q ns ms a p.1 p.2) (finT ns ms (downT ns ms n a)) := by
  intro n
  induction n with
  | zero => intro a h0 h1 h2; omega
  | succ n ih =>
    intro a h0 h1 h2 p hp
    cases hf : fstK ns ms a 2 with
    | some k =>
      rw [hf] at hp
      subst hp
      have hk := fstK_spec hf
      have e : downT ns ms (n + 1) a = downT ns ms n k := by rw [downT, hf]
      rw [e]
      refine Ev.step (f := fun q => top_Ask.l0 q ns ms k (match fstK ns ms k 2 with | some k => (k, true) | none => (0, false)).1 (match fstK ns ms k 2 with | some k => (k, true) | none => ((0 : Int), false)).2) (fun q => ?_) (ih k (by omega) hk.2.1 (by omega) _ rfl)
      rw [top_Ask.l0]
      simp only [if_pos, first_eq h k 2 (by omega) hk.2.1, Option.bind_some]
    | none =>
      rw [hf] at hp
      subst hp
      have e : downT ns ms (n + 1) a = a := by rw [downT, hf]
      rw [e]
      refine Ev.step (f := fun _ => some (finT ns ms a)) (fun q => ?_) (Ev.now _)
      rw [top_Ask.l0]
      simp only [if_neg Bool.false_ne_true, first_eq h a 0 h0 h1, Option.bind_some, bug_eq h a h0 h1]
      unfold finT
      cases fstK ns ms a 0 with
      | some k => simp only [if_pos]
      | none => simp only [if_neg Bool.false_ne_true]
theorem ask_ev {ns : List Nd} {ms : List Int} (h : marksS ns ms = true) : Ev (fun k => top_Ask.f k ns ms) (askT ns ms) := by
  obtain ⟨hm, hl, _⟩ := marksS_spec h
  have hlen := mayT_len hm
  unfold top_Ask.f askT
  have g : (0 : Int) < (ms.length : Int) := by omega
  simp only [if_pos g]
  by_cases c0 : rd ms 0 = 0
  · simp only [if_pos c0]; exact Ev.now _
  · simp only [if_neg c0]
    by_cases c1 : rd ms 0 = 1
    · simp only [if_pos c1]; exact Ev.now _
    · simp only [if_neg c1]
      by_cases c3 : rd ms 0 = 3
      · simp only [if_pos c3]; exact Ev.now _
      · simp only [if_neg c3, first_eq h 0 2 (by omega) (by omega), Option.bind_some]
        exact ask_l0 h ns.length 0 (by omega) (by omega) (by omega) _ rfl
theorem downT_spec {ns : List Nd} {ms : List Int} : ∀ (n : Nat) (a : Int), 0 ≤ a → a < (ns.length : Int) → (ns.length : Int) ≤ a + n → rd ms a = 2 → 0 ≤ downT ns ms n a ∧ downT ns ms n a < (ns.length : Int) ∧ rd ms (downT ns ms n a) = 2
  | 0, a, h0, h1, h2, _ => by omega
  | n + 1, a, h0, h1, h2, h3 => by
    rw [downT]
    cases hf : fstK ns ms a 2 with
    | some k =>
      have hk := fstK_spec hf
      exact downT_spec n k (by omega) hk.2.1 (by omega) hk.2.2.2
    | none => exact ⟨h0, h1, h3⟩
def lastM (ms : List Int) : Nat → Int
  | 0 => 0
  | n + 1 => if rd ms (n : Int) = 2 then (n : Int) else lastM ms n
theorem lastM_range (ms : List Int) : ∀ n : Nat, 0 < n → 0 ≤ lastM ms n ∧ lastM ms n < (n : Int)
  | 0, h => absurd h (by omega)
  | n + 1, _ => by
    rw [lastM]
    split
    · omega
    · rcases Nat.eq_zero_or_pos n with c | c
      · subst c; show (0 : Int) ≤ 0 ∧ (0 : Int) < _; omega
      · have := lastM_range ms n c; omega
theorem last_half_l0 (ms : List Int) (hl : ms.length ≤ 9223372036854775806) : ∀ n i : Nat, i + n = ms.length → Ev (fun k => half_last.l0 k (lastM ms i) ms (ms.length : Int) (i : Int)) (lastM ms ms.length) := by
  intro n
  induction n with
  | zero =>
    intro i hi
    obtain rfl : i = ms.length := by omega
    refine Ev.step (f := fun _ => some (lastM ms ms.length)) (fun k => ?_) (Ev.now _)
    rw [half_last.l0, if_neg (by omega)]
  | succ n ih =>
    intro i hi
    have hw : wrap64 ((i : Int) + 1) = ((i + 1 : Nat) : Int) := by rw [w64 (by omega) (by omega)]; omega
    refine Ev.step (f := fun k => half_last.l0 k (lastM ms (i + 1)) ms (ms.length : Int) ((i + 1 : Nat) : Int)) (fun k => ?_) (ih (i + 1) (by omega))
    rw [half_last.l0, if_pos (by omega), if_pos (by omega), if_pos (by omega), hw, lastM]
    by_cases c : rd ms (i : Int) = 2
    · rw [if_pos c, if_pos c]
    · rw [if_neg c, if_neg c]
theorem last_half_ev (ms : List Int) (hl : ms.length ≤ 9223372036854775806) : Ev (fun k => half_last.f k ms) (lastM ms ms.length) := last_half_l0 ms hl ms.length 0 (by omega)
/-- which nodes are in doubt, up to place n -/
def dbt (ns : List Nd) (ms : List Int) (w : Nat) : Nat → List Bool
  | 0 => List.replicate ns.length false
  | n + 1 => if n ≤ w then dbt ns ms w n else
    (dbt ns ms w n).set n ((decide (pa ns n = (w : Int)) || rdOf false (dbt ns ms w n) (pa ns n)) && (rd ms (n : Int) != 1))
theorem dbt_len (ns : List Nd) (ms : List Int) (w : Nat) : ∀ n : Nat, (dbt ns ms w n).length = ns.length
  | 0 => List.length_replicate
  | n + 1 => by
    rw [dbt]
    split
    · exact dbt_len ns ms w n
    · rw [List.length_set]; exact dbt_len ns ms w n
theorem doubts_l0 {ns : List Nd} {ms : List Int} (h : marksS ns ms = true) (w : Nat) : ∀ n i : Nat, w < i → i + n = ns.length → Ev (fun k => half_doubts.l0 k ns ms (w : Int) (dbt ns ms w i) (i : Int)) (dbt ns ms w ns.length) := by
  obtain ⟨hm, hl, _⟩ := marksS_spec h
  have hlen := mayT_len hm
  intro n
  induction n with
  | zero =>
    intro i hw hi
    obtain rfl : i = ns.length := by omega
    refine Ev.step (f := fun _ => some (dbt ns ms w ns.length)) (fun k => ?_) (Ev.now _)
    rw [half_doubts.l0, if_neg (by omega)]
  | succ n ih =>
    intro i hwi hi
    have hp := mayT_pa hm i (by omega)
    have hw : wrap64 ((i : Int) + 1) = ((i + 1 : Nat) : Int) := by rw [w64 (by omega) (by omega)]; omega
    have hdl := dbt_len ns ms w i
    have hp' : (rd_T66 ns (i : Int)).f1 = pa ns i := rfl
    refine Ev.step (f := fun k => half_doubts.l0 k ns ms (w : Int) (dbt ns ms w (i + 1)) ((i + 1 : Nat) : Int)) (fun k => ?_) (ih (i + 1) (by omega) (by omega))
    rw [half_doubts.l0, if_pos (by omega), if_pos (by omega), hw, dbt, if_neg (show ¬ i ≤ w by omega), hp', Int.toNat_natCast]
    by_cases c : pa ns i = (w : Int)
    · rw [if_pos c, if_pos (by omega), if_pos (by omega), decide_eq_true c, Bool.true_or, Bool.true_and]
    · rw [if_neg c, if_pos (by omega), if_pos (by omega), decide_eq_false c, Bool.false_or]
      cases hb : rdOf false (dbt ns ms w i) (pa ns i) with
      | true => rw [if_pos rfl, if_pos (by omega), if_pos (by omega), Bool.true_and]
      | false => rw [if_neg Bool.false_ne_true, if_pos (by omega), Bool.false_and]
theorem dbt_low (ns : List Nd) (ms : List Int) (w : Nat) : ∀ n : Nat, n ≤ w + 1 → dbt ns ms w n = List.replicate ns.length false
  | 0, _ => rfl
  | n + 1, h => by rw [dbt, if_pos (by omega)]; exact dbt_low ns ms w n (by omega)
theorem doubts_ev {ns : List Nd} {ms : List Int} (h : marksS ns ms = true) (w : Nat) (hw : w < ns.length) : Ev (fun k => half_doubts.f k ns ms (w : Int)) (dbt ns ms w ns.length) := by
  obtain ⟨hm, hl, _⟩ := marksS_spec h
  have hlen := mayT_len hm
  have hw1 : wrap64 ((w : Int) + 1) = ((w + 1 : Nat) : Int) := by rw [w64 (by omega) (by omega)]; omega
  unfold half_doubts.f
  have g1 : (0 : Int) ≤ (ns.length : Int) := by omega
  have g2 : ns.length ≤ 281474976710656 := by omega
  simp only [if_pos g1, hw1, Int.toNat_natCast]
  simp only [if_pos g2]
  have := doubts_l0 h w (ns.length - (w + 1)) (w + 1) (by omega) (by omega)
  rw [dbt_low ns ms w (w + 1) (Nat.le_refl _)] at this
  exact this
theorem parB_of {ns : List Nd} (h : mayT ns = true) : parB ns = true := by
  unfold parB
  refine List.all_eq_true.2 fun i hi => decide_eq_true ?_
  have := mayT_pa h i (List.mem_range.1 hi)
  show (0 ≤ pa ns i ∧ pa ns i < (i : Int)) ∨ ((i : Int) = 0 ∧ pa ns i = -1)
  omega
def askH (ns : List Nd) (ms : List Int) : Int × Int :=
  if rd ms 0 = 2 then
    (if bestH (szH ns (dbt ns ms (lastM ms ms.length).toNat ns.length) ms) (dbt ns ms (lastM ms ms.length).toNat ns.length) ms (rd (szH ns (dbt ns ms (lastM ms ms.length).toNat ns.length) ms) (lastM ms ms.length)) ns.length < 0 then bugS ns ms (lastM ms ms.length)
      else (0, bestH (szH ns (dbt ns ms (lastM ms ms.length).toNat ns.length) ms) (dbt ns ms (lastM ms ms.length).toNat ns.length) ms (rd (szH ns (dbt ns ms (lastM ms ms.length).toNat ns.length) ms) (lastM ms ms.length)) ns.length))
  else askT ns ms
theorem askH_ev {ns : List Nd} {ms : List Int} (h : marksS ns ms = true) : Ev (fun k => half_Ask.f k ns ms) (askH ns ms) := by
  obtain ⟨hm, hl, _⟩ := marksS_spec h
  have hlen := mayT_len hm
  unfold half_Ask.f askH
  have cg : 0 < ns.length ∧ ns.length ≤ 512 ∧ ms.length = ns.length ∧ parB ns = true := ⟨hlen.1, hlen.2, hl, parB_of hm⟩
  simp only [if_pos cg]
  by_cases c : rd ms 0 = 2
  · simp only [if_pos c]
    have hr := lastM_range ms ms.length (by omega)
    refine Ev.bind (last_half_ev ms (by omega)) ?_
    obtain ⟨w, hw⟩ : ∃ w : Nat, lastM ms ms.length = (w : Int) := ⟨(lastM ms ms.length).toNat, by omega⟩
    rw [hw]
    rw [hw] at hr
    refine Ev.bind (doubts_ev h w (by omega)) ?_
    have cw : 0 ≤ (w : Int) ∧ (w : Int) < (ns.length : Int) ∧ (dbt ns ms w ns.length).length = ns.length := ⟨by omega, by omega, dbt_len ns ms w ns.length⟩
    simp only [if_pos cw, Int.toNat_natCast]
    by_cases cb : bestH (szH ns (dbt ns ms w ns.length) ms) (dbt ns ms w ns.length) ms (rd (szH ns (dbt ns ms w ns.length) ms) (w : Int)) ns.length < 0
    · simp only [if_pos cb, bug_eq h (w : Int) (by omega) (by omega)]; exact Ev.now _
    · simp only [if_neg cb]; exact Ev.now _
  · simp only [if_neg c]
    exact ask_ev h
theorem bestH_spec (sz : List Int) (d : List Bool) (ms : List Int) (m : Int) : ∀ n : Nat, 0 ≤ bestH sz d ms m n → openB d ms (bestH sz d ms m n) = true
  | 0, h => absurd h (by show ¬ (0 : Int) ≤ -1; omega)
  | n + 1, h => by
    rw [bestH] at h ⊢
    by_cases c : openB d ms (n : Int) = true ∧ (bestH sz d ms m n < 0 ∨ offW (rd sz (n : Int)) m < offW (rd sz (bestH sz d ms m n)) m)
    · rw [if_pos c]; exact c.1
    · rw [if_neg c] at h ⊢
      exact bestH_spec sz d ms m n h
theorem rdOf_set (l : List Bool) (i j : Nat) (v : Bool) : rdOf false (l.set i v) (j : Int) = if j = i ∧ i < l.length then v else rdOf false l (j : Int) := by
  show List.getD _ _ _ = if _ then _ else List.getD _ _ _
  rw [Int.toNat_natCast, List.getD_eq_getElem?_getD, List.getD_eq_getElem?_getD, List.getElem?_set]
  by_cases c : i = j
  · subst c
    by_cases d : i < l.length
    · rw [if_pos rfl, if_pos d, if_pos ⟨rfl, d⟩]; rfl
    · rw [if_pos rfl, if_neg d, if_neg (fun h => d h.2), List.getElem?_eq_none (by omega)]
  · rw [if_neg c, if_neg (fun h => c h.1.symm)]
theorem rdOf_rep (n : Nat) (j : Int) : rdOf false (List.replicate n false) j = false := by
  show List.getD _ _ _ = _
  rw [List.getD_eq_getElem?_getD, List.getElem?_replicate]
  split <;> rfl
theorem dbt_spec {ns : List Nd} (hm : mayT ns = true) (ms : List Int) (w : Nat) : ∀ n : Nat, n ≤ ns.length → ∀ j : Nat, rdOf false (dbt ns ms w n) (j : Int) = true → w < j ∧ j < n ∧ rd ms (j : Int) ≠ 1 ∧ (pa ns j = (w : Int) ∨ (0 ≤ pa ns j ∧ rdOf false (dbt ns ms w n) (pa ns j) = true))
  | 0, _, j, h => by rw [dbt, rdOf_rep] at h; cases h
  | n + 1, hn, j, h => by
    rw [dbt] at h
    by_cases c : n ≤ w
    · rw [if_pos c, dbt_low ns ms w n (by omega), rdOf_rep] at h; cases h
    · rw [if_neg c, rdOf_set] at h
      have hp := mayT_pa hm n (by omega)
      by_cases e : j = n ∧ n < (dbt ns ms w n).length
      · rw [if_pos e] at h
        obtain ⟨rfl, he⟩ := e
        rw [Bool.and_eq_true, Bool.or_eq_true, decide_eq_true_iff, bne_iff_ne] at h
        refine ⟨by omega, by omega, h.2, h.1.elim .inl fun hh => .inr ⟨by omega, ?_⟩⟩
        obtain ⟨p, hpp⟩ : ∃ p : Nat, pa ns j = (p : Int) := ⟨(pa ns j).toNat, by omega⟩
        rw [dbt, if_neg c, hpp, rdOf_set, if_neg (by omega), ← hpp]
        exact hh
      · rw [if_neg e] at h
        obtain ⟨h1, h2, h3, h4⟩ := dbt_spec hm ms w n (by omega) j h
        refine ⟨h1, by omega, h3, h4.elim .inl fun hh => .inr ⟨hh.1, ?_⟩⟩
        have hpj := mayT_pa hm j (by omega)
        obtain ⟨p, hpp⟩ : ∃ p : Nat, pa ns j = (p : Int) := ⟨(pa ns j).toNat, by omega⟩
        rw [dbt, if_neg c, hpp, rdOf_set, if_neg (by omega), ← hpp]
        exact hh.2
end Go.Proofs.YtbnljapgnfmmoaaGreatDoor.G
end
section
namespace Go.Proofs.YtbnljapgnfmmoaaGreatDoor.G
open Go.RowKit
set_option linter.unusedVariables false
set_option linter.unusedSimpArgs false
def Par (ps : List Int) : Prop := ∀ i, i < ps.length → (i = 0 ∧ ps.getD i (-1) = -1) ∨ (0 < i ∧ 0 ≤ ps.getD i (-1) ∧ ps.getD i (-1) < i)
def upB (ps : List Int) (p : Nat) : Nat → Nat → Bool
  | 0, _ => false
  | n + 1, j => j == p || (decide (0 ≤ ps.getD j (-1)) && upB ps p n (ps.getD j (-1)).toNat)
/-- does j stand below p (or is it p)? -/
def dsc (ps : List Int) (p j : Nat) : Bool := upB ps p (j + 1) j
theorem upB_fuel {ps : List Int} (hp : Par ps) (p : Nat) : ∀ n j m, j < ps.length → j < n → j < m → upB ps p n j = upB ps p m j := by
  intro n
  induction n with
  | zero => intro j m _ h; omega
  | succ n ih =>
    intro j m hj hn hm
    cases m with
    | zero => omega
    | succ m =>
      rw [upB, upB]
      by_cases c : 0 ≤ ps.getD j (-1)
      · have := hp j hj
        rw [ih (ps.getD j (-1)).toNat m (by omega) (by omega) (by omega)]
      · rw [decide_eq_false c, Bool.false_and, Bool.false_and]
theorem dsc_step {ps : List Int} (hp : Par ps) (p : Nat) {j : Nat} (hj : j < ps.length) (h0 : 0 < j) : dsc ps p j = (j == p || dsc ps p (ps.getD j (-1)).toNat) := by
  have := hp j hj
  unfold dsc
  rw [upB, decide_eq_true (show 0 ≤ ps.getD j (-1) by omega), Bool.true_and, upB_fuel hp p j _ ((ps.getD j (-1)).toNat + 1) (by omega) (by omega) (by omega)]
theorem dsc_zero {ps : List Int} (hp : Par ps) (p : Nat) (h : 0 < ps.length) : dsc ps p 0 = (0 == p) := by
  have := hp 0 h
  unfold dsc
  rw [upB, decide_eq_false (show ¬ 0 ≤ ps.getD 0 (-1) by omega), Bool.false_and, Bool.or_false]
theorem dsc_self {ps : List Int} (p : Nat) : dsc ps p p = true := by unfold dsc; rw [upB, beq_self_eq_true]; rfl
theorem dsc_le {ps : List Int} (hp : Par ps) {p : Nat} : ∀ (n j : Nat), j < n → j < ps.length → dsc ps p j = true → p ≤ j := by
  intro n
  induction n with
  | zero => intro j h; omega
  | succ n ih =>
    intro j hn hj h
    rcases Nat.eq_zero_or_pos j with rfl | h0
    · rw [dsc_zero hp p hj] at h
      have : 0 = p := beq_iff_eq.1 h
      omega
    · rw [dsc_step hp p hj h0, Bool.or_eq_true, beq_iff_eq] at h
      have h1 := hp j hj
      rcases h with rfl | h
      · exact Nat.le_refl _
      · have := ih _ (by omega) (by omega) h
        omega
theorem dsc_last {ps : List Int} (hp : Par ps) {p j : Nat} (hj : j < ps.length) (h : j < p) : dsc ps p j = false := by
  cases c : dsc ps p j with
  | false => rfl
  | true => have := dsc_le hp (j + 1) j (by omega) hj c; omega
def sumTo (f : Nat → Int) : Nat → Int
  | 0 => 0
  | n + 1 => sumTo f n + f n
theorem sumTo_congr {f g : Nat → Int} : ∀ {n : Nat}, (∀ j, j < n → f j = g j) → sumTo f n = sumTo g n
  | 0, _ => rfl
  | n + 1, h => by rw [sumTo, sumTo, sumTo_congr (fun j hj => h j (by omega)), h n (by omega)]
theorem sumTo_le {f g : Nat → Int} : ∀ {n : Nat}, (∀ j, j < n → f j ≤ g j) → sumTo f n ≤ sumTo g n
  | 0, _ => Int.le_refl _
  | n + 1, h => by
    have := sumTo_le (f := f) (g := g) (n := n) (fun j hj => h j (by omega))
    have := h n (by omega)
    rw [sumTo, sumTo]; omega
theorem sumTo_nonneg {f : Nat → Int} : ∀ {n : Nat}, (∀ j, j < n → 0 ≤ f j) → 0 ≤ sumTo f n
  | 0, _ => Int.le_refl _
  | n + 1, h => by
    have := sumTo_nonneg (f := f) (n := n) (fun j hj => h j (by omega))
    have := h n (by omega)
    rw [sumTo]; omega
theorem sumTo_zero {f : Nat → Int} : ∀ {n : Nat}, (∀ j, j < n → f j = 0) → sumTo f n = 0
  | 0, _ => rfl
  | n + 1, h => by rw [sumTo, sumTo_zero (fun j hj => h j (by omega)), h n (by omega)]; rfl
theorem sumTo_mem {f : Nat → Int} {i : Nat} : ∀ {n : Nat}, (∀ j, j < n → 0 ≤ f j) → i < n → f i ≤ sumTo f n
  | 0, _, h => by omega
  | n + 1, h, hi => by
    rw [sumTo]
    have h1 := sumTo_nonneg (f := f) (n := n) (fun j hj => h j (by omega))
    have h2 := h n (by omega)
    rcases Nat.lt_or_ge i n with c | c
    · have := sumTo_mem (f := f) (i := i) (n := n) (fun j hj => h j (by omega)) c
      omega
    · have : i = n := by omega
      rw [this]; omega
/-- a sum over a row of which one entry has grown -/
theorem sumTo_one {f g : Nat → Int} {i : Nat} {v : Int} : ∀ {n : Nat}, i < n → (∀ j, j < n → f j = if j = i then g j + v else g j) → sumTo f n = sumTo g n + v
  | 0, h, _ => by omega
  | n + 1, h, hf => by
    rw [sumTo, sumTo]
    have hn := hf n (by omega)
    rcases Nat.lt_or_ge i n with c | c
    · rw [sumTo_one (n := n) c (fun j hj => hf j (by omega)), hn, if_neg (by omega)]; omega
    · have : i = n := by omega
      rw [hn, if_pos this.symm, sumTo_congr (n := n) (f := f) (g := g) (fun j hj => by rw [hf j (by omega), if_neg (by omega)])]; omega
/-- what the program does, from the last node on -/
def szL (ps : List Int) (c : Nat → Int) : Nat → List Int → List Int
  | 0, o => o
  | n + 1, o =>
    let o1 := o.set n (wrap64 (o.getD n 0 + c n))
    szL ps c n (if 0 < n then o1.set (ps.getD n (-1)).toNat (wrap64 (o1.getD (ps.getD n (-1)).toNat 0 + o1.getD n 0)) else o1)
theorem getD_set {l : List Int} {i j : Nat} {v : Int} (h : i < l.length) : (l.set i v).getD j 0 = if j = i then v else l.getD j 0 := by
  rw [List.getD_eq_getElem?_getD, List.getD_eq_getElem?_getD, List.getElem?_set]
  by_cases c : i = j
  · subst c; rw [if_pos rfl, if_pos h, if_pos rfl]; rfl
  · rw [if_neg c, if_neg (fun h => c h.symm)]
theorem szL_eq {ps : List Int} (hp : Par ps) (c : Nat → Int) (hc : ∀ j, 0 ≤ c j) : ∀ (n : Nat) (o : List Int), n ≤ ps.length → o.length = ps.length → (∀ j, j < n → 0 ≤ o.getD j 0) → sumTo (fun j => o.getD j 0 + c j) n ≤ 9223372036854775807 →
    ∀ p, (szL ps c n o).getD p 0 = if p < n then sumTo (fun j => if dsc ps p j = true then o.getD j 0 + c j else 0) n else o.getD p 0 := by
  intro n
  induction n with
  | zero => intro o _ _ _ _ p; rw [if_neg (by omega)]; rfl
  | succ n ih =>
    intro o hn ho h0 hs p
    rw [szL]
    rw [sumTo] at hs
    have hsum0 := sumTo_nonneg (f := fun j => o.getD j 0 + c j) (n := n) (fun j hj => by have := h0 j (by omega); have := hc j; omega)
    have hn0 := h0 n (by omega)
    have hcn := hc n
    have hv : wrap64 (o.getD n 0 + c n) = o.getD n 0 + c n := by unfold wrap64; omega
    rw [hv]
    have g1 : ∀ j, (o.set n (o.getD n 0 + c n)).getD j 0 = if j = n then o.getD n 0 + c n else o.getD j 0 := fun j => getD_set (by omega)
    by_cases c0 : 0 < n
    · rw [if_pos c0]
      have hpn := hp n (by omega)
      obtain ⟨q, hq⟩ : ∃ q : Nat, (ps.getD n (-1)).toNat = q := ⟨_, rfl⟩
      have hqn : q < n := by omega
      rw [hq]
      have g2 : (o.set n (o.getD n 0 + c n)).getD q 0 + (o.set n (o.getD n 0 + c n)).getD n 0 = o.getD q 0 + (o.getD n 0 + c n) := by
        rw [g1, g1, if_neg (by omega), if_pos rfl]
      rw [g2]
      have hq1 := sumTo_mem (f := fun j => o.getD j 0 + c j) (i := q) (n := n) (fun j hj => by have := h0 j (by omega); have := hc j; omega) hqn
      have hq0 := h0 q (by omega)
      have hcq := hc q
      have hw : wrap64 (o.getD q 0 + (o.getD n 0 + c n)) = o.getD q 0 + (o.getD n 0 + c n) := by unfold wrap64; omega
      rw [hw]
      have g3 : ∀ j, ((o.set n (o.getD n 0 + c n)).set q (o.getD q 0 + (o.getD n 0 + c n))).getD j 0 = if j = q then o.getD j 0 + (o.getD n 0 + c n) else if j = n then o.getD n 0 + c n else o.getD j 0 := by
        intro j
        rw [getD_set (by rw [List.length_set]; omega), g1]
        by_cases c1 : j = q
        · rw [if_pos c1, if_pos c1, c1]
        · rw [if_neg c1, if_neg c1]
      have hs' : sumTo (fun j => ((o.set n (o.getD n 0 + c n)).set q (o.getD q 0 + (o.getD n 0 + c n))).getD j 0 + c j) n = sumTo (fun j => o.getD j 0 + c j) n + (o.getD n 0 + c n) :=
        sumTo_one hqn (fun j hj => by
          rw [g3]
          by_cases c1 : j = q
          · rw [if_pos c1, if_pos c1]; omega
          · rw [if_neg c1, if_neg c1, if_neg (by omega)])
      rw [ih _ (by omega) (by simp [ho]) (fun j hj => by
        rw [g3]
        have := h0 j (by omega)
        by_cases c1 : j = q
        · rw [if_pos c1]; omega
        · rw [if_neg c1, if_neg (by omega)]; exact this) (by rw [hs']; omega)]
      by_cases cp : p < n
      · rw [if_pos cp, if_pos (by omega), sumTo]
        have hd : dsc ps p n = dsc ps p q := by
          rw [dsc_step hp p (by omega) c0, hq, show (n == p) = false by rw [beq_eq_false_iff_ne]; omega, Bool.false_or]
        rw [hd]
        by_cases c2 : dsc ps p q = true
        · rw [if_pos c2]
          exact sumTo_one hqn (fun j hj => by
            rw [g3]
            by_cases c1 : j = q
            · rw [if_pos c1, if_pos c1, c1, if_pos c2, if_pos c2]; omega
            · rw [if_neg c1, if_neg c1, if_neg (show ¬ j = n by omega)])
        · rw [if_neg c2, Int.add_zero]
          exact sumTo_congr (fun j hj => by
            rw [g3]
            by_cases c1 : j = q
            · rw [c1, if_neg c2, if_neg c2]
            · rw [if_neg c1, if_neg (show ¬ j = n by omega)])
      · rw [if_neg cp, g3, if_neg (by omega)]
        by_cases c1 : p = n
        · rw [if_pos c1, if_pos (by omega), sumTo, c1, if_pos (dsc_self n), sumTo_zero, Int.zero_add]
          intro j hj
          rw [dsc_last hp (by omega) hj, if_neg (by decide)]
        · rw [if_neg c1, if_neg (by omega)]
    · rw [if_neg c0]
      obtain rfl : n = 0 := by omega
      show (o.set 0 (o.getD 0 0 + c 0)).getD p 0 = _
      rw [g1]
      by_cases c1 : p = 0
      · rw [if_pos c1, if_pos (by omega), c1, sumTo, sumTo, if_pos (dsc_self 0), Int.zero_add]
      · rw [if_neg c1, if_neg (by omega)]
end Go.Proofs.YtbnljapgnfmmoaaGreatDoor.G
end
section
namespace Go.Proofs.YtbnljapgnfmmoaaGreatDoor.G
open Go.RowKit Go.Proofs.YtbnljapgnfmmoaaGreatDoorW.PrintWords Go.Proofs.YtbnljapgnfmmoaaGreatDoorW.PrintLast Go.Proofs.YtbnljapgnfmmoaaGreatDoorW.PrintMore
set_option linter.unusedVariables false
set_option linter.unusedSimpArgs false
def ps (ns : List Nd) : List Int := ns.map (·.f1)
theorem ps_len (ns : List Nd) : (ps ns).length = ns.length := List.length_map ..
theorem ps_at (ns : List Nd) (i : Nat) (h : i < ns.length) : (ps ns).getD i (-1) = pa ns i := by
  unfold ps pa
  rw [rn_eq ns i h, List.getD_eq_getElem?_getD, List.getElem?_map, List.getElem?_eq_getElem h]; rfl
theorem par_of {ns : List Nd} (h : mayT ns = true) : Par (ps ns) := fun i hi => by
  rw [ps_len] at hi
  rw [ps_at ns i hi]
  have := mayT_pa h i hi
  omega
theorem sizesL_szL (ns : List Nd) (hp : Par (ps ns)) (c : Int → Int) : ∀ (n : Nat) (o : List Int), n ≤ ns.length → sizesL ns c n o = szL (ps ns) (fun j => c (j : Int)) n o
  | 0, o, _ => rfl
  | n + 1, o, h => by
    have hr : ∀ (l : List Int) (j : Nat), rd l (j : Int) = l.getD j 0 := fun l j => by show l.getD _ _ = _; rw [Int.toNat_natCast]
    rw [sizesL, szL]
    have hpa : (rn ns (n : Int)).f1 = (ps ns).getD n (-1) := (ps_at ns n (by omega)).symm
    simp only [hr]
    by_cases c0 : 0 < n
    · have hp1 := hp n (by rw [ps_len]; omega)
      have hz : (((ps ns).getD n (-1)).toNat : Int) = (ps ns).getD n (-1) := by omega
      rw [if_pos c0, if_pos c0, hpa]
      have hrp : ∀ l : List Int, rd l ((ps ns).getD n (-1)) = l.getD ((ps ns).getD n (-1)).toNat 0 := fun l => rfl
      rw [hrp]
      exact sizesL_szL ns hp c n _ (by omega)
    · rw [if_neg c0, if_neg c0]
      exact sizesL_szL ns hp c n _ (by omega)
theorem sumTo_const : ∀ (n : Nat), sumTo (fun _ => (1 : Int)) n = n
  | 0 => rfl
  | n + 1 => by rw [sumTo, sumTo_const n]; omega
theorem rep_zero (m j : Nat) : (List.replicate m (0 : Int)).getD j 0 = 0 := by
  rw [List.getD_eq_getElem?_getD, List.getElem?_replicate]
  split <;> rfl
theorem sizesP_gen {ns : List Nd} (h : mayT ns = true) (c : Int → Int) (hc : ∀ j : Nat, 0 ≤ c (j : Int)) (hs : sumTo (fun j => c (j : Int)) ns.length ≤ 9223372036854775807) (p : Nat) (hp : p < ns.length) : rd (sizesP ns c) (p : Int) = sumTo (fun j => if dsc (ps ns) p j = true then c (j : Int) else 0) ns.length := by
  have hpar := par_of h
  show (sizesP ns c).getD (p : Int).toNat 0 = _
  rw [Int.toNat_natCast]
  unfold sizesP
  rw [sizesL_szL ns hpar c _ _ (Nat.le_refl _)]
  have hz : ∀ j, (List.replicate ns.length (0 : Int)).getD j 0 + c (j : Int) = c (j : Int) := fun j => by rw [rep_zero]; omega
  have := szL_eq hpar (fun j => c (j : Int)) hc ns.length (List.replicate ns.length 0) (by rw [ps_len]; exact Nat.le_refl _) (by rw [ps_len, List.length_replicate]) (fun j _ => by rw [rep_zero]; exact Int.le_refl _)
    (by simp only [hz]; exact hs) p
  rw [this, if_pos hp]
  exact sumTo_congr (fun j _ => by rw [hz])
def one (p : Int) : Nd := ⟨0, p, [], (⟨#[49]⟩ : ByteArray)⟩
end Go.Proofs.YtbnljapgnfmmoaaGreatDoor.G
end
section
namespace Go.Proofs.YtbnljapgnfmmoaaGreatDoor.G
open Go.RowKit Go.Proofs.YtbnljapgnfmmoaaGreatDoorW.PrintWords Go.Proofs.YtbnljapgnfmmoaaGreatDoorW.PrintLast Go.Proofs.YtbnljapgnfmmoaaGreatDoorW.PrintMore
set_option maxHeartbeats 8000000
set_option maxRecDepth 100000
attribute [local go_sem] max2_int min2_int max_two min_two max_three min_three max_four min_four   -- for this text's walks alone
set_option linter.unusedVariables false
set_option linter.unusedSimpArgs false

def sleuthref12_rooted.f (a0 : Int) : Option (Int × Int) := if a0 = 0 then (some (0, 0)) else (if a0 = 1 then (some (2, 0)) else (some (3, 0)))
theorem sleuthref12_rooted.calls (a0 : Int) (r1 : Int) (r2 : Int) (w : World) (h : sleuthref12_rooted.f a0 = some (r1, r2)) :
 Calls Tryz.prog 53 #[.int .i64 a0] w fun e w' => e = .returned (.agg #[.int .i64 r1, .int .i64 r2]) ∧ Below w.heap.size w w' := by
 have hu49 := Tryz.underlying49
 have HB := a_ (Below.refl w.heap.size w)
 have H := h; unfold sleuthref12_rooted.f at H
 clear h
 by_cases c2 : a0 = 0
 case pos =>
  rw [if_pos c2] at H
  have c2b0 : (a0 == 0) = true := beq_iff_eq.mpr c2
  have c2b1 : (a0 != 0) = false := bne_eq_false_iff_eq.mpr c2
  clear c2
  simp only [Option.some.injEq, Prod.mk.injEq] at H
  obtain ⟨rfl, rfl⟩ := H
  go_enter Tryz.func53, Tryz.ntmps53
  go_wp2_with (first | ((with_reducible refine gate_dst (N := 2) rfl ?_); refine boxE_ 2 #[.int .i64 0, .int .i64 0] 49 ?_; intro g0 hg w3 hbox hb; have B0 := a_ (hbox); have E0 := a_ ((gE_ hg : w.heap.size ≤ g0)); replace HB := a_ (below_step hB_ hb); clear hb hbox hg; obtain ⟨z0, z1, f0, f1⟩ := bx2_ B0.out))
  refine bodyPost_ret (results_cell_row rfl _ _ g0 49 #[.int .i64 0, .int .i64 0] (0, 0) _ rfl (bP_ (bP_ (hK_ B0.out))) Tryz.underlying49 rfl (by kernel_rfl)) rfl ?_
  exact ⟨hV_, hC_⟩
 rw [if_neg c2] at H
 have c2b0 : (a0 == 0) = false := beq_eq_false_iff_ne.mpr c2
 have c2b1 : (a0 != 0) = true := bne_iff_ne.mpr c2
 by_cases c5 : a0 = 1
 case neg =>
  rw [if_neg c5] at H
  have c5b0 : (a0 == 1) = false := beq_eq_false_iff_ne.mpr c5
  have c5b1 : (a0 != 1) = true := bne_iff_ne.mpr c5
  simp only [Option.some.injEq, Prod.mk.injEq] at H
  obtain ⟨rfl, rfl⟩ := H
  go_enter Tryz.func53, Tryz.ntmps53
  go_wp2_with (first | ((with_reducible refine gate_dst (N := 2) rfl ?_); refine boxE_ 2 #[.int .i64 0, .int .i64 0] 49 ?_; intro g0 hg w8 hbox hb; have B0 := a_ (hbox); have E0 := a_ ((gE_ hg : w.heap.size ≤ g0)); replace HB := a_ (below_step hB_ hb); clear hb hbox hg; obtain ⟨z2, z3, f2, f3⟩ := bx2_ B0.out))
  refine bodyPost_ret (results_cell_row rfl _ _ g0 49 #[.int .i64 3, .int .i64 0] (0, 0) _ rfl (bP_ (bP_ (hK_ B0.out))) Tryz.underlying49 rfl (by kernel_rfl)) rfl ?_
  exact ⟨hV_, hC_⟩

 rw [if_pos c5] at H
 have c5b0 : (a0 == 1) = true := beq_iff_eq.mpr c5
 have c5b1 : (a0 != 1) = false := bne_eq_false_iff_eq.mpr c5
 clear c5
 simp only [Option.some.injEq, Prod.mk.injEq] at H
 obtain ⟨rfl, rfl⟩ := H
 go_enter Tryz.func53, Tryz.ntmps53
 go_wp2_with (first | ((with_reducible refine gate_dst (N := 2) rfl ?_); refine boxE_ 2 #[.int .i64 0, .int .i64 0] 49 ?_; intro g0 hg w6 hbox hb; have B0 := a_ (hbox); have E0 := a_ ((gE_ hg : w.heap.size ≤ g0)); replace HB := a_ (below_step hB_ hb); clear hb hbox hg; obtain ⟨z4, z5, f4, f5⟩ := bx2_ B0.out))
 refine bodyPost_ret (results_cell_row rfl _ _ g0 49 #[.int .i64 2, .int .i64 0] (0, 0) _ rfl (bP_ (bP_ (hK_ B0.out))) Tryz.underlying49 rfl (by kernel_rfl)) rfl ?_
 exact ⟨hV_, hC_⟩
def sleuthref12_kids.l0 : Nat → List (S66) → Int → List Int → Int → Option (List Int)
 | 0, _, _, _, _ => none
 | k + 1, x0, x1, x5, x6 => if x6 < (x0.length : Int) then (if 0 ≤ x6 then (if ((rd_T66 x0 x6).f1) = x1 then (if x5.length < 17592186044416 then (sleuthref12_kids.l0 k x0 x1 (x5 ++ [x6]) (wrap64 (x6 + 1))) else (none)) else (sleuthref12_kids.l0 k x0 x1 x5 (wrap64 (x6 + 1)))) else (none)) else (some x5)
def sleuthref12_kids.f (k : Nat) (l0 : List (S66)) (a1 : Int) : Option (List Int) := sleuthref12_kids.l0 k l0 a1 ([] : List Int) 0
theorem sleuthref12_kids.calls (k : Nat) (A0 : Option Addr) (c0 : Nat) (l0 : List (S66)) (a1 : Int) (r : List Int) (w : World) (hr0 : Kd.C k66 w A0 l0.length l0) (hc0 : l0.length ≤ c0) (h : sleuthref12_kids.f k l0 a1 = some r) :
 Calls Tryz.prog 54 #[.slice A0 l0.length c0, .int .i64 a1] w fun e w' => ∃ v0_ : Value, e = .returned (v0_) ∧ Kd.R (Kd.int .i64) 3 w' w.heap.size (fun _ => True) v0_ r ∧ Below w.heap.size w w' := by
 have HR0 := a_ hr0
 have HC0 := a_ hc0
 clear hr0 hc0
 have HB := a_ (Below.refl w.heap.size w)
 have H : (sleuthref12_kids.l0 k l0 a1 ([] : List Int) 0) = some r := h
 clear h
 have H' := a_ H
 clear H
 go_enter Tryz.func54, Tryz.ntmps54
 go_wp2
 go_loopg [5, 6] k (fun kq v5 v6 w' => ∃ (x1 : List Int) (x0 : Int), v6 = .int .i64 x0 ∧ Aside0 (sleuthref12_kids.l0 kq l0 a1 x1 x0 = some r) ∧ Aside0 (kq ≤ k) ∧ Aside0 (Kd.R (Kd.int .i64) 3 w' w.heap.size (fun _ => True) v5 x1) ∧ Aside0 (Below w.heap.size w w'))
 case atStart => exact ⟨(([] : List Int)), (0), hW_, H', ⟨Nat.le_refl _⟩, ⟨by first | exact Kd.R_nil _ _ _ _ _ | exact Kd.N_nil _ _ _ _ _ | exact Kd.V_nil _ _ _ _ _ | exact Kd.Q_nil _ _ _ _ _ | exact Kd.S_nil _ _ _ _ _⟩, ⟨hC_⟩⟩
 case round =>
  clear H'
  try clear p2
  obtain ⟨x1, x0, rfl, HA, HK1, O0, HB⟩ := hrel
  cases gk with
  | zero => exact absurd HA.out (by simp [sleuthref12_kids.l0])
  | succ k1 =>
   have H := HA.out
   clear HA
   simp only [sleuthref12_kids.l0] at H
   by_cases c3 : x0 < (l0.length : Int)
   case neg =>
    rw [if_neg c3] at H
    have c3b0 : decide (x0 < (l0.length : Int)) = false := decide_eq_false c3
    clear c3
    obtain rfl := Option.some.inj H
    go_wp2
    go_ret
    exact ⟨_, hV_, hR_ O0.out, hC_⟩

   rw [if_pos c3] at H
   have c3b0 : decide (x0 < (l0.length : Int)) = true := decide_eq_true c3
   clear c3
   replace H := ifI_ H; obtain ⟨c4, H⟩ := H
   have c4b0 : decide (0 ≤ x0) = true := decide_eq_true c4
   clear c4
   by_cases c5 : ((rd_T66 l0 x0).f1) = a1
   case neg =>
    rw [if_neg c5] at H
    have c5b0 : (((rd_T66 l0 x0).f1) == a1) = false := beq_eq_false_iff_ne.mpr c5
    have c5b1 : (((rd_T66 l0 x0).f1) != a1) = true := bne_iff_ne.mpr c5
    have H' := a_ H
    clear H
    have p338 : 0 ≤ (x0 : Int) := of_decide_eq_true hA_
    have q338 : x0 < (l0.length : Int) := of_decide_eq_true hA_
    obtain ⟨d0, A338_2, c338_2, e338, h0, h1, h2, h3, hl338_2, hi338_2⟩ := at_T66 HR0.out x0 p338 q338
    cases e338
    replace h0 := cl_ HB.out h0
    replace h1 := cl_ HB.out h1
    replace h2 := cl_ HB.out h2
    replace h3 := cl_ HB.out h3
    have HR338_2 := a_ hi338_2
    have HC338_2 := a_ hl338_2
    clear hi338_2 hl338_2
    replace p338 := eq_true p338
    replace q338 := eq_true q338
    go_wp2
    go_roundg k1
    case measure => have := HK1.out; omega
    case rel => exact ⟨(x1), (wrap64 (x0 + 1)), hW_, H', ⟨by have := HK1.out; omega⟩, ⟨hR_ O0.out⟩, ⟨hC_⟩⟩
   rw [if_pos c5] at H
   have c5b0 : (((rd_T66 l0 x0).f1) == a1) = true := beq_iff_eq.mpr c5
   have c5b1 : (((rd_T66 l0 x0).f1) != a1) = false := bne_eq_false_iff_eq.mpr c5
   clear c5
   replace H := ifI_ H; obtain ⟨c6, H⟩ := H
   have LMc6 := a_ c6
   clear c6
   obtain ⟨y0, i0⟩ : ∃ y_ : List Int, y_ = (x1 ++ [x0]) := ⟨_, rfl⟩
   replace H : (sleuthref12_kids.l0 k1 l0 a1 y0 (wrap64 (x0 + 1))) = some r := by first | (rw [i0]; with_reducible exact H) | (have H2_ := (Option.bind_some _ _).symm.trans H; rw [i0]; with_reducible exact H2_) | (have H2_ := (Option.bind_some _ _).symm.trans H; with_reducible exact H2_) | with_reducible exact H | (rw [i0]; exact H) | exact H
   have Y0 := a_ i0
   clear i0
   have H' := a_ H
   clear H
   have p338 : 0 ≤ (x0 : Int) := of_decide_eq_true hA_
   have q338 : x0 < (l0.length : Int) := of_decide_eq_true hA_
   obtain ⟨d0, A338_2, c338_2, e338, h0, h1, h2, h3, hl338_2, hi338_2⟩ := at_T66 HR0.out x0 p338 q338
   cases e338
   replace h0 := cl_ HB.out h0
   replace h1 := cl_ HB.out h1
   replace h2 := cl_ HB.out h2
   replace h3 := cl_ HB.out h3
   have HR338_2 := a_ hi338_2
   have HC338_2 := a_ hl338_2
   clear hi338_2 hl338_2
   replace p338 := eq_true p338
   replace q338 := eq_true q338
   go_wp2_with (first | ((with_reducible refine gate_builtin (b := .append) (xs := #[.tmp 20, .tmp 22]) rfl ?_); at_builtin; refine Kd.R_append (Kd.int .i64) (w0 := w) w.heap.size rfl (.tmp 20) (.tmp 22) 41 3 (.int .i64 0) 8 rfl Tryz.underlying41 info3 rfl (by decide) (by omega) u5 x1 x0 [.int .i64 x0] (fun _ => True) (fun _ => False) rfl rfl ?aP (fun _ hk => hk.elim) ?aF ?aO ?aB ?aS ?aL ?_; (case aP => exact rfl); (case aB => exact hB_); (case aF => exact (fun _ _ => trivial)); (case aO => exact (hR_ O0.out)); (case aS => exact hS_); (case aL => have := LMc6.out; omega); intro v0 w7 ho hb hg hat; rw [← Y0.out] at ho; replace HB := a_ (hb); have P0 := a_ (ho); clear O0; clear ho hb hg hat))
   go_roundg k1
   case measure => have := HK1.out; omega
   case rel => exact ⟨(y0), (wrap64 (x0 + 1)), hW_, H', ⟨by have := HK1.out; omega⟩, ⟨hR_ P0.out⟩, ⟨hC_⟩⟩
set_option maxHeartbeats 8000000
set_option maxRecDepth 100000
attribute [local go_sem] max2_int min2_int max_two min_two max_three min_three max_four min_four   -- for this text's walks alone
set_option linter.unusedVariables false
set_option linter.unusedSimpArgs false

def sleuthref12_firstOf.l0 : Nat → List Int → List Int → Int → Int → Option (Int)
 | 0, _, _, _, _ => none
 | k + 1, x0, x1, x2, x7 => if x7 < (x0.length : Int) then (if 0 ≤ x7 then (if 0 ≤ (rd x0 x7) then (if (rd x0 x7) < (x1.length : Int) then (if (rd x1 (rd x0 x7)) = x2 then (some (rd x0 x7)) else (sleuthref12_firstOf.l0 k x0 x1 x2 (wrap64 (x7 + 1)))) else (none)) else (none)) else (none)) else (some (-1))
def sleuthref12_firstOf.f (k : Nat) (l0 : List Int) (l1 : List Int) (a2 : Int) : Option (Int) := sleuthref12_firstOf.l0 k l0 l1 a2 0
theorem sleuthref12_firstOf.calls (k : Nat) (A0 : Option Addr) (c0 : Nat) (l0 : List Int) (A1 : Option Addr) (c1 : Nat) (l1 : List Int) (a2 : Int) (r : Int) (w : World) (hr0 : Kd.C (Kd.int .i64) w A0 l0.length l0) (hc0 : l0.length ≤ c0) (hr1 : Kd.C (Kd.int .i64) w A1 l1.length l1) (hc1 : l1.length ≤ c1) (h : sleuthref12_firstOf.f k l0 l1 a2 = some r) :
 Calls Tryz.prog 55 #[.slice A0 l0.length c0, .slice A1 l1.length c1, .int .i64 a2] w fun e w' => e = .returned (.int .i64 r) ∧ Drawn0 w w' := by
 have HR0 := a_ hr0
 have HC0 := a_ hc0
 clear hr0 hc0
 have HR1 := a_ hr1
 have HC1 := a_ hc1
 clear hr1 hc1
 have H : (sleuthref12_firstOf.l0 k l0 l1 a2 0) = some r := h
 clear h
 have H' := a_ H
 clear H
 go_enter Tryz.func55, Tryz.ntmps55
 go_wp2
 go_loopg [7] k (fun kq v7 w' => ∃ (x0 : Int), v7 = .int .i64 x0 ∧ Aside0 (sleuthref12_firstOf.l0 kq l0 l1 a2 x0 = some r) ∧ Aside0 (kq ≤ k) ∧ Drawn0 w w')
 case atStart => exact ⟨(0), hW_, H', ⟨Nat.le_refl _⟩, by repeat (first | exact Drawn0.refl _ | apply Drawn0.step)⟩
 case round =>
  clear H'
  try clear c1
  try clear p2
  obtain ⟨x0, rfl, HA, HK1, ⟨m1, rfl⟩⟩ := hrel
  cases gk with
  | zero => exact absurd HA.out (by simp [sleuthref12_firstOf.l0])
  | succ k1 =>
   have H := HA.out
   clear HA
   simp only [sleuthref12_firstOf.l0] at H
   by_cases c4 : x0 < (l0.length : Int)
   case neg =>
    rw [if_neg c4] at H
    have c4b0 : decide (x0 < (l0.length : Int)) = false := decide_eq_false c4
    clear c4
    obtain rfl := Option.some.inj H
    go_wp2
    go_ret
    exact ⟨by first | rfl | (simp; done) | (simp [*]; done), by repeat (first | exact Drawn0.refl _ | apply Drawn0.step)⟩

   rw [if_pos c4] at H
   have c4b0 : decide (x0 < (l0.length : Int)) = true := decide_eq_true c4
   clear c4
   replace H := ifI_ H; obtain ⟨c5, H⟩ := H
   have c5b0 : decide (0 ≤ x0) = true := decide_eq_true c5
   clear c5
   replace H := ifI_ H; obtain ⟨c6, H⟩ := H
   have c6b0 : decide (0 ≤ (rd l0 x0)) = true := decide_eq_true c6
   clear c6
   replace H := ifI_ H; obtain ⟨c7, H⟩ := H
   have c7b0 : decide ((rd l0 x0) < (l1.length : Int)) = true := decide_eq_true c7
   clear c7
   by_cases c8 : (rd l1 (rd l0 x0)) = a2
   case neg =>
    rw [if_neg c8] at H
    have c8b0 : ((rd l1 (rd l0 x0)) == a2) = false := beq_eq_false_iff_ne.mpr c8
    have c8b1 : ((rd l1 (rd l0 x0)) != a2) = true := bne_iff_ne.mpr c8
    have H' := a_ H
    clear H
    have p342 : 0 ≤ (x0 : Int) := of_decide_eq_true hA_
    have q342 : x0 < (l0.length : Int) := of_decide_eq_true hA_
    obtain ⟨d0, e342, h0⟩ := Kd.at_int HR0.out x0 p342 q342
    cases e342
    replace p342 := eq_true p342
    replace q342 := eq_true q342
    have p343 : 0 ≤ ((rd l0 x0) : Int) := of_decide_eq_true hA_
    have q343 : (rd l0 x0) < (l1.length : Int) := of_decide_eq_true hA_
    obtain ⟨d1, e343, h1⟩ := Kd.at_int HR1.out (rd l0 x0) p343 q343
    cases e343
    replace p343 := eq_true p343
    replace q343 := eq_true q343
    go_wp2
    go_roundg k1
    case measure => have := HK1.out; omega
    case rel => exact ⟨(wrap64 (x0 + 1)), hW_, H', ⟨by have := HK1.out; omega⟩, by repeat (first | exact Drawn0.refl _ | apply Drawn0.step)⟩
   rw [if_pos c8] at H
   have c8b0 : ((rd l1 (rd l0 x0)) == a2) = true := beq_iff_eq.mpr c8
   have c8b1 : ((rd l1 (rd l0 x0)) != a2) = false := bne_eq_false_iff_eq.mpr c8
   clear c8
   obtain rfl := Option.some.inj H
   have p342 : 0 ≤ (x0 : Int) := of_decide_eq_true hA_
   have q342 : x0 < (l0.length : Int) := of_decide_eq_true hA_
   obtain ⟨d0, e342, h0⟩ := Kd.at_int HR0.out x0 p342 q342
   cases e342
   replace p342 := eq_true p342
   replace q342 := eq_true q342
   have p343 : 0 ≤ ((rd l0 x0) : Int) := of_decide_eq_true hA_
   have q343 : (rd l0 x0) < (l1.length : Int) := of_decide_eq_true hA_
   obtain ⟨d1, e343, h1⟩ := Kd.at_int HR1.out (rd l0 x0) p343 q343
   cases e343
   replace p343 := eq_true p343
   replace q343 := eq_true q343
   have p344 : 0 ≤ (x0 : Int) := of_decide_eq_true hA_
   have q344 : x0 < (l0.length : Int) := of_decide_eq_true hA_
   obtain ⟨d2, e344, h2⟩ := Kd.at_int HR0.out x0 p344 q344
   obtain rfl : d0 = d2 := (by injection e344)
   replace p344 := eq_true p344
   replace q344 := eq_true q344
   go_wp2
   go_ret
   exact ⟨by first | rfl | (simp; done) | (simp [*]; done), by repeat (first | exact Drawn0.refl _ | apply Drawn0.step)⟩
set_option maxHeartbeats 8000000
set_option maxRecDepth 100000
attribute [local go_sem] max2_int min2_int max_two min_two max_three min_three max_four min_four   -- for this text's walks alone
set_option linter.unusedVariables false
set_option linter.unusedSimpArgs false

def sleuthref12_verdict.l0 : Nat → List Int → Int → List Int → Int → Option (Int × Int)
 | 0, _, _, _, _ => none
 | k + 1, x1, x2, x7, x8 => if x8 < (x7.length : Int) then (if 0 ≤ x8 then (if 0 ≤ (rd x7 x8) then (if (rd x7 x8) < (x1.length : Int) then (if (rd x1 (rd x7 x8)) = 1 then (sleuthref12_verdict.l0 k x1 x2 x7 (wrap64 (x8 + 1))) else (some (3, 0))) else (none)) else (none)) else (none)) else (some (1, x2))
def sleuthref12_verdict.f (k : Nat) (l0 : List (S66)) (l1 : List Int) (a2 : Int) : Option (Int × Int) := (sleuthref12_kids.f k l0 a2).bind fun t346 => (sleuthref12_verdict.l0 k l1 a2 t346 0)
theorem sleuthref12_verdict.calls (k : Nat) (A0 : Option Addr) (c0 : Nat) (l0 : List (S66)) (A1 : Option Addr) (c1 : Nat) (l1 : List Int) (a2 : Int) (r1 : Int) (r2 : Int) (w : World) (hr0 : Kd.C k66 w A0 l0.length l0) (hc0 : l0.length ≤ c0) (hr1 : Kd.C (Kd.int .i64) w A1 l1.length l1) (hc1 : l1.length ≤ c1) (h : sleuthref12_verdict.f k l0 l1 a2 = some (r1, r2)) :
 Calls Tryz.prog 56 #[.slice A0 l0.length c0, .slice A1 l1.length c1, .int .i64 a2] w fun e w' => e = .returned (.agg #[.int .i64 r1, .int .i64 r2]) ∧ Below w.heap.size w w' := by
 have hu49 := Tryz.underlying49
 have HR0 := a_ hr0
 have HC0 := a_ hc0
 clear hr0 hc0
 have HR1 := a_ hr1
 have HC1 := a_ hc1
 clear hr1 hc1
 have HB := a_ (Below.refl w.heap.size w)
 have H := h; unfold sleuthref12_verdict.f at H
 clear h
 replace H := Option.bind_eq_some_iff.mp H
 obtain ⟨t0, A40, H⟩ := H
 try dsimp only at H
 have A4 := a_ A40
 clear A40
 have H' := a_ H
 clear H
 go_enter Tryz.func56, Tryz.ntmps56
 go_wp2_with (first | ((with_reducible refine gate_dst (N := 6) rfl ?_); refine boxE_ 6 #[.int .i64 0, .int .i64 0] 49 ?_; intro g0 hg w5 hbox hb; have B0 := a_ (hbox); have E0 := a_ ((gE_ hg : w.heap.size ≤ g0)); replace HB := a_ (below_step hB_ hb); clear hb hbox hg) | ((with_reducible refine gate_callee (f := 54) rfl ?_); refine goesL_ (some 11) rfl rfl Tryz.func54 (by kernel_rfl) rfl #[.slice A0 l0.length c0, .int .i64 a2] rfl hL_ ?_; (with_reducible refine (sleuthref12_kids.calls k _ _ l0 a2 t0 _ ?s1 ?s2 A4.out).mono ?_); (case s1 => exact cB_ HR0.out); (case s2 => exact HC0.out); rintro e w6 ⟨v0, rfl, ho0, hb⟩; refine ⟨_, rfl, ?_⟩; have P0 := a_ (Kd.R_lower ho0 (below_size hC_)); replace B0 := a_ (bB_ B0.out hb); replace HB := a_ (below_step hC_ hb); (try clear hb); (try clear hb2); (try clear hk); (try clear hi); (try clear ho0)))
 (try simp only [Act.put, List.setIfInBounds_toArray, List.set_cons_zero, List.set_cons_succ])
 go_loopg [8] k (fun kq v8 w' => ∃ (x0 : Int) (x1 : Int) (x2 : Int), v8 = .int .i64 x0 ∧ Aside0 (sleuthref12_verdict.l0 kq l1 a2 t0 x0 = some (r1, r2)) ∧ Aside0 (kq ≤ k) ∧ Aside0 (Kd.R (Kd.int .i64) 3 w' w.heap.size (fun _ => True) v0 t0) ∧ Aside0 (w'.heap[g0]? = some (.cells #[.int .i64 x1, .int .i64 x2] 49 (0, 0))) ∧ Aside0 (Below w.heap.size w w'))
 case atStart => exact ⟨(0), (0), (0), hW_, H', ⟨Nat.le_refl _⟩, ⟨hR_ P0.out⟩, ⟨(hK_ B0.out)⟩, ⟨hC_⟩⟩
 case round =>
  clear H'
  try clear c1
  try clear p2
  try clear c5
  obtain ⟨x0, x1, x2, rfl, HA, HK1, O0, B0, HB⟩ := hrel
  cases gk with
  | zero => exact absurd HA.out (by simp [sleuthref12_verdict.l0])
  | succ k1 =>
   have H := HA.out
   clear HA
   simp only [sleuthref12_verdict.l0] at H
   by_cases c7 : x0 < (t0.length : Int)
   case neg =>
    rw [if_neg c7] at H
    have c7b0 : decide (x0 < (t0.length : Int)) = false := decide_eq_false c7
    clear c7
    simp only [Option.some.injEq, Prod.mk.injEq] at H
    obtain ⟨rfl, rfl⟩ := H
    obtain ⟨a0, o0, e0⟩ := Kd.R_slice O0.out
    subst e0
    obtain ⟨z0, z1, f0, f1⟩ := bx2_ B0.out
    go_wp2
    refine bodyPost_ret (results_cell_row rfl _ _ g0 49 #[.int .i64 1, .int .i64 a2] (0, 0) _ rfl (bP_ (bP_ (hK_ B0.out))) Tryz.underlying49 rfl (by kernel_rfl)) rfl ?_
    exact ⟨hV_, hC_⟩

   rw [if_pos c7] at H
   have c7b0 : decide (x0 < (t0.length : Int)) = true := decide_eq_true c7
   clear c7
   replace H := ifI_ H; obtain ⟨c8, H⟩ := H
   have c8b0 : decide (0 ≤ x0) = true := decide_eq_true c8
   clear c8
   replace H := ifI_ H; obtain ⟨c9, H⟩ := H
   have c9b0 : decide (0 ≤ (rd t0 x0)) = true := decide_eq_true c9
   clear c9
   replace H := ifI_ H; obtain ⟨c10, H⟩ := H
   have c10b0 : decide ((rd t0 x0) < (l1.length : Int)) = true := decide_eq_true c10
   clear c10
   by_cases c11 : (rd l1 (rd t0 x0)) = 1
   case pos =>
    rw [if_pos c11] at H
    have c11b0 : ((rd l1 (rd t0 x0)) == 1) = true := beq_iff_eq.mpr c11
    have c11b1 : ((rd l1 (rd t0 x0)) != 1) = false := bne_eq_false_iff_eq.mpr c11
    clear c11
    have H' := a_ H
    clear H
    obtain ⟨a1, o1, e1⟩ := Kd.R_slice O0.out
    subst e1
    have p349 : 0 ≤ (x0 : Int) := of_decide_eq_true hA_
    have q349 : x0 < (t0.length : Int) := of_decide_eq_true hA_
    obtain ⟨d0, e349, h1⟩ := Kd.at_int (Kd.R_reads' O0.out).2.2 x0 p349 q349
    cases e349
    replace p349 := eq_true p349
    replace q349 := eq_true q349
    have p350 : 0 ≤ ((rd t0 x0) : Int) := of_decide_eq_true hA_
    have q350 : (rd t0 x0) < (l1.length : Int) := of_decide_eq_true hA_
    obtain ⟨d1, e350, h0⟩ := Kd.at_int HR1.out (rd t0 x0) p350 q350
    cases e350
    replace h0 := cl_ HB.out h0
    replace p350 := eq_true p350
    replace q350 := eq_true q350
    go_wp2
    go_roundg k1
    case measure => have := HK1.out; omega
    case rel => exact ⟨(wrap64 (x0 + 1)), (x1), (x2), hW_, H', ⟨by have := HK1.out; omega⟩, ⟨hR_ O0.out⟩, ⟨(hK_ B0.out)⟩, ⟨hC_⟩⟩
   rw [if_neg c11] at H
   have c11b0 : ((rd l1 (rd t0 x0)) == 1) = false := beq_eq_false_iff_ne.mpr c11
   have c11b1 : ((rd l1 (rd t0 x0)) != 1) = true := bne_iff_ne.mpr c11
   simp only [Option.some.injEq, Prod.mk.injEq] at H
   obtain ⟨rfl, rfl⟩ := H
   obtain ⟨a3, o2, e2⟩ := Kd.R_slice O0.out
   subst e2
   have p349 : 0 ≤ (x0 : Int) := of_decide_eq_true hA_
   have q349 : x0 < (t0.length : Int) := of_decide_eq_true hA_
   obtain ⟨d0, e349, h1⟩ := Kd.at_int (Kd.R_reads' O0.out).2.2 x0 p349 q349
   cases e349
   replace p349 := eq_true p349
   replace q349 := eq_true q349
   have p350 : 0 ≤ ((rd t0 x0) : Int) := of_decide_eq_true hA_
   have q350 : (rd t0 x0) < (l1.length : Int) := of_decide_eq_true hA_
   obtain ⟨d1, e350, h0⟩ := Kd.at_int HR1.out (rd t0 x0) p350 q350
   cases e350
   replace h0 := cl_ HB.out h0
   replace p350 := eq_true p350
   replace q350 := eq_true q350
   obtain ⟨z2, z3, f2, f3⟩ := bx2_ B0.out
   go_wp2
   refine bodyPost_ret (results_cell_row rfl _ _ g0 49 #[.int .i64 3, .int .i64 0] (0, 0) _ rfl (bP_ (bP_ (hK_ B0.out))) Tryz.underlying49 rfl (by kernel_rfl)) rfl ?_
   exact ⟨hV_, hC_⟩
set_option maxHeartbeats 8000000
set_option maxRecDepth 100000
attribute [local go_sem] max2_int min2_int max_two min_two max_three min_three max_four min_four   -- for this text's walks alone
set_option linter.unusedVariables false
set_option linter.unusedSimpArgs false

def sleuthref12_topDown.l0 : Nat → List (S66) → List Int → Int → Option (Int × Int)
 | 0, _, _, _ => none
 | k + 1, x0, x1, x5 => (sleuthref12_kids.f k x0 x5).bind fun t356 => ((sleuthref12_firstOf.f k t356 x1 2).bind fun t359 => (if t359 < 0 then ((sleuthref12_kids.f k x0 x5).bind fun t360 => ((sleuthref12_firstOf.f k t360 x1 0).bind fun t363 => (if t363 ≥ 0 then (some (0, t363)) else ((sleuthref12_verdict.f k x0 x1 x5).bind fun bt364 => (some (bt364.1, bt364.2)))))) else (sleuthref12_topDown.l0 k x0 x1 t359)))
def sleuthref12_topDown.f (k : Nat) (l0 : List (S66)) (l1 : List Int) : Option (Int × Int) := if 0 < (l1.length : Int) then (if (rd l1 0) = 2 then (sleuthref12_topDown.l0 k l0 l1 0) else ((sleuthref12_rooted.f (rd l1 0)).bind fun bt354 => (some (bt354.1, bt354.2)))) else (none)
theorem sleuthref12_topDown.calls (k : Nat) (A0 : Option Addr) (c0 : Nat) (l0 : List (S66)) (A1 : Option Addr) (c1 : Nat) (l1 : List Int) (r1 : Int) (r2 : Int) (w : World) (hr0 : Kd.C k66 w A0 l0.length l0) (hc0 : l0.length ≤ c0) (hr1 : Kd.C (Kd.int .i64) w A1 l1.length l1) (hc1 : l1.length ≤ c1) (h : sleuthref12_topDown.f k l0 l1 = some (r1, r2)) :
 Calls Tryz.prog 46 #[.slice A0 l0.length c0, .slice A1 l1.length c1] w fun e w' => e = .returned (.agg #[.int .i64 r1, .int .i64 r2]) ∧ Below w.heap.size w w' := by
 have hu49 := Tryz.underlying49
 have HR0 := a_ hr0
 have HC0 := a_ hc0
 clear hr0 hc0
 have HR1 := a_ hr1
 have HC1 := a_ hc1
 clear hr1 hc1
 have HB := a_ (Below.refl w.heap.size w)
 have H := h; unfold sleuthref12_topDown.f at H
 clear h
 replace H := ifI_ H; obtain ⟨c3, H⟩ := H
 have c3b0 : decide (0 < (l1.length : Int)) = true := decide_eq_true c3
 have c3b1 : decide (0 < l1.length) = true := decide_eq_true (by omega)
 clear c3
 by_cases c4 : (rd l1 0) = 2
 case neg =>
  rw [if_neg c4] at H
  have c4b0 : ((rd l1 0) == 2) = false := beq_eq_false_iff_ne.mpr c4
  have c4b1 : ((rd l1 0) != 2) = true := bne_iff_ne.mpr c4
  replace H := Option.bind_eq_some_iff.mp H
  obtain ⟨⟨t4, t5⟩, A260, H⟩ := H
  try dsimp only at H
  have A26 := a_ A260
  clear A260
  simp only [Option.some.injEq, Prod.mk.injEq] at H
  obtain ⟨rfl, rfl⟩ := H
  go_enter Tryz.func46, Tryz.ntmps46
  go_wp2_with (first | ((with_reducible refine gate_dst (N := 4) rfl ?_); refine boxE_ 4 #[.int .i64 0, .int .i64 0] 49 ?_; intro g0 hg w4 hbox hb; have B0 := a_ (hbox); have E0 := a_ ((gE_ hg : w.heap.size ≤ g0)); replace HB := a_ (below_step hB_ hb); clear hb hbox hg; have p352 : 0 ≤ (0 : Int) := (by omega); have q352 : 0 < (l1.length : Int) := of_decide_eq_true hA_; obtain ⟨d0, e352, h0⟩ := Kd.at_int HR1.out 0 p352 q352; cases e352; have qi352 : (0 < l1.length) = True := eq_true (by omega); (try rw [show ((0 : Int)).toNat = 0 from rfl] at h0); (try rw [Addr.add_zero'] at h0); replace h0 := cl_ HB.out h0; replace p352 := eq_true p352; replace q352 := eq_true q352; have p353 : 0 ≤ (0 : Int) := (by omega); have q353 : 0 < (l1.length : Int) := of_decide_eq_true hA_; obtain ⟨d1, e353, h1⟩ := Kd.at_int HR1.out 0 p353 q353; obtain rfl : d0 = d1 := (by injection e353); have qi353 : (0 < l1.length) = True := eq_true (by omega); (try rw [show ((0 : Int)).toNat = 0 from rfl] at h1); (try rw [Addr.add_zero'] at h1); replace h1 := cl_ HB.out h1; replace p353 := eq_true p353; replace q353 := eq_true q353) | ((with_reducible refine gate_callee (f := 53) rfl ?_); refine goesL_ (some 16) rfl rfl Tryz.func53 (by kernel_rfl) rfl #[.int .i64 (rd l1 0)] rfl hL_ ?_; (with_reducible refine (sleuthref12_rooted.calls (rd l1 0) t4 t5 _ A26.out).mono ?_); rintro e w6 ⟨rfl, hb⟩; refine ⟨_, rfl, ?_⟩; replace B0 := a_ (bB_ B0.out hb); replace HB := a_ (below_step hC_ hb); (try clear hb); (try clear hb2); (try clear hk); (try clear hi); obtain ⟨z0, z1, f0, f1⟩ := bx2_ B0.out))
  refine bodyPost_ret (results_cell_row rfl _ _ g0 49 #[.int .i64 t4, .int .i64 t5] (0, 0) _ rfl (bP_ (bP_ (hK_ B0.out))) Tryz.underlying49 rfl (by kernel_rfl)) rfl ?_
  exact ⟨hV_, hC_⟩
 rw [if_pos c4] at H
 have c4b0 : ((rd l1 0) == 2) = true := beq_iff_eq.mpr c4
 have c4b1 : ((rd l1 0) != 2) = false := bne_eq_false_iff_eq.mpr c4
 clear c4
 have H' := a_ H
 clear H
 go_enter Tryz.func46, Tryz.ntmps46
 go_wp2_with (first | ((with_reducible refine gate_dst (N := 4) rfl ?_); refine boxE_ 4 #[.int .i64 0, .int .i64 0] 49 ?_; intro g0 hg w5 hbox hb; have B0 := a_ (hbox); have E0 := a_ ((gE_ hg : w.heap.size ≤ g0)); replace HB := a_ (below_step hB_ hb); clear hb hbox hg; have p352 : 0 ≤ (0 : Int) := (by omega); have q352 : 0 < (l1.length : Int) := of_decide_eq_true hA_; obtain ⟨d0, e352, h0⟩ := Kd.at_int HR1.out 0 p352 q352; cases e352; have qi352 : (0 < l1.length) = True := eq_true (by omega); (try rw [show ((0 : Int)).toNat = 0 from rfl] at h0); (try rw [Addr.add_zero'] at h0); replace h0 := cl_ HB.out h0; replace p352 := eq_true p352; replace q352 := eq_true q352))
 (try simp only [Act.put, List.setIfInBounds_toArray, List.set_cons_zero, List.set_cons_succ])
 go_loopg [5] k (fun kq v5 w' => ∃ (x0 : Int), v5 = .int .i64 x0 ∧ Aside0 (sleuthref12_topDown.l0 kq l0 l1 x0 = some (r1, r2)) ∧ Aside0 (kq ≤ k) ∧ Aside0 (w'.heap[g0]? = some (.cells #[.int .i64 0, .int .i64 0] 49 (0, 0))) ∧ Aside0 (Below w.heap.size w w'))
 case atStart => exact ⟨(0), hW_, H', ⟨Nat.le_refl _⟩, ⟨(hK_ B0.out)⟩, ⟨hC_⟩⟩
 case round =>
  clear H'
  try clear c1
  try clear p2
  try clear c3
  try clear c3b0
  try clear c3b1
  try clear p3
  try clear q3
  try clear h2
  try clear qi3
  try clear c4
  try clear c4b0
  try clear c4b1
  try clear h0
  try clear p352
  try clear q352
  obtain ⟨x0, rfl, HA, HK1, B0, HB⟩ := hrel
  cases gk with
  | zero => exact absurd HA.out (by simp [sleuthref12_topDown.l0])
  | succ k1 =>
   have H := HA.out
   clear HA
   simp only [sleuthref12_topDown.l0] at H
   replace H := Option.bind_eq_some_iff.mp H
   obtain ⟨t0, A60, H⟩ := H
   try dsimp only at H
   have A6 := a_ A60
   clear A60
   replace H := Option.bind_eq_some_iff.mp H
   obtain ⟨t2, A70, H⟩ := H
   try dsimp only at H
   have A7 := a_ A70
   clear A70
   by_cases c8 : t2 < 0
   case neg =>
    rw [if_neg c8] at H
    have c8b0 : decide (t2 < 0) = false := decide_eq_false c8
    clear c8
    have H' := a_ H
    clear H
    go_wp2_with (first | ((with_reducible refine gate_callee (f := 54) rfl ?_); refine goesL_ (some 19) rfl rfl Tryz.func54 (by kernel_rfl) rfl #[.slice A0 l0.length c0, .int .i64 x0] rfl hL_ ?_; (with_reducible refine (sleuthref12_kids.calls k1 _ _ l0 x0 t0 _ ?s1 ?s2 A6.out).mono ?_); (case s1 => exact cB_ HR0.out); (case s2 => exact HC0.out); rintro e w7 ⟨v0, rfl, ho0, hb⟩; refine ⟨_, rfl, ?_⟩; have P0 := a_ (Kd.R_lower ho0 (below_size hC_)); replace B0 := a_ (bB_ B0.out hb); replace HB := a_ (below_step hC_ hb); (try clear hb); (try clear hb2); (try clear hk); (try clear hi); (try clear ho0); obtain ⟨a4, o4, e0⟩ := Kd.R_slice P0.out; subst e0) | ((with_reducible refine gate_callee (f := 55) rfl ?_); refine goesL_ _ rfl rfl Tryz.func55 (by kernel_rfl) rfl #[.slice a4 t0.length o4, .slice (some d0) l1.length c1, .int .i64 2] rfl hL_ ?_; (with_reducible refine (sleuthref12_firstOf.calls k1 _ _ t0 _ _ l1 2 t2 _ ?s1 ?s2 ?s3 ?s4 A7.out).mono ?_); (case s1 => exact cC_ (Kd.R_reads' P0.out).2.2); (case s2 => exact (Kd.R_reads' P0.out).2.1); (case s3 => exact cB_ HR1.out); (case s4 => exact HC1.out); rintro e w' ⟨rfl, ⟨nd, rfl⟩⟩; refine ⟨_, rfl, ?_⟩))
    go_roundg k1
    case measure => have := HK1.out; omega
    case rel => exact ⟨(t2), hW_, H', ⟨by have := HK1.out; omega⟩, ⟨(hK_ B0.out)⟩, ⟨hC_⟩⟩
   rw [if_pos c8] at H
   have c8b0 : decide (t2 < 0) = true := decide_eq_true c8
   clear c8
   replace H := Option.bind_eq_some_iff.mp H
   obtain ⟨t1, A90, H⟩ := H
   try dsimp only at H
   have A9 := a_ A90
   clear A90
   replace H := Option.bind_eq_some_iff.mp H
   obtain ⟨t3, A100, H⟩ := H
   try dsimp only at H
   have A10 := a_ A100
   clear A100
   by_cases c11 : t3 ≥ 0
   case pos =>
    rw [if_pos c11] at H
    have c11b0 : decide (0 ≤ t3) = true := decide_eq_true c11
    clear c11
    simp only [Option.some.injEq, Prod.mk.injEq] at H
    obtain ⟨rfl, rfl⟩ := H
    go_wp2_with (first | ((with_reducible refine gate_callee (f := 54) rfl ?_); refine goesL_ (some 19) rfl rfl Tryz.func54 (by kernel_rfl) rfl #[.slice A0 l0.length c0, .int .i64 x0] rfl hL_ ?_; (with_reducible refine (sleuthref12_kids.calls k1 _ _ l0 x0 t0 _ ?s1 ?s2 A6.out).mono ?_); (case s1 => exact cB_ HR0.out); (case s2 => exact HC0.out); rintro e w2 ⟨v0, rfl, ho0, hb⟩; refine ⟨_, rfl, ?_⟩; have P0 := a_ (Kd.R_lower ho0 (below_size hC_)); replace B0 := a_ (bB_ B0.out hb); replace HB := a_ (below_step hC_ hb); (try clear hb); (try clear hb2); (try clear hk); (try clear hi); (try clear ho0); obtain ⟨a0, o0, e1⟩ := Kd.R_slice P0.out; subst e1) | ((with_reducible refine gate_callee (f := 55) rfl ?_); refine goesL_ _ rfl rfl Tryz.func55 (by kernel_rfl) rfl #[.slice a0 t0.length o0, .slice (some d0) l1.length c1, .int .i64 2] rfl hL_ ?_; (with_reducible refine (sleuthref12_firstOf.calls k1 _ _ t0 _ _ l1 2 t2 _ ?s1 ?s2 ?s3 ?s4 A7.out).mono ?_); (case s1 => exact cC_ (Kd.R_reads' P0.out).2.2); (case s2 => exact (Kd.R_reads' P0.out).2.1); (case s3 => exact cB_ HR1.out); (case s4 => exact HC1.out); rintro e w' ⟨rfl, ⟨nd, rfl⟩⟩; refine ⟨_, rfl, ?_⟩; (try (rw [drewN_self w2]; generalize hq_ : World.drewN w2 _ = w2; replace P0 : Aside0 (Kd.R (Kd.int .i64) 3 w2 w.heap.size (fun _ => True) (.slice a0 t0.length o0) t0) := ⟨by rw [← hq_]; exact (hR_ P0.out)⟩; replace B0 : Aside0 (w2.heap[g0]? = some (.cells #[.int .i64 0, .int .i64 0] 49 (0, 0))) := ⟨by rw [← hq_]; exact (hK_ B0.out)⟩; replace HB : Aside0 (Below w.heap.size w w2) := ⟨by rw [← hq_]; exact hC_⟩; clear hq_; (try have hcu0_0 := bc0_ B0.out); (try have hfu0_0 := blk_frozen B0.out 0); (try have hcu0_1 := bc1_ B0.out); (try have hfu0_1 := blk_frozen B0.out 1)))) | ((with_reducible refine gate_callee (f := 54) rfl ?_); refine goesL_ (some 28) rfl rfl Tryz.func54 (by kernel_rfl) rfl #[.slice A0 l0.length c0, .int .i64 x0] rfl hL_ ?_; (with_reducible refine (sleuthref12_kids.calls k1 _ _ l0 x0 t1 _ ?s1 ?s2 A9.out).mono ?_); (case s1 => exact cB_ HR0.out); (case s2 => exact HC0.out); rintro e w0 ⟨v1, rfl, ho0, hb⟩; refine ⟨_, rfl, ?_⟩; have P1 := a_ (Kd.R_lower (Kd.R_new' ho0 (Kd.R_lt (hR_ P0.out))) (below_size hC_)); replace P0 := a_ (Kd.R_elder' (hR_ P0.out) (Kd.R_base ho0) hb); replace B0 := a_ (bB_ B0.out hb); replace HB := a_ (below_step hC_ hb); (try clear hb); (try clear hb2); (try clear hk); (try clear hi); (try clear ho0); obtain ⟨a2, o2, e2⟩ := Kd.R_slice P1.out; subst e2) | ((with_reducible refine gate_callee (f := 55) rfl ?_); refine goesL_ _ rfl rfl Tryz.func55 (by kernel_rfl) rfl #[.slice a2 t1.length o2, .slice (some d0) l1.length c1, .int .i64 0] rfl hL_ ?_; (with_reducible refine (sleuthref12_firstOf.calls k1 _ _ t1 _ _ l1 0 t3 _ ?s1 ?s2 ?s3 ?s4 A10.out).mono ?_); (case s1 => exact cC_ (Kd.R_reads' P1.out).2.2); (case s2 => exact (Kd.R_reads' P1.out).2.1); (case s3 => exact cB_ HR1.out); (case s4 => exact HC1.out); rintro e w' ⟨rfl, ⟨nd, rfl⟩⟩; refine ⟨_, rfl, ?_⟩; (try (rw [drewN_self w0]; generalize hq_ : World.drewN w0 _ = w0; replace P0 : Aside0 (Kd.R (Kd.int .i64) 3 w0 w.heap.size (fun k_ => some k_ ≠ (.slice a2 t1.length o2 : Value).ownBlock) (.slice a0 t0.length o0) t0) := ⟨by rw [← hq_]; exact (by (with_reducible repeat (first | apply Kd.R_alloc | apply Kd.R_drewN | apply Kd.R_drew)); exact Kd.R_mono P0.out (fun _ hk => hk.2))⟩; replace P1 : Aside0 (Kd.R (Kd.int .i64) 3 w0 w.heap.size (fun k_ => some k_ ≠ (.slice a0 t0.length o0 : Value).ownBlock) (.slice a2 t1.length o2) t1) := ⟨by rw [← hq_]; exact (by (with_reducible repeat (first | apply Kd.R_alloc | apply Kd.R_drewN | apply Kd.R_drew)); exact Kd.R_mono P1.out (fun _ hk => hk.2))⟩; replace B0 : Aside0 (w0.heap[g0]? = some (.cells #[.int .i64 0, .int .i64 0] 49 (0, 0))) := ⟨by rw [← hq_]; exact (hK_ B0.out)⟩; replace HB : Aside0 (Below w.heap.size w w0) := ⟨by rw [← hq_]; exact hC_⟩; clear hq_; (try have hcu0_0 := bc0_ B0.out); (try have hfu0_0 := blk_frozen B0.out 0); (try have hcu0_1 := bc1_ B0.out); (try have hfu0_1 := blk_frozen B0.out 1))); obtain ⟨z2, z3, f2, f3⟩ := bx2_ B0.out))
    refine bodyPost_ret (results_cell_row rfl _ _ g0 49 #[.int .i64 0, .int .i64 t3] (0, 0) _ rfl (bP_ (bP_ (hK_ B0.out))) Tryz.underlying49 rfl (by kernel_rfl)) rfl ?_
    exact ⟨hV_, hC_⟩
   rw [if_neg c11] at H
   have c11b0 : decide (0 ≤ t3) = false := decide_eq_false c11
   clear c11
   replace H := Option.bind_eq_some_iff.mp H
   obtain ⟨⟨t6, t7⟩, A170, H⟩ := H
   try dsimp only at H
   have A17 := a_ A170
   clear A170
   simp only [Option.some.injEq, Prod.mk.injEq] at H
   obtain ⟨rfl, rfl⟩ := H
   go_wp2_with (first | ((with_reducible refine gate_callee (f := 54) rfl ?_); refine goesL_ (some 19) rfl rfl Tryz.func54 (by kernel_rfl) rfl #[.slice A0 l0.length c0, .int .i64 x0] rfl hL_ ?_; (with_reducible refine (sleuthref12_kids.calls k1 _ _ l0 x0 t0 _ ?s1 ?s2 A6.out).mono ?_); (case s1 => exact cB_ HR0.out); (case s2 => exact HC0.out); rintro e w3 ⟨v0, rfl, ho0, hb⟩; refine ⟨_, rfl, ?_⟩; have P0 := a_ (Kd.R_lower ho0 (below_size hC_)); replace B0 := a_ (bB_ B0.out hb); replace HB := a_ (below_step hC_ hb); (try clear hb); (try clear hb2); (try clear hk); (try clear hi); (try clear ho0); obtain ⟨a1, o1, e3⟩ := Kd.R_slice P0.out; subst e3) | ((with_reducible refine gate_callee (f := 55) rfl ?_); refine goesL_ _ rfl rfl Tryz.func55 (by kernel_rfl) rfl #[.slice a1 t0.length o1, .slice (some d0) l1.length c1, .int .i64 2] rfl hL_ ?_; (with_reducible refine (sleuthref12_firstOf.calls k1 _ _ t0 _ _ l1 2 t2 _ ?s1 ?s2 ?s3 ?s4 A7.out).mono ?_); (case s1 => exact cC_ (Kd.R_reads' P0.out).2.2); (case s2 => exact (Kd.R_reads' P0.out).2.1); (case s3 => exact cB_ HR1.out); (case s4 => exact HC1.out); rintro e w' ⟨rfl, ⟨nd, rfl⟩⟩; refine ⟨_, rfl, ?_⟩; (try (rw [drewN_self w3]; generalize hq_ : World.drewN w3 _ = w3; replace P0 : Aside0 (Kd.R (Kd.int .i64) 3 w3 w.heap.size (fun _ => True) (.slice a1 t0.length o1) t0) := ⟨by rw [← hq_]; exact (hR_ P0.out)⟩; replace B0 : Aside0 (w3.heap[g0]? = some (.cells #[.int .i64 0, .int .i64 0] 49 (0, 0))) := ⟨by rw [← hq_]; exact (hK_ B0.out)⟩; replace HB : Aside0 (Below w.heap.size w w3) := ⟨by rw [← hq_]; exact hC_⟩; clear hq_; (try have hcu0_0 := bc0_ B0.out); (try have hfu0_0 := blk_frozen B0.out 0); (try have hcu0_1 := bc1_ B0.out); (try have hfu0_1 := blk_frozen B0.out 1)))) | ((with_reducible refine gate_callee (f := 54) rfl ?_); refine goesL_ (some 28) rfl rfl Tryz.func54 (by kernel_rfl) rfl #[.slice A0 l0.length c0, .int .i64 x0] rfl hL_ ?_; (with_reducible refine (sleuthref12_kids.calls k1 _ _ l0 x0 t1 _ ?s1 ?s2 A9.out).mono ?_); (case s1 => exact cB_ HR0.out); (case s2 => exact HC0.out); rintro e w1 ⟨v1, rfl, ho0, hb⟩; refine ⟨_, rfl, ?_⟩; have P1 := a_ (Kd.R_lower (Kd.R_new' ho0 (Kd.R_lt (hR_ P0.out))) (below_size hC_)); replace P0 := a_ (Kd.R_elder' (hR_ P0.out) (Kd.R_base ho0) hb); replace B0 := a_ (bB_ B0.out hb); replace HB := a_ (below_step hC_ hb); (try clear hb); (try clear hb2); (try clear hk); (try clear hi); (try clear ho0); obtain ⟨a3, o3, e4⟩ := Kd.R_slice P1.out; subst e4) | ((with_reducible refine gate_callee (f := 55) rfl ?_); refine goesL_ _ rfl rfl Tryz.func55 (by kernel_rfl) rfl #[.slice a3 t1.length o3, .slice (some d0) l1.length c1, .int .i64 0] rfl hL_ ?_; (with_reducible refine (sleuthref12_firstOf.calls k1 _ _ t1 _ _ l1 0 t3 _ ?s1 ?s2 ?s3 ?s4 A10.out).mono ?_); (case s1 => exact cC_ (Kd.R_reads' P1.out).2.2); (case s2 => exact (Kd.R_reads' P1.out).2.1); (case s3 => exact cB_ HR1.out); (case s4 => exact HC1.out); rintro e w' ⟨rfl, ⟨nd, rfl⟩⟩; refine ⟨_, rfl, ?_⟩; (try (rw [drewN_self w1]; generalize hq_ : World.drewN w1 _ = w1; replace P0 : Aside0 (Kd.R (Kd.int .i64) 3 w1 w.heap.size (fun k_ => some k_ ≠ (.slice a3 t1.length o3 : Value).ownBlock) (.slice a1 t0.length o1) t0) := ⟨by rw [← hq_]; exact (by (with_reducible repeat (first | apply Kd.R_alloc | apply Kd.R_drewN | apply Kd.R_drew)); exact Kd.R_mono P0.out (fun _ hk => hk.2))⟩; replace P1 : Aside0 (Kd.R (Kd.int .i64) 3 w1 w.heap.size (fun k_ => some k_ ≠ (.slice a1 t0.length o1 : Value).ownBlock) (.slice a3 t1.length o3) t1) := ⟨by rw [← hq_]; exact (by (with_reducible repeat (first | apply Kd.R_alloc | apply Kd.R_drewN | apply Kd.R_drew)); exact Kd.R_mono P1.out (fun _ hk => hk.2))⟩; replace B0 : Aside0 (w1.heap[g0]? = some (.cells #[.int .i64 0, .int .i64 0] 49 (0, 0))) := ⟨by rw [← hq_]; exact (hK_ B0.out)⟩; replace HB : Aside0 (Below w.heap.size w w1) := ⟨by rw [← hq_]; exact hC_⟩; clear hq_; (try have hcu0_0 := bc0_ B0.out); (try have hfu0_0 := blk_frozen B0.out 0); (try have hcu0_1 := bc1_ B0.out); (try have hfu0_1 := blk_frozen B0.out 1)))) | ((with_reducible refine gate_callee (f := 56) rfl ?_); refine goesL_ (some 38) rfl rfl Tryz.func56 (by kernel_rfl) rfl #[.slice A0 l0.length c0, .slice (some d0) l1.length c1, .int .i64 x0] rfl hL_ ?_; (with_reducible refine (sleuthref12_verdict.calls k1 _ _ l0 _ _ l1 x0 t6 t7 _ ?s1 ?s2 ?s3 ?s4 A17.out).mono ?_); (case s1 => exact cB_ HR0.out); (case s2 => exact HC0.out); (case s3 => exact cB_ HR1.out); (case s4 => exact HC1.out); rintro e w8 ⟨rfl, hb⟩; refine ⟨_, rfl, ?_⟩; replace P0 := a_ (Kd.R_below (hR_ P0.out) hb); replace P1 := a_ (Kd.R_below (hR_ P1.out) hb); replace B0 := a_ (bB_ B0.out hb); replace HB := a_ (below_step hC_ hb); (try clear hb); (try clear hb2); (try clear hk); (try clear hi); obtain ⟨z4, z5, f4, f5⟩ := bx2_ B0.out))
   refine bodyPost_ret (results_cell_row rfl _ _ g0 49 #[.int .i64 t6, .int .i64 t7] (0, 0) _ rfl (bP_ (bP_ (hK_ B0.out))) Tryz.underlying49 rfl (by kernel_rfl)) rfl ?_
   exact ⟨hV_, hC_⟩
end Go.Proofs.YtbnljapgnfmmoaaGreatDoor.G
end
