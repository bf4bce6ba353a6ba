/- Parts of this proof, one behind the other: G47, NextVals, G41, G42, G43, G44, SessVals, G40. -/
import Derived.Test.YtgokcaccamfgfaaDoorG0
import Derived.Test.YtgokcaccamfgfaaDoorU12
import Derived.Test.YtgokcaccamfgfaaDoorU7
import Derived.Test.YtgokcaccamfgfaaDoorU8
import Derived.Test.YtgokcaccamfgfaaDoorU9
section
-- Laid by the session's own driver gp.py over the kit's printer. Not trusted: Lean checks it.
namespace Go.Proofs.YtgokcaccamfgfaaDoor.G
open Go.RowKit Go.Proofs.YtgokcaccamfgfaaDoorW.PrintWords Go.Proofs.YtgokcaccamfgfaaDoorW.PrintLast Go.Proofs.YtgokcaccamfgfaaDoorW.PrintMore
attribute [local go_sem] max2_int min2_int max_two min_two max_three min_three max_four min_four   -- for this text's walks alone
set_option linter.unusedVariables false
set_option linter.unusedSimpArgs false

attribute [local go_sem high] eqA26
/-! ### sleuthlaw0_SameAnswers: function 37 -/
def sleuthlaw0_SameAnswers.l0 : Nat → List (S26) → List (S26) → Int → Option (Bool)
  | 0, _, _, _ => none
  | k + 1, x0, x1, x5 => if x5 < (x0.length : Int) then (if 0 ≤ x5 then (if x5 < (x1.length : Int) then (if (!(((rd_T26 x0 x5).f0) == ((rd_T26 x1 x5).f0)) || (!(((rd_T26 x0 x5).f1) == ((rd_T26 x1 x5).f1)))) = true then (some false) else (sleuthlaw0_SameAnswers.l0 k x0 x1 (wrap64 (x5 + 1)))) else (none)) else (none)) else (some true)
def sleuthlaw0_SameAnswers.f (k : Nat) (l0 : List (S26)) (l1 : List (S26)) : Option (Bool) := if (l0.length : Int) = (l1.length : Int) then (sleuthlaw0_SameAnswers.l0 k l0 l1 0) else (some false)
theorem sleuthlaw0_SameAnswers.mono_l : ∀ k, (∀ y0 y1 y2, LeO (sleuthlaw0_SameAnswers.l0 k y0 y1 y2) (sleuthlaw0_SameAnswers.l0 (k + 1) y0 y1 y2))
  | 0 => fun _ _ _ r h => by simp [sleuthlaw0_SameAnswers.l0] at h
  | k + 1 => by
    have ih0 := sleuthlaw0_SameAnswers.mono_l k
    · intro y0 y1 y2
      unfold sleuthlaw0_SameAnswers.l0
      repeat' first
      | (with_reducible exact ih0 _ _ _)
      | (with_reducible exact LeO.refl _)
      | (with_reducible exact LeO.none _)
      | (with_reducible refine LeO.ite ?_ ?_)
      | (with_reducible refine LeO.bind ?_ (fun _ => ?_))
      | exact ih0 _ _ _
      | exact LeO.none _
      | refine LeO.ite ?_ ?_
      | refine LeO.bind ?_ (fun _ => ?_)
theorem sleuthlaw0_SameAnswers.mono : ∀ a0 a1 k, LeO (sleuthlaw0_SameAnswers.f k a0 a1) (sleuthlaw0_SameAnswers.f (k + 1) a0 a1) := by
  intro a0 a1 k
  have ih0 := sleuthlaw0_SameAnswers.mono_l k
  unfold sleuthlaw0_SameAnswers.f
  repeat' first
      | (with_reducible exact ih0 _ _ _)
      | (with_reducible exact LeO.refl _)
      | (with_reducible exact LeO.none _)
      | (with_reducible refine LeO.ite ?_ ?_)
      | (with_reducible refine LeO.bind ?_ (fun _ => ?_))
      | exact ih0 _ _ _
      | exact LeO.none _
      | refine LeO.ite ?_ ?_
      | refine LeO.bind ?_ (fun _ => ?_)
set_option maxHeartbeats 8000000 in
set_option maxRecDepth 100000 in
theorem sleuthlaw0_SameAnswers.calls (k : Nat) (A0 : Option Addr) (c0 : Nat) (l0 : List (S26)) (A1 : Option Addr) (c1 : Nat) (l1 : List (S26)) (r : Bool) (w : World) (hr0 : Kd.C k26 w A0 l0.length l0) (hc0 : l0.length ≤ c0) (hr1 : Kd.C k26 w A1 l1.length l1) (hc1 : l1.length ≤ c1) (h : sleuthlaw0_SameAnswers.f k l0 l1 = some r) :
    Calls Tryd.prog 37 #[.slice A0 l0.length c0, .slice A1 l1.length c1] w fun e w' => e = .returned (.bool r) ∧ Drawn0 w w' := by
  have hu26 := Tryd.underlying26
  have HR0 := Aside0.mk hr0
  have HC0 := Aside0.mk hc0
  clear hr0 hc0
  have HR1 := Aside0.mk hr1
  have HC1 := Aside0.mk hc1
  clear hr1 hc1
  have H : (if (l0.length : Int) = (l1.length : Int) then (sleuthlaw0_SameAnswers.l0 k l0 l1 0) else (some false)) = some r := h
  clear h
  by_cases c3 : (l0.length : Int) = (l1.length : Int)
  case neg =>
    rw [if_neg c3] at H
    have c3b0 : ((l0.length : Int) == (l1.length : Int)) = false := beq_eq_false_iff_ne.mpr c3
    have c3b1 : ((l0.length : Int) != (l1.length : Int)) = true := bne_iff_ne.mpr c3
    have c3b2 : (l0.length == l1.length) = false := by first | simpa using c3 | (simp at c3 ⊢; omega)
    obtain rfl := Option.some.inj H
    go_enter Tryd.func37, Tryd.ntmps37
    go_wp2
    repeat (go_quiet (fail); try go_wp2)
    go_ret
    exact ⟨by first | rfl | (simp; done) | (simp [*]; done), by repeat (first | exact Drawn0.refl _ | apply Drawn0.step)⟩

  rw [if_pos c3] at H
  have c3b0 : ((l0.length : Int) == (l1.length : Int)) = true := beq_iff_eq.mpr c3
  have c3b1 : ((l0.length : Int) != (l1.length : Int)) = false := bne_eq_false_iff_eq.mpr c3
  have c3b2 : (l0.length == l1.length) = true := by first | simpa using c3 | (simp at c3 ⊢; omega)
  clear c3
  have H' := Aside0.mk H
  clear H
  go_enter Tryd.func37, Tryd.ntmps37
  go_wp2
  repeat (go_quiet (fail); try go_wp2)
  go_loopg [5] k (fun kq v5 w' => ∃ (x5_1 : Int), v5 = .int .i64 x5_1 ∧ Aside0 (sleuthlaw0_SameAnswers.l0 kq l0 l1 x5_1 = some r) ∧ Aside0 (kq ≤ k) ∧ Drawn0 w w')
  case atStart => exact ⟨(0), hW_, H', ⟨Nat.le_refl _⟩, by repeat (first | exact Drawn0.refl _ | apply Drawn0.step)⟩
  case round =>
    clear H'
    try clear c1
    try clear p2
    try clear c3
    try clear c3b0
    try clear c3b1
    try clear c3b2
    obtain ⟨x5_1, rfl, HA, HK1, ⟨m1, rfl⟩⟩ := hrel
    cases gk with
    | zero => exact absurd HA.out (by simp [sleuthlaw0_SameAnswers.l0])
    | succ k1 =>
      have H := HA.out
      clear HA
      simp only [sleuthlaw0_SameAnswers.l0] at H
      by_cases c4 : x5_1 < (l0.length : Int)
      case neg =>
        rw [if_neg c4] at H
        have c4b0 : decide (x5_1 < (l0.length : Int)) = false := decide_eq_false c4
        clear c4
        obtain rfl := Option.some.inj H
        go_wp2
        repeat (go_quiet (fail); try go_wp2)
        go_ret
        exact ⟨by first | rfl | (simp; done) | (simp [*]; done), by repeat (first | exact Drawn0.refl _ | apply Drawn0.step)⟩
      rw [if_pos c4] at H
      have c4b0 : decide (x5_1 < (l0.length : Int)) = true := decide_eq_true c4
      clear c4
      replace H := ifI_ H; obtain ⟨c5, H⟩ := H
      have c5b0 : decide (0 ≤ x5_1) = true := decide_eq_true c5
      clear c5
      replace H := ifI_ H; obtain ⟨c6, H⟩ := H
      have c6b0 : decide (x5_1 < (l1.length : Int)) = true := decide_eq_true c6
      clear c6
      by_cases c7 : (!(((rd_T26 l0 x5_1).f0) == ((rd_T26 l1 x5_1).f0)) || (!(((rd_T26 l0 x5_1).f1) == ((rd_T26 l1 x5_1).f1)))) = true
      case pos =>
        rw [if_pos c7] at H
        have c7b0 : (!(((rd_T26 l0 x5_1).f0) == ((rd_T26 l1 x5_1).f0)) || (!(((rd_T26 l0 x5_1).f1) == ((rd_T26 l1 x5_1).f1)))) = true := c7
        clear c7
        obtain rfl := Option.some.inj H
        have p462 : 0 ≤ (x5_1 : Int) := of_decide_eq_true hA_
        have q462 : x5_1 < (l0.length : Int) := of_decide_eq_true hA_
        obtain ⟨ad462, e462, hx462_0, hx462_1⟩ := at_T26 HR0.out x5_1 p462 q462
        cases e462
        replace p462 := eq_true p462
        replace q462 := eq_true q462
        have p463 : 0 ≤ (x5_1 : Int) := of_decide_eq_true hA_
        have q463 : x5_1 < (l1.length : Int) := of_decide_eq_true hA_
        obtain ⟨ad463, e463, hx463_0, hx463_1⟩ := at_T26 HR1.out x5_1 p463 q463
        cases e463
        replace p463 := eq_true p463
        replace q463 := eq_true q463
        go_wp2
        repeat (go_quiet (fail); try go_wp2)
        go_ret
        exact ⟨by first | rfl | (simp; done) | (simp [*]; done), by repeat (first | exact Drawn0.refl _ | apply Drawn0.step)⟩
      rw [if_neg c7] at H
      have c7b0 : (!(((rd_T26 l0 x5_1).f0) == ((rd_T26 l1 x5_1).f0)) || (!(((rd_T26 l0 x5_1).f1) == ((rd_T26 l1 x5_1).f1)))) = false := by simpa using c7
      clear c7
      have H' := Aside0.mk H
      clear H
      have p462 : 0 ≤ (x5_1 : Int) := of_decide_eq_true hA_
      have q462 : x5_1 < (l0.length : Int) := of_decide_eq_true hA_
      obtain ⟨ad462, e462, hx462_0, hx462_1⟩ := at_T26 HR0.out x5_1 p462 q462
      cases e462
      replace p462 := eq_true p462
      replace q462 := eq_true q462
      have p463 : 0 ≤ (x5_1 : Int) := of_decide_eq_true hA_
      have q463 : x5_1 < (l1.length : Int) := of_decide_eq_true hA_
      obtain ⟨ad463, e463, hx463_0, hx463_1⟩ := at_T26 HR1.out x5_1 p463 q463
      cases e463
      replace p463 := eq_true p463
      replace q463 := eq_true q463
      go_wp2
      repeat (go_quiet (fail); try go_wp2)
      go_roundg k1
      case measure => have := HK1.out; omega
      case rel => exact ⟨(wrap64 (x5_1 + 1)), hW_, H', ⟨by have := HK1.out; omega⟩, by repeat (first | exact Drawn0.refl _ | apply Drawn0.step)⟩
/-! ### sleuthlaw0_SameSession: function 24 -/
def sleuthlaw0_SameSession.f (k : Nat) (l0_0 : List (S33)) (a0_1 : Int) (l0_2 : List (S26)) (l1_0 : List (S33)) (a1_1 : Int) (l1_2 : List (S26)) : Option (Bool) := (sleuthlaw0_SameNodes.f k l0_0 l1_0).bind fun t466 => (if t466 = true then (if a0_1 = a1_1 then ((sleuthlaw0_SameAnswers.f k l0_2 l1_2).bind fun t467 => (some t467)) else (some false)) else (some false))
theorem sleuthlaw0_SameSession.mono : ∀ a0 a1 a2 a3 a4 a5 k, LeO (sleuthlaw0_SameSession.f k a0 a1 a2 a3 a4 a5) (sleuthlaw0_SameSession.f (k + 1) a0 a1 a2 a3 a4 a5) := by
  intro a0 a1 a2 a3 a4 a5 k
  unfold sleuthlaw0_SameSession.f
  repeat' first
      | (with_reducible exact sleuthlaw0_SameAnswers.mono _ _ _)
      | (with_reducible exact sleuthlaw0_SameNodes.mono _ _ _)
      | (with_reducible exact LeO.refl _)
      | (with_reducible exact LeO.none _)
      | (with_reducible refine LeO.ite ?_ ?_)
      | (with_reducible refine LeO.bind ?_ (fun _ => ?_))
      | exact sleuthlaw0_SameAnswers.mono _ _ _
      | exact sleuthlaw0_SameNodes.mono _ _ _
      | exact LeO.none _
      | refine LeO.ite ?_ ?_
      | refine LeO.bind ?_ (fun _ => ?_)
set_option maxHeartbeats 8000000 in
set_option maxRecDepth 100000 in
theorem sleuthlaw0_SameSession.calls (k : Nat) (A0_0 : Option Addr) (c0_0 : Nat) (l0_0 : List (S33)) (a0_1 : Int) (A0_2 : Option Addr) (c0_2 : Nat) (l0_2 : List (S26)) (A1_0 : Option Addr) (c1_0 : Nat) (l1_0 : List (S33)) (a1_1 : Int) (A1_2 : Option Addr) (c1_2 : Nat) (l1_2 : List (S26)) (r : Bool) (w : World) (hr0_0 : Kd.C k33 w A0_0 l0_0.length l0_0) (hc0_0 : l0_0.length ≤ c0_0) (hr0_2 : Kd.C k26 w A0_2 l0_2.length l0_2) (hc0_2 : l0_2.length ≤ c0_2) (hr1_0 : Kd.C k33 w A1_0 l1_0.length l1_0) (hc1_0 : l1_0.length ≤ c1_0) (hr1_2 : Kd.C k26 w A1_2 l1_2.length l1_2) (hc1_2 : l1_2.length ≤ c1_2) (h : sleuthlaw0_SameSession.f k l0_0 a0_1 l0_2 l1_0 a1_1 l1_2 = some r) :
    Calls Tryd.prog 24 #[.agg #[.slice A0_0 l0_0.length c0_0, .int .i64 a0_1, .slice A0_2 l0_2.length c0_2], .agg #[.slice A1_0 l1_0.length c1_0, .int .i64 a1_1, .slice A1_2 l1_2.length c1_2]] w fun e w' => e = .returned (.bool r) ∧ Below w.heap.size w w' := by
  have hu29 := Tryd.underlying29
  have HR0_0 := Aside0.mk hr0_0
  have HC0_0 := Aside0.mk hc0_0
  clear hr0_0 hc0_0
  have HR0_2 := Aside0.mk hr0_2
  have HC0_2 := Aside0.mk hc0_2
  clear hr0_2 hc0_2
  have HR1_0 := Aside0.mk hr1_0
  have HC1_0 := Aside0.mk hc1_0
  clear hr1_0 hc1_0
  have HR1_2 := Aside0.mk hr1_2
  have HC1_2 := Aside0.mk hc1_2
  clear hr1_2 hc1_2
  have HB := Aside0.mk (Below.refl w.heap.size w)
  have H : ((sleuthlaw0_SameNodes.f k l0_0 l1_0).bind fun t466 => (if t466 = true then (if a0_1 = a1_1 then ((sleuthlaw0_SameAnswers.f k l0_2 l1_2).bind fun t467 => (some t467)) else (some false)) else (some false))) = some r := h
  clear h
  replace H := Option.bind_eq_some_iff.mp H
  obtain ⟨t466, A30, H⟩ := H
  replace H : (if t466 = true then (if a0_1 = a1_1 then ((sleuthlaw0_SameAnswers.f k l0_2 l1_2).bind fun t467 => (some t467)) else (some false)) else (some false)) = some r := H
  have A3 := Aside0.mk A30
  clear A30
  by_cases c4 : t466 = true
  case neg =>
    replace c4 := Bool.eq_false_iff.mpr c4
    subst c4
    have H1 : (some false) = some r := by rw [if_neg (show ¬ (false = true) by decide)] at H; exact H
    clear H
    have H := H1
    clear H1
    obtain rfl := Option.some.inj H
    go_enter Tryd.func24, Tryd.ntmps24
    go_wp2_with (first | ((with_reducible refine gate_dst (N := 2) rfl ?_); refine boxE_ 2 #[.slice A0_0 l0_0.length c0_0, .int .i64 a0_1, .slice A0_2 l0_2.length c0_2] 29 ?_; intro gb464 hg w23 hbox hb; have n0_ := Aside0.mk (below_step hB_ hb); have n1_ := Aside0.mk (hbox); have n2_ := Aside0.mk ((gE_ hg : w.heap.size ≤ gb464)); have n3_ := Aside0.mk ((gE_ hg : w.heap.size ≤ gb464)); clear HB; have HB := n0_; have BK464 := n1_; have GW464 := n2_; have GE464 := n3_; clear n0_ n1_ n2_ n3_; clear hb hbox hg) | ((with_reducible refine gate_dst (N := 3) rfl ?_); refine boxE_ 3 #[.slice A1_0 l1_0.length c1_0, .int .i64 a1_1, .slice A1_2 l1_2.length c1_2] 29 ?_; intro gb465 hg w24 hbox hb; have n0_ := Aside0.mk (bB_ BK464.out hb); have n1_ := Aside0.mk (below_step hC_ hb); have n2_ := Aside0.mk (hbox); have n3_ := Aside0.mk ((gE_ hg : w.heap.size ≤ gb465)); have n4_ := Aside0.mk ((gE_ hg : w.heap.size ≤ gb465)); have n5_ := Aside0.mk ((bL_ BK464.out hg : gb464 ≠ gb465)); have n6_ := Aside0.mk ((bG_ BK464.out hg : gb465 ≠ gb464)); clear BK464 HB; have BK464 := n0_; have HB := n1_; have BK465 := n2_; have GW465 := n3_; have GE465 := n4_; have NB464_465 := n5_; have NB465_464 := n6_; clear n0_ n1_ n2_ n3_ n4_ n5_ n6_; clear hb hbox hg; have hnb25 := NB464_465.out; have hnc25 := NB465_464.out; obtain ⟨hcz26_0, hcz26_1, hcz26_2, hfz26_0, hfz26_1, hfz26_2⟩ := bx3_ BK464.out; obtain ⟨hcz27_0, hcz27_1, hcz27_2, hfz27_0, hfz27_1, hfz27_2⟩ := bx3_ BK465.out) | ((with_reducible refine gate_callee (f := 36) rfl ?_); refine goesL_ (some 9) rfl rfl Tryd.func36 (by kernel_rfl) rfl #[.slice A0_0 l0_0.length c0_0, .slice A1_0 l1_0.length c1_0] rfl hL_ ?_; (with_reducible refine (sleuthlaw0_SameNodes.calls k _ _ l0_0 _ _ l1_0 false _ ?side1 ?side2 ?side3 ?side4 A3.out).mono ?_); (case side1 => exact cB_ HR0_0.out); (case side2 => exact HC0_0.out); (case side3 => exact cB_ HR1_0.out); (case side4 => exact HC1_0.out); rintro e w28 ⟨rfl, hb⟩; refine ⟨_, rfl, ?_⟩; have n0_ := Aside0.mk (bB_ BK464.out hb); have n1_ := Aside0.mk (bB_ BK465.out hb); have n2_ := Aside0.mk (below_step hC_ hb); clear BK464 BK465 HB; have BK464 := n0_; have BK465 := n1_; have HB := n2_; clear n0_ n1_ n2_; (try clear hb); (try clear hb2); (try clear hk); (try clear hi)))
    go_ret
    exact ⟨hV_, hC_⟩

  subst c4
  have H1 : (if a0_1 = a1_1 then ((sleuthlaw0_SameAnswers.f k l0_2 l1_2).bind fun t467 => (some t467)) else (some false)) = some r := by rw [if_pos rfl] at H; exact H
  clear H
  have H := H1
  clear H1
  by_cases c5 : a0_1 = a1_1
  case neg =>
    rw [if_neg c5] at H
    have c5b0 : (a0_1 == a1_1) = false := beq_eq_false_iff_ne.mpr c5
    have c5b1 : (a0_1 != a1_1) = true := bne_iff_ne.mpr c5
    obtain rfl := Option.some.inj H
    go_enter Tryd.func24, Tryd.ntmps24
    go_wp2_with (first | ((with_reducible refine gate_dst (N := 2) rfl ?_); refine boxE_ 2 #[.slice A0_0 l0_0.length c0_0, .int .i64 a0_1, .slice A0_2 l0_2.length c0_2] 29 ?_; intro gb464 hg w15 hbox hb; have n0_ := Aside0.mk (below_step hB_ hb); have n1_ := Aside0.mk (hbox); have n2_ := Aside0.mk ((gE_ hg : w.heap.size ≤ gb464)); have n3_ := Aside0.mk ((gE_ hg : w.heap.size ≤ gb464)); clear HB; have HB := n0_; have BK464 := n1_; have GW464 := n2_; have GE464 := n3_; clear n0_ n1_ n2_ n3_; clear hb hbox hg) | ((with_reducible refine gate_dst (N := 3) rfl ?_); refine boxE_ 3 #[.slice A1_0 l1_0.length c1_0, .int .i64 a1_1, .slice A1_2 l1_2.length c1_2] 29 ?_; intro gb465 hg w16 hbox hb; have n0_ := Aside0.mk (bB_ BK464.out hb); have n1_ := Aside0.mk (below_step hC_ hb); have n2_ := Aside0.mk (hbox); have n3_ := Aside0.mk ((gE_ hg : w.heap.size ≤ gb465)); have n4_ := Aside0.mk ((gE_ hg : w.heap.size ≤ gb465)); have n5_ := Aside0.mk ((bL_ BK464.out hg : gb464 ≠ gb465)); have n6_ := Aside0.mk ((bG_ BK464.out hg : gb465 ≠ gb464)); clear BK464 HB; have BK464 := n0_; have HB := n1_; have BK465 := n2_; have GW465 := n3_; have GE465 := n4_; have NB464_465 := n5_; have NB465_464 := n6_; clear n0_ n1_ n2_ n3_ n4_ n5_ n6_; clear hb hbox hg; have hnb17 := NB464_465.out; have hnc17 := NB465_464.out; obtain ⟨hcz18_0, hcz18_1, hcz18_2, hfz18_0, hfz18_1, hfz18_2⟩ := bx3_ BK464.out; obtain ⟨hcz19_0, hcz19_1, hcz19_2, hfz19_0, hfz19_1, hfz19_2⟩ := bx3_ BK465.out) | ((with_reducible refine gate_callee (f := 36) rfl ?_); refine goesL_ (some 9) rfl rfl Tryd.func36 (by kernel_rfl) rfl #[.slice A0_0 l0_0.length c0_0, .slice A1_0 l1_0.length c1_0] rfl hL_ ?_; (with_reducible refine (sleuthlaw0_SameNodes.calls k _ _ l0_0 _ _ l1_0 true _ ?side1 ?side2 ?side3 ?side4 A3.out).mono ?_); (case side1 => exact cB_ HR0_0.out); (case side2 => exact HC0_0.out); (case side3 => exact cB_ HR1_0.out); (case side4 => exact HC1_0.out); rintro e w20 ⟨rfl, hb⟩; refine ⟨_, rfl, ?_⟩; have n0_ := Aside0.mk (bB_ BK464.out hb); have n1_ := Aside0.mk (bB_ BK465.out hb); have n2_ := Aside0.mk (below_step hC_ hb); clear BK464 BK465 HB; have BK464 := n0_; have BK465 := n1_; have HB := n2_; clear n0_ n1_ n2_; (try clear hb); (try clear hb2); (try clear hk); (try clear hi); obtain ⟨hcz21_0, hcz21_1, hcz21_2, hfz21_0, hfz21_1, hfz21_2⟩ := bx3_ BK464.out; obtain ⟨hcz22_0, hcz22_1, hcz22_2, hfz22_0, hfz22_1, hfz22_2⟩ := bx3_ BK465.out))
    go_ret
    exact ⟨hV_, hC_⟩
  rw [if_pos c5] at H
  have c5b0 : (a0_1 == a1_1) = true := beq_iff_eq.mpr c5
  have c5b1 : (a0_1 != a1_1) = false := bne_eq_false_iff_eq.mpr c5
  clear c5
  replace H := Option.bind_eq_some_iff.mp H
  obtain ⟨t467, A60, H⟩ := H
  replace H : (some t467) = some r := H
  have A6 := Aside0.mk A60
  clear A60
  obtain rfl := Option.some.inj H
  go_enter Tryd.func24, Tryd.ntmps24
  go_wp2_with (first | ((with_reducible refine gate_dst (N := 2) rfl ?_); refine boxE_ 2 #[.slice A0_0 l0_0.length c0_0, .int .i64 a0_1, .slice A0_2 l0_2.length c0_2] 29 ?_; intro gb464 hg w7 hbox hb; have n0_ := Aside0.mk (below_step hB_ hb); have n1_ := Aside0.mk (hbox); have n2_ := Aside0.mk ((gE_ hg : w.heap.size ≤ gb464)); have n3_ := Aside0.mk ((gE_ hg : w.heap.size ≤ gb464)); clear HB; have HB := n0_; have BK464 := n1_; have GW464 := n2_; have GE464 := n3_; clear n0_ n1_ n2_ n3_; clear hb hbox hg) | ((with_reducible refine gate_dst (N := 3) rfl ?_); refine boxE_ 3 #[.slice A1_0 l1_0.length c1_0, .int .i64 a1_1, .slice A1_2 l1_2.length c1_2] 29 ?_; intro gb465 hg w8 hbox hb; have n0_ := Aside0.mk (bB_ BK464.out hb); have n1_ := Aside0.mk (below_step hC_ hb); have n2_ := Aside0.mk (hbox); have n3_ := Aside0.mk ((gE_ hg : w.heap.size ≤ gb465)); have n4_ := Aside0.mk ((gE_ hg : w.heap.size ≤ gb465)); have n5_ := Aside0.mk ((bL_ BK464.out hg : gb464 ≠ gb465)); have n6_ := Aside0.mk ((bG_ BK464.out hg : gb465 ≠ gb464)); clear BK464 HB; have BK464 := n0_; have HB := n1_; have BK465 := n2_; have GW465 := n3_; have GE465 := n4_; have NB464_465 := n5_; have NB465_464 := n6_; clear n0_ n1_ n2_ n3_ n4_ n5_ n6_; clear hb hbox hg; have hnb9 := NB464_465.out; have hnc9 := NB465_464.out; obtain ⟨hcz10_0, hcz10_1, hcz10_2, hfz10_0, hfz10_1, hfz10_2⟩ := bx3_ BK464.out; obtain ⟨hcz11_0, hcz11_1, hcz11_2, hfz11_0, hfz11_1, hfz11_2⟩ := bx3_ BK465.out) | ((with_reducible refine gate_callee (f := 36) rfl ?_); refine goesL_ (some 9) rfl rfl Tryd.func36 (by kernel_rfl) rfl #[.slice A0_0 l0_0.length c0_0, .slice A1_0 l1_0.length c1_0] rfl hL_ ?_; (with_reducible refine (sleuthlaw0_SameNodes.calls k _ _ l0_0 _ _ l1_0 true _ ?side1 ?side2 ?side3 ?side4 A3.out).mono ?_); (case side1 => exact cB_ HR0_0.out); (case side2 => exact HC0_0.out); (case side3 => exact cB_ HR1_0.out); (case side4 => exact HC1_0.out); rintro e w12 ⟨rfl, hb⟩; refine ⟨_, rfl, ?_⟩; have n0_ := Aside0.mk (bB_ BK464.out hb); have n1_ := Aside0.mk (bB_ BK465.out hb); have n2_ := Aside0.mk (below_step hC_ hb); clear BK464 BK465 HB; have BK464 := n0_; have BK465 := n1_; have HB := n2_; clear n0_ n1_ n2_; (try clear hb); (try clear hb2); (try clear hk); (try clear hi); obtain ⟨hcz13_0, hcz13_1, hcz13_2, hfz13_0, hfz13_1, hfz13_2⟩ := bx3_ BK464.out; obtain ⟨hcz14_0, hcz14_1, hcz14_2, hfz14_0, hfz14_1, hfz14_2⟩ := bx3_ BK465.out) | (go_at_call 37; (with_reducible refine (sleuthlaw0_SameAnswers.calls k _ _ l0_2 _ _ l1_2 t467 _ ?side1 ?side2 ?side3 ?side4 A6.out).mono ?_); (case side1 => exact cB_ HR0_2.out); (case side2 => exact HC0_2.out); (case side3 => exact cB_ HR1_2.out); (case side4 => exact HC1_2.out); rintro e w' ⟨rfl, ⟨nd, rfl⟩⟩))
  go_ret
  exact ⟨hV_, hC_⟩
end Go.Proofs.YtgokcaccamfgfaaDoor.G
end
section
/- What package next answers, and the document's answer, as plain functions. -/
namespace Go.Proofs.YtgokcaccamfgfaaDoor.G
open Go.RowKit Go.Proofs.YtgokcaccamfgfaaDoorW.PrintWords Go.Proofs.YtgokcaccamfgfaaDoorW.PrintLast Go.Proofs.YtgokcaccamfgfaaDoorW.PrintMore
set_option linter.unusedVariables false
set_option linter.unusedSimpArgs false
abbrev An := S26
abbrev ra (zs : List An) (i : Int) : An := rd_T26 zs i
def fineA (l : List An) : Prop := l.length * 16 ≤ 140737488351232 ∧ ∀ x ∈ l, (Lit.int .i64 x.f0).wf = true ∧ (Lit.int .i64 x.f1).wf = true
theorem drop_ra (l : List An) (i : Nat) (h : i < l.length) : l.drop i = ra l (i : Int) :: l.drop (i + 1) := by
  rw [List.drop_eq_getElem_cons h]
  congr 1
  show _ = List.getD _ _ _
  rw [Int.toNat_natCast, List.getD_eq_getElem?_getD, List.getElem?_eq_getElem h]; rfl
def markB (x : Int) : Bool := decide (1 ≤ x) && decide (x ≤ 3)
theorem markB_spec {x : Int} (h : markB x = true) : 1 ≤ x ∧ x ≤ 3 := by
  unfold markB at h
  rw [Bool.and_eq_true, decide_eq_true_iff, decide_eq_true_iff] at h
  exact h
theorem mark_eq (x : Int) : next_Mark.f x = some (markB x) := by
  unfold next_Mark.f markB
  by_cases c : 1 ≤ x
  · rw [if_pos (show x ≥ 1 from c), decide_eq_true c, Bool.true_and]
  · rw [if_neg (show ¬ x ≥ 1 from c), decide_eq_false c, Bool.false_and]
def wayB (x : Int) : Bool := x == 0 || x == 1
theorem way_eq (x : Int) : next_Way.f x = some (wayB x) := by
  unfold next_Way.f wayB
  by_cases c : x = 0
  · rw [if_pos c, beq_iff_eq.2 c]; rfl
  · rw [if_neg c, beq_eq_false_iff_ne.2 c]; rfl
/-- the marks that answers leave -/
def goA : List An → List Int → Option (List Int)
  | [], m => some m
  | a :: zs, m => if (decide (0 ≤ a.f0) && decide (a.f0 < (m.length : Int))) && markB a.f1 then goA zs (m.set a.f0.toNat a.f1) else none
def resA (o : Option (List Int)) : List Int × Int := match o with | some m => (m, 0) | none => ([], 2000)
theorem marks_l0 (zs : List An) (hl : zs.length ≤ 9223372036854775806) : ∀ (n i : Nat) (m : List Int), i + n = zs.length → Ev (fun k => next_Marks.l0 k m zs (zs.length : Int) (i : Int)) (resA (goA (zs.drop i) m)) := by
  intro n
  induction n with
  | zero =>
    intro i m hi
    rw [List.drop_eq_nil_of_le (by omega)]
    refine Ev.step (f := fun _ => some (m, 0)) (fun k => ?_) (Ev.now _)
    rw [next_Marks.l0, if_neg (by omega)]
  | succ n ih =>
    intro i m hi
    have hw : wrap64 ((i : Int) + 1) = ((i + 1 : Nat) : Int) := by rw [w64 (by omega) (by omega)]; omega
    rw [drop_ra zs i (by omega), goA]
    obtain ⟨a, ha⟩ : ∃ a, ra zs (i : Int) = a := ⟨_, rfl⟩
    have ha' : rd_T26 zs (i : Int) = a := ha
    rw [ha]
    by_cases c0 : 0 ≤ a.f0
    · by_cases c1 : a.f0 < (m.length : Int)
      · rw [decide_eq_true c0, decide_eq_true c1, Bool.and_self, Bool.true_and]
        by_cases c2 : markB a.f1 = true
        · rw [if_pos c2]
          refine Ev.step (f := fun k => next_Marks.l0 k (m.set a.f0.toNat a.f1) zs (zs.length : Int) ((i + 1 : Nat) : Int)) (fun k => ?_) (ih (i + 1) _ (by omega))
          rw [next_Marks.l0, if_pos (by omega), if_pos (by omega), if_pos (by omega), ha', if_neg (by omega), if_neg (by omega), mark_eq, Option.bind_some, if_pos c2, if_pos c0, if_pos c1, hw]
        · rw [if_neg c2]
          refine Ev.step (f := fun _ => some ([], 2000)) (fun k => ?_) (Ev.now _)
          rw [next_Marks.l0, if_pos (by omega), if_pos (by omega), if_pos (by omega), ha', if_neg (by omega), if_neg (by omega), mark_eq, Option.bind_some, if_neg c2]
      · rw [decide_eq_false c1, Bool.and_false, Bool.false_and, if_neg Bool.false_ne_true]
        refine Ev.step (f := fun _ => some ([], 2000)) (fun k => ?_) (Ev.now _)
        rw [next_Marks.l0, if_pos (by omega), if_pos (by omega), if_pos (by omega), ha', if_neg (by omega), if_pos (by omega)]
    · rw [decide_eq_false c0, Bool.false_and, Bool.false_and, if_neg Bool.false_ne_true]
      refine Ev.step (f := fun _ => some ([], 2000)) (fun k => ?_) (Ev.now _)
      rw [next_Marks.l0, if_pos (by omega), if_pos (by omega), if_pos (by omega), ha', if_pos (by omega)]
def marksF (ns : List Nd) (zs : List An) : List Int × Int := if (mayT ns && decide (zs.length ≤ 512)) = true then resA (goA zs (List.replicate ns.length 0)) else ([], 2000)
theorem marks_ev (ns : List Nd) (w : Int) (zs : List An) : Ev (fun k => next_Marks.f k ns w zs) (marksF ns zs) := by
  unfold next_Marks.f marksF
  refine Ev.bind (trailMay_ev ns) ?_
  cases hm : mayT ns with
  | false =>
    simp only [if_neg Bool.false_ne_true, Bool.false_and]
    refine Ev.step (f := fun _ => some ([], 2000)) (fun k => ?_) (Ev.now _)
    rw [next_Marks.j0, if_pos rfl]
  | true =>
    have hlen := mayT_len hm
    simp only [if_pos, Bool.true_and]
    by_cases c : zs.length ≤ 512
    · rw [decide_eq_false (show ¬ (zs.length : Int) > 512 by omega), if_pos (decide_eq_true c)]
      have h := marks_l0 zs (by omega) zs.length 0 (List.replicate ns.length 0) (by omega)
      refine Ev.step (fun k => ?_) h
      rw [next_Marks.j0, if_neg Bool.false_ne_true, if_pos (by omega), Int.toNat_natCast, if_pos (by omega)]; rfl
    · rw [decide_eq_true (show (zs.length : Int) > 512 by omega), if_neg (by rw [decide_eq_true_iff]; exact c)]
      refine Ev.step (f := fun _ => some ([], 2000)) (fun k => ?_) (Ev.now _)
      rw [next_Marks.j0, if_pos rfl]
theorem goA_ok : ∀ (zs : List An) (m m' : List Int), goA zs m = some m' → m'.length = m.length ∧ ((∀ x ∈ m, oddB x = false) → ∀ x ∈ m', oddB x = false)
  | [], m, m', h => by
    obtain rfl := Option.some.inj h
    exact ⟨rfl, fun hh => hh⟩
  | a :: zs, m, m', h => by
    rw [goA] at h
    by_cases c : ((decide (0 ≤ a.f0) && decide (a.f0 < (m.length : Int))) && markB a.f1) = true
    · rw [if_pos c] at h
      rw [Bool.and_eq_true] at c
      have hb := markB_spec c.2
      obtain ⟨h1, h2⟩ := goA_ok zs _ m' h
      rw [List.length_set] at h1
      refine ⟨h1, fun hh => h2 fun x hx => ?_⟩
      rcases List.mem_or_eq_of_mem_set hx with hx | rfl
      · exact hh x hx
      · unfold oddB
        rw [decide_eq_false (by omega), decide_eq_false (by omega)]; rfl
    · rw [if_neg c] at h; cases h
theorem marksF_ok {ns : List Nd} {zs : List An} (h : (marksF ns zs).2 = 0) : marksS ns (marksF ns zs).1 = true ∧ zs.length ≤ 512 ∧ goA zs (List.replicate ns.length 0) = some (marksF ns zs).1 := by
  unfold marksF at h ⊢
  by_cases c : (mayT ns && decide (zs.length ≤ 512)) = true
  · rw [if_pos c] at h ⊢
    rw [Bool.and_eq_true, decide_eq_true_iff] at c
    cases hg : goA zs (List.replicate ns.length 0) with
    | none => rw [hg] at h; exact absurd h (by decide)
    | some m =>
      obtain ⟨h1, h2⟩ := goA_ok zs _ m hg
      rw [List.length_replicate] at h1
      refine ⟨?_, c.2, rfl⟩
      show marksS ns m = true
      unfold marksS
      rw [c.1, h1, decide_eq_true rfl, Bool.true_and, Bool.true_and, Bool.not_eq_true']
      rw [List.any_eq_false]
      intro x hx
      rw [h2 (fun y hy => by rw [List.eq_of_mem_replicate hy]; rfl) x hx]
      exact Bool.false_ne_true
  · rw [if_neg c] at h; exact absurd h (by decide)
theorem marksF_len (ns : List Nd) (zs : List An) : (marksF ns zs).1.length ≤ 512 := by
  by_cases h : (marksF ns zs).2 = 0
  · obtain ⟨h1, h2, h3⟩ := marksF_ok h
    obtain ⟨hm, hl, _⟩ := marksS_spec h1
    have := mayT_len hm
    omega
  · unfold marksF at h ⊢
    by_cases c : (mayT ns && decide (zs.length ≤ 512)) = true
    · rw [if_pos c] at h ⊢
      cases hg : goA zs (List.replicate ns.length 0) with
      | none => exact Nat.zero_le _
      | some m => rw [hg] at h; exact absurd rfl h
    · rw [if_neg c]; exact Nat.zero_le _
def askW (w : Int) (ns : List Nd) (ms : List Int) : Int × Int := if w = 1 then askH ns ms else askT ns ms
theorem nextAsk_ev {ns : List Nd} {ms : List Int} (h : marksS ns ms = true) (w : Int) : Ev (fun k => next_Ask.f k w ns ms) (askW w ns ms) := by
  unfold next_Ask.f askW
  by_cases c : w = 1
  · simp only [if_pos c]; exact Ev.bind (askH_ev h) (Ev.now _)
  · simp only [if_neg c]; exact Ev.bind (ask_ev h) (Ev.now _)
def stepF (ns : List Nd) (w : Int) (zs : List An) : Int × Int × Int := if (marksF ns zs).2 = 0 then (if wayB w = true then ((askW w ns (marksF ns zs).1).1, (askW w ns (marksF ns zs).1).2, 0) else (0, 0, 2000)) else (0, 0, 2000)
theorem step_ev (ns : List Nd) (w : Int) (zs : List An) : Ev (fun k => next_Step.f k ns w zs) (stepF ns w zs) := by
  unfold next_Step.f stepF
  refine Ev.bind (marks_ev ns w zs) ?_
  by_cases c : (marksF ns zs).2 = 0
  · simp only [if_pos c, way_eq, Option.bind_some]
    by_cases d : wayB w = true
    · simp only [if_pos d]; exact Ev.bind (nextAsk_ev (marksF_ok c).1 w) (Ev.now _)
    · simp only [if_neg d]; exact Ev.now _
  · simp only [if_neg c]; exact Ev.now _
theorem askT_facts {ns : List Nd} {ms : List Int} (h : marksS ns ms = true) : 0 ≤ (askT ns ms).2 ∧ (askT ns ms).2 < (ns.length : Int) ∧ ((askT ns ms).1 = 0 → rd ms (askT ns ms).2 = 0) := by
  obtain ⟨hm, hl, hx⟩ := marksS_spec h
  have hlen := mayT_len hm
  unfold askT
  by_cases c0 : rd ms 0 = 0
  · rw [if_pos c0]; exact ⟨Int.le_refl _, by show (0 : Int) < _; omega, fun _ => c0⟩
  · rw [if_neg c0]
    by_cases c1 : rd ms 0 = 1
    · rw [if_pos c1]; exact ⟨Int.le_refl _, by show (0 : Int) < _; omega, fun hh => absurd hh (by decide)⟩
    · rw [if_neg c1]
      by_cases c3 : rd ms 0 = 3
      · rw [if_pos c3]; exact ⟨Int.le_refl _, by show (0 : Int) < _; omega, fun hh => absurd hh (by decide)⟩
      · rw [if_neg c3]
        have h00 := marks_at h 0 (by omega)
        rw [show ((0 : Nat) : Int) = 0 from rfl] at h00
        have hd := downT_spec (ns := ns) (ms := ms) ns.length 0 (by omega) (by omega) (by omega) (by omega)
        generalize downT ns ms ns.length 0 = b at hd
        unfold finT
        cases hf : fstK ns ms b 0 with
        | some k =>
          have hk := fstK_spec hf
          exact ⟨by show 0 ≤ k; omega, hk.2.1, fun _ => hk.2.2.2⟩
        | none =>
          unfold bugS
          simp only []
          split
          · exact ⟨hd.1, hd.2.1, fun hh => absurd hh (show ¬ (1 : Int) = 0 by decide)⟩
          · exact ⟨Int.le_refl _, by show (0 : Int) < _; omega, fun hh => absurd hh (by decide)⟩
theorem askH_facts {ns : List Nd} {ms : List Int} (h : marksS ns ms = true) : 0 ≤ (askH ns ms).2 ∧ (askH ns ms).2 < (ns.length : Int) ∧ ((askH ns ms).1 = 0 → rd ms (askH ns ms).2 = 0) := by
  obtain ⟨hm, hl, hx⟩ := marksS_spec h
  have hlen := mayT_len hm
  unfold askH
  by_cases c2 : rd ms 0 = 2
  · rw [if_pos c2]
    have hr := lastM_range ms ms.length (by omega)
    generalize lastM ms ms.length = w at hr
    have hbr := bestH_range (szH ns (dbt ns ms w.toNat ns.length) ms) (dbt ns ms w.toNat ns.length) ms (rd (szH ns (dbt ns ms w.toNat ns.length) ms) w) ns.length
    have hbs := bestH_spec (szH ns (dbt ns ms w.toNat ns.length) ms) (dbt ns ms w.toNat ns.length) ms (rd (szH ns (dbt ns ms w.toNat ns.length) ms) w) ns.length
    generalize bestH (szH ns (dbt ns ms w.toNat ns.length) ms) (dbt ns ms w.toNat ns.length) ms (rd (szH ns (dbt ns ms w.toNat ns.length) ms) w) ns.length = b at hbr hbs
    by_cases cb : b < 0
    · rw [if_pos cb]
      unfold bugS
      split
      · exact ⟨hr.1, by show w < _; omega, fun hh => absurd hh (show ¬ (1 : Int) = 0 by decide)⟩
      · exact ⟨Int.le_refl _, by show (0 : Int) < _; omega, fun hh => absurd hh (by decide)⟩
    · rw [if_neg cb]
      have h1 := hbs (by omega)
      unfold openB at h1
      rw [Bool.and_eq_true, beq_iff_eq] at h1
      exact ⟨by show 0 ≤ b; omega, hbr.2, fun _ => h1.2⟩
  · rw [if_neg c2]; exact askT_facts h
theorem askW_facts {ns : List Nd} {ms : List Int} (h : marksS ns ms = true) (w : Int) : 0 ≤ (askW w ns ms).2 ∧ (askW w ns ms).2 < (ns.length : Int) ∧ ((askW w ns ms).1 = 0 → rd ms (askW w ns ms).2 = 0) := by
  unfold askW
  split
  · exact askH_facts h
  · exact askT_facts h
theorem sameAnswers_l0 (a : List An) (ha : a.length ≤ 9223372036854775806) : ∀ (n i : Nat), i + n = a.length → Ev (fun k => sleuthlaw0_SameAnswers.l0 k a a (i : Int)) true := by
  intro n
  induction n with
  | zero =>
    intro i hi
    refine Ev.step (f := fun _ => some true) (fun k => ?_) (Ev.now _)
    rw [sleuthlaw0_SameAnswers.l0, if_neg (by omega)]
  | succ n ih =>
    intro i hi
    have hw : wrap64 ((i : Int) + 1) = ((i + 1 : Nat) : Int) := by rw [w64 (by omega) (by omega)]; omega
    refine Ev.step (f := fun k => sleuthlaw0_SameAnswers.l0 k a a ((i + 1 : Nat) : Int)) (fun k => ?_) (ih (i + 1) (by omega))
    rw [sleuthlaw0_SameAnswers.l0, if_pos (by omega), if_pos (by omega), if_pos (by omega), hw]
    simp only [BEq.rfl, Bool.not_true, Bool.or_self, if_neg Bool.false_ne_true]
theorem sameAnswers_ev (a : List An) (ha : a.length ≤ 9223372036854775806) : Ev (fun k => sleuthlaw0_SameAnswers.f k a a) true := by
  unfold sleuthlaw0_SameAnswers.f
  simp only [if_pos]
  exact sameAnswers_l0 a ha a.length 0 (by omega)
theorem sameSession_ev (ns : List Nd) (hok : okN ns) (w : Int) (zs : List An) (hz : zs.length ≤ 9223372036854775806) : Ev (fun k => sleuthlaw0_SameSession.f k ns w zs ns w zs) true := by
  unfold sleuthlaw0_SameSession.f
  refine Ev.bind (sameNodes_ev ns hok) ?_
  simp only [if_pos]
  exact Ev.bind (sameAnswers_ev zs hz) (Ev.now _)
end Go.Proofs.YtgokcaccamfgfaaDoor.G
end
section
-- Laid by the session's own driver gp.py over the kit's printer. Not trusted: Lean checks it.
namespace Go.Proofs.YtgokcaccamfgfaaDoor.G
open Go.RowKit Go.Proofs.YtgokcaccamfgfaaDoorW.PrintWords Go.Proofs.YtgokcaccamfgfaaDoorW.PrintLast Go.Proofs.YtgokcaccamfgfaaDoorW.PrintMore
attribute [local go_sem] max2_int min2_int max_two min_two max_three min_three max_four min_four   -- for this text's walks alone
set_option linter.unusedVariables false
set_option linter.unusedSimpArgs false

/-! ### session_fresh: function 25, given -/
def session_fresh.f (k : Nat) (l0 : List S33) (a1 : Int) : Option Bool := (trail_May.f k l0).bind fun t => if t = true then next_Way.f a1 else some false
theorem session_fresh.mono : ∀ a0 a1 k, LeO (session_fresh.f k a0 a1) (session_fresh.f (k + 1) a0 a1) := by
  intro a0 a1 k
  unfold session_fresh.f
  exact LeO.bind (trail_May.mono _ _) (fun _ => LeO.refl _)
theorem session_fresh.true_spec {k : Nat} {l0 : List S33} {a1 : Int} (h : session_fresh.f k l0 a1 = some true) : 0 < l0.length ∧ l0.length ≤ 512 := by
  unfold session_fresh.f at h
  obtain ⟨t, h1, h⟩ := Option.bind_eq_some_iff.mp h
  cases t with
  | false => simp at h
  | true => have := trail_May.true_spec h1; exact ⟨this.1, this.2.1⟩
set_option maxHeartbeats 4000000 in
set_option maxRecDepth 100000 in
theorem session_fresh.calls (k : Nat) (ad : Addr) (A0 : Option Addr) (c0 : Nat) (l0 : List S33) (a1 : Int) (r : Bool) (w : World) (h0 : w.cell? ad = some (.slice A0 l0.length c0)) (h1 : w.cell? ⟨ad.block, ad.off + 1, none⟩ = some (.int .i64 a1)) (hr0 : Kd.C k33 w A0 l0.length l0) (hc0 : l0.length ≤ c0) (h : session_fresh.f k l0 a1 = some r) (hG : GOK w) :
    Calls Tryd.prog 25 #[.pointer (some ad)] w fun e w' => e = .returned (.bool r) ∧ Below w.heap.size w w' := by
  have HR0 := Aside0.mk hr0
  have HC0 := Aside0.mk hc0
  unfold session_fresh.f at h
  obtain ⟨t, A1, h⟩ := Option.bind_eq_some_iff.mp h
  have HA := Aside0.mk A1
  have H1 := Aside0.mk h1
  clear A1 hr0 hc0 h1
  cases t with
  | false =>
    rw [if_neg Bool.false_ne_true] at h
    obtain rfl := Option.some.inj h
    go_enter Tryd.func25, Tryd.ntmps25
    go_wp2_with (first
      | (go_at_call 18; (with_reducible refine (trail_May.calls k _ _ l0 false _ HR0.out HC0.out HA.out (by first | exact hG)).mono ?_); rintro e w6 ⟨rfl, hb⟩; have HB := Aside0.mk hb; clear hb))
    go_ret
    exact ⟨rfl, HB.out⟩
  | true =>
    rw [if_pos rfl] at h
    have HW := Aside0.mk h
    clear h
    go_enter Tryd.func25, Tryd.ntmps25
    go_wp2_with (first
      | (go_at_call 18; (with_reducible refine (trail_May.calls k _ _ l0 true _ HR0.out HC0.out HA.out (by first | exact hG)).mono ?_); rintro e w6 ⟨rfl, hb⟩; have HB := Aside0.mk hb; have h1 := (hb.cell (World.block_lt_of_cell? w _ H1.out)).trans H1.out; clear hb)
      | (go_at_call 20; (with_reducible refine (next_Way.calls a1 r _ HW.out).mono ?_); rintro e w7 ⟨rfl, ⟨nd, rfl⟩⟩))
    go_ret
    exact ⟨rfl, below_dn HB.out _⟩

end Go.Proofs.YtgokcaccamfgfaaDoor.G
end
section
-- Laid by the session's own driver gp.py over the kit's printer. Not trusted: Lean checks it.
namespace Go.Proofs.YtgokcaccamfgfaaDoor.G
open Go.RowKit Go.Proofs.YtgokcaccamfgfaaDoorW.PrintWords Go.Proofs.YtgokcaccamfgfaaDoorW.PrintLast Go.Proofs.YtgokcaccamfgfaaDoorW.PrintMore
attribute [local go_sem] max2_int min2_int max_two min_two max_three min_three max_four min_four   -- for this text's walks alone
set_option linter.unusedVariables false
set_option linter.unusedSimpArgs false

/-! ### session_May: function 16, given -/
def session_May.l0 : Nat → List S33 → Int → List S26 → List Int → Int → Option Bool
  | 0, _, _, _, _, _ => none
  | k + 1, ns, wy, zs, ms, x => if x < (zs.length : Int) then (next_Ask.f k wy ns ms).bind fun b => if (!(b.1 == 0) || (!(b.2 == (rd_T26 zs x).f0))) = true then some false else (next_Mark.f (rd_T26 zs x).f1).bind fun t => if t = true then (if 0 ≤ (rd_T26 zs x).f0 ∧ (rd_T26 zs x).f0 < (ms.length : Int) then session_May.l0 k ns wy zs (ms.set (rd_T26 zs x).f0.toNat (rd_T26 zs x).f1) (wrap64 (x + 1)) else none) else some false else some true
def session_May.f (k : Nat) (l0_0 : List S33) (a0_1 : Int) (l0_2 : List S26) : Option Bool := (session_fresh.f k l0_0 a0_1).bind fun t => if t = true then session_May.l0 k l0_0 a0_1 l0_2 (List.replicate l0_0.length 0) 0 else some false
theorem session_May.mono_l : ∀ k, ∀ y0 y1 y2 y3 y4, LeO (session_May.l0 k y0 y1 y2 y3 y4) (session_May.l0 (k + 1) y0 y1 y2 y3 y4)
  | 0 => fun _ _ _ _ _ r h => by simp [session_May.l0] at h
  | k + 1 => by
    have ih0 := session_May.mono_l k
    intro y0 y1 y2 y3 y4
    unfold session_May.l0
    repeat' first
      | (with_reducible exact ih0 _ _ _ _ _)
      | (with_reducible exact next_Ask.mono _ _ _ _)
      | (with_reducible exact LeO.refl _)
      | (with_reducible exact LeO.none _)
      | (with_reducible refine LeO.ite ?_ ?_)
      | (with_reducible refine LeO.bind ?_ (fun _ => ?_))
      | exact next_Ask.mono _ _ _ _
      | exact LeO.none _
      | refine LeO.ite ?_ ?_
      | refine LeO.bind ?_ (fun _ => ?_)
theorem session_May.mono : ∀ a0 a1 a2 k, LeO (session_May.f k a0 a1 a2) (session_May.f (k + 1) a0 a1 a2) := by
  intro a0 a1 a2 k
  unfold session_May.f
  refine LeO.bind (session_fresh.mono _ _ _) (fun _ => ?_)
  exact LeO.ite (session_May.mono_l _ _ _ _ _ _) (LeO.refl _)
def session_May.T8 : Bool × List (List Nat × List Nat) := (true, [([], []), ([0], [0]), ([], []), ([2], [2]), ([], []), ([1, 3, 4], [1, 3, 4]), ([], []), ([5, 6], [5, 6]), ([7, 5], [7]), ([8], [8]), ([9, 8], [8, 9]), ([10, 8, 8], [8, 10]), ([11, 8], [8, 11]), ([8, 12], [8, 12])])
def session_May.B8 : List Nat := [0, 1, 0, 4, 0, 31, 0, 127, 255, 511, 1023, 2047, 4095, 8191]
theorem session_May.tab8 : rtab .any (opsOf Tryd.f16 8) = session_May.T8 := by kernel_rfl
theorem session_May.bits8 : waitsOk session_May.T8.2 session_May.B8 = true := by kernel_rfl
theorem wsuccM (x : Int) (h0 : 0 ≤ x) (h1 : x ≤ 9223372036854775806) : wrap64 (x + 1) = x + 1 := by unfold wrap64; omega
theorem eqAM (d : Nat) (w : World) (x0 y0 : Int) (x1 y1 : Int) :
    (Op.equalIn (d + 2) 39 (.agg #[.int .i64 x0, .int .i64 x1]) (.agg #[.int .i64 y0, .int .i64 y1])).run Tryd.prog w = .ok (x0 == y0 && (x1 == y1)) w := by
  refine eqA_of Tryd.underlying39 (by kernel_rfl) ?_
  refine eqf_cons (by rfl) (by go_simp; rfl) (by go_simp; rfl) (by go_simp) ?_
  exact eqf_last (by rfl) (by go_simp; rfl) (by go_simp; rfl) (by go_simp)
section
attribute [local go_sem high] eqAM
set_option maxHeartbeats 8000000 in
set_option maxRecDepth 100000 in
theorem session_May.calls (k : Nat) (A0_0 : Option Addr) (c0_0 : Nat) (l0_0 : List S33) (a0_1 : Int) (A0_2 : Option Addr) (c0_2 : Nat) (l0_2 : List S26) (r : Bool) (w : World) (hr0_0 : Kd.C k33 w A0_0 l0_0.length l0_0) (hc0_0 : l0_0.length ≤ c0_0) (hr0_2 : Kd.C k26 w A0_2 l0_2.length l0_2) (hc0_2 : l0_2.length ≤ c0_2) (h : session_May.f k l0_0 a0_1 l0_2 = some r) (hG : GOK w) :
    Calls Tryd.prog 16 #[.agg #[.slice A0_0 l0_0.length c0_0, .int .i64 a0_1, .slice A0_2 l0_2.length c0_2]] w fun e w' => e = .returned (.bool r) ∧ Below w.heap.size w w' := by
  have HR0 := Aside0.mk hr0_0
  have HC0 := Aside0.mk hc0_0
  have HR2 := Aside0.mk hr0_2
  have HG := Aside0.mk hG
  have HB := Aside0.mk (Below.refl w.heap.size w)
  have hu := Tryd.underlying29
  have hu1 := Tryd.underlying39
  have hu2 := Tryd.underlying26
  unfold session_May.f at h
  obtain ⟨t, A1, h⟩ := Option.bind_eq_some_iff.mp h
  have HF := Aside0.mk A1
  clear hr0_0 hc0_0 hr0_2 hc0_2 hG
  cases t with
  | false =>
    rw [if_neg Bool.false_ne_true] at h
    obtain rfl := Option.some.inj h
    clear h A1
    go_enter Tryd.func16, Tryd.ntmps16
    go_wp2_with (first
      | ((with_reducible refine gate_dst (N := 1) rfl ?_); refine boxE_ 1 #[.slice A0_0 l0_0.length c0_0, .int .i64 a0_1, .slice A0_2 l0_2.length c0_2] 29 ?_; intro gb1 hg w1 hbox hb; have GE1 := Aside0.mk (gE_ hg : w.heap.size ≤ gb1); have n0_ := Aside0.mk (below_step hB_ hb); clear HB; have HB := n0_; have BK1 := Aside0.mk hbox; clear n0_ hg hbox hb)
      | ((with_reducible refine gate_callee (f := 25) rfl ?_); refine goesL_ (some 7) rfl rfl Tryd.func25 (by kernel_rfl) rfl #[.pointer (some ⟨gb1, 0, none⟩)] rfl hL_ ?_; refine (session_fresh.calls k ⟨gb1, 0, none⟩ A0_0 c0_0 l0_0 a0_1 false _ (bc0_ BK1.out) (bc1_ BK1.out) (Kd.C_below HR0.out HB.out) HC0.out HF.out (GOK.below HG.out HB.out)).mono ?_; rintro e w2 ⟨rfl, hb⟩; refine ⟨_, rfl, ?_⟩; have n0_ := Aside0.mk (blk_below BK1.out hb); have n2_ := Aside0.mk (below_step HB.out hb); clear BK1 HB hb; have BK1 := n0_; have HB := n2_; clear n0_ n2_; obtain ⟨g0_, g1_, g2_, g3_, g4_, g5_⟩ := bx3_ BK1.out))
    go_ret
    exact ⟨rfl, HB.out⟩
  | true =>
    rw [if_pos rfl] at h
    have HN := Aside0.mk (session_fresh.true_spec A1)
    have H' := Aside0.mk h
    clear h A1
    go_enter Tryd.func16, Tryd.ntmps16
    go_wp2_with (first
      | ((with_reducible refine gate_dst (N := 1) rfl ?_); refine boxE_ 1 #[.slice A0_0 l0_0.length c0_0, .int .i64 a0_1, .slice A0_2 l0_2.length c0_2] 29 ?_; intro gb1 hg w1 hbox hb; have GE1 := Aside0.mk (gE_ hg : w.heap.size ≤ gb1); have n0_ := Aside0.mk (below_step hB_ hb); clear HB; have HB := n0_; have BK1 := Aside0.mk hbox; clear n0_ hg hbox hb)
      | ((with_reducible refine gate_callee (f := 25) rfl ?_); refine goesL_ (some 7) rfl rfl Tryd.func25 (by kernel_rfl) rfl #[.pointer (some ⟨gb1, 0, none⟩)] rfl hL_ ?_; refine (session_fresh.calls k ⟨gb1, 0, none⟩ A0_0 c0_0 l0_0 a0_1 true _ (bc0_ BK1.out) (bc1_ BK1.out) (Kd.C_below HR0.out HB.out) HC0.out HF.out (GOK.below HG.out HB.out)).mono ?_; rintro e w2 ⟨rfl, hb⟩; refine ⟨_, rfl, ?_⟩; have n0_ := Aside0.mk (blk_below BK1.out hb); have n2_ := Aside0.mk (below_step HB.out hb); clear BK1 HB hb; have BK1 := n0_; have HB := n2_; clear n0_ n2_; obtain ⟨g0_, g1_, g2_, g3_, g4_, g5_⟩ := bx3_ BK1.out)
      | ((with_reducible refine gate_dst (N := 12) rfl ?_); refine Kd.R_make (Kd.int .i64) _ 3 rfl (N := 12) rfl 34 _ _ rfl (l0_0.length : Int) rfl rfl Tryd.underlying34 (.int .i64 0) 8 info3 rfl (by decide) (by omega) 0 (ok := fun _ => True) (okp := fun _ => True) rfl (fun _ hk => hk) trivial (Int.natCast_nonneg _) (by have := HN.out; simp only [Int.toNat_natCast]; omega) (Below.refl _ _) (Nat.le_refl _) ?_; intro v12 w3 ho hb hg_ hnew_; rw [Int.toNat_natCast] at ho; have n0_ := Aside0.mk (Kd.R_lower ho HB.out.size); have n1_ := Aside0.mk (blk_below BK1.out hb); have n2_ := Aside0.mk (below_step HB.out hb); clear g0_ g1_ g2_ g3_ g4_ g5_ BK1 HB hg_ hnew_ hb ho; have HM := n0_; have BK1 := n1_; have HB := n2_; clear n0_ n1_ n2_; obtain ⟨g0_, g1_, g2_, g3_, g4_, g5_⟩ := bx3_ BK1.out))
    go_loopg [16] k (fun kq v w' => ∃ (ms : List Int) (x : Int), v = .int .i64 x ∧ Aside0 (session_May.l0 kq l0_0 a0_1 l0_2 ms x = some r) ∧ Aside0 (kq ≤ k) ∧ Aside0 (0 ≤ x) ∧ Aside0 (Kd.R (Kd.int .i64) 3 w' w.heap.size (fun _ => True) v12 ms) ∧ Aside0 (w'.heap[gb1]? = some (.cells #[.slice A0_0 l0_0.length c0_0, .int .i64 a0_1, .slice A0_2 l0_2.length c0_2] 29 (0, 0))) ∧ Aside0 (Below w.heap.size w w'))
    case atStart => exact ⟨_, 0, rfl, H', ⟨Nat.le_refl _⟩, ⟨by omega⟩, HM, BK1, HB⟩
    case round =>
      clear H' HB HM BK1 g0_ g1_ g2_ g3_ g4_ g5_
      obtain ⟨ms, x, rfl, HA, HK1, HX, HM, BK1, HB⟩ := hrel
      cases gk with
      | zero => exact absurd HA.out (by simp [session_May.l0])
      | succ k1 =>
        have H := HA.out
        clear HA
        simp only [session_May.l0] at H
        by_cases c : x < (l0_2.length : Int)
        case neg =>
          rw [if_neg c] at H
          have cb_ := decide_eq_false c
          obtain rfl := Option.some.inj H
          clear c H
          go_wp2
          go_ret
          exact ⟨rfl, HB.out⟩
        rw [if_pos c] at H
        have cb_ := decide_eq_true c
        obtain ⟨⟨b1, b2⟩, HA0, H⟩ := Option.bind_eq_some_iff.mp H
        have HA := Aside0.mk HA0
        clear HA0
        obtain ⟨ad, e0, hx0, hx1⟩ := at_T26 HR2.out x HX.out c
        cases e0
        replace hx0 := cl_ HB.out hx0
        replace hx1 := cl_ HB.out hx1
        have p_ := eq_true HX.out
        have q_ := eq_true c
        by_cases c2 : (!(b1 == 0) || (!(b2 == (rd_T26 l0_2 x).f0))) = true
        case pos =>
          rw [if_pos c2] at H
          obtain rfl := Option.some.inj H
          clear c H
          go_wp2_with (first
            | ((with_reducible refine gate_dst (N := 5) rfl ?_); refine boxE_ 5 #[.int .i64 0, .int .i64 0] 26 ?_; intro gb5 hg w5 hbox hb; have GE5 := Aside0.mk (gE_ hg : w.heap.size ≤ gb5); have NB15 := Aside0.mk (bL_ BK1.out hg : gb1 ≠ gb5); have n0_ := Aside0.mk (Kd.R_below (hR_ HM.out) hb); have n1_ := Aside0.mk (bB_ BK1.out hb); have n2_ := Aside0.mk (below_step hC_ hb); have BK5 := Aside0.mk hbox; clear HM BK1 HB hg hbox hb; have HM := n0_; have BK1 := n1_; have HB := n2_; clear n0_ n1_ n2_; obtain ⟨d0_, d1_, d2_, d3_⟩ := bx2_ BK5.out)
            | ((with_reducible refine gate_store (t := 26) (p := 5) rfl ?_); refine store_event (t := 26) (p := 5) (v := ?vo5) (w1 := ((w5.setCell ⟨gb5, 0, none⟩ (.int .i64 (rd_T26 l0_2 x).f0)).setCell ⟨gb5, 1, none⟩ (.int .i64 (rd_T26 l0_2 x).f1))) ?hg ?ho ?hn ?hr ?_; (case ho => rfl); (case hg => rfl); (case hn => rfl); (case hr => first | (go_simp; done) | (go_simp; rfl)); intro w6 hw; have n0_ := Aside0.mk (show w6.heap[gb5]? = some (.cells #[.int .i64 (rd_T26 l0_2 x).f0, .int .i64 (rd_T26 l0_2 x).f1] 26 (0, 0)) by rw [hw]; exact bP_ (bP_ (cs' := #[.int .i64 (rd_T26 l0_2 x).f0, .int .i64 0]) BK5.out)); have n1_ := Aside0.mk (show w6.heap[gb1]? = some (.cells #[.slice A0_0 l0_0.length c0_0, .int .i64 a0_1, .slice (some ad) l0_2.length c0_2] 29 (0, 0)) by rw [hw]; exact bF_ (bF_ BK1.out NB15.out) NB15.out); have n2_ := Aside0.mk (show Kd.R (Kd.int .i64) 3 w6 w.heap.size (fun _ => True) v12 ms by rw [hw]; exact Kd.R_mono (rF_ (rF_ (Kd.R_types HM.out BK5.out (by decide)))) (fun _ _ => trivial)); have n3_ := Aside0.mk (show Below w.heap.size w w6 by rw [hw]; exact below_set (below_set HB.out GE5.out) GE5.out); clear hw d0_ d1_ d2_ d3_ BK5 BK1 HM HB; have BK5 := n0_; have BK1 := n1_; have HM := n2_; have HB := n3_; clear n0_ n1_ n2_ n3_; obtain ⟨d0_, d1_, d2_, d3_⟩ := bx2_ BK5.out)
            | ((with_reducible refine gate_dst (N := 6) rfl ?_); refine boxE_ 6 #[.int .i64 0, .int .i64 0] 39 ?_; intro gb6 hg w7 hbox hb; have GE6 := Aside0.mk (gE_ hg : w.heap.size ≤ gb6); have NB16 := Aside0.mk (bL_ BK1.out hg : gb1 ≠ gb6); have NB56 := Aside0.mk (bL_ BK5.out hg : gb5 ≠ gb6); have n0_ := Aside0.mk (Kd.R_below (hR_ HM.out) hb); have n1_ := Aside0.mk (bB_ BK1.out hb); have n2_ := Aside0.mk (below_step hC_ hb); have n3_ := Aside0.mk (bB_ BK5.out hb); have BK6 := Aside0.mk hbox; clear d0_ d1_ d2_ d3_ HM BK1 HB BK5 hg hbox hb; have HM := n0_; have BK1 := n1_; have HB := n2_; have BK5 := n3_; clear n0_ n1_ n2_ n3_; obtain ⟨d0_, d1_, d2_, d3_⟩ := bx2_ BK6.out)
            | ((with_reducible refine gate_store (t := 39) (p := 6) rfl ?_); refine store_event (t := 39) (p := 6) (v := ?vo6) (w1 := ((w7.setCell ⟨gb6, 0, none⟩ (.int .i64 0)).setCell ⟨gb6, 1, none⟩ (.int .i64 (rd_T26 l0_2 x).f0))) ?hg ?ho ?hn ?hr ?_; (case ho => rfl); (case hg => rfl); (case hn => rfl); (case hr => first | (go_simp; done) | (go_simp; rfl)); intro w8 hw; have n0_ := Aside0.mk (show w8.heap[gb6]? = some (.cells #[.int .i64 0, .int .i64 (rd_T26 l0_2 x).f0] 39 (0, 0)) by rw [hw]; exact bP_ (bP_ (cs' := #[.int .i64 0, .int .i64 0]) BK6.out)); have n1_ := Aside0.mk (show w8.heap[gb1]? = some (.cells #[.slice A0_0 l0_0.length c0_0, .int .i64 a0_1, .slice (some ad) l0_2.length c0_2] 29 (0, 0)) by rw [hw]; exact bF_ (bF_ BK1.out NB16.out) NB16.out); have n2_ := Aside0.mk (show Kd.R (Kd.int .i64) 3 w8 w.heap.size (fun _ => True) v12 ms by rw [hw]; exact Kd.R_mono (rF_ (rF_ (Kd.R_types HM.out BK6.out (by decide)))) (fun _ _ => trivial)); have n3_ := Aside0.mk (show Below w.heap.size w w8 by rw [hw]; exact below_set (below_set HB.out GE6.out) GE6.out); have n4_ := Aside0.mk (show w8.heap[gb5]? = some (.cells #[.int .i64 (rd_T26 l0_2 x).f0, .int .i64 (rd_T26 l0_2 x).f1] 26 (0, 0)) by rw [hw]; exact bF_ (bF_ BK5.out NB56.out) NB56.out); clear hw d0_ d1_ d2_ d3_ BK6 BK1 HM HB BK5; have BK6 := n0_; have BK1 := n1_; have HM := n2_; have HB := n3_; have BK5 := n4_; clear n0_ n1_ n2_ n3_ n4_; obtain ⟨g0_, g1_, g2_, g3_, g4_, g5_⟩ := bx3_ BK1.out))
          clear g0_ g1_ g2_ g3_ g4_ g5_
          have n0_ := Aside0.mk (blk_drew BK1.out)
          have n1_ := Aside0.mk (blk_drew BK5.out)
          have n2_ := Aside0.mk (blk_drew BK6.out)
          have n3_ := Aside0.mk (Kd.R_drew HM.out)
          have n4_ := Aside0.mk (below_drew1 HB.out)
          clear BK1 BK5 BK6 HM HB
          have BK1 := n0_
          have BK5 := n1_
          have BK6 := n2_
          have HM := n3_
          have HB := n4_
          clear n0_ n1_ n2_ n3_ n4_
          obtain ⟨Am, cm, em⟩ := Kd.R_slice HM.out
          subst em
          refine start_ (n := 14) (S := fun w' => w'.cell? ⟨gb1, 0, none⟩ = some (.slice A0_0 l0_0.length c0_0) ∧ w'.cell? ⟨gb1, 1, none⟩ = some (.int .i64 a0_1) ∧ w'.cell? ⟨gb6, 0, none⟩ = some (.int .i64 0) ∧ w'.cell? ⟨gb6, 1, none⟩ = some (.int .i64 (rd_T26 l0_2 x).f0) ∧ w'.cell? ⟨gb5, 1, none⟩ = some (.int .i64 (rd_T26 l0_2 x).f1)) (ds := []) #[false, false, false, false, false, false, false, false, false, false, false, false, false, false] (by kernel_rfl) rfl rfl ⟨bc0_ BK1.out, bc1_ BK1.out, bc0_ BK6.out, bc1_ BK6.out, bc1_ BK5.out⟩ (fun hHeld => ?_)
          refine with_tabW session_May.tab8 session_May.bits8 (fun HT_ HW_ => ?_)
          generalize w8.drew = w9 at BK1 BK5 BK6 HM HB hHeld ⊢
          refine pA_ 0 23 #[true, false, false, false, false, false, false, false, false, false, false, false, false, false] HT_.out ?_
          refine pA_ 2 25 #[true, false, true, false, false, false, false, false, false, false, false, false, false, false] HT_.out ?_
          refine pA_ 4 27 #[true, false, true, false, true, false, false, false, false, false, false, false, false, false] HT_.out ?_
          refine tA_ 1 24 #[true, true, true, false, true, false, false, false, false, false, false, false, false, false] HT_.out HW_.out hHeld ?_
          refine tA_ 3 26 #[true, true, true, true, true, false, false, false, false, false, false, false, false, false] HT_.out HW_.out hHeld ?_
          refine tA_ 6 29 #[true, true, true, true, true, false, true, false, false, false, false, false, false, false] HT_.out HW_.out hHeld ?_
          refine one_ (i := 5) (N := some 28) #[true, true, true, true, true, true, true, false, false, false, false, false, false, false] rfl rfl (one_of HT_.out (by kernel_rfl)) (by decide) (fun K hK => ?_)
          refine goes_ Tryd.func21 (by kernel_rfl) rfl #[.int .i64 a0_1, .slice A0_0 l0_0.length c0_0, .slice Am ms.length cm] (by rfl) rfl rfl hL_ ?_
          refine (next_Ask.calls k1 a0_1 A0_0 c0_0 l0_0 Am cm ms b1 b2 _ (Kd.C_below HR0.out HB.out) HC0.out (Kd.R_reads' HM.out).2.2 (Kd.R_reads' HM.out).2.1 HA.out (GOK.below HG.out HB.out)).mono ?_
          rintro e w10 ⟨rfl, hb⟩
          refine ⟨_, rfl, ?_⟩
          have n0_ := Aside0.mk (blk_below BK1.out hb)
          have n1_ := Aside0.mk (blk_below BK5.out hb)
          have n2_ := Aside0.mk (blk_below BK6.out hb)
          have n3_ := Aside0.mk (Kd.R_below HM.out hb)
          have n4_ := Aside0.mk (below_step HB.out hb)
          clear BK1 BK5 BK6 HM HB
          have BK1 := n0_
          have BK5 := n1_
          have BK6 := n2_
          have HM := n3_
          have HB := n4_
          clear n0_ n1_ n2_ n3_ n4_
          clear hb
          refine hK.out _ _ ⟨bc0_ BK1.out, bc1_ BK1.out, bc0_ BK6.out, bc1_ BK6.out, bc1_ BK5.out⟩ (fun hHeld => ?_)
          clear hK K
          refine norm_ (a' := ?_) ?_ ?_
          rotate_left
          · show Act.put _ (some 28) _ = _
            simp only [Act.put, List.setIfInBounds_toArray, List.set_cons_zero, List.set_cons_succ, i64_w, i32_w]
            rfl
          refine pA_ 7 30 #[true, true, true, true, true, true, true, true, false, false, false, false, false, false] HT_.out ?_
          refine pA_ 8 31 #[true, true, true, true, true, true, true, true, true, false, false, false, false, false] HT_.out ?_
          refine pN_ 9 32 #[true, true, true, true, true, true, true, true, true, true, false, false, false, false] HT_.out ?_
          refine pN_ 10 33 #[true, true, true, true, true, true, true, true, true, true, true, false, false, false] HT_.out ?_
          refine pN_ 11 34 #[true, true, true, true, true, true, true, true, true, true, true, true, false, false] HT_.out ?_
          refine pN_ 12 35 #[true, true, true, true, true, true, true, true, true, true, true, true, true, false] HT_.out ?_
          refine pA_ 13 36 #[true, true, true, true, true, true, true, true, true, true, true, true, true, true] HT_.out ?_
          refine done_ (done_of HT_.out (by kernel_rfl)) ?_
          clear HT_ HW_ hHeld
          go_wp2
          go_ret
          exact ⟨rfl, HB.out⟩
        rw [if_neg c2] at H
        replace c2 : (!(b1 == 0) || (!(b2 == (rd_T26 l0_2 x).f0))) = false := by simpa using c2
        obtain ⟨t, HT0, H⟩ := Option.bind_eq_some_iff.mp H
        have HT2 := Aside0.mk HT0
        clear HT0
        cases t with
        | false =>
          rw [if_neg Bool.false_ne_true] at H
          obtain rfl := Option.some.inj H
          clear c H
          go_wp2_with (first
            | ((with_reducible refine gate_dst (N := 5) rfl ?_); refine boxE_ 5 #[.int .i64 0, .int .i64 0] 26 ?_; intro gb5 hg w5 hbox hb; have GE5 := Aside0.mk (gE_ hg : w.heap.size ≤ gb5); have NB15 := Aside0.mk (bL_ BK1.out hg : gb1 ≠ gb5); have n0_ := Aside0.mk (Kd.R_below (hR_ HM.out) hb); have n1_ := Aside0.mk (bB_ BK1.out hb); have n2_ := Aside0.mk (below_step hC_ hb); have BK5 := Aside0.mk hbox; clear HM BK1 HB hg hbox hb; have HM := n0_; have BK1 := n1_; have HB := n2_; clear n0_ n1_ n2_; obtain ⟨d0_, d1_, d2_, d3_⟩ := bx2_ BK5.out)
            | ((with_reducible refine gate_store (t := 26) (p := 5) rfl ?_); refine store_event (t := 26) (p := 5) (v := ?vo5) (w1 := ((w5.setCell ⟨gb5, 0, none⟩ (.int .i64 (rd_T26 l0_2 x).f0)).setCell ⟨gb5, 1, none⟩ (.int .i64 (rd_T26 l0_2 x).f1))) ?hg ?ho ?hn ?hr ?_; (case ho => rfl); (case hg => rfl); (case hn => rfl); (case hr => first | (go_simp; done) | (go_simp; rfl)); intro w6 hw; have n0_ := Aside0.mk (show w6.heap[gb5]? = some (.cells #[.int .i64 (rd_T26 l0_2 x).f0, .int .i64 (rd_T26 l0_2 x).f1] 26 (0, 0)) by rw [hw]; exact bP_ (bP_ (cs' := #[.int .i64 (rd_T26 l0_2 x).f0, .int .i64 0]) BK5.out)); have n1_ := Aside0.mk (show w6.heap[gb1]? = some (.cells #[.slice A0_0 l0_0.length c0_0, .int .i64 a0_1, .slice (some ad) l0_2.length c0_2] 29 (0, 0)) by rw [hw]; exact bF_ (bF_ BK1.out NB15.out) NB15.out); have n2_ := Aside0.mk (show Kd.R (Kd.int .i64) 3 w6 w.heap.size (fun _ => True) v12 ms by rw [hw]; exact Kd.R_mono (rF_ (rF_ (Kd.R_types HM.out BK5.out (by decide)))) (fun _ _ => trivial)); have n3_ := Aside0.mk (show Below w.heap.size w w6 by rw [hw]; exact below_set (below_set HB.out GE5.out) GE5.out); clear hw d0_ d1_ d2_ d3_ BK5 BK1 HM HB; have BK5 := n0_; have BK1 := n1_; have HM := n2_; have HB := n3_; clear n0_ n1_ n2_ n3_; obtain ⟨d0_, d1_, d2_, d3_⟩ := bx2_ BK5.out)
            | ((with_reducible refine gate_dst (N := 6) rfl ?_); refine boxE_ 6 #[.int .i64 0, .int .i64 0] 39 ?_; intro gb6 hg w7 hbox hb; have GE6 := Aside0.mk (gE_ hg : w.heap.size ≤ gb6); have NB16 := Aside0.mk (bL_ BK1.out hg : gb1 ≠ gb6); have NB56 := Aside0.mk (bL_ BK5.out hg : gb5 ≠ gb6); have n0_ := Aside0.mk (Kd.R_below (hR_ HM.out) hb); have n1_ := Aside0.mk (bB_ BK1.out hb); have n2_ := Aside0.mk (below_step hC_ hb); have n3_ := Aside0.mk (bB_ BK5.out hb); have BK6 := Aside0.mk hbox; clear d0_ d1_ d2_ d3_ HM BK1 HB BK5 hg hbox hb; have HM := n0_; have BK1 := n1_; have HB := n2_; have BK5 := n3_; clear n0_ n1_ n2_ n3_; obtain ⟨d0_, d1_, d2_, d3_⟩ := bx2_ BK6.out)
            | ((with_reducible refine gate_store (t := 39) (p := 6) rfl ?_); refine store_event (t := 39) (p := 6) (v := ?vo6) (w1 := ((w7.setCell ⟨gb6, 0, none⟩ (.int .i64 0)).setCell ⟨gb6, 1, none⟩ (.int .i64 (rd_T26 l0_2 x).f0))) ?hg ?ho ?hn ?hr ?_; (case ho => rfl); (case hg => rfl); (case hn => rfl); (case hr => first | (go_simp; done) | (go_simp; rfl)); intro w8 hw; have n0_ := Aside0.mk (show w8.heap[gb6]? = some (.cells #[.int .i64 0, .int .i64 (rd_T26 l0_2 x).f0] 39 (0, 0)) by rw [hw]; exact bP_ (bP_ (cs' := #[.int .i64 0, .int .i64 0]) BK6.out)); have n1_ := Aside0.mk (show w8.heap[gb1]? = some (.cells #[.slice A0_0 l0_0.length c0_0, .int .i64 a0_1, .slice (some ad) l0_2.length c0_2] 29 (0, 0)) by rw [hw]; exact bF_ (bF_ BK1.out NB16.out) NB16.out); have n2_ := Aside0.mk (show Kd.R (Kd.int .i64) 3 w8 w.heap.size (fun _ => True) v12 ms by rw [hw]; exact Kd.R_mono (rF_ (rF_ (Kd.R_types HM.out BK6.out (by decide)))) (fun _ _ => trivial)); have n3_ := Aside0.mk (show Below w.heap.size w w8 by rw [hw]; exact below_set (below_set HB.out GE6.out) GE6.out); have n4_ := Aside0.mk (show w8.heap[gb5]? = some (.cells #[.int .i64 (rd_T26 l0_2 x).f0, .int .i64 (rd_T26 l0_2 x).f1] 26 (0, 0)) by rw [hw]; exact bF_ (bF_ BK5.out NB56.out) NB56.out); clear hw d0_ d1_ d2_ d3_ BK6 BK1 HM HB BK5; have BK6 := n0_; have BK1 := n1_; have HM := n2_; have HB := n3_; have BK5 := n4_; clear n0_ n1_ n2_ n3_ n4_; obtain ⟨g0_, g1_, g2_, g3_, g4_, g5_⟩ := bx3_ BK1.out))
          clear g0_ g1_ g2_ g3_ g4_ g5_
          have n0_ := Aside0.mk (blk_drew BK1.out)
          have n1_ := Aside0.mk (blk_drew BK5.out)
          have n2_ := Aside0.mk (blk_drew BK6.out)
          have n3_ := Aside0.mk (Kd.R_drew HM.out)
          have n4_ := Aside0.mk (below_drew1 HB.out)
          clear BK1 BK5 BK6 HM HB
          have BK1 := n0_
          have BK5 := n1_
          have BK6 := n2_
          have HM := n3_
          have HB := n4_
          clear n0_ n1_ n2_ n3_ n4_
          obtain ⟨Am, cm, em⟩ := Kd.R_slice HM.out
          subst em
          refine start_ (n := 14) (S := fun w' => w'.cell? ⟨gb1, 0, none⟩ = some (.slice A0_0 l0_0.length c0_0) ∧ w'.cell? ⟨gb1, 1, none⟩ = some (.int .i64 a0_1) ∧ w'.cell? ⟨gb6, 0, none⟩ = some (.int .i64 0) ∧ w'.cell? ⟨gb6, 1, none⟩ = some (.int .i64 (rd_T26 l0_2 x).f0) ∧ w'.cell? ⟨gb5, 1, none⟩ = some (.int .i64 (rd_T26 l0_2 x).f1)) (ds := []) #[false, false, false, false, false, false, false, false, false, false, false, false, false, false] (by kernel_rfl) rfl rfl ⟨bc0_ BK1.out, bc1_ BK1.out, bc0_ BK6.out, bc1_ BK6.out, bc1_ BK5.out⟩ (fun hHeld => ?_)
          refine with_tabW session_May.tab8 session_May.bits8 (fun HT_ HW_ => ?_)
          generalize w8.drew = w9 at BK1 BK5 BK6 HM HB hHeld ⊢
          refine pA_ 0 23 #[true, false, false, false, false, false, false, false, false, false, false, false, false, false] HT_.out ?_
          refine pA_ 2 25 #[true, false, true, false, false, false, false, false, false, false, false, false, false, false] HT_.out ?_
          refine pA_ 4 27 #[true, false, true, false, true, false, false, false, false, false, false, false, false, false] HT_.out ?_
          refine tA_ 1 24 #[true, true, true, false, true, false, false, false, false, false, false, false, false, false] HT_.out HW_.out hHeld ?_
          refine tA_ 3 26 #[true, true, true, true, true, false, false, false, false, false, false, false, false, false] HT_.out HW_.out hHeld ?_
          refine tA_ 6 29 #[true, true, true, true, true, false, true, false, false, false, false, false, false, false] HT_.out HW_.out hHeld ?_
          refine one_ (i := 5) (N := some 28) #[true, true, true, true, true, true, true, false, false, false, false, false, false, false] rfl rfl (one_of HT_.out (by kernel_rfl)) (by decide) (fun K hK => ?_)
          refine goes_ Tryd.func21 (by kernel_rfl) rfl #[.int .i64 a0_1, .slice A0_0 l0_0.length c0_0, .slice Am ms.length cm] (by rfl) rfl rfl hL_ ?_
          refine (next_Ask.calls k1 a0_1 A0_0 c0_0 l0_0 Am cm ms b1 b2 _ (Kd.C_below HR0.out HB.out) HC0.out (Kd.R_reads' HM.out).2.2 (Kd.R_reads' HM.out).2.1 HA.out (GOK.below HG.out HB.out)).mono ?_
          rintro e w10 ⟨rfl, hb⟩
          refine ⟨_, rfl, ?_⟩
          have n0_ := Aside0.mk (blk_below BK1.out hb)
          have n1_ := Aside0.mk (blk_below BK5.out hb)
          have n2_ := Aside0.mk (blk_below BK6.out hb)
          have n3_ := Aside0.mk (Kd.R_below HM.out hb)
          have n4_ := Aside0.mk (below_step HB.out hb)
          clear BK1 BK5 BK6 HM HB
          have BK1 := n0_
          have BK5 := n1_
          have BK6 := n2_
          have HM := n3_
          have HB := n4_
          clear n0_ n1_ n2_ n3_ n4_
          clear hb
          refine hK.out _ _ ⟨bc0_ BK1.out, bc1_ BK1.out, bc0_ BK6.out, bc1_ BK6.out, bc1_ BK5.out⟩ (fun hHeld => ?_)
          clear hK K
          refine norm_ (a' := ?_) ?_ ?_
          rotate_left
          · show Act.put _ (some 28) _ = _
            simp only [Act.put, List.setIfInBounds_toArray, List.set_cons_zero, List.set_cons_succ, i64_w, i32_w]
            rfl
          refine pA_ 7 30 #[true, true, true, true, true, true, true, true, false, false, false, false, false, false] HT_.out ?_
          refine pA_ 8 31 #[true, true, true, true, true, true, true, true, true, false, false, false, false, false] HT_.out ?_
          refine pA_ 9 32 #[true, true, true, true, true, true, true, true, true, true, false, false, false, false] HT_.out ?_
          refine tA_ 10 33 #[true, true, true, true, true, true, true, true, true, true, true, false, false, false] HT_.out HW_.out hHeld ?_
          refine one_ (i := 11) (N := some 34) #[true, true, true, true, true, true, true, true, true, true, true, true, false, false] rfl rfl (one_of HT_.out (by kernel_rfl)) (by decide) (fun K hK => ?_)
          refine goes_ Tryd.func19 (by kernel_rfl) rfl #[.int .i64 (rd_T26 l0_2 x).f1] (by rfl) rfl rfl hL_ ?_
          refine (next_Mark.calls (rd_T26 l0_2 x).f1 false _ HT2.out).mono ?_
          rintro e w11 ⟨rfl, ⟨nd, rfl⟩⟩
          refine ⟨_, rfl, ?_⟩
          have n0_ := Aside0.mk (blk_drewN BK1.out nd)
          have n1_ := Aside0.mk (blk_drewN BK5.out nd)
          have n2_ := Aside0.mk (blk_drewN BK6.out nd)
          have n3_ := Aside0.mk (Kd.R_drewN HM.out nd)
          have n4_ := Aside0.mk (below_dn HB.out nd)
          clear BK1 BK5 BK6 HM HB
          have BK1 := n0_
          have BK5 := n1_
          have BK6 := n2_
          have HM := n3_
          have HB := n4_
          clear n0_ n1_ n2_ n3_ n4_
          refine hK.out _ _ ⟨bc0_ BK1.out, bc1_ BK1.out, bc0_ BK6.out, bc1_ BK6.out, bc1_ BK5.out⟩ (fun hHeld => ?_)
          clear hK K
          refine norm_ (a' := ?_) ?_ ?_
          rotate_left
          · show Act.put _ (some 34) _ = _
            simp only [Act.put, List.setIfInBounds_toArray, List.set_cons_zero, List.set_cons_succ, i64_w, i32_w]
            rfl
          generalize w10.drewN nd = w12 at BK1 BK5 BK6 HM HB hHeld ⊢
          refine pA_ 12 35 #[true, true, true, true, true, true, true, true, true, true, true, true, true, false] HT_.out ?_
          refine pA_ 13 36 #[true, true, true, true, true, true, true, true, true, true, true, true, true, true] HT_.out ?_
          refine done_ (done_of HT_.out (by kernel_rfl)) ?_
          clear HT_ HW_ hHeld
          go_wp2
          go_ret
          exact ⟨rfl, HB.out⟩
        | true =>
          rw [if_pos rfl] at H
          obtain ⟨hX2, H⟩ := ifI_ H
          have HX2 := Aside0.mk hX2
          have H' := Aside0.mk H
          have HCX := Aside0.mk c
          clear c H hX2
          go_wp2_with (first
            | ((with_reducible refine gate_dst (N := 5) rfl ?_); refine boxE_ 5 #[.int .i64 0, .int .i64 0] 26 ?_; intro gb5 hg w5 hbox hb; have GE5 := Aside0.mk (gE_ hg : w.heap.size ≤ gb5); have NB15 := Aside0.mk (bL_ BK1.out hg : gb1 ≠ gb5); have n0_ := Aside0.mk (Kd.R_below (hR_ HM.out) hb); have n1_ := Aside0.mk (bB_ BK1.out hb); have n2_ := Aside0.mk (below_step hC_ hb); have BK5 := Aside0.mk hbox; clear HM BK1 HB hg hbox hb; have HM := n0_; have BK1 := n1_; have HB := n2_; clear n0_ n1_ n2_; obtain ⟨d0_, d1_, d2_, d3_⟩ := bx2_ BK5.out)
            | ((with_reducible refine gate_store (t := 26) (p := 5) rfl ?_); refine store_event (t := 26) (p := 5) (v := ?vo5) (w1 := ((w5.setCell ⟨gb5, 0, none⟩ (.int .i64 (rd_T26 l0_2 x).f0)).setCell ⟨gb5, 1, none⟩ (.int .i64 (rd_T26 l0_2 x).f1))) ?hg ?ho ?hn ?hr ?_; (case ho => rfl); (case hg => rfl); (case hn => rfl); (case hr => first | (go_simp; done) | (go_simp; rfl)); intro w6 hw; have n0_ := Aside0.mk (show w6.heap[gb5]? = some (.cells #[.int .i64 (rd_T26 l0_2 x).f0, .int .i64 (rd_T26 l0_2 x).f1] 26 (0, 0)) by rw [hw]; exact bP_ (bP_ (cs' := #[.int .i64 (rd_T26 l0_2 x).f0, .int .i64 0]) BK5.out)); have n1_ := Aside0.mk (show w6.heap[gb1]? = some (.cells #[.slice A0_0 l0_0.length c0_0, .int .i64 a0_1, .slice (some ad) l0_2.length c0_2] 29 (0, 0)) by rw [hw]; exact bF_ (bF_ BK1.out NB15.out) NB15.out); have n2_ := Aside0.mk (show Kd.R (Kd.int .i64) 3 w6 w.heap.size (fun _ => True) v12 ms by rw [hw]; exact Kd.R_mono (rF_ (rF_ (Kd.R_types HM.out BK5.out (by decide)))) (fun _ _ => trivial)); have n3_ := Aside0.mk (show Below w.heap.size w w6 by rw [hw]; exact below_set (below_set HB.out GE5.out) GE5.out); clear hw d0_ d1_ d2_ d3_ BK5 BK1 HM HB; have BK5 := n0_; have BK1 := n1_; have HM := n2_; have HB := n3_; clear n0_ n1_ n2_ n3_; obtain ⟨d0_, d1_, d2_, d3_⟩ := bx2_ BK5.out)
            | ((with_reducible refine gate_dst (N := 6) rfl ?_); refine boxE_ 6 #[.int .i64 0, .int .i64 0] 39 ?_; intro gb6 hg w7 hbox hb; have GE6 := Aside0.mk (gE_ hg : w.heap.size ≤ gb6); have NB16 := Aside0.mk (bL_ BK1.out hg : gb1 ≠ gb6); have NB56 := Aside0.mk (bL_ BK5.out hg : gb5 ≠ gb6); have n0_ := Aside0.mk (Kd.R_below (hR_ HM.out) hb); have n1_ := Aside0.mk (bB_ BK1.out hb); have n2_ := Aside0.mk (below_step hC_ hb); have n3_ := Aside0.mk (bB_ BK5.out hb); have BK6 := Aside0.mk hbox; clear d0_ d1_ d2_ d3_ HM BK1 HB BK5 hg hbox hb; have HM := n0_; have BK1 := n1_; have HB := n2_; have BK5 := n3_; clear n0_ n1_ n2_ n3_; obtain ⟨d0_, d1_, d2_, d3_⟩ := bx2_ BK6.out)
            | ((with_reducible refine gate_store (t := 39) (p := 6) rfl ?_); refine store_event (t := 39) (p := 6) (v := ?vo6) (w1 := ((w7.setCell ⟨gb6, 0, none⟩ (.int .i64 0)).setCell ⟨gb6, 1, none⟩ (.int .i64 (rd_T26 l0_2 x).f0))) ?hg ?ho ?hn ?hr ?_; (case ho => rfl); (case hg => rfl); (case hn => rfl); (case hr => first | (go_simp; done) | (go_simp; rfl)); intro w8 hw; have n0_ := Aside0.mk (show w8.heap[gb6]? = some (.cells #[.int .i64 0, .int .i64 (rd_T26 l0_2 x).f0] 39 (0, 0)) by rw [hw]; exact bP_ (bP_ (cs' := #[.int .i64 0, .int .i64 0]) BK6.out)); have n1_ := Aside0.mk (show w8.heap[gb1]? = some (.cells #[.slice A0_0 l0_0.length c0_0, .int .i64 a0_1, .slice (some ad) l0_2.length c0_2] 29 (0, 0)) by rw [hw]; exact bF_ (bF_ BK1.out NB16.out) NB16.out); have n2_ := Aside0.mk (show Kd.R (Kd.int .i64) 3 w8 w.heap.size (fun _ => True) v12 ms by rw [hw]; exact Kd.R_mono (rF_ (rF_ (Kd.R_types HM.out BK6.out (by decide)))) (fun _ _ => trivial)); have n3_ := Aside0.mk (show Below w.heap.size w w8 by rw [hw]; exact below_set (below_set HB.out GE6.out) GE6.out); have n4_ := Aside0.mk (show w8.heap[gb5]? = some (.cells #[.int .i64 (rd_T26 l0_2 x).f0, .int .i64 (rd_T26 l0_2 x).f1] 26 (0, 0)) by rw [hw]; exact bF_ (bF_ BK5.out NB56.out) NB56.out); clear hw d0_ d1_ d2_ d3_ BK6 BK1 HM HB BK5; have BK6 := n0_; have BK1 := n1_; have HM := n2_; have HB := n3_; have BK5 := n4_; clear n0_ n1_ n2_ n3_ n4_; obtain ⟨g0_, g1_, g2_, g3_, g4_, g5_⟩ := bx3_ BK1.out))
          clear g0_ g1_ g2_ g3_ g4_ g5_
          have n0_ := Aside0.mk (blk_drew BK1.out)
          have n1_ := Aside0.mk (blk_drew BK5.out)
          have n2_ := Aside0.mk (blk_drew BK6.out)
          have n3_ := Aside0.mk (Kd.R_drew HM.out)
          have n4_ := Aside0.mk (below_drew1 HB.out)
          clear BK1 BK5 BK6 HM HB
          have BK1 := n0_
          have BK5 := n1_
          have BK6 := n2_
          have HM := n3_
          have HB := n4_
          clear n0_ n1_ n2_ n3_ n4_
          obtain ⟨Am, cm, em⟩ := Kd.R_slice HM.out
          subst em
          refine start_ (n := 14) (S := fun w' => w'.cell? ⟨gb1, 0, none⟩ = some (.slice A0_0 l0_0.length c0_0) ∧ w'.cell? ⟨gb1, 1, none⟩ = some (.int .i64 a0_1) ∧ w'.cell? ⟨gb6, 0, none⟩ = some (.int .i64 0) ∧ w'.cell? ⟨gb6, 1, none⟩ = some (.int .i64 (rd_T26 l0_2 x).f0) ∧ w'.cell? ⟨gb5, 1, none⟩ = some (.int .i64 (rd_T26 l0_2 x).f1)) (ds := []) #[false, false, false, false, false, false, false, false, false, false, false, false, false, false] (by kernel_rfl) rfl rfl ⟨bc0_ BK1.out, bc1_ BK1.out, bc0_ BK6.out, bc1_ BK6.out, bc1_ BK5.out⟩ (fun hHeld => ?_)
          refine with_tabW session_May.tab8 session_May.bits8 (fun HT_ HW_ => ?_)
          generalize w8.drew = w9 at BK1 BK5 BK6 HM HB hHeld ⊢
          refine pA_ 0 23 #[true, false, false, false, false, false, false, false, false, false, false, false, false, false] HT_.out ?_
          refine pA_ 2 25 #[true, false, true, false, false, false, false, false, false, false, false, false, false, false] HT_.out ?_
          refine pA_ 4 27 #[true, false, true, false, true, false, false, false, false, false, false, false, false, false] HT_.out ?_
          refine tA_ 1 24 #[true, true, true, false, true, false, false, false, false, false, false, false, false, false] HT_.out HW_.out hHeld ?_
          refine tA_ 3 26 #[true, true, true, true, true, false, false, false, false, false, false, false, false, false] HT_.out HW_.out hHeld ?_
          refine tA_ 6 29 #[true, true, true, true, true, false, true, false, false, false, false, false, false, false] HT_.out HW_.out hHeld ?_
          refine one_ (i := 5) (N := some 28) #[true, true, true, true, true, true, true, false, false, false, false, false, false, false] rfl rfl (one_of HT_.out (by kernel_rfl)) (by decide) (fun K hK => ?_)
          refine goes_ Tryd.func21 (by kernel_rfl) rfl #[.int .i64 a0_1, .slice A0_0 l0_0.length c0_0, .slice Am ms.length cm] (by rfl) rfl rfl hL_ ?_
          refine (next_Ask.calls k1 a0_1 A0_0 c0_0 l0_0 Am cm ms b1 b2 _ (Kd.C_below HR0.out HB.out) HC0.out (Kd.R_reads' HM.out).2.2 (Kd.R_reads' HM.out).2.1 HA.out (GOK.below HG.out HB.out)).mono ?_
          rintro e w10 ⟨rfl, hb⟩
          refine ⟨_, rfl, ?_⟩
          have n0_ := Aside0.mk (blk_below BK1.out hb)
          have n1_ := Aside0.mk (blk_below BK5.out hb)
          have n2_ := Aside0.mk (blk_below BK6.out hb)
          have n3_ := Aside0.mk (Kd.R_below HM.out hb)
          have n4_ := Aside0.mk (below_step HB.out hb)
          clear BK1 BK5 BK6 HM HB
          have BK1 := n0_
          have BK5 := n1_
          have BK6 := n2_
          have HM := n3_
          have HB := n4_
          clear n0_ n1_ n2_ n3_ n4_
          clear hb
          refine hK.out _ _ ⟨bc0_ BK1.out, bc1_ BK1.out, bc0_ BK6.out, bc1_ BK6.out, bc1_ BK5.out⟩ (fun hHeld => ?_)
          clear hK K
          refine norm_ (a' := ?_) ?_ ?_
          rotate_left
          · show Act.put _ (some 28) _ = _
            simp only [Act.put, List.setIfInBounds_toArray, List.set_cons_zero, List.set_cons_succ, i64_w, i32_w]
            rfl
          refine pA_ 7 30 #[true, true, true, true, true, true, true, true, false, false, false, false, false, false] HT_.out ?_
          refine pA_ 8 31 #[true, true, true, true, true, true, true, true, true, false, false, false, false, false] HT_.out ?_
          refine pA_ 9 32 #[true, true, true, true, true, true, true, true, true, true, false, false, false, false] HT_.out ?_
          refine tA_ 10 33 #[true, true, true, true, true, true, true, true, true, true, true, false, false, false] HT_.out HW_.out hHeld ?_
          refine one_ (i := 11) (N := some 34) #[true, true, true, true, true, true, true, true, true, true, true, true, false, false] rfl rfl (one_of HT_.out (by kernel_rfl)) (by decide) (fun K hK => ?_)
          refine goes_ Tryd.func19 (by kernel_rfl) rfl #[.int .i64 (rd_T26 l0_2 x).f1] (by rfl) rfl rfl hL_ ?_
          refine (next_Mark.calls (rd_T26 l0_2 x).f1 true _ HT2.out).mono ?_
          rintro e w11 ⟨rfl, ⟨nd, rfl⟩⟩
          refine ⟨_, rfl, ?_⟩
          have n0_ := Aside0.mk (blk_drewN BK1.out nd)
          have n1_ := Aside0.mk (blk_drewN BK5.out nd)
          have n2_ := Aside0.mk (blk_drewN BK6.out nd)
          have n3_ := Aside0.mk (Kd.R_drewN HM.out nd)
          have n4_ := Aside0.mk (below_dn HB.out nd)
          clear BK1 BK5 BK6 HM HB
          have BK1 := n0_
          have BK5 := n1_
          have BK6 := n2_
          have HM := n3_
          have HB := n4_
          clear n0_ n1_ n2_ n3_ n4_
          refine hK.out _ _ ⟨bc0_ BK1.out, bc1_ BK1.out, bc0_ BK6.out, bc1_ BK6.out, bc1_ BK5.out⟩ (fun hHeld => ?_)
          clear hK K
          refine norm_ (a' := ?_) ?_ ?_
          rotate_left
          · show Act.put _ (some 34) _ = _
            simp only [Act.put, List.setIfInBounds_toArray, List.set_cons_zero, List.set_cons_succ, i64_w, i32_w]
            rfl
          generalize w10.drewN nd = w12 at BK1 BK5 BK6 HM HB hHeld ⊢
          refine pA_ 12 35 #[true, true, true, true, true, true, true, true, true, true, true, true, true, false] HT_.out ?_
          refine pA_ 13 36 #[true, true, true, true, true, true, true, true, true, true, true, true, true, true] HT_.out ?_
          refine done_ (done_of HT_.out (by kernel_rfl)) ?_
          clear HT_ HW_ hHeld
          obtain ⟨gm, cm', eo, hbg, hgl, cl, hgm⟩ := Kd.R_form HM.out (by have := HX2.out; omega)
          injection eo with ea_ en_ ec_
          subst ea_
          clear en_ ec_
          obtain ⟨hx34, hf34⟩ := Kd.R_celln 0 HM.out (rd_T26 l0_2 x).f0 HX2.out.1 HX2.out.2
          have HP := Aside0.mk (Kd.R_putg HM.out (rd_T26 l0_2 x).f0 (rd_T26 l0_2 x).f1).1
          have hne : gb1 ≠ gm := blk_ne BK1.out hgm (by decide)
          have HE := Aside0.mk (And.intro hbg hne)
          obtain ⟨d0_, d1_, d2_, d3_⟩ := bx2_ BK5.out
          have p34_ := eq_true HX2.out.1
          have q34_ := eq_true HX2.out.2
          clear hbg hgl hgm hne
          go_wp2
          go_roundg k1
          case measure => have := HK1.out; omega
          case rel => exact ⟨_, _, rfl, H', ⟨by have := HK1.out; omega⟩, ⟨by have := HX.out; rw [wsuccM x HX.out (by have := Kd.C_max HR2.out; have := HCX.out; omega)]; omega⟩, ⟨HP.out⟩, ⟨bF_ BK1.out HE.out.2⟩, ⟨below_set HB.out HE.out.1⟩⟩
end

end Go.Proofs.YtgokcaccamfgfaaDoor.G
end
section
-- Laid by the session's own driver gp.py over the kit's printer. Not trusted: Lean checks it.
namespace Go.Proofs.YtgokcaccamfgfaaDoor.G
open Go.RowKit Go.Proofs.YtgokcaccamfgfaaDoorW.PrintWords Go.Proofs.YtgokcaccamfgfaaDoorW.PrintLast Go.Proofs.YtgokcaccamfgfaaDoorW.PrintMore
attribute [local go_sem] max2_int min2_int max_two min_two max_three min_three max_four min_four   -- for this text's walks alone
set_option linter.unusedVariables false
set_option linter.unusedSimpArgs false

/-! ### session_Copy: function 26, given -/
/-- a row whose elements are another row's, as they lay in w0 -/
def borK {α : Type} (w0 : World) (d : Kd α) : Kd α where
  sz := d.sz
  E := d.E
  K := fun _ x cs => d.K w0 x cs
  M := fun _ _ _ x cs => d.K w0 x cs
  K_len := fun h => d.K_len h
  K_one := fun h => d.K_one h
  K_below := fun _ h => h
  K_of_M := fun h => h
  M_mono := fun _ h => h
  M_bound := fun h => h
  M_move := fun _ h => h
  M_lower := fun _ h => h
/-- the same, some of its elements made anew, each apart from the others (f) -/
def mixK {α : Type} (w0 : World) (f : Nat → Nat) (d : Kd α) : Kd (α × Option Nat) where
  sz := d.sz
  E := d.E
  K := fun w x cs => match x.2 with | some _ => d.K w x.1 cs | none => d.K w0 x.1 cs
  M := fun w base ok x cs => match x.2 with | some i => d.M w base (fun k => ok k ∧ f k = i) x.1 cs | none => d.K w0 x.1 cs
  K_len := by rintro w ⟨x, _ | i⟩ cs h <;> exact d.K_len h
  K_one := by rintro w ⟨x, _ | i⟩ cs h <;> exact d.K_one h
  K_below := by
    rintro w w1 ⟨x, _ | i⟩ cs hb h
    · exact h
    · exact d.K_below hb h
  K_of_M := by
    rintro w base ok ⟨x, _ | i⟩ cs h
    · exact h
    · exact d.K_of_M h
  M_mono := by
    rintro w base ok ok' ⟨x, _ | i⟩ cs hok h
    · exact h
    · exact d.M_mono (fun k hk => ⟨hok k hk.1, hk.2⟩) h
  M_bound := by
    rintro w base ok ⟨x, _ | i⟩ cs h
    · exact h
    · exact d.M_mono (fun _ hk => ⟨⟨hk.1.1, hk.2⟩, hk.1.2⟩) (d.M_bound h)
  M_move := by
    rintro w w1 base ok ⟨x, _ | i⟩ cs hm h
    · exact h
    · exact d.M_move (fun k hk => hm k hk.1) h
  M_lower := by
    rintro w base base' ok ⟨x, _ | i⟩ cs hb h
    · exact h
    · exact d.M_lower hb h
theorem mix_tag {α : Type} {w0 : World} {f f' : Nat → Nat} {d : Kd α} {e : Nat} {w : World} {base : Nat} {ok : Nat → Prop} {v : Value} {xs : List (α × Option Nat)} (h : (mixK w0 f d).R e w base ok v xs) (hf : ∀ k, k < w.heap.size → f' k = f k) : (mixK w0 f' d).R e w base ok v xs := by
  obtain ⟨h0, inner, ho, hr⟩ := h
  refine ⟨h0, inner, ho, hr.imp_ ?_⟩
  rintro ⟨x, _ | i⟩ cs h
  · exact h
  · exact d.M_mono (fun k hk => ⟨hk.1.1, (hf k hk.2.2.1).trans hk.1.2⟩) (d.M_bound h)
def mixL {α : Type} (l : List α) (n : Nat) : List (α × Option Nat) := l.zipIdx.map fun p => (p.1, if p.2 < n then some p.2 else none)
theorem mixL_len {α : Type} (l : List α) (n : Nat) : (mixL l n).length = l.length := by simp [mixL]
theorem mixL_at {α : Type} (l : List α) (n j : Nat) : (mixL l n)[j]? = (l[j]?).map fun x => (x, if j < n then some j else none) := by
  unfold mixL
  rw [List.getElem?_map, List.getElem?_zipIdx, Option.map_map, Nat.zero_add]
  rfl
theorem mixL_set {α : Type} (l : List α) (i : Nat) (x : α) (h : l[i]? = some x) : (mixL l i).set i (x, some i) = mixL l (i + 1) := by
  apply List.ext_getElem?
  intro j
  rw [List.getElem?_set, mixL_at, mixL_at, mixL_len]
  by_cases c : i = j
  case neg =>
    rw [if_neg c]
    congr 1
    funext x
    by_cases d : j < i
    case pos =>
      rw [if_pos d, if_pos (by omega)]
    rw [if_neg d, if_neg (by omega)]
  subst c
  have hl : i < l.length := (List.getElem?_eq_some_iff.1 h).1
  rw [if_pos rfl, if_pos hl, h, Option.map_some, if_pos (Nat.lt_succ_self i)]
theorem mix_start {α : Type} {w0 : World} {f : Nat → Nat} {d : Kd α} {e : Nat} {w : World} {base : Nat} {ok : Nat → Prop} {v : Value} {xs : List α} (h : (borK w0 d).R e w base ok v xs) : (mixK w0 f d).R e w base ok v (mixL xs 0) := by
  obtain ⟨h0, inner, ho, hl, hr⟩ := h
  refine ⟨h0, inner, by rw [mixL_len]; exact ho, by rw [mixL_len]; exact hl, fun j p hj => ?_⟩
  rw [mixL_at] at hj
  obtain ⟨x, hx, rfl⟩ := Option.map_eq_some_iff.1 hj
  rw [if_neg (Nat.not_lt_zero j)]
  exact hr j x hx
theorem mix_end {α : Type} {w0 : World} {f : Nat → Nat} {d : Kd α} {e : Nat} {w : World} {base : Nat} {ok : Nat → Prop} {v : Value} {xs : List α} (h : (mixK w0 f d).R e w base ok v (mixL xs xs.length)) : Kd.S d e w base ok v xs := by
  obtain ⟨h0, inner, ho, hl, hr⟩ := h
  rw [mixL_len] at ho hl
  refine ⟨f, h0, inner, by rw [List.length_zipIdx]; exact ho, by rw [List.length_zipIdx]; exact hl, fun j p hj => ?_⟩
  rw [List.getElem?_zipIdx, Nat.zero_add] at hj
  obtain ⟨x, hx, rfl⟩ := Option.map_eq_some_iff.1 hj
  have h2 := hr j (x, some j) (by rw [mixL_at, hx, Option.map_some, if_pos (List.getElem?_eq_some_iff.1 hx).1])
  exact h2
set_option maxHeartbeats 4000000 in
set_option maxRecDepth 100000 in
theorem clN.calls (A : Option Addr) (c : Nat) (xs : List S33) (w0 w : World) (hB0 : Below w0.heap.size w0 w) (hC : Kd.C k33 w0 A xs.length xs) (hl : xs.length * 56 ≤ 140737488355328) :
    Calls Tryd.prog 38 #[.slice A xs.length c] w fun e w' => ∃ v, e = .returned v ∧ (borK w0 k33).R 33 w' w.heap.size (fun _ => True) v xs ∧ Below w.heap.size w w' := by
  have q_ : ∀ (w : World) (a : Option Addr) (n c n' c' : Nat), (binOp .eql 23 (.slice a n c) (.slice none n' c')).run Tryd.prog w = .ok (.bool a.isNone) w := fun w a n c n' c' => Lib.run_eql_slice_nil w _ _ a n c n' c' Tryd.underlying23
  cases A with
  | none =>
    have h0 : xs.length = 0 := by
      rcases Nat.eq_zero_or_pos xs.length with h0 | h0
      · exact h0
      · obtain ⟨ad, h, _⟩ := hC.2.2 h0
        cases h
    obtain rfl : xs = [] := List.eq_nil_of_length_eq_zero h0
    clear hC hl h0 hB0
    go_enter Tryd.func38, Tryd.ntmps38
    go_wp2
    go_ret
    exact ⟨_, rfl, Kd.R_nil _ _ _ _ _, Below.refl _ _⟩
  | some ad =>
    have HC := Aside0.mk hC
    have HB0 := Aside0.mk hB0
    have HL := Aside0.mk hl
    clear hC hl hB0
    go_enter Tryd.func38, Tryd.ntmps38
    go_wp2_with (first
      | ((with_reducible refine gate_dst (N := 5) rfl ?_); refine Kd.R_lit (borK w0 k33) _ 33 ?hg (N := 5) ?hd (xs := ([] : List S33)) (inner := []) (ok := fun _ => True) (okp := fun _ => True) ?hr ?hp (fun _ hk => hk) trivial (Below.refl _ _) (Nat.le_refl _) (by simp) ?_; (case hd => rfl); (case hg => rfl); (case hr => first | (go_simp; done) | (go_simp; rfl)); (case hp => exact (Reps.none _ _)); intro v5 w5 ho hb hg_ hnew_; have HO := Aside0.mk ho; have HB := Aside0.mk hb; clear ho hb hg_ hnew_)
      | ((with_reducible refine gate_builtin (b := .append) (xs := #[.tmp 5, .tmp 6]) rfl ?_); at_builtin; refine Kd.R_append_rows (borK w0 k33) (Rr := Kd.K k33 w0) (w0 := w) w.heap.size rfl (.tmp 5) (.tmp 6) 23 33 (.agg #[(.int .i64 0), (.int .i64 0), (.slice none 0 0), (.string ⟨#[]⟩)]) 56 rfl Tryd.underlying23 info33 rfl (show 0 < 4 by decide) (by omega) v5 [] xs _ _ _ (fun _ => True) (fun _ => False) rfl rfl HO.out (HC.out.imp_ (below_step HB0.out HB.out) (fun _ _ h => h)) (fun _ _ h => h) (fun _ h => h.elim) (fun _ _ => trivial) HB.out HB.out.size (by have := HL.out; simp only [List.length_nil, Nat.zero_add]; exact this) ?_; intro v7 w7 ho hb hg hat; rw [List.nil_append] at ho; have HO2 := Aside0.mk ho; have HB2 := Aside0.mk hb; clear ho hb hg hat HO HB))
    go_ret
    exact ⟨_, rfl, HO2.out, HB2.out⟩
set_option maxHeartbeats 4000000 in
set_option maxRecDepth 100000 in
theorem clA.calls (A : Option Addr) (c : Nat) (xs : List S26) (w0 w : World) (hB0 : Below w0.heap.size w0 w) (hC : Kd.C k26 w0 A xs.length xs) (hl : xs.length * 16 ≤ 140737488355328) :
    Calls Tryd.prog 39 #[.slice A xs.length c] w fun e w' => ∃ v, e = .returned v ∧ (borK w0 k26).R 26 w' w.heap.size (fun _ => True) v xs ∧ Below w.heap.size w w' := by
  have q_ : ∀ (w : World) (a : Option Addr) (n c n' c' : Nat), (binOp .eql 27 (.slice a n c) (.slice none n' c')).run Tryd.prog w = .ok (.bool a.isNone) w := fun w a n c n' c' => Lib.run_eql_slice_nil w _ _ a n c n' c' Tryd.underlying27
  cases A with
  | none =>
    have h0 : xs.length = 0 := by
      rcases Nat.eq_zero_or_pos xs.length with h0 | h0
      · exact h0
      · obtain ⟨ad, h, _⟩ := hC.2.2 h0
        cases h
    obtain rfl : xs = [] := List.eq_nil_of_length_eq_zero h0
    clear hC hl h0 hB0
    go_enter Tryd.func39, Tryd.ntmps39
    go_wp2
    go_ret
    exact ⟨_, rfl, Kd.R_nil _ _ _ _ _, Below.refl _ _⟩
  | some ad =>
    have HC := Aside0.mk hC
    have HB0 := Aside0.mk hB0
    have HL := Aside0.mk hl
    clear hC hl hB0
    go_enter Tryd.func39, Tryd.ntmps39
    go_wp2_with (first
      | ((with_reducible refine gate_dst (N := 5) rfl ?_); refine Kd.R_lit (borK w0 k26) _ 26 ?hg (N := 5) ?hd (xs := ([] : List S26)) (inner := []) (ok := fun _ => True) (okp := fun _ => True) ?hr ?hp (fun _ hk => hk) trivial (Below.refl _ _) (Nat.le_refl _) (by simp) ?_; (case hd => rfl); (case hg => rfl); (case hr => first | (go_simp; done) | (go_simp; rfl)); (case hp => exact (Reps.none _ _)); intro v5 w5 ho hb hg_ hnew_; have HO := Aside0.mk ho; have HB := Aside0.mk hb; clear ho hb hg_ hnew_)
      | ((with_reducible refine gate_builtin (b := .append) (xs := #[.tmp 5, .tmp 6]) rfl ?_); at_builtin; refine Kd.R_append_rows (borK w0 k26) (Rr := Kd.K k26 w0) (w0 := w) w.heap.size rfl (.tmp 5) (.tmp 6) 27 26 (.agg #[(.int .i64 0), (.int .i64 0)]) 16 rfl Tryd.underlying27 info26 rfl (show 0 < 2 by decide) (by omega) v5 [] xs _ _ _ (fun _ => True) (fun _ => False) rfl rfl HO.out (HC.out.imp_ (below_step HB0.out HB.out) (fun _ _ h => h)) (fun _ _ h => h) (fun _ h => h.elim) (fun _ _ => trivial) HB.out HB.out.size (by have := HL.out; simp only [List.length_nil, Nat.zero_add]; exact this) ?_; intro v7 w7 ho hb hg hat; rw [List.nil_append] at ho; have HO2 := Aside0.mk ho; have HB2 := Aside0.mk hb; clear ho hb hg hat HO HB))
    go_ret
    exact ⟨_, rfl, HO2.out, HB2.out⟩
set_option maxHeartbeats 4000000 in
set_option maxRecDepth 100000 in
theorem clS.calls (A : Option Addr) (c : Nat) (xs : List ByteArray) (w0 w : World) (hB0 : Below w0.heap.size w0 w) (hC : Kd.C Kd.string w0 A xs.length xs) (hl : xs.length * 16 ≤ 140737488355328) :
    Calls Tryd.prog 40 #[.slice A xs.length c] w fun e w' => ∃ v, e = .returned v ∧ (borK w0 Kd.string).R 9 w' w.heap.size (fun _ => True) v xs ∧ Below w.heap.size w w' := by
  have q_ : ∀ (w : World) (a : Option Addr) (n c n' c' : Nat), (binOp .eql 31 (.slice a n c) (.slice none n' c')).run Tryd.prog w = .ok (.bool a.isNone) w := fun w a n c n' c' => Lib.run_eql_slice_nil w _ _ a n c n' c' Tryd.underlying31
  cases A with
  | none =>
    have h0 : xs.length = 0 := by
      rcases Nat.eq_zero_or_pos xs.length with h0 | h0
      · exact h0
      · obtain ⟨ad, h, _⟩ := hC.2.2 h0
        cases h
    obtain rfl : xs = [] := List.eq_nil_of_length_eq_zero h0
    clear hC hl h0 hB0
    go_enter Tryd.func40, Tryd.ntmps40
    go_wp2
    go_ret
    exact ⟨_, rfl, Kd.R_nil _ _ _ _ _, Below.refl _ _⟩
  | some ad =>
    have HC := Aside0.mk hC
    have HB0 := Aside0.mk hB0
    have HL := Aside0.mk hl
    clear hC hl hB0
    go_enter Tryd.func40, Tryd.ntmps40
    go_wp2_with (first
      | ((with_reducible refine gate_dst (N := 5) rfl ?_); refine Kd.R_lit (borK w0 Kd.string) _ 9 ?hg (N := 5) ?hd (xs := ([] : List ByteArray)) (inner := []) (ok := fun _ => True) (okp := fun _ => True) ?hr ?hp (fun _ hk => hk) trivial (Below.refl _ _) (Nat.le_refl _) (by simp) ?_; (case hd => rfl); (case hg => rfl); (case hr => first | (go_simp; done) | (go_simp; rfl)); (case hp => exact (Reps.none _ _)); intro v5 w5 ho hb hg_ hnew_; have HO := Aside0.mk ho; have HB := Aside0.mk hb; clear ho hb hg_ hnew_)
      | ((with_reducible refine gate_builtin (b := .append) (xs := #[.tmp 5, .tmp 6]) rfl ?_); at_builtin; refine Kd.R_append_rows (borK w0 Kd.string) (Rr := Kd.K Kd.string w0) (w0 := w) w.heap.size rfl (.tmp 5) (.tmp 6) 31 9 (.string ⟨#[]⟩) 16 rfl Tryd.underlying31 info9 rfl (show 0 < 1 by decide) (by omega) v5 [] xs _ _ _ (fun _ => True) (fun _ => False) rfl rfl HO.out (HC.out.imp_ (below_step HB0.out HB.out) (fun _ _ h => h)) (fun _ _ h => h) (fun _ h => h.elim) (fun _ _ => trivial) HB.out HB.out.size (by have := HL.out; simp only [List.length_nil, Nat.zero_add]; exact this) ?_; intro v7 w7 ho hb hg hat; rw [List.nil_append] at ho; have HO2 := Aside0.mk ho; have HB2 := Aside0.mk hb; clear ho hb hg hat HO HB))
    go_ret
    exact ⟨_, rfl, HO2.out, HB2.out⟩
def sc_fit (l0 : List S33) (l2 : List S26) : Bool := decide (l0.length ≤ 2513169434916) && (decide (l2.length ≤ 8796093022208) && l0.all fun x => decide (x.f2.length ≤ 8796093022208))
def session_Copy.f (l0_0 : List S33) (a0_1 : Int) (l0_2 : List S26) : Option (List S33 × Int × List S26) := if sc_fit l0_0 l0_2 = true then some (l0_0, a0_1, l0_2) else none
def session_Copy.T1 : Bool × List (List Nat × List Nat) := (true, [([], []), ([0], [0]), ([1], [1]), ([], []), ([3], [3]), ([4, 2], [4]), ([0, 1, 2, 3, 4], []), ([6, 2, 5, 0, 1, 2, 3, 4], [2, 6]), ([0, 1, 2, 3, 4, 5, 6, 7], []), ([8, 5, 7, 0, 1, 2, 3, 4, 5, 6, 7], [5, 8])])
def session_Copy.B1 : List Nat := [0, 1, 3, 0, 8, 31, 31, 127, 255, 511]
theorem session_Copy.tab1 : rtab .any (opsOf Tryd.f26 1) = session_Copy.T1 := by kernel_rfl
theorem session_Copy.bits1 : waitsOk session_Copy.T1.2 session_Copy.B1 = true := by kernel_rfl
def session_Copy.T5 : Bool × List (List Nat × List Nat) := (true, [([], []), ([0], [0]), ([], []), ([], []), ([3], [3]), ([], []), ([4, 5], [4, 5]), ([6], [6]), ([7], [7]), ([8], [8]), ([1, 2, 0, 1, 2, 3, 4, 5, 6, 7, 8, 9], [1, 2]), ([10, 0, 1, 2, 3, 4, 5, 6, 7, 8, 9], [10]), ([11, 9, 9, 0, 1, 2, 3, 4, 5, 6, 7, 8, 9], [9, 11])])
def session_Copy.B5 : List Nat := [0, 1, 0, 0, 8, 0, 56, 120, 248, 504, 1023, 2047, 4095]
theorem session_Copy.tab5 : rtab .any (opsOf Tryd.f26 5) = session_Copy.T5 := by kernel_rfl
theorem session_Copy.bits5 : waitsOk session_Copy.T5.2 session_Copy.B5 = true := by kernel_rfl
theorem mixL_rd (l : List S33) (x : Int) (h0 : 0 ≤ x) (h1 : x < (l.length : Int)) : (mixL l x.toNat).getD x.toNat (z33, none) = (rd_T33 l x, none) := by
  have hl : x.toNat < l.length := by omega
  rw [List.getD_eq_getElem?_getD, mixL_at, List.getElem?_eq_getElem hl, Option.map_some, if_neg (Nat.lt_irrefl _)]
  show (_, _) = (List.getD _ _ _, _)
  rw [List.getD_eq_getElem?_getD, List.getElem?_eq_getElem hl]; rfl
theorem rd_mem_N (l : List S33) (x : Int) (h0 : 0 ≤ x) (h1 : x < (l.length : Int)) : rd_T33 l x ∈ l := by
  show List.getD _ _ _ ∈ _
  rw [List.getD_eq_getElem?_getD, List.getElem?_eq_getElem (show x.toNat < l.length by omega)]
  exact List.getElem_mem _
theorem rd_some_N (l : List S33) (x : Int) (h0 : 0 ≤ x) (h1 : x < (l.length : Int)) : l[x.toNat]? = some (rd_T33 l x) := by
  have hl : x.toNat < l.length := by omega
  rw [List.getElem?_eq_getElem hl]
  show some _ = some (List.getD _ _ _)
  rw [List.getD_eq_getElem?_getD, List.getElem?_eq_getElem hl]; rfl
theorem wsuccN (x : Int) (h0 : 0 ≤ x) (h1 : x ≤ 9223372036854775806) : wrap64 (x + 1) = x + 1 := by unfold wrap64; omega
theorem sc_spec {l0 : List S33} {l2 : List S26} (h : sc_fit l0 l2 = true) : l0.length ≤ 2513169434916 ∧ l2.length ≤ 8796093022208 ∧ ∀ x ∈ l0, x.f2.length ≤ 8796093022208 := by
  unfold sc_fit at h
  rw [Bool.and_eq_true, Bool.and_eq_true, decide_eq_true_iff, decide_eq_true_iff] at h
  exact ⟨h.1, h.2.1, fun x hx => of_decide_eq_true (List.all_eq_true.1 h.2.2 x hx)⟩
theorem borA {w0 w : World} {e base : Nat} {ok : Nat → Prop} {v : Value} {xs : List S26} (h : (borK w0 k26).R e w base ok v xs) : k26.R e w base ok v xs := Kd.R_imp rfl (fun _ _ _ _ _ h => h) h
theorem borS {w0 w : World} {e base : Nat} {ok : Nat → Prop} {v : Value} {xs : List ByteArray} (h : (borK w0 Kd.string).R e w base ok v xs) : Kd.string.R e w base ok v xs := Kd.R_imp rfl (fun _ _ _ _ _ h => h) h
set_option maxHeartbeats 8000000 in
set_option maxRecDepth 100000 in
theorem session_Copy.callsS (A0_0 : Option Addr) (c0_0 : Nat) (l0_0 : List S33) (a0_1 : Int) (A0_2 : Option Addr) (c0_2 : Nat) (l0_2 : List S26) (w : World) (hr0_0 : Kd.C k33 w A0_0 l0_0.length l0_0) (hc0_0 : l0_0.length ≤ c0_0) (hr0_2 : Kd.C k26 w A0_2 l0_2.length l0_2) (hc0_2 : l0_2.length ≤ c0_2) (hfit : sc_fit l0_0 l0_2 = true) :
    Calls Tryd.prog 26 #[.agg #[.slice A0_0 l0_0.length c0_0, .int .i64 a0_1, .slice A0_2 l0_2.length c0_2]] w fun e w' => ∃ v0_ v2_ : Value, e = .returned (.agg #[v0_, .int .i64 a0_1, v2_]) ∧ Kd.S k33 33 w' w.heap.size (fun _ => True) v0_ l0_0 ∧ Kd.R k26 26 w' w.heap.size (fun _ => True) v2_ l0_2 ∧ Below w.heap.size w w' := by
  obtain ⟨hx0, hx2, hxa⟩ := sc_spec hfit
  have HR0 := Aside0.mk hr0_0
  have HC0 := Aside0.mk hc0_0
  have HR2 := Aside0.mk hr0_2
  have HC2 := Aside0.mk hc0_2
  have HL0 := Aside0.mk (show l0_0.length * 56 ≤ 140737488355328 by omega)
  have HL2 := Aside0.mk (show l0_2.length * 16 ≤ 140737488355328 by omega)
  have HLa := Aside0.mk hxa
  have hmx := Aside0.mk hx0
  clear hr0_0 hc0_0 hr0_2 hc0_2 hx0 hx2 hxa hfit
  have HB := Aside0.mk (Below.refl w.heap.size w)
  have hu := Tryd.underlying29
  go_enter Tryd.func26, Tryd.ntmps26
  go_wp2_with (first
    | ((with_reducible refine gate_dst (N := 1) rfl ?_); refine boxE_ 1 #[.slice A0_0 l0_0.length c0_0, .int .i64 a0_1, .slice A0_2 l0_2.length c0_2] 29 ?_; intro gb1 hg w1 hbox hb; have GE1 := Aside0.mk (gE_ hg : w.heap.size ≤ gb1); have n0_ := Aside0.mk (below_step hB_ hb); clear HB; have HB := n0_; have BK1 := Aside0.mk hbox; clear n0_ hg hbox hb)
    | ((with_reducible refine gate_dst (N := 2) rfl ?_); refine boxE_ 2 #[.slice none 0 0, .int .i64 0, .slice none 0 0] 29 ?_; intro gb2 hg w2 hbox hb; have GE2 := Aside0.mk (gE_ hg : w.heap.size ≤ gb2); have NB := Aside0.mk (bL_ BK1.out hg : gb1 ≠ gb2); have n0_ := Aside0.mk (below_step hC_ hb); have n1_ := Aside0.mk (bB_ BK1.out hb); clear HB BK1; have HB := n0_; have BK1 := n1_; have BK2 := Aside0.mk hbox; clear n0_ n1_ hg hbox hb))
  have n0_ := Aside0.mk (blk_drew BK1.out)
  have n1_ := Aside0.mk (blk_drew BK2.out)
  have n2_ := Aside0.mk (below_drew1 HB.out)
  clear BK1 BK2 HB
  have BK1 := n0_
  have BK2 := n1_
  have HB := n2_
  clear n0_ n1_ n2_
  refine start_ (n := 10) (S := fun w' => w'.cell? ⟨gb1, 0, none⟩ = some (.slice A0_0 l0_0.length c0_0) ∧ w'.cell? ⟨gb1, 2, none⟩ = some (.slice A0_2 l0_2.length c0_2)) (ds := [7, 9]) #[false, false, false, false, false, false, false, false, false, false] (by kernel_rfl) rfl rfl ⟨bc0_ BK1.out, bc2_ BK1.out⟩ (fun hHeld => ?_)
  refine with_tabW session_Copy.tab1 session_Copy.bits1 (fun HT_ HW_ => ?_)
  generalize w2.drew = w3 at BK1 BK2 HB hHeld ⊢
  refine pA_ 0 4 #[true, false, false, false, false, false, false, false, false, false] HT_.out ?_
  refine pA_ 3 7 #[true, false, false, true, false, false, false, false, false, false] HT_.out ?_
  refine tA_ 1 5 #[true, true, false, true, false, false, false, false, false, false] HT_.out HW_.out hHeld ?_
  refine tA_ 4 8 #[true, true, false, true, true, false, false, false, false, false] HT_.out HW_.out hHeld ?_
  refine one_ (i := 2) (N := some 6) #[true, true, true, true, true, false, false, false, false, false] rfl rfl (one_of HT_.out (by kernel_rfl)) (by decide) (fun K hK => ?_)
  refine goes_ Tryd.func38 (by kernel_rfl) rfl #[.slice A0_0 l0_0.length c0_0] (by rfl) rfl rfl hL_ ?_
  refine (clN.calls A0_0 c0_0 l0_0 w _ HB.out HR0.out HL0.out).mono ?_
  rintro e w4 ⟨v0, rfl, ho0, hb⟩
  refine ⟨_, rfl, ?_⟩
  have HO0 := Aside0.mk (Kd.R_lower ho0 HB.out.size)
  have BK1' := Aside0.mk (blk_below BK1.out hb)
  have BK2' := Aside0.mk (blk_below BK2.out hb)
  have HB' := Aside0.mk (below_step HB.out hb)
  clear BK1 BK2 ho0 hb
  obtain ⟨Ao, co, e0⟩ := Kd.R_slice HO0.out
  subst e0
  refine hK.out _ _ ⟨bc0_ BK1'.out, bc2_ BK1'.out⟩ (fun hHeld => ?_)
  clear hK K
  refine norm_ (a' := ?_) ?_ ?_
  rotate_left
  · show Act.put _ (some 6) _ = _
    simp only [Act.put, List.setIfInBounds_toArray, List.set_cons_zero, List.set_cons_succ, i64_w, i32_w]
    rfl
  refine pA_ 6 10 #[true, true, true, true, true, false, true, false, false, false] HT_.out ?_
  refine one_ (i := 5) (N := some 9) #[true, true, true, true, true, true, true, false, false, false] rfl rfl (one_of HT_.out (by kernel_rfl)) (by decide) (fun K hK => ?_)
  refine goes_ Tryd.func39 (by kernel_rfl) rfl #[.slice A0_2 l0_2.length c0_2] (by rfl) rfl rfl hL_ ?_
  refine (clA.calls A0_2 c0_2 l0_2 w _ HB'.out HR2.out HL2.out).mono ?_
  rintro e w5 ⟨v2, rfl, ho2, hb⟩
  refine ⟨_, rfl, ?_⟩
  have HO2 := Aside0.mk (borA (Kd.R_lower ho2 HB'.out.size))
  have HO0' := Aside0.mk (Kd.R_below HO0.out hb)
  have BK1 := Aside0.mk (blk_below BK1'.out hb)
  have BK2 := Aside0.mk (blk_below BK2'.out hb)
  have HB5 := Aside0.mk (below_step HB'.out hb)
  clear BK1' BK2' ho2 hb HO0 HB'
  obtain ⟨Ao2, co2, e2⟩ := Kd.R_slice HO2.out
  subst e2
  refine hK.out _ _ ⟨bc0_ BK1.out, bc2_ BK1.out⟩ (fun hHeld => ?_)
  clear hK K
  refine norm_ (a' := ?_) ?_ ?_
  rotate_left
  · show Act.put _ (some 9) _ = _
    simp only [Act.put, List.setIfInBounds_toArray, List.set_cons_zero, List.set_cons_succ, i64_w, i32_w]
    rfl
  refine last_ (i := 7) (N := none) #[true, true, true, true, true, true, true, true, false, false] rfl rfl (one_of HT_.out (by kernel_rfl)) (by decide) (fun K hK => ?_)
  obtain ⟨hc0, hc1, hc2, hf0, hf1, hf2⟩ := bx3_ BK1.out
  refine skip_ (w1 := ?_) (by rfl) rfl ?_ ?_
  rotate_left
  · go_simp
    rfl
  refine hK.out _ _ ?_
  clear hK K hc0 hc1 hc2 hf0 hf1 hf2 hHeld
  have n0_ : Aside0 _ := Aside0.mk (bP_ (u := .slice Ao l0_0.length co) (i := 0) (cs' := #[.slice Ao l0_0.length co, .int .i64 a0_1, .slice A0_2 l0_2.length c0_2]) BK1.out)
  have n1_ := Aside0.mk (bF_ (p := ⟨gb1, 0, none⟩) (u := .slice Ao l0_0.length co) BK2.out (Ne.symm NB.out))
  have n2_ := Aside0.mk (Kd.R_drop (rF_ (j := 0) (u := .slice Ao l0_0.length co) (Kd.R_types HO0'.out BK1.out (show ∀ q, q ∈ ([33, 9] : List Nat) → q ≠ 29 by decide))))
  have n3_ := Aside0.mk (Kd.R_drop (rF_ (j := 0) (u := .slice Ao l0_0.length co) (Kd.R_types HO2.out BK1.out (by decide))))
  have n4_ := Aside0.mk (below_set (j := 0) (v := .slice Ao l0_0.length co) HB5.out GE1.out)
  clear BK1 BK2 HO0' HO2 HB5
  have BK1 := n0_
  have BK2 := n1_
  have HO0' := n2_
  have HO2 := n3_
  have HB5 := n4_
  clear n0_ n1_ n2_ n3_ n4_
  generalize w5.setCell ⟨gb1, 0, none⟩ (.slice Ao l0_0.length co) = w6 at BK1 BK2 HO0' HO2 HB5 ⊢
  refine pA_ 8 11 #[true, true, true, true, true, true, true, true, true, false] HT_.out ?_
  refine last_ (i := 9) (N := none) #[true, true, true, true, true, true, true, true, true, true] rfl rfl (one_of HT_.out (by kernel_rfl)) (by decide) (fun K hK => ?_)
  obtain ⟨hc0, hc1, hc2, hf0, hf1, hf2⟩ := bx3_ BK1.out
  refine skip_ (w1 := ?_) (by rfl) rfl ?_ ?_
  rotate_left
  · go_simp
    rfl
  refine hK.out _ _ ?_
  clear hK K hc0 hc1 hc2 hf0 hf1 hf2
  have n0_ := Aside0.mk (bP_ (u := .slice Ao2 l0_2.length co2) (i := 2) (cs' := #[.slice Ao l0_0.length co, .int .i64 a0_1, .slice Ao2 l0_2.length co2]) BK1.out)
  have n1_ := Aside0.mk (bF_ (p := ⟨gb1, 2, none⟩) (u := .slice Ao2 l0_2.length co2) BK2.out (Ne.symm NB.out))
  have n2_ := Aside0.mk (Kd.R_drop (rF_ (j := 2) (u := .slice Ao2 l0_2.length co2) (Kd.R_types HO0'.out BK1.out (show ∀ q, q ∈ ([33, 9] : List Nat) → q ≠ 29 by decide))))
  have n3_ := Aside0.mk (Kd.R_drop (rF_ (j := 2) (u := .slice Ao2 l0_2.length co2) (Kd.R_types HO2.out BK1.out (by decide))))
  have n4_ := Aside0.mk (below_set (j := 2) (v := .slice Ao2 l0_2.length co2) HB5.out GE1.out)
  clear BK1 BK2 HO0' HO2 HB5
  have BK1 := n0_
  have BK2 := n1_
  have HO0' := n2_
  have HO2 := n3_
  have HB5 := n4_
  clear n0_ n1_ n2_ n3_ n4_
  generalize w6.setCell ⟨gb1, 2, none⟩ (.slice Ao2 l0_2.length co2) = w7 at BK1 BK2 HO0' HO2 HB5 ⊢
  refine done_ (done_of HT_.out (by kernel_rfl)) ?_
  clear HT_ HW_
  have HM := Aside0.mk (mix_start (f := fun _ => 0) HO0'.out)
  clear HO0'
  obtain ⟨hc0, hc1, hc2, hf0, hf1, hf2⟩ := bx3_ BK1.out
  go_wp2
  clear hc0 hc1 hc2 hf0 hf1 hf2
  go_loopw [15] (fun v wr => ∃ x : Int, v = .int .i64 x ∧ Aside0 (0 ≤ x ∧ x ≤ (l0_0.length : Int)) ∧ Aside0 (wr.heap[gb1]? = some (.cells #[.slice Ao l0_0.length co, .int .i64 a0_1, .slice Ao2 l0_2.length co2] 29 (0, 0))) ∧ Aside0 (wr.heap[gb2]? = some (.cells #[.slice none 0 0, .int .i64 0, .slice none 0 0] 29 (0, 0))) ∧ Aside0 (k26.R 26 wr w.heap.size (fun _ => True) (.slice Ao2 l0_2.length co2) l0_2) ∧ Aside0 (Below w.heap.size w wr) ∧ Aside0 (∃ f, (mixK w f k33).R 33 wr w.heap.size (fun _ => True) (.slice Ao l0_0.length co) (mixL l0_0 x.toNat))) (fun v _ => l0_0.length - (intOf v).toNat)
  case atStart => exact ⟨0, rfl, ⟨by omega, by omega⟩, BK1, BK2, HO2, HB5, ⟨⟨_, HM.out⟩⟩⟩
  case round =>
    clear BK1 BK2 HO2 HB5 HM
    obtain ⟨x, rfl, HX, BK1, BK2, HO2, HB, HM⟩ := hrel
    by_cases hlt : x < (l0_0.length : Int)
    case neg =>
      have hltb := decide_eq_false hlt
      obtain ⟨f, hM⟩ := HM.out
      have hxl : x.toNat = l0_0.length := by have := HX.out; omega
      rw [hxl] at hM
      have hS := Aside0.mk (mix_end hM)
      obtain ⟨hc0, hc1, hc2, hf0, hf1, hf2⟩ := bx3_ BK1.out
      obtain ⟨kc0, kc1, kc2, kf0, kf1, kf2⟩ := bx3_ BK2.out
      have hn1 := NB.out
      have hn2 := Ne.symm NB.out
      clear hM HM hlt hxl
      go_wp2
      refine bodyPost_ret (results_cell_row rfl _ _ gb2 29 #[.slice Ao l0_0.length co, .int .i64 a0_1, .slice Ao2 l0_2.length co2] (0, 0) _ rfl (bP_ (i := 2) (cs' := #[.slice Ao l0_0.length co, .int .i64 a0_1, .slice Ao2 l0_2.length co2]) (bP_ (i := 1) (cs' := #[.slice Ao l0_0.length co, .int .i64 a0_1, .slice none 0 0]) (bP_ (i := 0) (cs' := #[.slice Ao l0_0.length co, .int .i64 0, .slice none 0 0]) BK2.out))) hu rfl (by kernel_rfl)) rfl ?_
      refine ⟨_, _, rfl, ?_, ?_, ?_⟩
      · exact Kd.S_mono (sF_ (sF_ (sF_ (Kd.S_types hS.out BK2.out (show ∀ q, q ∈ ([33, 9] : List Nat) → q ≠ 29 by decide))))) (fun _ _ => trivial)
      · exact Kd.R_mono (rF_ (rF_ (rF_ (Kd.R_types HO2.out BK2.out (by decide))))) (fun _ _ => trivial)
      · exact below_set (below_set (below_set HB.out GE2.out) GE2.out) GE2.out
    have hltb := decide_eq_true hlt
    obtain ⟨f, hM⟩ := HM.out
    have hx0 := HX.out.1
    obtain ⟨g, cap, e, hbg, hgl, cells, hgc⟩ := Kd.R_form hM (by rw [mixL_len]; omega)
    rw [mixL_len] at e
    injection e with e1 e2_ e3
    subst e1 e3
    obtain ⟨c, hcl, hcM, hcc, hfz⟩ := Kd.R_elem hM (z33, none) x hx0 (by omega)
    rw [mixL_rd l0_0 x hx0 hlt] at hcM
    obtain ⟨A2e, c2e, rfl, hl2e, hC2e⟩ := k33_open (show k33.K w (rd_T33 l0_0 x) c from hcM)
    have hcell : wr.drew.cell? ⟨g, x.toNat * 4 + 2, none⟩ = some (.slice A2e (rd_T33 l0_0 x).f2.length c2e) := hcc 2 _ rfl
    have HF := Aside0.mk (show (rd_T33 l0_0 x).f2.length * 16 ≤ 140737488355328 by have := HLa.out _ (rd_mem_N l0_0 x hx0 hlt); omega)
    have HE := Aside0.mk (And.intro hx0 (And.intro hlt (And.intro hbg (And.intro hl2e hC2e))))
    have HM' := Aside0.mk (Kd.R_drew hM)
    have HCC := Aside0.mk (show ∀ j u, [Value.int .i64 (rd_T33 l0_0 x).f0, .int .i64 (rd_T33 l0_0 x).f1, .slice A2e (rd_T33 l0_0 x).f2.length c2e, .string (rd_T33 l0_0 x).f3][j]? = some u → wr.drew.cell? ⟨g, x.toNat * 4 + j, none⟩ = some u from hcc)
    have HGC := Aside0.mk (show wr.drew.heap[g]? = some (.cells cells 33 (0, 0)) from hgc)
    have n0_ := Aside0.mk (blk_drew BK1.out)
    have n1_ := Aside0.mk (blk_drew BK2.out)
    have n2_ := Aside0.mk (below_drew1 HB.out)
    have n3_ := Aside0.mk (Kd.R_drew HO2.out)
    clear BK1 BK2 HB HO2
    have BK1 := n0_
    have BK2 := n1_
    have HB := n2_
    have HO2 := n3_
    clear n0_ n1_ n2_ n3_
    clear HM hM hbg hgl hgc hcl hcM hcc hfz hl2e hC2e
    have hlt_ := eq_true hlt
    have hx0_ := eq_true hx0
    have hu1 := Tryd.underlying33
    have hu2 := Tryd.underlying23
    clear hlt hx0
    have HX0 := Aside0.mk hcell
    clear hcell
    go_wp2
    have hcell := HX0.out
    refine start_ (n := 13) (S := fun w' => w'.cell? ⟨gb1, 0, none⟩ = some (.slice (some ⟨g, 0, none⟩) l0_0.length co) ∧ w'.cell? ⟨g, x.toNat * 4 + 2, none⟩ = some (.slice A2e (rd_T33 l0_0 x).f2.length c2e)) (ds := [12]) #[false, false, false, false, false, false, false, false, false, false, false, false, false] (by kernel_rfl) rfl rfl ⟨bc0_ BK1.out, hcell⟩ (fun hHeld => ?_)
    refine with_tabW session_Copy.tab5 session_Copy.bits5 (fun HT_ HW_ => ?_)
    clear hcell HX0
    generalize wr.drew = w3 at BK1 BK2 HB HO2 HM' HCC HGC hHeld ⊢
    refine pA_ 0 18 #[true, false, false, false, false, false, false, false, false, false, false, false, false] HT_.out ?_
    refine pA_ 2 20 #[true, false, true, false, false, false, false, false, false, false, false, false, false] HT_.out ?_
    refine pA_ 3 21 #[true, false, true, true, false, false, false, false, false, false, false, false, false] HT_.out ?_
    refine pA_ 5 23 #[true, false, true, true, false, true, false, false, false, false, false, false, false] HT_.out ?_
    refine tA_ 1 19 #[true, true, true, true, false, true, false, false, false, false, false, false, false] HT_.out HW_.out hHeld ?_
    refine tA_ 4 22 #[true, true, true, true, true, true, false, false, false, false, false, false, false] HT_.out HW_.out hHeld ?_
    refine pA_ 6 24 #[true, true, true, true, true, true, true, false, false, false, false, false, false] HT_.out ?_
    refine pA_ 7 25 #[true, true, true, true, true, true, true, true, false, false, false, false, false] HT_.out ?_
    refine tA_ 8 26 #[true, true, true, true, true, true, true, true, true, false, false, false, false] HT_.out HW_.out hHeld ?_
    refine one_ (i := 9) (N := some 27) #[true, true, true, true, true, true, true, true, true, true, false, false, false] rfl rfl (one_of HT_.out (by kernel_rfl)) (by decide) (fun K hK => ?_)
    refine goes_ Tryd.func40 (by kernel_rfl) rfl #[.slice A2e (rd_T33 l0_0 x).f2.length c2e] (by rfl) rfl rfl hL_ ?_
    refine (clS.calls A2e c2e (rd_T33 l0_0 x).f2 w _ HB.out HE.out.2.2.2.2 HF.out).mono ?_
    rintro e w4 ⟨v5, rfl, ho, hb⟩
    refine ⟨_, rfl, ?_⟩
    have HOS := Aside0.mk (borS ho)
    obtain ⟨A5, c5, e5⟩ := Kd.R_slice HOS.out
    subst e5
    have n0_ := Aside0.mk (blk_below BK1.out hb)
    have n1_ := Aside0.mk (blk_below BK2.out hb)
    have n2_ := Aside0.mk (below_step HB.out hb)
    have n3_ := Aside0.mk (Kd.R_below HO2.out hb)
    have n4_ := Aside0.mk (And.intro HM'.out hb)
    have HGL := Aside0.mk (blk_lt HGC.out)
    have n5_ := Aside0.mk (blk_below HGC.out hb)
    have HCC' := Aside0.mk (fun j u (hu : [Value.int .i64 (rd_T33 l0_0 x).f0, .int .i64 (rd_T33 l0_0 x).f1, .slice A2e (rd_T33 l0_0 x).f2.length c2e, .string (rd_T33 l0_0 x).f3][j]? = some u) => (hb.cell (World.block_lt_of_cell? w3 _ (HCC.out j u hu))).trans (HCC.out j u hu))
    clear BK1 BK2 HB HO2 HM' HGC
    have BK1 := n0_
    have BK2 := n1_
    have HB := n2_
    have HO2 := n3_
    have HM' := n4_
    have HGC := n5_
    clear n0_ n1_ n2_ n3_ n4_ n5_
    clear HCC ho hb
    refine hK.out _ _ ⟨bc0_ BK1.out, HCC'.out 2 _ rfl⟩ (fun hHeld => ?_)
    clear hK K
    refine norm_ (a' := ?_) ?_ ?_
    rotate_left
    · show Act.put _ (some 27) _ = _
      simp only [Act.put, List.setIfInBounds_toArray, List.set_cons_zero, List.set_cons_succ, i64_w, i32_w]
      rfl
    refine pA_ 10 28 #[true, true, true, true, true, true, true, true, true, true, true, false, false] HT_.out ?_
    refine pA_ 11 29 #[true, true, true, true, true, true, true, true, true, true, true, true, false] HT_.out ?_
    refine last_ (i := 12) (N := none) #[true, true, true, true, true, true, true, true, true, true, true, true, true] rfl rfl (one_of HT_.out (by kernel_rfl)) (by decide) (fun K hK => ?_)
    have hcell := HCC'.out 2 _ rfl
    have hfrz := blk_frozen HGC.out (x.toNat * 4 + 2)
    refine skip_ (w1 := ?_) (by rfl) rfl ?_ ?_
    rotate_left
    · go_simp
      rfl
    refine hK.out _ _ ?_
    clear hK K hHeld
    refine done_ (done_of HT_.out (by kernel_rfl)) ?_
    go_wp2
    obtain ⟨hx0, hlt, hbg, hl2e, hC2e⟩ := HE.out
    have hw : wrap64 (x + 1) = x + 1 := wsuccN x hx0 (by have := hmx.out; omega)
    have hng1 : gb1 ≠ g := blk_ne BK1.out HGC.out (by decide)
    have hng2 : gb2 ≠ g := blk_ne BK2.out HGC.out (by decide)
    have hR' := Kd.R_below (mix_tag (f' := fun k => if k < w3.heap.size then f k else x.toNat) HM'.out.1 (fun k hk => by rw [if_pos hk])) HM'.out.2
    have hST : Kd.string.R 9 w4 w.heap.size (fun k => w3.heap.size ≤ k ∧ (if k < w3.heap.size then f k else x.toNat) = x.toNat) (.slice A5 (rd_T33 l0_0 x).f2.length c5) (rd_T33 l0_0 x).f2 := Kd.R_lower (Kd.R_mono (Kd.R_bound HOS.out) (fun k hk => ⟨hk.2.1, by rw [if_neg (Nat.not_lt.2 hk.2.1)]⟩)) (Nat.le_trans hbg (Nat.le_of_lt HGL.out))
    have hSEG := (Kd.R_seg (okp := fun k => w3.heap.size ≤ k) hR' x hx0 (by omega) (seg := [.slice A5 (rd_T33 l0_0 x).f2.length c5]) (j := 2) (x' := (rd_T33 l0_0 x, some x.toNat)) rfl HCC'.out (show 2 + 1 ≤ 4 by decide) (k33_mkM w4 w.heap.size _ (rd_T33 l0_0 x) hST) (fun k hk => ⟨trivial, fun e => by have := HGL.out; omega⟩)).1
    rw [mixL_set l0_0 x.toNat (rd_T33 l0_0 x) (rd_some_N l0_0 x hx0 hlt)] at hSEG
    rw [hw]
    refine ⟨⟨x + 1, rfl, ⟨by omega, by omega⟩, ⟨bF_ (p := ⟨g, x.toNat * 4 + 2, none⟩) (u := .slice A5 (rd_T33 l0_0 x).f2.length c5) BK1.out hng1⟩, ⟨bF_ (p := ⟨g, x.toNat * 4 + 2, none⟩) (u := .slice A5 (rd_T33 l0_0 x).f2.length c5) BK2.out hng2⟩, ⟨Kd.R_drop (Kd.R_far (p := ⟨g, x.toNat * 4 + 2, none⟩) (Kd.R_types HO2.out HGC.out (by decide)) (fun _ hk => hk.2) (.slice A5 (rd_T33 l0_0 x).f2.length c5))⟩, ⟨HB.out.setCell (p := ⟨g, x.toNat * 4 + 2, none⟩) hbg (.slice A5 (rd_T33 l0_0 x).f2.length c5)⟩, ⟨⟨fun k => if k < w3.heap.size then f k else x.toNat, ?_⟩⟩⟩, by simp only [intOf]; omega⟩
    rw [show (x + 1).toNat = x.toNat + 1 by omega]
    exact hSEG
theorem session_Copy.calls (A0_0 : Option Addr) (c0_0 : Nat) (l0_0 : List S33) (a0_1 : Int) (A0_2 : Option Addr) (c0_2 : Nat) (l0_2 : List S26) (r1 : List S33) (r2 : Int) (r3 : List S26) (w : World) (hr0_0 : Kd.C k33 w A0_0 l0_0.length l0_0) (hc0_0 : l0_0.length ≤ c0_0) (hr0_2 : Kd.C k26 w A0_2 l0_2.length l0_2) (hc0_2 : l0_2.length ≤ c0_2) (h : session_Copy.f l0_0 a0_1 l0_2 = some (r1, r2, r3)) :
    Calls Tryd.prog 26 #[.agg #[.slice A0_0 l0_0.length c0_0, .int .i64 a0_1, .slice A0_2 l0_2.length c0_2]] w fun e w' => ∃ v0_ v2_ : Value, e = .returned (.agg #[v0_, .int .i64 r2, v2_]) ∧ Kd.N k33 33 w' w.heap.size (fun _ => True) v0_ r1 ∧ Kd.R k26 26 w' w.heap.size (fun _ => True) v2_ r3 ∧ Below w.heap.size w w' := by
  unfold session_Copy.f at h
  by_cases c : sc_fit l0_0 l0_2 = true
  case neg =>
    rw [if_neg c] at h; cases h

  rw [if_pos c] at h
  obtain ⟨rfl, h2⟩ := Prod.mk.inj (Option.some.inj h)
  obtain ⟨rfl, rfl⟩ := Prod.mk.inj h2
  refine (session_Copy.callsS A0_0 c0_0 l0_0 a0_1 A0_2 c0_2 l0_2 w hr0_0 hc0_0 hr0_2 hc0_2 c).mono ?_
  rintro e w' ⟨v0, v2, h1, h2, h3, h4⟩
  exact ⟨v0, v2, h1, Kd.R_N (Kd.S_R h2), h3, h4⟩
end Go.Proofs.YtgokcaccamfgfaaDoor.G
end
section
-- Laid by the session's own driver gp.py over the kit's printer. Not trusted: Lean checks it.
namespace Go.Proofs.YtgokcaccamfgfaaDoor.G
open Go.RowKit Go.Proofs.YtgokcaccamfgfaaDoorW.PrintWords Go.Proofs.YtgokcaccamfgfaaDoorW.PrintLast Go.Proofs.YtgokcaccamfgfaaDoorW.PrintMore
attribute [local go_sem] max2_int min2_int max_two min_two max_three min_three max_four min_four   -- for this text's walks alone
set_option linter.unusedVariables false
set_option linter.unusedSimpArgs false

/-! ### session_New: function 17, given -/
def session_New.f (k : Nat) (l0 : List S33) (a1 : Int) : Option (List S33 × Int × List S26 × Int) := (session_fresh.f k l0 a1).bind fun t => if t = true then (session_Copy.f l0 a1 []).bind fun b => some (b.1, b.2.1, b.2.2, 0) else some ([], 0, [], 2100)
theorem session_New.mono : ∀ a0 a1 k, LeO (session_New.f k a0 a1) (session_New.f (k + 1) a0 a1) := by
  intro a0 a1 k
  unfold session_New.f
  exact LeO.bind (session_fresh.mono _ _ _) (fun _ => LeO.refl _)
set_option maxHeartbeats 4000000 in
set_option maxRecDepth 100000 in
theorem session_New.callsS (k : Nat) (A0 : Option Addr) (c0 : Nat) (l0 : List S33) (a1 : Int) (r1 : List S33) (r2 : Int) (r3 : List S26) (r4 : Int) (w : World) (hr0 : Kd.C k33 w A0 l0.length l0) (hc0 : l0.length ≤ c0) (h : session_New.f k l0 a1 = some (r1, r2, r3, r4)) (hG : GOK w) :
    Calls Tryd.prog 17 #[.slice A0 l0.length c0, .int .i64 a1] w fun e w' => ∃ v0_ v2_ : Value, e = .returned (.tuple #[.agg #[v0_, .int .i64 r2, v2_], .int .i64 r4]) ∧ Kd.S k33 33 w' w.heap.size (fun _ => True) v0_ r1 ∧ Kd.R k26 26 w' w.heap.size (fun _ => True) v2_ r3 ∧ Below w.heap.size w w' := by
  have HR0 := Aside0.mk hr0
  have HC0 := Aside0.mk hc0
  have HG := Aside0.mk hG
  have HB := Aside0.mk (Below.refl w.heap.size w)
  have hu := Tryd.underlying29
  unfold session_New.f at h
  obtain ⟨t, A1, h⟩ := Option.bind_eq_some_iff.mp h
  have HA := Aside0.mk A1
  clear A1 hr0 hc0 hG
  cases t with
  | false =>
    rw [if_neg Bool.false_ne_true] at h
    obtain ⟨rfl, h2⟩ := Prod.mk.inj (Option.some.inj h)
    obtain ⟨rfl, h3⟩ := Prod.mk.inj h2
    obtain ⟨rfl, rfl⟩ := Prod.mk.inj h3
    clear h h2 h3
    go_enter Tryd.func17, Tryd.ntmps17
    go_wp2_with (first
      | ((with_reducible refine gate_dst (N := 4) rfl ?_); refine boxE_ 4 #[.slice none 0 0, .int .i64 0, .slice none 0 0] 29 ?_; intro gb4 hg w1 hbox hb; have GE4 := Aside0.mk (gE_ hg : w.heap.size ≤ gb4); have n0_ := Aside0.mk (below_step hB_ hb); clear HB; have HB := n0_; have BK4 := Aside0.mk hbox; clear n0_ hg hbox hb)
      | ((with_reducible refine gate_dst (N := 6) rfl ?_); refine boxE_ 6 #[.slice none 0 0, .int .i64 0, .slice none 0 0] 29 ?_; intro gb6 hg w2 hbox hb; have GE6 := Aside0.mk (gE_ hg : w.heap.size ≤ gb6); have NB := Aside0.mk (bL_ BK4.out hg : gb4 ≠ gb6); have n0_ := Aside0.mk (below_step hC_ hb); have n1_ := Aside0.mk (bB_ BK4.out hb); clear HB BK4; have HB := n0_; have BK4 := n1_; have BK6 := Aside0.mk hbox; clear n0_ n1_ hg hbox hb; obtain ⟨hc0_, hc1_, hc2_, hf0_, hf1_, hf2_⟩ := bx3_ BK6.out)
      | ((with_reducible refine gate_store (t := 29) (p := 6) rfl ?_); refine store_event (t := 29) (p := 6) (v := ?vo) (w1 := (((w2.setCell ⟨gb6, 0, none⟩ (.slice A0 l0.length c0)).setCell ⟨gb6, 1, none⟩ (.int .i64 a1)).setCell ⟨gb6, 2, none⟩ (.slice none 0 0))) ?hg ?ho ?hn ?hr ?_; (case ho => rfl); (case hg => rfl); (case hn => rfl); (case hr => first | (go_simp; done) | (go_simp; rfl)); intro w3 hw; have n0_ := Aside0.mk (show w3.heap[gb6]? = some (.cells #[.slice A0 l0.length c0, .int .i64 a1, .slice none 0 0] 29 (0, 0)) by rw [hw]; exact bP_ (cs' := #[.slice A0 l0.length c0, .int .i64 a1, .slice none 0 0]) (bP_ (cs' := #[.slice A0 l0.length c0, .int .i64 a1, .slice none 0 0]) (bP_ (cs' := #[.slice A0 l0.length c0, .int .i64 0, .slice none 0 0]) BK6.out))); have n1_ := Aside0.mk (show w3.heap[gb4]? = some (.cells #[.slice none 0 0, .int .i64 0, .slice none 0 0] 29 (0, 0)) by rw [hw]; exact bF_ (bF_ (bF_ BK4.out NB.out) NB.out) NB.out); have n2_ := Aside0.mk (show Below w.heap.size w w3 by rw [hw]; exact below_set (below_set (below_set HB.out GE6.out) GE6.out) GE6.out); clear hw hc0_ hc1_ hc2_ hf0_ hf1_ hf2_ BK6 BK4 HB; have BK6 := n0_; have BK4 := n1_; have HB := n2_; clear n0_ n1_ n2_; obtain ⟨hc0_, hc1_, hc2_, hf0_, hf1_, hf2_⟩ := bx3_ BK6.out)
      | ((with_reducible refine gate_callee (f := 25) rfl ?_); refine goesL_ (some 10) rfl rfl Tryd.func25 (by kernel_rfl) rfl #[.pointer (some ⟨gb6, 0, none⟩)] rfl hL_ ?_; refine (session_fresh.calls k ⟨gb6, 0, none⟩ A0 c0 l0 a1 false _ (bc0_ BK6.out) (bc1_ BK6.out) (Kd.C_below HR0.out HB.out) HC0.out HA.out (GOK.below HG.out HB.out)).mono ?_; rintro e w5 ⟨rfl, hb⟩; refine ⟨_, rfl, ?_⟩; have n0_ := Aside0.mk (blk_below BK6.out hb); have n1_ := Aside0.mk (blk_below BK4.out hb); have n2_ := Aside0.mk (below_step HB.out hb); clear hc0_ hc1_ hc2_ hf0_ hf1_ hf2_ BK6 BK4 HB hb; have BK6 := n0_; have BK4 := n1_; have HB := n2_; clear n0_ n1_ n2_; obtain ⟨hc0_, hc1_, hc2_, hf0_, hf1_, hf2_⟩ := bx3_ BK6.out; obtain ⟨kc0_, kc1_, kc2_, kf0_, kf1_, kf2_⟩ := bx3_ BK4.out; have hn1_ := NB.out; have hn2_ := Ne.symm NB.out))
    refine bodyPost_ret (results_ct rfl _ _ gb4 29 #[.slice none 0 0, .int .i64 0, .slice none 0 0] (0, 0) _ rfl (bP_ (cs' := #[.slice none 0 0, .int .i64 0, .slice none 0 0]) (bP_ (cs' := #[.slice none 0 0, .int .i64 0, .slice none 0 0]) (bP_ (cs' := #[.slice none 0 0, .int .i64 0, .slice none 0 0]) BK4.out))) hu rfl (by kernel_rfl)) rfl ?_
    exact ⟨_, _, rfl, Kd.S_nil _ _ _ _ _, Kd.R_nil _ _ _ _ _, below_set (below_set (below_set HB.out GE4.out) GE4.out) GE4.out⟩
  | true =>
    rw [if_pos rfl] at h
    obtain ⟨b, hb0, h⟩ := Option.bind_eq_some_iff.mp h
    unfold session_Copy.f at hb0
    by_cases c : sc_fit l0 ([] : List S26) = true
    case neg =>
      rw [if_neg c] at hb0; cases hb0
    rw [if_pos c] at hb0
    obtain rfl := Option.some.inj hb0
    obtain ⟨rfl, h2⟩ := Prod.mk.inj (Option.some.inj h)
    obtain ⟨rfl, h3⟩ := Prod.mk.inj h2
    obtain ⟨rfl, rfl⟩ := Prod.mk.inj h3
    have HF := Aside0.mk c
    clear h h2 h3 hb0 c
    go_enter Tryd.func17, Tryd.ntmps17
    go_wp2_with (first
      | ((with_reducible refine gate_dst (N := 4) rfl ?_); refine boxE_ 4 #[.slice none 0 0, .int .i64 0, .slice none 0 0] 29 ?_; intro gb4 hg w1 hbox hb; have GE4 := Aside0.mk (gE_ hg : w.heap.size ≤ gb4); have n0_ := Aside0.mk (below_step hB_ hb); clear HB; have HB := n0_; have BK4 := Aside0.mk hbox; clear n0_ hg hbox hb)
      | ((with_reducible refine gate_dst (N := 6) rfl ?_); refine boxE_ 6 #[.slice none 0 0, .int .i64 0, .slice none 0 0] 29 ?_; intro gb6 hg w2 hbox hb; have GE6 := Aside0.mk (gE_ hg : w.heap.size ≤ gb6); have NB := Aside0.mk (bL_ BK4.out hg : gb4 ≠ gb6); have n0_ := Aside0.mk (below_step hC_ hb); have n1_ := Aside0.mk (bB_ BK4.out hb); clear HB BK4; have HB := n0_; have BK4 := n1_; have BK6 := Aside0.mk hbox; clear n0_ n1_ hg hbox hb; obtain ⟨hc0_, hc1_, hc2_, hf0_, hf1_, hf2_⟩ := bx3_ BK6.out)
      | ((with_reducible refine gate_store (t := 29) (p := 6) rfl ?_); refine store_event (t := 29) (p := 6) (v := ?vo) (w1 := (((w2.setCell ⟨gb6, 0, none⟩ (.slice A0 l0.length c0)).setCell ⟨gb6, 1, none⟩ (.int .i64 a1)).setCell ⟨gb6, 2, none⟩ (.slice none 0 0))) ?hg ?ho ?hn ?hr ?_; (case ho => rfl); (case hg => rfl); (case hn => rfl); (case hr => first | (go_simp; done) | (go_simp; rfl)); intro w3 hw; have n0_ := Aside0.mk (show w3.heap[gb6]? = some (.cells #[.slice A0 l0.length c0, .int .i64 a1, .slice none 0 0] 29 (0, 0)) by rw [hw]; exact bP_ (cs' := #[.slice A0 l0.length c0, .int .i64 a1, .slice none 0 0]) (bP_ (cs' := #[.slice A0 l0.length c0, .int .i64 a1, .slice none 0 0]) (bP_ (cs' := #[.slice A0 l0.length c0, .int .i64 0, .slice none 0 0]) BK6.out))); have n1_ := Aside0.mk (show w3.heap[gb4]? = some (.cells #[.slice none 0 0, .int .i64 0, .slice none 0 0] 29 (0, 0)) by rw [hw]; exact bF_ (bF_ (bF_ BK4.out NB.out) NB.out) NB.out); have n2_ := Aside0.mk (show Below w.heap.size w w3 by rw [hw]; exact below_set (below_set (below_set HB.out GE6.out) GE6.out) GE6.out); clear hw hc0_ hc1_ hc2_ hf0_ hf1_ hf2_ BK6 BK4 HB; have BK6 := n0_; have BK4 := n1_; have HB := n2_; clear n0_ n1_ n2_; obtain ⟨hc0_, hc1_, hc2_, hf0_, hf1_, hf2_⟩ := bx3_ BK6.out)
      | ((with_reducible refine gate_callee (f := 25) rfl ?_); refine goesL_ (some 10) rfl rfl Tryd.func25 (by kernel_rfl) rfl #[.pointer (some ⟨gb6, 0, none⟩)] rfl hL_ ?_; refine (session_fresh.calls k ⟨gb6, 0, none⟩ A0 c0 l0 a1 true _ (bc0_ BK6.out) (bc1_ BK6.out) (Kd.C_below HR0.out HB.out) HC0.out HA.out (GOK.below HG.out HB.out)).mono ?_; rintro e w5 ⟨rfl, hb⟩; refine ⟨_, rfl, ?_⟩; have n0_ := Aside0.mk (blk_below BK6.out hb); have n1_ := Aside0.mk (blk_below BK4.out hb); have n2_ := Aside0.mk (below_step HB.out hb); clear hc0_ hc1_ hc2_ hf0_ hf1_ hf2_ BK6 BK4 HB hb; have BK6 := n0_; have BK4 := n1_; have HB := n2_; clear n0_ n1_ n2_; obtain ⟨hc0_, hc1_, hc2_, hf0_, hf1_, hf2_⟩ := bx3_ BK6.out; obtain ⟨kc0_, kc1_, kc2_, kf0_, kf1_, kf2_⟩ := bx3_ BK4.out; have hn1_ := NB.out; have hn2_ := Ne.symm NB.out)
      | ((with_reducible refine gate_callee (f := 26) rfl ?_); refine goesL_ (some 14) rfl rfl Tryd.func26 (by kernel_rfl) rfl #[.agg #[.slice A0 l0.length c0, .int .i64 a1, .slice none 0 0]] rfl hL_ ?_; refine (session_Copy.callsS A0 c0 l0 a1 none 0 ([] : List S26) _ (Kd.C_below HR0.out HB.out) HC0.out (Kd.C_nil _ _) (Nat.le_refl _) HF.out).mono ?_; rintro e w7 ⟨v0, v2, rfl, ho0, ho2, hb⟩; refine ⟨_, rfl, ?_⟩; have n1_ := Aside0.mk (blk_below BK4.out hb); have n2_ := Aside0.mk (below_step HB.out hb); have HO0 := Aside0.mk (Kd.S_lower ho0 HB.out.size); have HO2 := Aside0.mk (Kd.R_lower ho2 HB.out.size); clear hc0_ hc1_ hc2_ hf0_ hf1_ hf2_ kc0_ kc1_ kc2_ kf0_ kf1_ kf2_ BK6 BK4 HB hb ho0 ho2; have BK4 := n1_; have HB := n2_; clear n1_ n2_; obtain ⟨Ao, co, e0⟩ := Kd.S_slice HO0.out; subst e0; obtain ⟨Ao2, co2, e2⟩ := Kd.R_slice HO2.out; subst e2; obtain ⟨kc0_, kc1_, kc2_, kf0_, kf1_, kf2_⟩ := bx3_ BK4.out))
    refine bodyPost_ret (results_ct rfl _ _ gb4 29 #[.slice Ao l0.length co, .int .i64 a1, .slice Ao2 ([] : List S26).length co2] (0, 0) _ rfl (bP_ (cs' := #[.slice Ao l0.length co, .int .i64 a1, .slice Ao2 ([] : List S26).length co2]) (bP_ (cs' := #[.slice Ao l0.length co, .int .i64 a1, .slice none 0 0]) (bP_ (cs' := #[.slice Ao l0.length co, .int .i64 0, .slice none 0 0]) BK4.out))) hu rfl (by kernel_rfl)) rfl ?_
    refine ⟨_, _, rfl, ?_, ?_, below_set (below_set (below_set HB.out GE4.out) GE4.out) GE4.out⟩
    · exact Kd.S_mono (sF_ (sF_ (sF_ (Kd.S_types HO0.out BK4.out (by decide))))) (fun _ _ => trivial)
    · exact Kd.R_mono (rF_ (rF_ (rF_ (Kd.R_types HO2.out BK4.out (by decide))))) (fun _ _ => trivial)
theorem session_New.calls (k : Nat) (A0 : Option Addr) (c0 : Nat) (l0 : List S33) (a1 : Int) (r1 : List S33) (r2 : Int) (r3 : List S26) (r4 : Int) (w : World) (hr0 : Kd.C k33 w A0 l0.length l0) (hc0 : l0.length ≤ c0) (h : session_New.f k l0 a1 = some (r1, r2, r3, r4)) (hG : GOK w) :
    Calls Tryd.prog 17 #[.slice A0 l0.length c0, .int .i64 a1] w fun e w' => ∃ v0_ v2_ : Value, e = .returned (.tuple #[.agg #[v0_, .int .i64 r2, v2_], .int .i64 r4]) ∧ Kd.S k33 33 w' w.heap.size (fun _ => True) v0_ r1 ∧ Kd.R k26 26 w' w.heap.size (fun _ => True) v2_ r3 ∧ Below w.heap.size w w' := by
  refine (session_New.callsS k A0 c0 l0 a1 r1 r2 r3 r4 w hr0 hc0 h hG).mono ?_
  rintro e w' ⟨v0, v2, h1, h2, h3, h4⟩
  exact ⟨v0, v2, h1, h2, h3, h4⟩

end Go.Proofs.YtgokcaccamfgfaaDoor.G
end
section
/- What package session answers, and the document's answer, as plain functions. -/
namespace Go.Proofs.YtgokcaccamfgfaaDoor.G
open Go.RowKit Go.Proofs.YtgokcaccamfgfaaDoorW.PrintWords Go.Proofs.YtgokcaccamfgfaaDoorW.PrintLast Go.Proofs.YtgokcaccamfgfaaDoorW.PrintMore
set_option linter.unusedVariables false
set_option linter.unusedSimpArgs false
theorem marksS_set {ns : List Nd} {m : List Int} (h : marksS ns m = true) (i : Nat) (v : Int) (hv : markB v = true) : marksS ns (m.set i v) = true := by
  obtain ⟨hm, hl, hx⟩ := marksS_spec h
  have hb := markB_spec hv
  unfold marksS
  rw [hm, List.length_set, hl, decide_eq_true rfl, Bool.true_and, Bool.true_and, Bool.not_eq_true', List.any_eq_false]
  intro x hx'
  rcases List.mem_or_eq_of_mem_set hx' with h1 | rfl
  · rw [hx x h1]; exact Bool.false_ne_true
  · unfold oddB
    rw [decide_eq_false (by omega), decide_eq_false (by omega)]; exact Bool.false_ne_true
theorem marksS_zero {ns : List Nd} (h : mayT ns = true) : marksS ns (List.replicate ns.length 0) = true := by
  unfold marksS
  rw [h, List.length_replicate, decide_eq_true rfl, Bool.true_and, Bool.true_and, Bool.not_eq_true', List.any_eq_false]
  intro x hx
  rw [List.eq_of_mem_replicate hx]
  exact Bool.false_ne_true
/-- are these the answers of a search? -/
def goS (ns : List Nd) (w : Int) : List An → List Int → Bool
  | [], _ => true
  | a :: t, m => if (!((askW w ns m).1 == 0) || (!((askW w ns m).2 == a.f0))) = true then false else if markB a.f1 = true then goS ns w t (m.set a.f0.toNat a.f1) else false
theorem goS_step {ns : List Nd} {w : Int} {a : An} {t : List An} {m : List Int} (h : goS ns w (a :: t) m = true) : (askW w ns m).1 = 0 ∧ (askW w ns m).2 = a.f0 ∧ markB a.f1 = true ∧ goS ns w t (m.set a.f0.toNat a.f1) = true := by
  rw [goS] at h
  by_cases c : (!((askW w ns m).1 == 0) || (!((askW w ns m).2 == a.f0))) = true
  · rw [if_pos c] at h; cases h
  · rw [if_neg c] at h
    by_cases d : markB a.f1 = true
    · rw [if_pos d] at h
      rw [Bool.or_eq_true, Bool.not_eq_true', Bool.not_eq_true', beq_eq_false_iff_ne, beq_eq_false_iff_ne] at c
      exact ⟨Classical.not_not.1 fun e => c (.inl e), Classical.not_not.1 fun e => c (.inr e), d, h⟩
    · rw [if_neg d] at h; cases h
theorem may_l0 (ns : List Nd) (w : Int) (zs : List An) (hz : zs.length ≤ 9223372036854775806) : ∀ (n i : Nat) (m : List Int), i + n = zs.length → marksS ns m = true → Ev (fun k => session_May.l0 k ns w zs m (i : Int)) (goS ns w (zs.drop i) m) := by
  intro n
  induction n with
  | zero =>
    intro i m hi hm
    rw [List.drop_eq_nil_of_le (by omega)]
    refine Ev.step (f := fun _ => some true) (fun k => ?_) (Ev.now _)
    rw [session_May.l0, if_neg (by omega)]
  | succ n ih =>
    intro i m hi hm
    have hw : wrap64 ((i : Int) + 1) = ((i + 1 : Nat) : Int) := by rw [w64 (by omega) (by omega)]; omega
    have hlt : (i : Int) < (zs.length : Int) := by omega
    have hf := askW_facts hm w
    have ha := nextAsk_ev hm w
    have hml := (marksS_spec hm).2.1
    rw [drop_ra zs i (by omega), goS]
    obtain ⟨a, hae⟩ : ∃ a, ra zs (i : Int) = a := ⟨_, rfl⟩
    have hae' : rd_T26 zs (i : Int) = a := hae
    rw [hae]
    generalize askW w ns m = b at ha hf
    refine Ev.step (f := fun k => (next_Ask.f k w ns m).bind fun b => if (!(b.1 == 0) || (!(b.2 == a.f0))) = true then some false else (next_Mark.f a.f1).bind fun t => if t = true then (if 0 ≤ a.f0 ∧ a.f0 < (m.length : Int) then session_May.l0 k ns w zs (m.set a.f0.toNat a.f1) ((i + 1 : Nat) : Int) else none) else some false) (fun k => by rw [session_May.l0, if_pos hlt, hae', hw]) ?_
    refine Ev.bind ha ?_
    by_cases c : (!(b.1 == 0) || (!(b.2 == a.f0))) = true
    · simp only [if_pos c]; exact Ev.now _
    · simp only [if_neg c, mark_eq, Option.bind_some]
      rw [Bool.or_eq_true, Bool.not_eq_true', Bool.not_eq_true', beq_eq_false_iff_ne, beq_eq_false_iff_ne] at c
      have e1 : b.2 = a.f0 := Classical.not_not.1 fun e => c (.inr e)
      by_cases d : markB a.f1 = true
      · have g : 0 ≤ a.f0 ∧ a.f0 < (m.length : Int) := by rw [← e1]; exact ⟨hf.1, by omega⟩
        simp only [if_pos d, if_pos g]
        exact ih (i + 1) _ (by omega) (marksS_set hm _ _ d)
      · simp only [if_neg d]; exact Ev.now _
def sessS (ns : List Nd) (w : Int) (zs : List An) : Bool := if (mayT ns && wayB w) = true then goS ns w zs (List.replicate ns.length 0) else false
theorem fresh_ev (ns : List Nd) (w : Int) : Ev (fun k => session_fresh.f k ns w) (mayT ns && wayB w) := by
  unfold session_fresh.f
  refine Ev.bind (trailMay_ev ns) ?_
  cases mayT ns with
  | false => simp only [if_neg Bool.false_ne_true, Bool.false_and]; exact Ev.now _
  | true => simp only [if_pos, Bool.true_and, way_eq]; exact Ev.now _
theorem sessMay_ev (ns : List Nd) (w : Int) (zs : List An) (hz : zs.length ≤ 9223372036854775806) : Ev (fun k => session_May.f k ns w zs) (sessS ns w zs) := by
  unfold session_May.f sessS
  refine Ev.bind (fresh_ev ns w) ?_
  by_cases c : (mayT ns && wayB w) = true
  · simp only [if_pos c]
    rw [Bool.and_eq_true] at c
    have := may_l0 ns w zs hz zs.length 0 (List.replicate ns.length 0) (by omega) (marksS_zero c.1)
    rw [List.drop_zero] at this
    exact this
  · simp only [if_neg c]; exact Ev.now _
def newF (ns : List Nd) (w : Int) : List Nd × Int × List An × Int := if (mayT ns && wayB w) = true then (ns, w, [], 0) else ([], 0, [], 2100)
theorem new_ev (ns : List Nd) (hok : okN ns) (w : Int) : Ev (fun k => session_New.f k ns w) (newF ns w) := by
  unfold session_New.f newF
  refine Ev.bind (fresh_ev ns w) ?_
  by_cases c : (mayT ns && wayB w) = true
  · have hfit : sc_fit ns ([] : List An) = true := by
      unfold sc_fit
      rw [decide_eq_true (show ns.length ≤ 2513169434916 by have := hok.1; omega), Bool.true_and, decide_eq_true (show ([] : List An).length ≤ 8796093022208 from Nat.zero_le _), Bool.true_and]
      exact List.all_eq_true.2 fun x hx => decide_eq_true (by have := hok.2 x hx; omega)
    unfold session_Copy.f
    simp only [if_pos c, if_pos hfit, Option.bind_some]
    exact Ev.now _
  · simp only [if_neg c]; exact Ev.now _
theorem goS_take {ns : List Nd} {w : Int} : ∀ (zs : List An) (m : List Int) (n : Nat), goS ns w zs m = true → goS ns w (zs.take n) m = true
  | [], m, n, h => by rw [List.take_nil]; exact h
  | a :: t, m, 0, h => by rw [List.take_zero]; rfl
  | a :: t, m, n + 1, h => by
    obtain ⟨h1, h2, h3, h4⟩ := goS_step h
    rw [List.take_succ_cons, goS, if_neg (by rw [h1, h2]; simp), if_pos h3]
    exact goS_take t _ n h4
end Go.Proofs.YtgokcaccamfgfaaDoor.G
end
section
-- Laid by the session's own driver gp.py over the kit's printer. Not trusted: Lean checks it.
namespace Go.Proofs.YtgokcaccamfgfaaDoor.G
open Go.RowKit Go.Proofs.YtgokcaccamfgfaaDoorW.PrintWords Go.Proofs.YtgokcaccamfgfaaDoorW.PrintLast Go.Proofs.YtgokcaccamfgfaaDoorW.PrintMore
attribute [local go_sem] max2_int min2_int max_two min_two max_three min_three max_four min_four   -- for this text's walks alone
set_option linter.unusedVariables false
set_option linter.unusedSimpArgs false

/-! ### sleuthlaw21_some: function 15 -/
def sleuthlaw21_some.f  : Option ((List (S33))) := some (([(⟨0, (-1), ([] : List ByteArray), (⟨#[57]⟩ : ByteArray)⟩ : S33), (⟨1, 0, (([(⟨#[64, 55, 40, 95, 32, 52, 41]⟩ : ByteArray), (⟨#[53]⟩ : ByteArray)] : List ByteArray)), (⟨#[57]⟩ : ByteArray)⟩ : S33), (⟨2, 0, ([] : List ByteArray), (⟨#[33]⟩ : ByteArray)⟩ : S33), (⟨1, 1, (([(⟨#[49]⟩ : ByteArray), (⟨#[95]⟩ : ByteArray)] : List ByteArray)), (⟨#[95]⟩ : ByteArray)⟩ : S33), (⟨1, 2, (([(⟨#[49]⟩ : ByteArray), (⟨#[95]⟩ : ByteArray)] : List ByteArray)), (⟨#[95]⟩ : ByteArray)⟩ : S33)] : List (S33)))
set_option maxHeartbeats 8000000 in
set_option maxRecDepth 100000 in
theorem sleuthlaw21_some.calls  (r : List (S33)) (w : World) (h : sleuthlaw21_some.f  = some r) :
    Calls Tryd.prog 15 #[] w fun e w' => ∃ v0_ : Value, e = .returned (v0_) ∧ Kd.N k33 33 w' w.heap.size (fun k_ => (w.heap.size ≤ k_)) v0_ r ∧ Below w.heap.size w w' := by
  have hu33 := Tryd.underlying33
  have HB := Aside0.mk (Below.refl w.heap.size w)
  have H : (some (([(⟨0, (-1), ([] : List ByteArray), (⟨#[57]⟩ : ByteArray)⟩ : S33), (⟨1, 0, (([(⟨#[64, 55, 40, 95, 32, 52, 41]⟩ : ByteArray), (⟨#[53]⟩ : ByteArray)] : List ByteArray)), (⟨#[57]⟩ : ByteArray)⟩ : S33), (⟨2, 0, ([] : List ByteArray), (⟨#[33]⟩ : ByteArray)⟩ : S33), (⟨1, 1, (([(⟨#[49]⟩ : ByteArray), (⟨#[95]⟩ : ByteArray)] : List ByteArray)), (⟨#[95]⟩ : ByteArray)⟩ : S33), (⟨1, 2, (([(⟨#[49]⟩ : ByteArray), (⟨#[95]⟩ : ByteArray)] : List ByteArray)), (⟨#[95]⟩ : ByteArray)⟩ : S33)] : List (S33)))) = some r := h
  clear h
  obtain ⟨y442, hy442⟩ : ∃ y_ : List ByteArray, y_ = (([(⟨#[64, 55, 40, 95, 32, 52, 41]⟩ : ByteArray), (⟨#[53]⟩ : ByteArray)] : List ByteArray)) := ⟨_, rfl⟩
  replace H : (some (([(⟨0, (-1), ([] : List ByteArray), (⟨#[57]⟩ : ByteArray)⟩ : S33), (⟨1, 0, y442, (⟨#[57]⟩ : ByteArray)⟩ : S33), (⟨2, 0, ([] : List ByteArray), (⟨#[33]⟩ : ByteArray)⟩ : S33), (⟨1, 1, (([(⟨#[49]⟩ : ByteArray), (⟨#[95]⟩ : ByteArray)] : List ByteArray)), (⟨#[95]⟩ : ByteArray)⟩ : S33), (⟨1, 2, (([(⟨#[49]⟩ : ByteArray), (⟨#[95]⟩ : ByteArray)] : List ByteArray)), (⟨#[95]⟩ : ByteArray)⟩ : S33)] : List (S33)))) = some r := by first | (rw [hy442]; with_reducible exact H) | (have H2_ := (Option.bind_some _ _).symm.trans H; rw [hy442]; with_reducible exact H2_) | (have H2_ := (Option.bind_some _ _).symm.trans H; with_reducible exact H2_) | with_reducible exact H | (rw [hy442]; exact H) | exact H
  have Ny442 := Aside0.mk hy442
  clear hy442
  obtain ⟨y445, hy445⟩ : ∃ y_ : List ByteArray, y_ = (([(⟨#[49]⟩ : ByteArray), (⟨#[95]⟩ : ByteArray)] : List ByteArray)) := ⟨_, rfl⟩
  replace H : (some (([(⟨0, (-1), ([] : List ByteArray), (⟨#[57]⟩ : ByteArray)⟩ : S33), (⟨1, 0, y442, (⟨#[57]⟩ : ByteArray)⟩ : S33), (⟨2, 0, ([] : List ByteArray), (⟨#[33]⟩ : ByteArray)⟩ : S33), (⟨1, 1, y445, (⟨#[95]⟩ : ByteArray)⟩ : S33), (⟨1, 2, (([(⟨#[49]⟩ : ByteArray), (⟨#[95]⟩ : ByteArray)] : List ByteArray)), (⟨#[95]⟩ : ByteArray)⟩ : S33)] : List (S33)))) = some r := by first | (rw [hy445]; with_reducible exact H) | (have H2_ := (Option.bind_some _ _).symm.trans H; rw [hy445]; with_reducible exact H2_) | (have H2_ := (Option.bind_some _ _).symm.trans H; with_reducible exact H2_) | with_reducible exact H | (rw [hy445]; exact H) | exact H
  have Ny445 := Aside0.mk hy445
  clear hy445
  obtain ⟨y448, hy448⟩ : ∃ y_ : List ByteArray, y_ = (([(⟨#[49]⟩ : ByteArray), (⟨#[95]⟩ : ByteArray)] : List ByteArray)) := ⟨_, rfl⟩
  replace H : (some (([(⟨0, (-1), ([] : List ByteArray), (⟨#[57]⟩ : ByteArray)⟩ : S33), (⟨1, 0, y442, (⟨#[57]⟩ : ByteArray)⟩ : S33), (⟨2, 0, ([] : List ByteArray), (⟨#[33]⟩ : ByteArray)⟩ : S33), (⟨1, 1, y445, (⟨#[95]⟩ : ByteArray)⟩ : S33), (⟨1, 2, y448, (⟨#[95]⟩ : ByteArray)⟩ : S33)] : List (S33)))) = some r := by first | (rw [hy448]; with_reducible exact H) | (have H2_ := (Option.bind_some _ _).symm.trans H; rw [hy448]; with_reducible exact H2_) | (have H2_ := (Option.bind_some _ _).symm.trans H; with_reducible exact H2_) | with_reducible exact H | (rw [hy448]; exact H) | exact H
  have Ny448 := Aside0.mk hy448
  clear hy448
  obtain ⟨y451, hy451⟩ : ∃ y_ : List (S33), y_ = (([(⟨0, (-1), ([] : List ByteArray), (⟨#[57]⟩ : ByteArray)⟩ : S33), (⟨1, 0, y442, (⟨#[57]⟩ : ByteArray)⟩ : S33), (⟨2, 0, ([] : List ByteArray), (⟨#[33]⟩ : ByteArray)⟩ : S33), (⟨1, 1, y445, (⟨#[95]⟩ : ByteArray)⟩ : S33), (⟨1, 2, y448, (⟨#[95]⟩ : ByteArray)⟩ : S33)] : List (S33))) := ⟨_, rfl⟩
  replace H : (some y451) = some r := by first | (rw [hy451]; with_reducible exact H) | (have H2_ := (Option.bind_some _ _).symm.trans H; rw [hy451]; with_reducible exact H2_) | (have H2_ := (Option.bind_some _ _).symm.trans H; with_reducible exact H2_) | with_reducible exact H | (rw [hy451]; exact H) | exact H
  have Ny451 := Aside0.mk hy451
  clear hy451
  obtain rfl := Option.some.inj H
  go_enter Tryd.func15, Tryd.ntmps15
  go_wp2_with (first | ((with_reducible refine gate_dst (N := 2) rfl ?_); refine Kd.R_lit Kd.string _ 9 ?hg (N := 2) ?hd (xs := ([(⟨#[64, 55, 40, 95, 32, 52, 41]⟩ : ByteArray), (⟨#[53]⟩ : ByteArray)] : List ByteArray)) (inner := [.string (⟨#[64, 55, 40, 95, 32, 52, 41]⟩ : ByteArray), .string (⟨#[53]⟩ : ByteArray)]) (ok := fun _ => True) (okp := fun _ => True) ?hr ?hp (fun _ hk => hk) trivial (Below.refl _ _) (Nat.le_refl _) (by simp) ?_; (case hd => rfl); (case hg => rfl); (case hr => first | (go_simp; done) | (go_simp; rfl)); (case hp => exact (Reps.one (show Kd.M Kd.string _ _ _ (⟨#[64, 55, 40, 95, 32, 52, 41]⟩ : ByteArray) [.string (⟨#[64, 55, 40, 95, 32, 52, 41]⟩ : ByteArray)] from rfl) (Reps.one (show Kd.M Kd.string _ _ _ (⟨#[53]⟩ : ByteArray) [.string (⟨#[53]⟩ : ByteArray)] from rfl) (Reps.none _ _)))); intro v443 w1 ho2 hb hg_ hnew_; clear hg_ hnew_; (first | rw [← Ny442.out] at ho2 | (simp only [Int.reduceToNat] at ho2; rw [← Ny442.out] at ho2)); have n0_ := Aside0.mk (Kd.R_lower (Kd.R_newM (M := fun k_ => (w.heap.size ≤ k_)) ho2 hS_ (fun k_ h_ => h_)) hS_); have n1_ := Aside0.mk (below_step hB_ hb); clear HB; have HO444 := n0_; have HB := n1_; clear n0_ n1_; clear hb ho2; obtain ⟨Ao3, co3, eo3⟩ := Kd.R_slice HO444.out; subst eo3) | ((with_reducible refine gate_dst (N := 5) rfl ?_); refine Kd.R_lit Kd.string _ 9 ?hg (N := 5) ?hd (xs := ([(⟨#[49]⟩ : ByteArray), (⟨#[95]⟩ : ByteArray)] : List ByteArray)) (inner := [.string (⟨#[49]⟩ : ByteArray), .string (⟨#[95]⟩ : ByteArray)]) (ok := fun _ => True) (okp := fun _ => True) ?hr ?hp (fun _ hk => hk) trivial (Below.refl _ _) (Nat.le_refl _) (by simp) ?_; (case hd => rfl); (case hg => rfl); (case hr => first | (go_simp; done) | (go_simp; rfl)); (case hp => exact (Reps.one (show Kd.M Kd.string _ _ _ (⟨#[49]⟩ : ByteArray) [.string (⟨#[49]⟩ : ByteArray)] from rfl) (Reps.one (show Kd.M Kd.string _ _ _ (⟨#[95]⟩ : ByteArray) [.string (⟨#[95]⟩ : ByteArray)] from rfl) (Reps.none _ _)))); intro v446 w4 ho5 hb hg_ hnew_; clear hg_ hnew_; (first | rw [← Ny445.out] at ho5 | (simp only [Int.reduceToNat] at ho5; rw [← Ny445.out] at ho5)); have n0_ := Aside0.mk (Kd.R_elder' (hR_ HO444.out) (Kd.R_base ho5) hb); have n1_ := Aside0.mk (Kd.R_lower (Kd.R_new' (Kd.R_newM (M := fun k_ => (w.heap.size ≤ k_)) ho5 hS_ (fun k_ h_ => h_)) (Kd.R_lt (hR_ HO444.out))) hS_); have n2_ := Aside0.mk (below_step hB_ hb); clear HO444 HB; have HO444 := n0_; have HO447 := n1_; have HB := n2_; clear n0_ n1_ n2_; clear hb ho5; obtain ⟨Ao6, co6, eo6⟩ := Kd.R_slice HO447.out; subst eo6) | ((with_reducible refine gate_dst (N := 7) rfl ?_); refine Kd.R_lit Kd.string _ 9 ?hg (N := 7) ?hd (xs := ([(⟨#[49]⟩ : ByteArray), (⟨#[95]⟩ : ByteArray)] : List ByteArray)) (inner := [.string (⟨#[49]⟩ : ByteArray), .string (⟨#[95]⟩ : ByteArray)]) (ok := fun _ => True) (okp := fun _ => True) ?hr ?hp (fun _ hk => hk) trivial (Below.refl _ _) (Nat.le_refl _) (by simp) ?_; (case hd => rfl); (case hg => rfl); (case hr => first | (go_simp; done) | (go_simp; rfl)); (case hp => exact (Reps.one (show Kd.M Kd.string _ _ _ (⟨#[49]⟩ : ByteArray) [.string (⟨#[49]⟩ : ByteArray)] from rfl) (Reps.one (show Kd.M Kd.string _ _ _ (⟨#[95]⟩ : ByteArray) [.string (⟨#[95]⟩ : ByteArray)] from rfl) (Reps.none _ _)))); intro v449 w7 ho8 hb hg_ hnew_; clear hg_ hnew_; (first | rw [← Ny448.out] at ho8 | (simp only [Int.reduceToNat] at ho8; rw [← Ny448.out] at ho8)); have n0_ := Aside0.mk (Kd.R_elder' (hR_ HO444.out) (Kd.R_base ho8) hb); have n1_ := Aside0.mk (Kd.R_elder' (hR_ HO447.out) (Kd.R_base ho8) hb); have n2_ := Aside0.mk (Kd.R_lower (Kd.R_new' (Kd.R_new' (Kd.R_newM (M := fun k_ => (w.heap.size ≤ k_)) ho8 hS_ (fun k_ h_ => h_)) (Kd.R_lt (hR_ HO444.out))) (Kd.R_lt (hR_ HO447.out))) hS_); have n3_ := Aside0.mk (below_step hB_ hb); clear HO444 HO447 HB; have HO444 := n0_; have HO447 := n1_; have HO450 := n2_; have HB := n3_; clear n0_ n1_ n2_ n3_; clear hb ho8; obtain ⟨Ao9, co9, eo9⟩ := Kd.R_slice HO450.out; subst eo9) | ((with_reducible refine gate_dst (N := 9) rfl ?_); refine Kd.N_lit k33 _ 33 ?hg (N' := 9) ?hd (xs := ([(⟨0, (-1), ([] : List ByteArray), (⟨#[57]⟩ : ByteArray)⟩ : S33), (⟨1, 0, y442, (⟨#[57]⟩ : ByteArray)⟩ : S33), (⟨2, 0, ([] : List ByteArray), (⟨#[33]⟩ : ByteArray)⟩ : S33), (⟨1, 1, y445, (⟨#[95]⟩ : ByteArray)⟩ : S33), (⟨1, 2, y448, (⟨#[95]⟩ : ByteArray)⟩ : S33)] : List (S33))) (inner := [.int .i64 0, .int .i64 (-1), .slice none 0 0, .string (⟨#[57]⟩ : ByteArray), .int .i64 1, .int .i64 0, .slice Ao3 y442.length co3, .string (⟨#[57]⟩ : ByteArray), .int .i64 2, .int .i64 0, .slice none 0 0, .string (⟨#[33]⟩ : ByteArray), .int .i64 1, .int .i64 1, .slice Ao6 y445.length co6, .string (⟨#[95]⟩ : ByteArray), .int .i64 1, .int .i64 2, .slice Ao9 y448.length co9, .string (⟨#[95]⟩ : ByteArray)]) (ok := (fun k_ => (w.heap.size ≤ k_))) (okp := (fun k_ => (w.heap.size ≤ k_))) ?hr ?hp (fun _ hk => hk) ((show ∀ k_, w7.heap.size ≤ k_ → (fun k_ => (w.heap.size ≤ k_)) k_ from fun k_ hk => (Nat.le_trans hS_ hk)) _ (Nat.le_refl _)) (Below.refl _ _) (Nat.le_refl _) (by simp) ?_; (case hd => rfl); (case hg => rfl); (case hr => first | (go_simp; done) | (go_simp; rfl)); (case hp => exact (Reps.c4 (show Kd.FK k33 _ _ (⟨0, (-1), ([] : List ByteArray), (⟨#[57]⟩ : ByteArray)⟩ : S33) [.int .i64 0, .int .i64 (-1), .slice none 0 0, .string (⟨#[57]⟩ : ByteArray)] from (k33_mkF _ _ (⟨0, (-1), ([] : List ByteArray), (⟨#[57]⟩ : ByteArray)⟩ : S33) (Nat.le_refl _) (Kd.F_nil _ _ _))) (Reps.c4 (show Kd.FK k33 _ _ (⟨1, 0, y442, (⟨#[57]⟩ : ByteArray)⟩ : S33) [.int .i64 1, .int .i64 0, .slice Ao3 y442.length co3, .string (⟨#[57]⟩ : ByteArray)] from (k33_mkF _ _ (⟨1, 0, y442, (⟨#[57]⟩ : ByteArray)⟩ : S33) (Kd.R_reads' (Kd.R_mono (ok' := (fun k_ => (w.heap.size ≤ k_))) (HO444.out) (fun k_ hk => hk.1.1.1))).2.1 (Kd.R_F (Kd.R_mono (ok' := (fun k_ => (w.heap.size ≤ k_))) (HO444.out) (fun k_ hk => hk.1.1.1))))) (Reps.c4 (show Kd.FK k33 _ _ (⟨2, 0, ([] : List ByteArray), (⟨#[33]⟩ : ByteArray)⟩ : S33) [.int .i64 2, .int .i64 0, .slice none 0 0, .string (⟨#[33]⟩ : ByteArray)] from (k33_mkF _ _ (⟨2, 0, ([] : List ByteArray), (⟨#[33]⟩ : ByteArray)⟩ : S33) (Nat.le_refl _) (Kd.F_nil _ _ _))) (Reps.c4 (show Kd.FK k33 _ _ (⟨1, 1, y445, (⟨#[95]⟩ : ByteArray)⟩ : S33) [.int .i64 1, .int .i64 1, .slice Ao6 y445.length co6, .string (⟨#[95]⟩ : ByteArray)] from (k33_mkF _ _ (⟨1, 1, y445, (⟨#[95]⟩ : ByteArray)⟩ : S33) (Kd.R_reads' (Kd.R_mono (ok' := (fun k_ => (w.heap.size ≤ k_))) (HO447.out) (fun k_ hk => hk.1.1.1))).2.1 (Kd.R_F (Kd.R_mono (ok' := (fun k_ => (w.heap.size ≤ k_))) (HO447.out) (fun k_ hk => hk.1.1.1))))) (Reps.c4 (show Kd.FK k33 _ _ (⟨1, 2, y448, (⟨#[95]⟩ : ByteArray)⟩ : S33) [.int .i64 1, .int .i64 2, .slice Ao9 y448.length co9, .string (⟨#[95]⟩ : ByteArray)] from (k33_mkF _ _ (⟨1, 2, y448, (⟨#[95]⟩ : ByteArray)⟩ : S33) (Kd.R_reads' (Kd.R_mono (ok' := (fun k_ => (w.heap.size ≤ k_))) (HO450.out) (fun k_ hk => hk.1.1.1))).2.1 (Kd.R_F (Kd.R_mono (ok' := (fun k_ => (w.heap.size ≤ k_))) (HO450.out) (fun k_ hk => hk.1.1.1))))) (Reps.none _ _))))))); intro v452 w10 ho11 hb hg_ hnew_; clear hg_ hnew_; (first | rw [← Ny451.out] at ho11 | (simp only [Int.reduceToNat] at ho11; rw [← Ny451.out] at ho11)); have n0_ := Aside0.mk (Kd.N_lower ho11 hS_); have n1_ := Aside0.mk (below_step hB_ hb); clear HB HO444 HO447 HO450; have HO453 := n0_; have HB := n1_; clear n0_ n1_; clear hb ho11))
  go_ret
  exact ⟨_, hV_, hN_ HO453.out, hC_⟩

end Go.Proofs.YtgokcaccamfgfaaDoor.G
end
