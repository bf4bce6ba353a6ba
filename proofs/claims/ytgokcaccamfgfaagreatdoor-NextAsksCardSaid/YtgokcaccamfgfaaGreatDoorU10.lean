/- Parts of this proof, one behind the other: G22, TTrail, G3, G23, G16, G17, G24, G25. -/
import Derived.Test.YtgokcaccamfgfaaGreatDoorG0
import Derived.Test.YtgokcaccamfgfaaGreatDoorU7
import Derived.Test.YtgokcaccamfgfaaGreatDoorU9
section
-- Laid by the session's own driver gp.py over the kit's printer. Not trusted: Lean checks it.
namespace Go.Proofs.YtgokcaccamfgfaaGreatDoor.G
open Go.RowKit Go.Proofs.YtgokcaccamfgfaaGreatDoorW.PrintWords Go.Proofs.YtgokcaccamfgfaaGreatDoorW.PrintLast Go.Proofs.YtgokcaccamfgfaaGreatDoorW.PrintMore
attribute [local go_sem] max2_int min2_int max_two min_two max_three min_three max_four min_four   -- for this text's walks alone
set_option linter.unusedVariables false
set_option linter.unusedSimpArgs false

/-! ### sleuthref12_stands: function 42 -/
def sleuthref12_stands.f (k : Nat) (a0_0 : Int) (a0_1 : Int) (l0_2 : List ByteArray) (a0_3 : ByteArray) (a1 : Int) : Option (Bool) := if a1 < 512 then ((sleuthref12_texts.f k a0_0 a0_1 l0_2 a0_3).bind fun t277 => (if t277 = true then (if a1 = 0 then (if a0_1 = (-1) then (some true) else (if a1 > 0 then ((sleuthref12_upTo.f a0_1 0 (wrap64 (a1 - 1))).bind fun t278 => (some t278)) else (some false))) else (if a1 > 0 then ((sleuthref12_upTo.f a0_1 0 (wrap64 (a1 - 1))).bind fun t279 => (some t279)) else (some false))) else (some false))) else (some false)
theorem sleuthref12_stands.mono : ∀ a0 a1 a2 a3 a4 k, LeO (sleuthref12_stands.f k a0 a1 a2 a3 a4) (sleuthref12_stands.f (k + 1) a0 a1 a2 a3 a4) := by
  intro a0 a1 a2 a3 a4 k
  unfold sleuthref12_stands.f
  repeat' first
      | (with_reducible exact sleuthref12_texts.mono _ _ _ _ _)
      | (with_reducible exact LeO.refl _)
      | (with_reducible exact LeO.none _)
      | (with_reducible refine LeO.ite ?_ ?_)
      | (with_reducible refine LeO.bind ?_ (fun _ => ?_))
      | exact sleuthref12_texts.mono _ _ _ _ _
      | exact LeO.none _
      | refine LeO.ite ?_ ?_
      | refine LeO.bind ?_ (fun _ => ?_)
set_option maxHeartbeats 8000000 in
set_option maxRecDepth 100000 in
theorem sleuthref12_stands.calls (k : Nat) (a0_0 : Int) (a0_1 : Int) (A0_2 : Option Addr) (c0_2 : Nat) (l0_2 : List ByteArray) (a0_3 : ByteArray) (a1 : Int) (r : Bool) (w : World) (hr0_2 : Kd.C Kd.string w A0_2 l0_2.length l0_2) (hc0_2 : l0_2.length ≤ c0_2) (h : sleuthref12_stands.f k a0_0 a0_1 l0_2 a0_3 a1 = some r) :
    Calls Tryz.prog 42 #[.agg #[.int .i64 a0_0, .int .i64 a0_1, .slice A0_2 l0_2.length c0_2, .string a0_3], .int .i64 a1] w fun e w' => e = .returned (.bool r) ∧ Below w.heap.size w w' := by
  have hu64 := Tryz.underlying64
  have HR0_2 := Aside0.mk hr0_2
  have HC0_2 := Aside0.mk hc0_2
  clear hr0_2 hc0_2
  have HB := Aside0.mk (Below.refl w.heap.size w)
  have H : (if a1 < 512 then ((sleuthref12_texts.f k a0_0 a0_1 l0_2 a0_3).bind fun t277 => (if t277 = true then (if a1 = 0 then (if a0_1 = (-1) then (some true) else (if a1 > 0 then ((sleuthref12_upTo.f a0_1 0 (wrap64 (a1 - 1))).bind fun t278 => (some t278)) else (some false))) else (if a1 > 0 then ((sleuthref12_upTo.f a0_1 0 (wrap64 (a1 - 1))).bind fun t279 => (some t279)) else (some false))) else (some false))) else (some false)) = some r := h
  clear h
  by_cases c3 : a1 < 512
  case neg =>
    rw [if_neg c3] at H
    have c3b0 : decide (a1 < 512) = false := decide_eq_false c3
    clear c3
    obtain rfl := Option.some.inj H
    go_enter Tryz.func42, Tryz.ntmps42
    go_wp2_with (first | ((with_reducible refine gate_dst (N := 2) rfl ?_); refine boxE_ 2 #[.int .i64 a0_0, .int .i64 a0_1, .slice A0_2 l0_2.length c0_2, .string a0_3] 64 ?_; intro gb276 hg w34 hbox hb; have n0_ := Aside0.mk (below_step hB_ hb); have n1_ := Aside0.mk (hbox); have n2_ := Aside0.mk ((gE_ hg : w.heap.size ≤ gb276)); have n3_ := Aside0.mk ((gE_ hg : w.heap.size ≤ gb276)); clear HB; have HB := n0_; have BK276 := n1_; have GW276 := n2_; have GE276 := n3_; clear n0_ n1_ n2_ n3_; clear hb hbox hg))
    go_ret
    exact ⟨hV_, hC_⟩

  rw [if_pos c3] at H
  have c3b0 : decide (a1 < 512) = true := decide_eq_true c3
  clear c3
  replace H := Option.bind_eq_some_iff.mp H
  obtain ⟨t277, A40, H⟩ := H
  replace H : (if t277 = true then (if a1 = 0 then (if a0_1 = (-1) then (some true) else (if a1 > 0 then ((sleuthref12_upTo.f a0_1 0 (wrap64 (a1 - 1))).bind fun t278 => (some t278)) else (some false))) else (if a1 > 0 then ((sleuthref12_upTo.f a0_1 0 (wrap64 (a1 - 1))).bind fun t279 => (some t279)) else (some false))) else (some false)) = some r := H
  have A4 := Aside0.mk A40
  clear A40
  by_cases c5 : t277 = true
  case neg =>
    replace c5 := Bool.eq_false_iff.mpr c5
    subst c5
    have H1 : (some false) = some r := by rw [if_neg (show ¬ (false = true) by decide)] at H; exact H
    clear H
    have H := H1
    clear H1
    obtain rfl := Option.some.inj H
    go_enter Tryz.func42, Tryz.ntmps42
    go_wp2_with (first | ((with_reducible refine gate_dst (N := 2) rfl ?_); refine boxE_ 2 #[.int .i64 a0_0, .int .i64 a0_1, .slice A0_2 l0_2.length c0_2, .string a0_3] 64 ?_; intro gb276 hg w31 hbox hb; have n0_ := Aside0.mk (below_step hB_ hb); have n1_ := Aside0.mk (hbox); have n2_ := Aside0.mk ((gE_ hg : w.heap.size ≤ gb276)); have n3_ := Aside0.mk ((gE_ hg : w.heap.size ≤ gb276)); clear HB; have HB := n0_; have BK276 := n1_; have GW276 := n2_; have GE276 := n3_; clear n0_ n1_ n2_ n3_; clear hb hbox hg; obtain ⟨hcz32_0, hcz32_1, hcz32_2, hcz32_3, hfz32_0, hfz32_1, hfz32_2, hfz32_3⟩ := bx4_ BK276.out) | (go_at_call 53; (with_reducible refine (sleuthref12_texts.calls k a0_0 a0_1 _ _ l0_2 a0_3 false _ ?side1 ?side2 A4.out).mono ?_); (case side1 => exact cB_ HR0_2.out); (case side2 => exact HC0_2.out); rintro e w33 ⟨rfl, hb⟩; have n0_ := Aside0.mk (bB_ BK276.out hb); have n1_ := Aside0.mk (below_step hC_ hb); clear BK276 HB; have BK276 := n0_; have HB := n1_; clear n0_ n1_; (try clear hb); (try clear hb2); (try clear hk); (try clear hi)))
    go_ret
    exact ⟨hV_, hC_⟩
  subst c5
  have H1 : (if a1 = 0 then (if a0_1 = (-1) then (some true) else (if a1 > 0 then ((sleuthref12_upTo.f a0_1 0 (wrap64 (a1 - 1))).bind fun t278 => (some t278)) else (some false))) else (if a1 > 0 then ((sleuthref12_upTo.f a0_1 0 (wrap64 (a1 - 1))).bind fun t279 => (some t279)) else (some false))) = some r := by rw [if_pos rfl] at H; exact H
  clear H
  have H := H1
  clear H1
  by_cases c6 : a1 = 0
  case neg =>
    rw [if_neg c6] at H
    have c6b0 : (a1 == 0) = false := beq_eq_false_iff_ne.mpr c6
    have c6b1 : (a1 != 0) = true := bne_iff_ne.mpr c6
    by_cases c22 : a1 > 0
    case neg =>
      rw [if_neg c22] at H
      have c22b0 : decide (0 < a1) = false := decide_eq_false c22
      clear c22
      obtain rfl := Option.some.inj H
      go_enter Tryz.func42, Tryz.ntmps42
      go_wp2_with (first | ((with_reducible refine gate_dst (N := 2) rfl ?_); refine boxE_ 2 #[.int .i64 a0_0, .int .i64 a0_1, .slice A0_2 l0_2.length c0_2, .string a0_3] 64 ?_; intro gb276 hg w28 hbox hb; have n0_ := Aside0.mk (below_step hB_ hb); have n1_ := Aside0.mk (hbox); have n2_ := Aside0.mk ((gE_ hg : w.heap.size ≤ gb276)); have n3_ := Aside0.mk ((gE_ hg : w.heap.size ≤ gb276)); clear HB; have HB := n0_; have BK276 := n1_; have GW276 := n2_; have GE276 := n3_; clear n0_ n1_ n2_ n3_; clear hb hbox hg; obtain ⟨hcz29_0, hcz29_1, hcz29_2, hcz29_3, hfz29_0, hfz29_1, hfz29_2, hfz29_3⟩ := bx4_ BK276.out) | (go_at_call 53; (with_reducible refine (sleuthref12_texts.calls k a0_0 a0_1 _ _ l0_2 a0_3 true _ ?side1 ?side2 A4.out).mono ?_); (case side1 => exact cB_ HR0_2.out); (case side2 => exact HC0_2.out); rintro e w30 ⟨rfl, hb⟩; have n0_ := Aside0.mk (bB_ BK276.out hb); have n1_ := Aside0.mk (below_step hC_ hb); clear BK276 HB; have BK276 := n0_; have HB := n1_; clear n0_ n1_; (try clear hb); (try clear hb2); (try clear hk); (try clear hi)))
      go_ret
      exact ⟨hV_, hC_⟩
    rw [if_pos c22] at H
    have c22b0 : decide (0 < a1) = true := decide_eq_true c22
    clear c22
    replace H := Option.bind_eq_some_iff.mp H
    obtain ⟨t279, A230, H⟩ := H
    replace H : (some t279) = some r := H
    have A23 := Aside0.mk A230
    clear A230
    obtain rfl := Option.some.inj H
    go_enter Tryz.func42, Tryz.ntmps42
    go_wp2_with (first | ((with_reducible refine gate_dst (N := 2) rfl ?_); refine boxE_ 2 #[.int .i64 a0_0, .int .i64 a0_1, .slice A0_2 l0_2.length c0_2, .string a0_3] 64 ?_; intro gb276 hg w24 hbox hb; have n0_ := Aside0.mk (below_step hB_ hb); have n1_ := Aside0.mk (hbox); have n2_ := Aside0.mk ((gE_ hg : w.heap.size ≤ gb276)); have n3_ := Aside0.mk ((gE_ hg : w.heap.size ≤ gb276)); clear HB; have HB := n0_; have BK276 := n1_; have GW276 := n2_; have GE276 := n3_; clear n0_ n1_ n2_ n3_; clear hb hbox hg; obtain ⟨hcz25_0, hcz25_1, hcz25_2, hcz25_3, hfz25_0, hfz25_1, hfz25_2, hfz25_3⟩ := bx4_ BK276.out) | (go_at_call 53; (with_reducible refine (sleuthref12_texts.calls k a0_0 a0_1 _ _ l0_2 a0_3 true _ ?side1 ?side2 A4.out).mono ?_); (case side1 => exact cB_ HR0_2.out); (case side2 => exact HC0_2.out); rintro e w26 ⟨rfl, hb⟩; have n0_ := Aside0.mk (bB_ BK276.out hb); have n1_ := Aside0.mk (below_step hC_ hb); clear BK276 HB; have BK276 := n0_; have HB := n1_; clear n0_ n1_; (try clear hb); (try clear hb2); (try clear hk); (try clear hi); obtain ⟨hcz27_0, hcz27_1, hcz27_2, hcz27_3, hfz27_0, hfz27_1, hfz27_2, hfz27_3⟩ := bx4_ BK276.out) | (go_at_call 28; (with_reducible refine (sleuthref12_upTo.calls a0_1 0 (wrap64 (a1 - 1)) t279 _ A23.out).mono ?_); rintro e w' ⟨rfl, ⟨nd, rfl⟩⟩))
    go_ret
    exact ⟨hV_, hC_⟩
  rw [if_pos c6] at H
  have c6b0 : (a1 == 0) = true := beq_iff_eq.mpr c6
  have c6b1 : (a1 != 0) = false := bne_eq_false_iff_eq.mpr c6
  clear c6
  by_cases c7 : a0_1 = (-1)
  case pos =>
    rw [if_pos c7] at H
    have c7b0 : (a0_1 == (-1)) = true := beq_iff_eq.mpr c7
    have c7b1 : (a0_1 != (-1)) = false := bne_eq_false_iff_eq.mpr c7
    clear c7
    obtain rfl := Option.some.inj H
    go_enter Tryz.func42, Tryz.ntmps42
    go_wp2_with (first | ((with_reducible refine gate_dst (N := 2) rfl ?_); refine boxE_ 2 #[.int .i64 a0_0, .int .i64 a0_1, .slice A0_2 l0_2.length c0_2, .string a0_3] 64 ?_; intro gb276 hg w8 hbox hb; have n0_ := Aside0.mk (below_step hB_ hb); have n1_ := Aside0.mk (hbox); have n2_ := Aside0.mk ((gE_ hg : w.heap.size ≤ gb276)); have n3_ := Aside0.mk ((gE_ hg : w.heap.size ≤ gb276)); clear HB; have HB := n0_; have BK276 := n1_; have GW276 := n2_; have GE276 := n3_; clear n0_ n1_ n2_ n3_; clear hb hbox hg; obtain ⟨hcz9_0, hcz9_1, hcz9_2, hcz9_3, hfz9_0, hfz9_1, hfz9_2, hfz9_3⟩ := bx4_ BK276.out) | (go_at_call 53; (with_reducible refine (sleuthref12_texts.calls k a0_0 a0_1 _ _ l0_2 a0_3 true _ ?side1 ?side2 A4.out).mono ?_); (case side1 => exact cB_ HR0_2.out); (case side2 => exact HC0_2.out); rintro e w10 ⟨rfl, hb⟩; have n0_ := Aside0.mk (bB_ BK276.out hb); have n1_ := Aside0.mk (below_step hC_ hb); clear BK276 HB; have BK276 := n0_; have HB := n1_; clear n0_ n1_; (try clear hb); (try clear hb2); (try clear hk); (try clear hi); obtain ⟨hcz11_0, hcz11_1, hcz11_2, hcz11_3, hfz11_0, hfz11_1, hfz11_2, hfz11_3⟩ := bx4_ BK276.out))
    go_ret
    exact ⟨hV_, hC_⟩
  rw [if_neg c7] at H
  have c7b0 : (a0_1 == (-1)) = false := beq_eq_false_iff_ne.mpr c7
  have c7b1 : (a0_1 != (-1)) = true := bne_iff_ne.mpr c7
  by_cases c12 : a1 > 0
  case neg =>
    rw [if_neg c12] at H
    have c12b0 : decide (0 < a1) = false := decide_eq_false c12
    clear c12
    obtain rfl := Option.some.inj H
    go_enter Tryz.func42, Tryz.ntmps42
    go_wp2_with (first | ((with_reducible refine gate_dst (N := 2) rfl ?_); refine boxE_ 2 #[.int .i64 a0_0, .int .i64 a0_1, .slice A0_2 l0_2.length c0_2, .string a0_3] 64 ?_; intro gb276 hg w18 hbox hb; have n0_ := Aside0.mk (below_step hB_ hb); have n1_ := Aside0.mk (hbox); have n2_ := Aside0.mk ((gE_ hg : w.heap.size ≤ gb276)); have n3_ := Aside0.mk ((gE_ hg : w.heap.size ≤ gb276)); clear HB; have HB := n0_; have BK276 := n1_; have GW276 := n2_; have GE276 := n3_; clear n0_ n1_ n2_ n3_; clear hb hbox hg; obtain ⟨hcz19_0, hcz19_1, hcz19_2, hcz19_3, hfz19_0, hfz19_1, hfz19_2, hfz19_3⟩ := bx4_ BK276.out) | (go_at_call 53; (with_reducible refine (sleuthref12_texts.calls k a0_0 a0_1 _ _ l0_2 a0_3 true _ ?side1 ?side2 A4.out).mono ?_); (case side1 => exact cB_ HR0_2.out); (case side2 => exact HC0_2.out); rintro e w20 ⟨rfl, hb⟩; have n0_ := Aside0.mk (bB_ BK276.out hb); have n1_ := Aside0.mk (below_step hC_ hb); clear BK276 HB; have BK276 := n0_; have HB := n1_; clear n0_ n1_; (try clear hb); (try clear hb2); (try clear hk); (try clear hi); obtain ⟨hcz21_0, hcz21_1, hcz21_2, hcz21_3, hfz21_0, hfz21_1, hfz21_2, hfz21_3⟩ := bx4_ BK276.out))
    go_ret
    exact ⟨hV_, hC_⟩
  rw [if_pos c12] at H
  have c12b0 : decide (0 < a1) = true := decide_eq_true c12
  clear c12
  replace H := Option.bind_eq_some_iff.mp H
  obtain ⟨t278, A130, H⟩ := H
  replace H : (some t278) = some r := H
  have A13 := Aside0.mk A130
  clear A130
  obtain rfl := Option.some.inj H
  go_enter Tryz.func42, Tryz.ntmps42
  go_wp2_with (first | ((with_reducible refine gate_dst (N := 2) rfl ?_); refine boxE_ 2 #[.int .i64 a0_0, .int .i64 a0_1, .slice A0_2 l0_2.length c0_2, .string a0_3] 64 ?_; intro gb276 hg w14 hbox hb; have n0_ := Aside0.mk (below_step hB_ hb); have n1_ := Aside0.mk (hbox); have n2_ := Aside0.mk ((gE_ hg : w.heap.size ≤ gb276)); have n3_ := Aside0.mk ((gE_ hg : w.heap.size ≤ gb276)); clear HB; have HB := n0_; have BK276 := n1_; have GW276 := n2_; have GE276 := n3_; clear n0_ n1_ n2_ n3_; clear hb hbox hg; obtain ⟨hcz15_0, hcz15_1, hcz15_2, hcz15_3, hfz15_0, hfz15_1, hfz15_2, hfz15_3⟩ := bx4_ BK276.out) | (go_at_call 53; (with_reducible refine (sleuthref12_texts.calls k a0_0 a0_1 _ _ l0_2 a0_3 true _ ?side1 ?side2 A4.out).mono ?_); (case side1 => exact cB_ HR0_2.out); (case side2 => exact HC0_2.out); rintro e w16 ⟨rfl, hb⟩; have n0_ := Aside0.mk (bB_ BK276.out hb); have n1_ := Aside0.mk (below_step hC_ hb); clear BK276 HB; have BK276 := n0_; have HB := n1_; clear n0_ n1_; (try clear hb); (try clear hb2); (try clear hk); (try clear hi); obtain ⟨hcz17_0, hcz17_1, hcz17_2, hcz17_3, hfz17_0, hfz17_1, hfz17_2, hfz17_3⟩ := bx4_ BK276.out) | (go_at_call 28; (with_reducible refine (sleuthref12_upTo.calls a0_1 0 (wrap64 (a1 - 1)) t278 _ A13.out).mono ?_); rintro e w' ⟨rfl, ⟨nd, rfl⟩⟩))
  go_ret
  exact ⟨hV_, hC_⟩
/-! ### sleuthref12_TrailMay: function 27 -/
def sleuthref12_TrailMay.l0 : Nat → List (S64) → Int → Option (Bool)
  | 0, _, _ => none
  | k + 1, x0, x3 => if x3 < (x0.length : Int) then (if 0 ≤ x3 then ((sleuthref12_stands.f k ((rd_T64 x0 x3).f0) ((rd_T64 x0 x3).f1) ((rd_T64 x0 x3).f2) ((rd_T64 x0 x3).f3) x3).bind fun t281 => (if t281 = true then (sleuthref12_TrailMay.l0 k x0 (wrap64 (x3 + 1))) else (some false))) else (none)) else (some (decide ((x0.length : Int) > 0)))
def sleuthref12_TrailMay.f (k : Nat) (l0 : List (S64)) : Option (Bool) := sleuthref12_TrailMay.l0 k l0 0
theorem sleuthref12_TrailMay.mono_l : ∀ k, (∀ y0 y1, LeO (sleuthref12_TrailMay.l0 k y0 y1) (sleuthref12_TrailMay.l0 (k + 1) y0 y1))
  | 0 => fun _ _ r h => by simp [sleuthref12_TrailMay.l0] at h
  | k + 1 => by
    have ih0 := sleuthref12_TrailMay.mono_l k
    · intro y0 y1
      unfold sleuthref12_TrailMay.l0
      repeat' first
      | (with_reducible exact ih0 _ _)
      | (with_reducible exact sleuthref12_stands.mono _ _ _ _ _ _)
      | (with_reducible exact LeO.refl _)
      | (with_reducible exact LeO.none _)
      | (with_reducible refine LeO.ite ?_ ?_)
      | (with_reducible refine LeO.bind ?_ (fun _ => ?_))
      | exact ih0 _ _
      | exact sleuthref12_stands.mono _ _ _ _ _ _
      | exact LeO.none _
      | refine LeO.ite ?_ ?_
      | refine LeO.bind ?_ (fun _ => ?_)
theorem sleuthref12_TrailMay.mono : ∀ a0 k, LeO (sleuthref12_TrailMay.f k a0) (sleuthref12_TrailMay.f (k + 1) a0) := by
  intro a0 k
  have ih0 := sleuthref12_TrailMay.mono_l k
  unfold sleuthref12_TrailMay.f
  repeat' first
      | (with_reducible exact ih0 _ _)
      | (with_reducible exact sleuthref12_stands.mono _ _ _ _ _ _)
      | (with_reducible exact LeO.refl _)
      | (with_reducible exact LeO.none _)
      | (with_reducible refine LeO.ite ?_ ?_)
      | (with_reducible refine LeO.bind ?_ (fun _ => ?_))
      | exact ih0 _ _
      | exact sleuthref12_stands.mono _ _ _ _ _ _
      | exact LeO.none _
      | refine LeO.ite ?_ ?_
      | refine LeO.bind ?_ (fun _ => ?_)
set_option maxHeartbeats 8000000 in
set_option maxRecDepth 100000 in
theorem sleuthref12_TrailMay.calls (k : Nat) (A0 : Option Addr) (c0 : Nat) (l0 : List (S64)) (r : Bool) (w : World) (hr0 : Kd.C k64 w A0 l0.length l0) (hc0 : l0.length ≤ c0) (h : sleuthref12_TrailMay.f k l0 = some r) :
    Calls Tryz.prog 27 #[.slice A0 l0.length c0] w fun e w' => e = .returned (.bool r) ∧ Below w.heap.size w w' := by
  have hu64 := Tryz.underlying64
  have HR0 := Aside0.mk hr0
  have HC0 := Aside0.mk hc0
  clear hr0 hc0
  have HB := Aside0.mk (Below.refl w.heap.size w)
  have H : (sleuthref12_TrailMay.l0 k l0 0) = some r := h
  clear h
  have H' := Aside0.mk H
  clear H
  go_enter Tryz.func27, Tryz.ntmps27
  go_wp2
  go_loopg [3] k (fun kq v3 w' => ∃ (x3_1 : Int), v3 = .int .i64 x3_1 ∧ Aside0 (sleuthref12_TrailMay.l0 kq l0 x3_1 = some r) ∧ Aside0 (kq ≤ k) ∧ Aside0 (Below w.heap.size w w'))
  case atStart => exact ⟨(0), hW_, H', ⟨Nat.le_refl _⟩, ⟨hC_⟩⟩
  case round =>
    clear H'
    obtain ⟨x3_1, rfl, HA, HK1, HB⟩ := hrel
    cases gk with
    | zero => exact absurd HA.out (by simp [sleuthref12_TrailMay.l0])
    | succ k1 =>
      have H := HA.out
      clear HA
      simp only [sleuthref12_TrailMay.l0] at H
      by_cases c2 : x3_1 < (l0.length : Int)
      case neg =>
        rw [if_neg c2] at H
        have c2b0 : decide (x3_1 < (l0.length : Int)) = false := decide_eq_false c2
        clear c2
        obtain rfl := Option.some.inj H
        go_wp2
        go_ret
        exact ⟨hV_, hC_⟩

      rw [if_pos c2] at H
      have c2b0 : decide (x3_1 < (l0.length : Int)) = true := decide_eq_true c2
      clear c2
      replace H := ifI_ H; obtain ⟨c3, H⟩ := H
      have c3b0 : decide (0 ≤ x3_1) = true := decide_eq_true c3
      clear c3
      replace H := Option.bind_eq_some_iff.mp H
      obtain ⟨t281, A40, H⟩ := H
      replace H : (if t281 = true then (sleuthref12_TrailMay.l0 k1 l0 (wrap64 (x3_1 + 1))) else (some false)) = some r := H
      have A4 := Aside0.mk A40
      clear A40
      by_cases c5 : t281 = true
      case neg =>
        replace c5 := Bool.eq_false_iff.mpr c5
        subst c5
        have H1 : (some false) = some r := by rw [if_neg (show ¬ (false = true) by decide)] at H; exact H
        clear H
        have H := H1
        clear H1
        obtain rfl := Option.some.inj H
        have p280 : 0 ≤ (x3_1 : Int) := of_decide_eq_true hA_
        have q280 : x3_1 < (l0.length : Int) := of_decide_eq_true hA_
        obtain ⟨ad280, A280_2, c280_2, e280, hx280_0, hx280_1, hx280_2, hx280_3, hl280_2, hi280_2⟩ := at_T64 HR0.out x3_1 p280 q280
        cases e280
        replace hx280_0 := cl_ HB.out hx280_0
        replace hx280_1 := cl_ HB.out hx280_1
        replace hx280_2 := cl_ HB.out hx280_2
        replace hx280_3 := cl_ HB.out hx280_3
        have HR280_2 := Aside0.mk hi280_2
        have HC280_2 := Aside0.mk hl280_2
        clear hi280_2 hl280_2
        replace p280 := eq_true p280
        replace q280 := eq_true q280
        go_wp2_with (first | ((with_reducible refine gate_callee (f := 42) rfl ?_); refine goesL_ (some 15) rfl rfl Tryz.func42 (by kernel_rfl) rfl #[.agg #[.int .i64 ((rd_T64 l0 x3_1).f0), .int .i64 ((rd_T64 l0 x3_1).f1), .slice A280_2 ((rd_T64 l0 x3_1).f2).length c280_2, .string ((rd_T64 l0 x3_1).f3)], .int .i64 x3_1] rfl hL_ ?_; (with_reducible refine (sleuthref12_stands.calls k1 ((rd_T64 l0 x3_1).f0) ((rd_T64 l0 x3_1).f1) _ _ ((rd_T64 l0 x3_1).f2) ((rd_T64 l0 x3_1).f3) x3_1 false _ ?side1 ?side2 A4.out).mono ?_); (case side1 => exact cB_ HR280_2.out); (case side2 => exact HC280_2.out); rintro e w7 ⟨rfl, hb⟩; refine ⟨_, rfl, ?_⟩; have n0_ := Aside0.mk (below_step hB_ hb); clear HB; have HB := n0_; clear n0_; (try clear hb); (try clear hb2); (try clear hk); (try clear hi)))
        go_ret
        exact ⟨hV_, hC_⟩
      subst c5
      have H1 : (sleuthref12_TrailMay.l0 k1 l0 (wrap64 (x3_1 + 1))) = some r := by rw [if_pos rfl] at H; exact H
      clear H
      have H := H1
      clear H1
      have H' := Aside0.mk H
      clear H
      have p280 : 0 ≤ (x3_1 : Int) := of_decide_eq_true hA_
      have q280 : x3_1 < (l0.length : Int) := of_decide_eq_true hA_
      obtain ⟨ad280, A280_2, c280_2, e280, hx280_0, hx280_1, hx280_2, hx280_3, hl280_2, hi280_2⟩ := at_T64 HR0.out x3_1 p280 q280
      cases e280
      replace hx280_0 := cl_ HB.out hx280_0
      replace hx280_1 := cl_ HB.out hx280_1
      replace hx280_2 := cl_ HB.out hx280_2
      replace hx280_3 := cl_ HB.out hx280_3
      have HR280_2 := Aside0.mk hi280_2
      have HC280_2 := Aside0.mk hl280_2
      clear hi280_2 hl280_2
      replace p280 := eq_true p280
      replace q280 := eq_true q280
      go_wp2_with (first | ((with_reducible refine gate_callee (f := 42) rfl ?_); refine goesL_ (some 15) rfl rfl Tryz.func42 (by kernel_rfl) rfl #[.agg #[.int .i64 ((rd_T64 l0 x3_1).f0), .int .i64 ((rd_T64 l0 x3_1).f1), .slice A280_2 ((rd_T64 l0 x3_1).f2).length c280_2, .string ((rd_T64 l0 x3_1).f3)], .int .i64 x3_1] rfl hL_ ?_; (with_reducible refine (sleuthref12_stands.calls k1 ((rd_T64 l0 x3_1).f0) ((rd_T64 l0 x3_1).f1) _ _ ((rd_T64 l0 x3_1).f2) ((rd_T64 l0 x3_1).f3) x3_1 true _ ?side1 ?side2 A4.out).mono ?_); (case side1 => exact cB_ HR280_2.out); (case side2 => exact HC280_2.out); rintro e w6 ⟨rfl, hb⟩; refine ⟨_, rfl, ?_⟩; have n0_ := Aside0.mk (below_step hB_ hb); clear HB; have HB := n0_; clear n0_; (try clear hb); (try clear hb2); (try clear hk); (try clear hi)))
      go_roundg k1
      case measure => have := HK1.out; omega
      case rel => exact ⟨(wrap64 (x3_1 + 1)), hW_, H', ⟨by have := HK1.out; omega⟩, ⟨hC_⟩⟩
/-! ### sleuthref12_markMay: function 29 -/
def sleuthref12_markMay.f (a0 : Int) : Option (Bool) := (sleuthref12_upTo.f a0 1 3).bind fun t282 => (some t282)
set_option maxHeartbeats 8000000 in
set_option maxRecDepth 100000 in
theorem sleuthref12_markMay.calls (a0 : Int) (r : Bool) (w : World) (h : sleuthref12_markMay.f a0 = some r) :
    Calls Tryz.prog 29 #[.int .i64 a0] w fun e w' => e = .returned (.bool r) ∧ Drawn0 w w' := by
  have H : ((sleuthref12_upTo.f a0 1 3).bind fun t282 => (some t282)) = some r := h
  clear h
  replace H := Option.bind_eq_some_iff.mp H
  obtain ⟨t282, A20, H⟩ := H
  replace H : (some t282) = some r := H
  have A2 := Aside0.mk A20
  clear A20
  obtain rfl := Option.some.inj H
  go_enter Tryz.func29, Tryz.ntmps29
  go_wp2_with (first | ((with_reducible refine gate_callee (f := 28) rfl ?_); refine goesL_ (some 4) rfl rfl Tryz.func28 (by kernel_rfl) rfl #[.int .i64 a0, .int .i64 1, .int .i64 3] rfl hL_ ?_; (with_reducible refine (sleuthref12_upTo.calls a0 1 3 t282 _ A2.out).mono ?_); rintro e w' ⟨rfl, ⟨nd, rfl⟩⟩; refine ⟨_, rfl, ?_⟩))
  go_ret
  exact ⟨by first | rfl | (simp; done) | (simp [*]; done), by repeat (first | exact Drawn0.refl _ | apply Drawn0.step)⟩

end Go.Proofs.YtgokcaccamfgfaaGreatDoor.G
end
section
namespace Go.Proofs.YtgokcaccamfgfaaGreatDoor.G
open Go.RowKit Go.Proofs.YtgokcaccamfgfaaGreatDoorW.PrintWords Go.Proofs.YtgokcaccamfgfaaGreatDoorW.PrintLast Go.Proofs.YtgokcaccamfgfaaGreatDoorW.PrintMore
set_option linter.unusedVariables false
set_option linter.unusedSimpArgs false
abbrev Nd := S64
abbrev rn (ns : List Nd) (i : Int) : Nd := rd_T64 ns i
theorem rn_eq (ns : List Nd) (i : Nat) (h : i < ns.length) : rn ns (i : Int) = ns[i] := by
  show ns.getD _ _ = _
  rw [Int.toNat_natCast, List.getD_eq_getElem?_getD, List.getElem?_eq_getElem h]; rfl

/-! what every seat knows of nodes -/
def okN (ns : List Nd) : Prop := ns.length ≤ 2513169434845 ∧ ∀ x ∈ ns, x.f2.length ≤ 8796093021952
theorem okN.at {ns : List Nd} (h : okN ns) (i : Int) : (rn ns i).f2.length ≤ 8796093021952 := by
  show (ns.getD i.toNat _).f2.length ≤ _
  rw [List.getD_eq_getElem?_getD]
  cases hg : ns[i.toNat]? with
  | none => exact Nat.zero_le _
  | some x => exact h.2 x (List.mem_of_getElem? hg)

/-! may a node, a trail be? -/
def eqS (x : Nd) : Bool := decide (0 ≤ x.f0) && decide (x.f0 < 8) && decide (x.f2.length ≤ 3) && x.f2.all mayS && mayS x.f3
def nextS (x : Nd) (i : Int) : Bool := decide (i < 512) && (decide (0 ≤ x.f1 ∧ x.f1 < i) || decide (i = 0 ∧ x.f1 = -1)) && eqS x
def mayT (ns : List Nd) : Bool := decide (0 < ns.length) && (List.range ns.length).all fun i => nextS (rn ns (i : Int)) (i : Int)
theorem all_l0 (l : List ByteArray) (hl : l.length ≤ 9223372036854775806) : ∀ (n i : Nat), i + n = l.length → Ev (fun k => term_All.l0 k l (l.length : Int) (i : Int)) ((l.drop i).all mayS) := by
  intro n
  induction n with
  | zero =>
    intro i hi
    refine Ev.step (f := fun _ => some true) (fun k => ?_) ?_
    · simp only [term_All.l0]; rw [if_neg (by omega)]
    · rw [List.drop_eq_nil_of_le (by omega)]; exact Ev.now _
  | succ n ih =>
    intro i hi
    have hlt : i < l.length := by omega
    have hw : wrap64 ((i : Int) + 1) = ((i + 1 : Nat) : Int) := by rw [w64 (by omega) (by omega)]; omega
    refine Ev.step (f := fun k => (term_May.f k l[i]).bind fun t => if t = true then term_All.l0 k l (l.length : Int) ((i + 1 : Nat) : Int) else some false) (fun k => ?_) ?_
    · simp only [term_All.l0]
      rw [if_pos (by omega), if_pos (by omega), if_pos (by omega), hw]
      have : rdOf ByteArray.empty l (i : Int) = l[i] := by
        show l.getD _ _ = _
        rw [Int.toNat_natCast, List.getD_eq_getElem?_getD, List.getElem?_eq_getElem hlt]; rfl
      rw [this]
    · refine Ev.bind (may_ev _) ?_
      rw [List.drop_eq_getElem_cons hlt, List.all_cons]
      cases mayS l[i] with
      | true => simp only [if_pos, Bool.true_and]; exact ih (i + 1) (by omega)
      | false => simp only [Bool.false_and]; exact Ev.now _
theorem all_ev (l : List ByteArray) (hl : l.length ≤ 9223372036854775806) : Ev (fun k => term_All.f k l) (l.all mayS) := by
  have := all_l0 l hl l.length 0 (by omega)
  rw [List.drop_zero] at this
  exact this
theorem equation_ev (x : Nd) : Ev (fun k => trail_Equation.f k x.f0 x.f1 x.f2 x.f3) (eqS x) := by
  unfold trail_Equation.f eqS
  by_cases c1 : 0 ≤ x.f0
  · by_cases c2 : x.f0 < 8
    · by_cases c3 : (x.f2.length : Int) ≤ 3
      · simp only [if_pos c1, if_pos c2, if_pos c3, decide_eq_true c1, decide_eq_true c2, decide_eq_true (show x.f2.length ≤ 3 by omega), Bool.true_and]
        refine Ev.bind (all_ev _ (by omega)) ?_
        cases x.f2.all mayS with
        | true => simp only [if_pos, Bool.true_and]; exact may_ev _
        | false => simp only [Bool.false_and]; exact Ev.now _
      · simp only [if_pos c1, if_pos c2, if_neg c3, decide_eq_false (show ¬ x.f2.length ≤ 3 by omega), Bool.and_false, Bool.false_and]; exact Ev.now _
    · simp only [if_pos c1, if_neg c2, decide_eq_false c2, Bool.and_false, Bool.false_and]; exact Ev.now _
  · simp only [if_neg c1, decide_eq_false c1, Bool.false_and]; exact Ev.now _
theorem next_ev (x : Nd) (i : Int) : Ev (fun k => trail_Next.f k x.f0 x.f1 x.f2 x.f3 i) (nextS x i) := by
  unfold trail_Next.f nextS
  by_cases c1 : i < 512
  · by_cases c2 : (0 ≤ x.f1 ∧ x.f1 < i) ∨ (i = 0 ∧ x.f1 = -1)
    · simp only [if_pos c1, if_pos c2, decide_eq_true c1, Bool.true_and]
      have : (decide (0 ≤ x.f1 ∧ x.f1 < i) || decide (i = 0 ∧ x.f1 = -1)) = true := by
        rw [Bool.or_eq_true, decide_eq_true_iff, decide_eq_true_iff]; exact c2
      rw [this, Bool.true_and]
      exact equation_ev x
    · simp only [if_pos c1, if_neg c2, decide_eq_true c1, Bool.true_and]
      have : (decide (0 ≤ x.f1 ∧ x.f1 < i) || decide (i = 0 ∧ x.f1 = -1)) = false := by
        rw [← Bool.not_eq_true, Bool.or_eq_true, decide_eq_true_iff, decide_eq_true_iff]; exact c2
      rw [this, Bool.false_and]
      exact Ev.now _
  · simp only [if_neg c1, decide_eq_false c1, Bool.false_and]; exact Ev.now _
theorem nextS_512 {x : Nd} {i : Int} (h : nextS x i = true) : i < 512 := by
  unfold nextS at h
  rw [Bool.and_eq_true, Bool.and_eq_true, decide_eq_true_iff] at h
  exact h.1.1
theorem trailMay_l0 (ns : List Nd) : ∀ (n i : Nat), i + n = ns.length → Ev (fun k => trail_May.l0 k ns (i : Int)) (decide (0 < ns.length) && (List.range' i n).all fun j => nextS (rn ns (j : Int)) (j : Int)) := by
  intro n
  induction n with
  | zero =>
    intro i hi
    refine Ev.step (f := fun _ => some (decide (0 < ns.length))) (fun k => ?_) ?_
    · simp only [trail_May.l0]
      rw [if_neg (by omega)]
      congr 1
      exact decide_eq_decide.2 (by omega)
    · simp only [List.range'_zero, List.all_nil, Bool.and_true]; exact Ev.now _
  | succ n ih =>
    intro i hi
    refine Ev.step (f := fun k => (trail_Next.f k (rn ns (i : Int)).f0 (rn ns (i : Int)).f1 (rn ns (i : Int)).f2 (rn ns (i : Int)).f3 (i : Int)).bind fun t => if t = true then trail_May.l0 k ns (wrap64 ((i : Int) + 1)) else some false) (fun k => ?_) ?_
    · simp only [trail_May.l0]
      rw [if_pos (by omega), if_pos (by omega)]
    · refine Ev.bind (next_ev (rn ns (i : Int)) (i : Int)) ?_
      rw [List.range'_succ, List.all_cons]
      cases hn : nextS (rn ns (i : Int)) (i : Int) with
      | true =>
        have := nextS_512 hn
        simp only [if_pos, Bool.true_and]
        rw [show wrap64 ((i : Int) + 1) = ((i + 1 : Nat) : Int) from by rw [w64 (by omega) (by omega)]; omega]
        exact ih (i + 1) (by omega)
      | false => simp only [Bool.false_and, Bool.and_false]; exact Ev.now _
theorem trailMay_ev (ns : List Nd) : Ev (fun k => trail_May.f k ns) (mayT ns) := by
  have := trailMay_l0 ns ns.length 0 (by omega)
  unfold mayT
  rw [List.range_eq_range']
  exact this
/-! the document's -/
theorem upTo_eq (a b c : Int) : sleuthref12_upTo.f a b c = some (decide (b ≤ a) && decide (a ≤ c)) := by
  unfold sleuthref12_upTo.f
  by_cases h : a ≥ b
  · rw [if_pos h, decide_eq_true h, Bool.true_and]
  · rw [if_neg h, decide_eq_false h, Bool.false_and]
theorem refTexts_l0 (x : Nd) (hl : x.f2.length ≤ 9223372036854775806) : ∀ (n i : Nat), i + n = x.f2.length → Ev (fun k => sleuthref12_texts.l0 k (i : Int) x.f0 x.f1 x.f2 x.f3) ((x.f2.drop i).all mayS && (decide (0 ≤ x.f0) && decide (x.f0 ≤ 7) && decide (x.f2.length ≤ 3) && mayS x.f3)) := by
  intro n
  induction n with
  | zero =>
    intro i hi
    refine Ev.step (f := fun k => ((sleuthref12_upTo.f x.f0 0 7).bind fun t255 => (if t255 = true then (if (x.f2.length : Int) ≤ 3 then ((sleuthref1_TermMay.f k x.f3).bind fun t256 => (some t256)) else (some false)) else (some false)))) (fun k => ?_) ?_
    · simp only [sleuthref12_texts.l0]; rw [if_neg (by omega)]
    · rw [List.drop_eq_nil_of_le (by omega), List.all_nil, Bool.true_and]
      simp only [upTo_eq, Option.bind_some]
      cases (decide (0 ≤ x.f0) && decide (x.f0 ≤ 7)) with
      | true =>
        simp only [if_pos, Bool.true_and]
        by_cases c : (x.f2.length : Int) ≤ 3
        · simp only [if_pos c, decide_eq_true (show x.f2.length ≤ 3 by omega), Bool.true_and]
          exact Ev.bind (refMay_ev _) (Ev.now _)
        · simp only [if_neg c, decide_eq_false (show ¬ x.f2.length ≤ 3 by omega), Bool.false_and]
          exact Ev.now _
      | false => simp only [Bool.false_and]; exact Ev.now _
  | succ n ih =>
    intro i hi
    have hlt : i < x.f2.length := by omega
    have hw : wrap64 ((i : Int) + 1) = ((i + 1 : Nat) : Int) := by rw [w64 (by omega) (by omega)]; omega
    refine Ev.step (f := fun k => (sleuthref1_TermMay.f k x.f2[i]).bind fun t => if t = true then sleuthref12_texts.l0 k ((i + 1 : Nat) : Int) x.f0 x.f1 x.f2 x.f3 else some false) (fun k => ?_) ?_
    · simp only [sleuthref12_texts.l0]
      rw [if_pos (by omega), if_pos (by omega), hw]
      have : rdOf ByteArray.empty x.f2 (i : Int) = x.f2[i] := by
        show x.f2.getD _ _ = _
        rw [Int.toNat_natCast, List.getD_eq_getElem?_getD, List.getElem?_eq_getElem hlt]; rfl
      rw [this]
    · refine Ev.bind (refMay_ev _) ?_
      rw [List.drop_eq_getElem_cons hlt, List.all_cons]
      cases mayS x.f2[i] with
      | true => simp only [if_pos, Bool.true_and]; exact ih (i + 1) (by omega)
      | false => simp only [Bool.false_and]; exact Ev.now _
theorem refTexts_ev (x : Nd) (hl : x.f2.length ≤ 9223372036854775806) : Ev (fun k => sleuthref12_texts.f k x.f0 x.f1 x.f2 x.f3) (eqS x) := by
  have := refTexts_l0 x hl x.f2.length 0 (by omega)
  rw [List.drop_zero] at this
  have e : (x.f2.all mayS && (decide (0 ≤ x.f0) && decide (x.f0 ≤ 7) && decide (x.f2.length ≤ 3) && mayS x.f3)) = eqS x := by
    unfold eqS
    rw [show decide (x.f0 ≤ 7) = decide (x.f0 < 8) from decide_eq_decide.2 (by omega)]
    cases x.f2.all mayS <;> cases decide (0 ≤ x.f0) <;> cases decide (x.f0 < 8) <;> cases decide (x.f2.length ≤ 3) <;> cases mayS x.f3 <;> rfl
  rw [e] at this
  exact this
theorem refStands_ev (x : Nd) (hl : x.f2.length ≤ 9223372036854775806) (i : Nat) : Ev (fun k => sleuthref12_stands.f k x.f0 x.f1 x.f2 x.f3 (i : Int)) (nextS x (i : Int)) := by
  unfold sleuthref12_stands.f nextS
  by_cases c1 : (i : Int) < 512
  · simp only [if_pos c1, decide_eq_true c1, Bool.true_and]
    refine Ev.bind (refTexts_ev x hl) ?_
    cases eqS x with
    | false => simp only [Bool.and_false]; exact Ev.now _
    | true =>
      simp only [if_pos, Bool.and_true]
      have hw : wrap64 ((i : Int) - 1) = (i : Int) - 1 := w64 (by omega) (by omega)
      by_cases c2 : (i : Int) = 0
      · simp only [if_pos c2]
        by_cases c3 : x.f1 = -1
        · simp only [if_pos c3]
          have : (decide (0 ≤ x.f1 ∧ x.f1 < (i : Int)) || decide ((i : Int) = 0 ∧ x.f1 = -1)) = true := by
            rw [Bool.or_eq_true, decide_eq_true_iff, decide_eq_true_iff]; exact .inr ⟨c2, c3⟩
          rw [this]
          exact Ev.now _
        · simp only [if_neg c3, if_neg (show ¬ ((i : Int) > 0) by omega)]
          have : (decide (0 ≤ x.f1 ∧ x.f1 < (i : Int)) || decide ((i : Int) = 0 ∧ x.f1 = -1)) = false := by
            rw [← Bool.not_eq_true, Bool.or_eq_true, decide_eq_true_iff, decide_eq_true_iff]; omega
          rw [this]
          exact Ev.now _
      · simp only [if_neg c2, if_pos (show (i : Int) > 0 by omega), upTo_eq, Option.bind_some, hw]
        have : (decide (0 ≤ x.f1 ∧ x.f1 < (i : Int)) || decide ((i : Int) = 0 ∧ x.f1 = -1)) = (decide (0 ≤ x.f1) && decide (x.f1 ≤ (i : Int) - 1)) := by
          rw [Bool.eq_iff_iff, Bool.or_eq_true, Bool.and_eq_true, decide_eq_true_iff, decide_eq_true_iff, decide_eq_true_iff, decide_eq_true_iff]; omega
        rw [this]
        exact Ev.now _
  · simp only [if_neg c1, decide_eq_false c1, Bool.false_and]; exact Ev.now _
theorem refTrail_l0 (ns : List Nd) (hok : okN ns) : ∀ (n i : Nat), i + n = ns.length → Ev (fun k => sleuthref12_TrailMay.l0 k ns (i : Int)) (decide (0 < ns.length) && (List.range' i n).all fun j => nextS (rn ns (j : Int)) (j : Int)) := by
  intro n
  induction n with
  | zero =>
    intro i hi
    refine Ev.step (f := fun _ => some (decide (0 < ns.length))) (fun k => ?_) ?_
    · simp only [sleuthref12_TrailMay.l0]
      rw [if_neg (by omega)]
      congr 1
      exact decide_eq_decide.2 (by omega)
    · simp only [List.range'_zero, List.all_nil, Bool.and_true]; exact Ev.now _
  | succ n ih =>
    intro i hi
    refine Ev.step (f := fun k => (sleuthref12_stands.f k (rn ns (i : Int)).f0 (rn ns (i : Int)).f1 (rn ns (i : Int)).f2 (rn ns (i : Int)).f3 (i : Int)).bind fun t => if t = true then sleuthref12_TrailMay.l0 k ns (wrap64 ((i : Int) + 1)) else some false) (fun k => ?_) ?_
    · simp only [sleuthref12_TrailMay.l0]
      rw [if_pos (by omega), if_pos (by omega)]
    · refine Ev.bind (refStands_ev (rn ns (i : Int)) (Nat.le_trans (hok.at _) (by omega)) i) ?_
      rw [List.range'_succ, List.all_cons]
      cases hn : nextS (rn ns (i : Int)) (i : Int) with
      | true =>
        have := nextS_512 hn
        simp only [if_pos, Bool.true_and]
        rw [show wrap64 ((i : Int) + 1) = ((i + 1 : Nat) : Int) from by rw [w64 (by omega) (by omega)]; omega]
        exact ih (i + 1) (by omega)
      | false => simp only [Bool.false_and, Bool.and_false]; exact Ev.now _
theorem refTrail_ev (ns : List Nd) (hok : okN ns) : Ev (fun k => sleuthref12_TrailMay.f k ns) (mayT ns) := by
  have := refTrail_l0 ns hok ns.length 0 (by omega)
  unfold mayT
  rw [List.range_eq_range']
  exact this
/-! what a trail that may be knows -/
theorem mayT_at {ns : List Nd} (h : mayT ns = true) : 0 < ns.length ∧ ∀ i : Nat, i < ns.length → nextS (rn ns (i : Int)) (i : Int) = true := by
  unfold mayT at h
  rw [Bool.and_eq_true, decide_eq_true_iff] at h
  exact ⟨h.1, fun i hi => List.all_eq_true.1 h.2 i (List.mem_range.2 hi)⟩
theorem mayT_len {ns : List Nd} (h : mayT ns = true) : 0 < ns.length ∧ ns.length ≤ 512 := by
  obtain ⟨h1, h2⟩ := mayT_at h
  have := nextS_512 (h2 (ns.length - 1) (by omega))
  exact ⟨h1, by omega⟩
def pa (ns : List Nd) (i : Nat) : Int := (rn ns (i : Int)).f1
theorem mayT_pa {ns : List Nd} (h : mayT ns = true) (i : Nat) (hi : i < ns.length) : (i = 0 ∧ pa ns i = -1) ∨ (0 < i ∧ 0 ≤ pa ns i ∧ pa ns i < (i : Int)) := by
  have := (mayT_at h).2 i hi
  unfold nextS at this
  rw [Bool.and_eq_true, Bool.and_eq_true, Bool.or_eq_true, decide_eq_true_iff, decide_eq_true_iff, decide_eq_true_iff] at this
  unfold pa
  rcases this.1.2 with h1 | h1 <;> omega
end Go.Proofs.YtgokcaccamfgfaaGreatDoor.G
end
section
-- Laid by the session's own driver gp.py over the kit's printer. Not trusted: Lean checks it.
namespace Go.Proofs.YtgokcaccamfgfaaGreatDoor.G
open Go.RowKit Go.Proofs.YtgokcaccamfgfaaGreatDoorW.PrintWords Go.Proofs.YtgokcaccamfgfaaGreatDoorW.PrintLast Go.Proofs.YtgokcaccamfgfaaGreatDoorW.PrintMore
attribute [local go_sem] max2_int min2_int max_two min_two max_three min_three max_four min_four   -- for this text's walks alone
set_option linter.unusedVariables false
set_option linter.unusedSimpArgs false

/-! ### sleuthlaw0_CopyNodes: function 24 -/
def sleuthlaw0_CopyNodes.l0 : Nat → List (S64) → List (S64) → Int → Option ((List (S64)))
  | 0, _, _, _ => none
  | k + 1, x0, x3, x4 => if x4 < (x0.length : Int) then (if 0 ≤ x4 then ((some (([] : List ByteArray) : List ByteArray)).bind fun y103 => (if y103.length + ((rd_T64 x0 x4).f2).length < 8796093022208 then (if x3.length < 2513169434916 then (sleuthlaw0_CopyNodes.l0 k x0 (x3 ++ [(⟨(rd_T64 x0 x4).f0, (rd_T64 x0 x4).f1, (y103 ++ ((rd_T64 x0 x4).f2)), (rd_T64 x0 x4).f3⟩ : S64)]) (wrap64 (x4 + 1))) else (none)) else (none))) else (none)) else (some x3)
def sleuthlaw0_CopyNodes.f (k : Nat) (l0 : List (S64)) : Option ((List (S64))) := sleuthlaw0_CopyNodes.l0 k l0 ([] : List (S64)) 0
theorem sleuthlaw0_CopyNodes.mono_l : ∀ k, (∀ y0 y1 y2, LeO (sleuthlaw0_CopyNodes.l0 k y0 y1 y2) (sleuthlaw0_CopyNodes.l0 (k + 1) y0 y1 y2))
  | 0 => fun _ _ _ r h => by simp [sleuthlaw0_CopyNodes.l0] at h
  | k + 1 => by
    have ih0 := sleuthlaw0_CopyNodes.mono_l k
    · intro y0 y1 y2
      unfold sleuthlaw0_CopyNodes.l0
      repeat' first
      | (with_reducible exact ih0 _ _ _)
      | (with_reducible exact LeO.refl _)
      | (with_reducible exact LeO.none _)
      | (with_reducible refine LeO.ite ?_ ?_)
      | (with_reducible refine LeO.bind ?_ (fun _ => ?_))
      | exact ih0 _ _ _
      | exact LeO.none _
      | refine LeO.ite ?_ ?_
      | refine LeO.bind ?_ (fun _ => ?_)
theorem sleuthlaw0_CopyNodes.mono : ∀ a0 k, LeO (sleuthlaw0_CopyNodes.f k a0) (sleuthlaw0_CopyNodes.f (k + 1) a0) := by
  intro a0 k
  have ih0 := sleuthlaw0_CopyNodes.mono_l k
  unfold sleuthlaw0_CopyNodes.f
  repeat' first
      | (with_reducible exact ih0 _ _ _)
      | (with_reducible exact LeO.refl _)
      | (with_reducible exact LeO.none _)
      | (with_reducible refine LeO.ite ?_ ?_)
      | (with_reducible refine LeO.bind ?_ (fun _ => ?_))
      | exact ih0 _ _ _
      | exact LeO.none _
      | refine LeO.ite ?_ ?_
      | refine LeO.bind ?_ (fun _ => ?_)
set_option maxHeartbeats 8000000 in
set_option maxRecDepth 100000 in
theorem sleuthlaw0_CopyNodes.calls (k : Nat) (A0 : Option Addr) (c0 : Nat) (l0 : List (S64)) (r : List (S64)) (w : World) (hr0 : Kd.C k64 w A0 l0.length l0) (hc0 : l0.length ≤ c0) (h : sleuthlaw0_CopyNodes.f k l0 = some r) :
    Calls Tryz.prog 24 #[.slice A0 l0.length c0] w fun e w' => ∃ v0_ : Value, e = .returned (v0_) ∧ Kd.S k64 64 w' w.heap.size (fun _ => True) v0_ r ∧ Below w.heap.size w w' := by
  have hu64 := Tryz.underlying64
  have HR0 := Aside0.mk hr0
  have HC0 := Aside0.mk hc0
  clear hr0 hc0
  have HB := Aside0.mk (Below.refl w.heap.size w)
  have H : (sleuthlaw0_CopyNodes.l0 k l0 ([] : List (S64)) 0) = some r := h
  clear h
  have H' := Aside0.mk H
  clear H
  go_enter Tryz.func24, Tryz.ntmps24
  go_wp2
  go_loopg [3, 4] k (fun kq v3 v4 w' => ∃ (x3_1 : List (S64)) (x4_1 : Int), v4 = .int .i64 x4_1 ∧ Aside0 (sleuthlaw0_CopyNodes.l0 kq l0 x3_1 x4_1 = some r) ∧ Aside0 (kq ≤ k) ∧ Aside0 (Kd.S k64 64 w' w.heap.size (fun _ => True) v3 x3_1) ∧ Aside0 (Below w.heap.size w w'))
  case atStart => exact ⟨(([] : List (S64))), (0), hW_, H', ⟨Nat.le_refl _⟩, ⟨by first | exact Kd.S_nil _ _ _ _ _ | exact Kd.N_nil _ _ _ _ _ | exact Kd.V_nil _ _ _ _ _ | exact Kd.Q_nil _ _ _ _ _ | exact Kd.R_nil _ _ _ _ _⟩, ⟨hC_⟩⟩
  case round =>
    clear H'
    obtain ⟨x3_1, x4_1, rfl, HA, HK1, HO_3, HB⟩ := hrel
    cases gk with
    | zero => exact absurd HA.out (by simp [sleuthlaw0_CopyNodes.l0])
    | succ k1 =>
      have H := HA.out
      clear HA
      simp only [sleuthlaw0_CopyNodes.l0] at H
      by_cases c2 : x4_1 < (l0.length : Int)
      case neg =>
        rw [if_neg c2] at H
        have c2b0 : decide (x4_1 < (l0.length : Int)) = false := decide_eq_false c2
        clear c2
        obtain rfl := Option.some.inj H
        go_wp2
        go_ret
        exact ⟨_, hV_, by (with_reducible repeat (first | apply Kd.S_alloc | apply Kd.S_drewN | apply Kd.S_drew)); exact HO_3.out, hC_⟩

      rw [if_pos c2] at H
      have c2b0 : decide (x4_1 < (l0.length : Int)) = true := decide_eq_true c2
      clear c2
      replace H := ifI_ H; obtain ⟨c3, H⟩ := H
      have c3b0 : decide (0 ≤ x4_1) = true := decide_eq_true c3
      clear c3
      obtain ⟨y103, hy103⟩ : ∃ y_ : List ByteArray, y_ = (([] : List ByteArray)) := ⟨_, rfl⟩
      replace H : (if y103.length + ((rd_T64 l0 x4_1).f2).length < 8796093022208 then (if x3_1.length < 2513169434916 then (sleuthlaw0_CopyNodes.l0 k1 l0 (x3_1 ++ [(⟨(rd_T64 l0 x4_1).f0, (rd_T64 l0 x4_1).f1, (y103 ++ ((rd_T64 l0 x4_1).f2)), (rd_T64 l0 x4_1).f3⟩ : S64)]) (wrap64 (x4_1 + 1))) else (none)) else (none)) = some r := by first | (rw [hy103]; with_reducible exact H) | (have H2_ := (Option.bind_some _ _).symm.trans H; rw [hy103]; with_reducible exact H2_) | (have H2_ := (Option.bind_some _ _).symm.trans H; with_reducible exact H2_) | with_reducible exact H | (rw [hy103]; exact H) | exact H
      have Ny103 := Aside0.mk hy103
      clear hy103
      replace H := ifI_ H; obtain ⟨c4, H⟩ := H
      have LMc4 := Aside0.mk c4
      clear c4
      obtain ⟨y106, hy106⟩ : ∃ y_ : List ByteArray, y_ = (y103 ++ ((rd_T64 l0 x4_1).f2)) := ⟨_, rfl⟩
      replace H : (if x3_1.length < 2513169434916 then (sleuthlaw0_CopyNodes.l0 k1 l0 (x3_1 ++ [(⟨(rd_T64 l0 x4_1).f0, (rd_T64 l0 x4_1).f1, y106, (rd_T64 l0 x4_1).f3⟩ : S64)]) (wrap64 (x4_1 + 1))) else (none)) = some r := by first | (rw [hy106]; with_reducible exact H) | (have H2_ := (Option.bind_some _ _).symm.trans H; rw [hy106]; with_reducible exact H2_) | (have H2_ := (Option.bind_some _ _).symm.trans H; with_reducible exact H2_) | with_reducible exact H | (rw [hy106]; exact H) | exact H
      have Ny106 := Aside0.mk hy106
      clear hy106
      replace H := ifI_ H; obtain ⟨c5, H⟩ := H
      have LMc5 := Aside0.mk c5
      clear c5
      obtain ⟨y109, hy109⟩ : ∃ y_ : List (S64), y_ = (x3_1 ++ [(⟨(rd_T64 l0 x4_1).f0, (rd_T64 l0 x4_1).f1, y106, (rd_T64 l0 x4_1).f3⟩ : S64)]) := ⟨_, rfl⟩
      replace H : (sleuthlaw0_CopyNodes.l0 k1 l0 y109 (wrap64 (x4_1 + 1))) = some r := by first | (rw [hy109]; with_reducible exact H) | (have H2_ := (Option.bind_some _ _).symm.trans H; rw [hy109]; with_reducible exact H2_) | (have H2_ := (Option.bind_some _ _).symm.trans H; with_reducible exact H2_) | with_reducible exact H | (rw [hy109]; exact H) | exact H
      have Ny109 := Aside0.mk hy109
      clear hy109
      have H' := Aside0.mk H
      clear H
      have p101 : 0 ≤ (x4_1 : Int) := of_decide_eq_true hA_
      have q101 : x4_1 < (l0.length : Int) := of_decide_eq_true hA_
      obtain ⟨ad101, A101_2, c101_2, e101, hx101_0, hx101_1, hx101_2, hx101_3, hl101_2, hi101_2⟩ := at_T64 HR0.out x4_1 p101 q101
      cases e101
      replace hx101_0 := cl_ HB.out hx101_0
      replace hx101_1 := cl_ HB.out hx101_1
      replace hx101_2 := cl_ HB.out hx101_2
      replace hx101_3 := cl_ HB.out hx101_3
      have HR101_2 := Aside0.mk hi101_2
      have HC101_2 := Aside0.mk hl101_2
      clear hi101_2 hl101_2
      replace p101 := eq_true p101
      replace q101 := eq_true q101
      go_wp2_with (first | ((with_reducible refine gate_dst (N := 5) rfl ?_); refine boxE_ 5 #[.int .i64 0, .int .i64 0, .slice none 0 0, .string (⟨#[]⟩ : ByteArray)] 64 ?_; intro gb102 hg w6 hbox hb; have n0_ := Aside0.mk (Kd.S_below (Kd.S_elderB (by (with_reducible repeat (first | apply Kd.S_alloc | apply Kd.S_drewN | apply Kd.S_drew)); exact HO_3.out) gb102 (Nat.le_of_eq hg.symm)) hb); have n1_ := Aside0.mk (below_step hB_ hb); have n2_ := Aside0.mk (hbox); have n3_ := Aside0.mk ((gE_ hg : w.heap.size ≤ gb102)); have n4_ := Aside0.mk ((gE_ hg : w.heap.size ≤ gb102)); clear HO_3 HB; have HO_3 := n0_; have HB := n1_; have BK102 := n2_; have GW102 := n3_; have GE102 := n4_; clear n0_ n1_ n2_ n3_ n4_; clear hb hbox hg; obtain ⟨hcz7_0, hcz7_1, hcz7_2, hcz7_3, hfz7_0, hfz7_1, hfz7_2, hfz7_3⟩ := bx4_ BK102.out) | ((with_reducible refine gate_dst (N := 16) rfl ?_); refine Kd.R_lit Kd.string _ 9 ?hg (N := 16) ?hd (xs := ([] : List ByteArray)) (inner := []) (ok := fun _ => True) (okp := fun _ => True) ?hr ?hp (fun _ hk => hk) trivial (Below.refl _ _) (Nat.le_refl _) (by simp) ?_; (case hd => rfl); (case hg => rfl); (case hr => first | (go_simp; done) | (go_simp; rfl)); (case hp => exact (Reps.none _ _)); intro v104 w8 ho9 hb hg_ hnew_; clear hg_ hnew_; (first | rw [← Ny103.out] at ho9 | (simp only [Int.reduceToNat] at ho9; rw [← Ny103.out] at ho9)); have n0_ := Aside0.mk (Kd.S_elder' (by (with_reducible repeat (first | apply Kd.S_alloc | apply Kd.S_drewN | apply Kd.S_drew)); exact (Kd.S_mono (sF_ (sF_ (sF_ (sF_ (Kd.S_mono HO_3.out (fun k_ hk => (⟨hk, hk.2⟩ : _ ∧ k_ ≠ gb102))))))) (fun _ h_ => h_.1))) (Kd.R_base ho9) hb); have n1_ := Aside0.mk (Kd.R_lower ho9 (below_size hC_)); have n2_ := Aside0.mk (blk_below (g := gb102) (o := .cells #[.int .i64 ((rd_T64 l0 x4_1).f0), .int .i64 ((rd_T64 l0 x4_1).f1), .slice A101_2 ((rd_T64 l0 x4_1).f2).length c101_2, .string ((rd_T64 l0 x4_1).f3)] 64 (0, 0)) (bP_ (bP_ (bP_ (bP_ (hK_ BK102.out))))) hb); have n3_ := Aside0.mk (below_step hC_ hb); clear HO_3 BK102 HB; have HO_3 := n0_; have HO105 := n1_; have BK102 := n2_; have HB := n3_; clear n0_ n1_ n2_ n3_; clear hb ho9; obtain ⟨hcz10_0, hcz10_1, hcz10_2, hcz10_3, hfz10_0, hfz10_1, hfz10_2, hfz10_3⟩ := bx4_ BK102.out) | ((with_reducible refine gate_builtin (b := .append) (xs := #[.tmp 16, .tmp 18]) rfl ?_); at_builtin; refine Kd.R_append_rows Kd.string (w0 := w) w.heap.size rfl (.tmp 16) (.tmp 18) 62 9 (.string ⟨#[]⟩) 16 rfl Tryz.underlying62 info9 rfl (by decide) (by omega) v104 y103 ((rd_T64 l0 x4_1).f2) _ _ _ (fun _ => True) (fun _ => False) rfl rfl ?aO ?aR (fun _ _ h => h) (fun _ h => h.elim) ?aF ?aB ?aS ?aL ?_; (case aR => exact cB_ HR101_2.out); (case aB => exact hC_); (case aF => exact (fun _ _ => trivial)); (case aO => exact (hR_ HO105.out)); (case aS => exact (below_size hC_)); (case aL => have := LMc4.out; omega); intro v107 w11 ho hb hg hat; rw [← Ny106.out] at ho; have n0_ := Aside0.mk (Kd.S_after (ok := (fun k_ => k_ ≠ gb102)) (by (with_reducible repeat (first | apply Kd.S_alloc | apply Kd.S_drewN | apply Kd.S_drew)); exact Kd.S_mono HO_3.out (fun _ hk => ⟨hk.1.2, hk.2⟩)) hg hat); have n1_ := Aside0.mk (blk_grown (hK_ BK102.out) hg (Kd.R_ne HO105.out BK102.out (by decide))); have n2_ := Aside0.mk (hb); have n3_ := Aside0.mk (ho); clear HO_3 BK102 HB HO105; have HO_3 := n0_; have BK102 := n1_; have HB := n2_; have HO108 := n3_; clear n0_ n1_ n2_ n3_; clear ho hb hg hat; obtain ⟨Ao12, co12, eo12⟩ := Kd.R_slice HO108.out; subst eo12; obtain ⟨hcz13_0, hcz13_1, hcz13_2, hcz13_3, hfz13_0, hfz13_1, hfz13_2, hfz13_3⟩ := bx4_ BK102.out) | ((with_reducible refine gate_store (t := 62) (p := 20) rfl ?_); refine store_event (t := 62) (p := 20) (v := ?vo_w14) (w1 := (w11.setCell ⟨gb102, 2, none⟩ (.slice Ao12 y106.length co12))) ?hg ?ho ?hn ?hr ?_; (case ho => rfl); (case hg => rfl); (case hn => rfl); (case hr => first | (go_simp; done) | (go_simp; rfl)); intro w14 hw; have n0_ : Aside0 (Kd.S k64 64 w14 w.heap.size (fun k_ => some k_ ≠ (.slice Ao12 y106.length co12 : Value).ownBlock ∧ k_ ≠ gb102) u3 x3_1) := ⟨(by rw [hw]; exact (by (with_reducible repeat (first | apply Kd.S_alloc | apply Kd.S_drewN | apply Kd.S_drew)); exact Kd.S_mono (sF_ (Kd.S_mono HO_3.out (fun k_ hk => (⟨hk, hk.1⟩ : _ ∧ k_ ≠ gb102)))) (fun _ hk => ⟨hk.1.2, hk.1.1⟩)))⟩; have n1_ : Aside0 (Kd.R Kd.string 9 w14 w.heap.size (fun _ => True) (.slice Ao12 y106.length co12) y106) := ⟨(by rw [hw]; exact (by (with_reducible repeat (first | apply Kd.R_alloc | apply Kd.R_drewN | apply Kd.R_drew)); exact Kd.R_mono (rF_ (Kd.R_types HO108.out BK102.out (by decide))) (fun _ hk => trivial)))⟩; have n2_ : Aside0 (w14.heap[gb102]? = some (.cells #[.int .i64 ((rd_T64 l0 x4_1).f0), .int .i64 ((rd_T64 l0 x4_1).f1), .slice Ao12 y106.length co12, .string ((rd_T64 l0 x4_1).f3)] 64 (0, 0))) := ⟨(by rw [hw]; exact (bP_ (hK_ BK102.out)))⟩; have n3_ : Aside0 (Below w.heap.size w w14) := ⟨(by rw [hw]; exact hC_)⟩; clear hw HO_3 HO108 BK102 HB; have HO_3 := n0_; have HO108 := n1_; have BK102 := n2_; have HB := n3_; clear n0_ n1_ n2_ n3_; obtain ⟨hcz15_0, hcz15_1, hcz15_2, hcz15_3, hfz15_0, hfz15_1, hfz15_2, hfz15_3⟩ := bx4_ BK102.out) | ((with_reducible refine gate_builtin (b := .append) (xs := #[.tmp 21, .tmp 23]) rfl ?_); at_builtin; refine Kd.S_append k64 (w0 := w) w.heap.size rfl (.tmp 21) (.tmp 23) 22 64 (.agg #[(.int .i64 0), (.int .i64 0), (.slice none 0 0), (.string ⟨#[]⟩)]) 56 rfl Tryz.underlying22 info64 rfl (by decide) (by omega) u3 x3_1 (⟨(rd_T64 l0 x4_1).f0, (rd_T64 l0 x4_1).f1, y106, (rd_T64 l0 x4_1).f3⟩ : S64) [.int .i64 ((rd_T64 l0 x4_1).f0), .int .i64 ((rd_T64 l0 x4_1).f1), .slice Ao12 y106.length co12, .string ((rd_T64 l0 x4_1).f3)] (fun k_ => k_ ≠ gb102) (fun k_ => some k_ = (.slice Ao12 y106.length co12 : Value).ownBlock) rfl rfl ?aP (fun k_ hk_ => ((Kd.R_mono (ok' := fun k_ => ((fun k_ => k_ ≠ gb102)) k_ ∧ some k_ ≠ (u3 : Value).ownBlock) (Kd.R_types (Kd.R_apart' (HO108.out) (Kd.S_typed HO_3.out) (by decide)) BK102.out (by decide)) (fun k_ hk => ⟨hk.2, hk.1.2⟩))).1 k_ hk_.symm) ?aF ?aO ?aB ?aS ?aL ?_; (case aP => exact k64_mkM _ _ _ (⟨(rd_T64 l0 x4_1).f0, (rd_T64 l0 x4_1).f1, y106, (rd_T64 l0 x4_1).f3⟩ : S64) (Kd.R_mono (Kd.R_tight rfl (Kd.R_mono (ok' := fun k_ => ((fun k_ => k_ ≠ gb102)) k_ ∧ some k_ ≠ (u3 : Value).ownBlock) (Kd.R_types (Kd.R_apart' (HO108.out) (Kd.S_typed HO_3.out) (by decide)) BK102.out (by decide)) (fun k_ hk => ⟨hk.2, hk.1.2⟩))) (fun _ h_ => h_))); (case aB => exact hC_); (case aF => exact (fun k_ hk => Kd.freshB (g := gb102) (o := .cells #[.int .i64 ((rd_T64 l0 x4_1).f0), .int .i64 ((rd_T64 l0 x4_1).f1), .slice Ao12 y106.length co12, .string ((rd_T64 l0 x4_1).f3)] 64 (0, 0)) (hK_ BK102.out) k_ hk)); (case aO => exact (by (with_reducible repeat (first | apply Kd.S_alloc | apply Kd.S_drewN | apply Kd.S_drew)); exact Kd.S_mono HO_3.out (fun k_ hk => ⟨hk.2, fun e_ => hk.1 e_⟩))); (case aS => exact (below_size hC_)); (case aL => have := LMc5.out; omega); intro v110 w16 ho hb hg hat; rw [← Ny109.out] at ho; have n0_ := Aside0.mk (blk_grown (hK_ BK102.out) hg (Kd.S_away HO_3.out (fun _ hk => hk.2))); have n1_ := Aside0.mk (hb); have n2_ := Aside0.mk (ho); clear BK102 HB HO_3 HO108; have BK102 := n0_; have HB := n1_; have HO111 := n2_; clear n0_ n1_ n2_; clear ho hb hg hat))
      go_roundg k1
      case measure => have := HK1.out; omega
      case rel => exact ⟨(y109), (wrap64 (x4_1 + 1)), hW_, H', ⟨by have := HK1.out; omega⟩, ⟨by (with_reducible repeat (first | apply Kd.S_alloc | apply Kd.S_drewN | apply Kd.S_drew)); exact Kd.S_mono HO111.out (fun _ hk => trivial)⟩, ⟨hC_⟩⟩
/-! ### sleuthlaw0_CopySession: function 7 -/
def sleuthlaw0_CopySession.f (k : Nat) (l0_0 : List (S64)) (a0_1 : Int) (l0_2 : List (S46)) : Option ((List (S64)) × Int × (List (S46))) := (some (([] : List (S46)) : List (S46))).bind fun y114 => (if y114.length + l0_2.length < 8796093022208 then ((sleuthlaw0_CopyNodes.f k l0_0).bind fun t120 => (some (t120, a0_1, (y114 ++ l0_2)))) else (none))
theorem sleuthlaw0_CopySession.mono : ∀ a0 a1 a2 k, LeO (sleuthlaw0_CopySession.f k a0 a1 a2) (sleuthlaw0_CopySession.f (k + 1) a0 a1 a2) := by
  intro a0 a1 a2 k
  unfold sleuthlaw0_CopySession.f
  repeat' first
      | (with_reducible exact sleuthlaw0_CopyNodes.mono _ _)
      | (with_reducible exact LeO.refl _)
      | (with_reducible exact LeO.none _)
      | (with_reducible refine LeO.ite ?_ ?_)
      | (with_reducible refine LeO.bind ?_ (fun _ => ?_))
      | exact sleuthlaw0_CopyNodes.mono _ _
      | exact LeO.none _
      | refine LeO.ite ?_ ?_
      | refine LeO.bind ?_ (fun _ => ?_)
def sleuthlaw0_CopySession.T2 : Bool × List (List Nat × List Nat) := (true, [([], []), ([0], [0]), ([1], [1]), ([], []), ([3], [3]), ([], []), ([2, 4, 5], [2, 4, 5]), ([6, 2, 0, 1, 2, 3, 4, 5, 6], [6])])
def sleuthlaw0_CopySession.B2 : List Nat := [0, 1, 3, 0, 8, 0, 63, 127]
theorem sleuthlaw0_CopySession.tab2 : rtab .any (opsOf Tryz.f7 2) = sleuthlaw0_CopySession.T2 := by kernel_rfl
theorem sleuthlaw0_CopySession.bits2 : waitsOk sleuthlaw0_CopySession.T2.2 sleuthlaw0_CopySession.B2 = true := by kernel_rfl
set_option maxHeartbeats 8000000 in
set_option maxRecDepth 100000 in
theorem sleuthlaw0_CopySession.calls (k : Nat) (A0_0 : Option Addr) (c0_0 : Nat) (l0_0 : List (S64)) (a0_1 : Int) (A0_2 : Option Addr) (c0_2 : Nat) (l0_2 : List (S46)) (r1 : List (S64)) (r2 : Int) (r3 : List (S46)) (w : World) (hr0_0 : Kd.C k64 w A0_0 l0_0.length l0_0) (hc0_0 : l0_0.length ≤ c0_0) (hr0_2 : Kd.C k46 w A0_2 l0_2.length l0_2) (hc0_2 : l0_2.length ≤ c0_2) (h : sleuthlaw0_CopySession.f k l0_0 a0_1 l0_2 = some (r1, r2, r3)) :
    Calls Tryz.prog 7 #[.agg #[.slice A0_0 l0_0.length c0_0, .int .i64 a0_1, .slice A0_2 l0_2.length c0_2]] w fun e w' => ∃ v0_ v2_ : Value, e = .returned (.agg #[v0_, .int .i64 r2, v2_]) ∧ Kd.S k64 64 w' w.heap.size (fun _ => True) v0_ r1 ∧ Kd.R k46 46 w' w.heap.size (fun _ => True) v2_ r3 ∧ Below w.heap.size w w' := by
  have hu25 := Tryz.underlying25
  have HR0_0 := Aside0.mk hr0_0
  have HC0_0 := Aside0.mk hc0_0
  clear hr0_0 hc0_0
  have HR0_2 := Aside0.mk hr0_2
  have HC0_2 := Aside0.mk hc0_2
  clear hr0_2 hc0_2
  have HB := Aside0.mk (Below.refl w.heap.size w)
  have H : ((some (([] : List (S46)) : List (S46))).bind fun y114 => (if y114.length + l0_2.length < 8796093022208 then ((sleuthlaw0_CopyNodes.f k l0_0).bind fun t120 => (some (t120, a0_1, (y114 ++ l0_2)))) else (none))) = some (r1, r2, r3) := h
  clear h
  obtain ⟨y114, hy114⟩ : ∃ y_ : List (S46), y_ = (([] : List (S46))) := ⟨_, rfl⟩
  replace H : (if y114.length + l0_2.length < 8796093022208 then ((sleuthlaw0_CopyNodes.f k l0_0).bind fun t120 => (some (t120, a0_1, (y114 ++ l0_2)))) else (none)) = some (r1, r2, r3) := by first | (rw [hy114]; with_reducible exact H) | (have H2_ := (Option.bind_some _ _).symm.trans H; rw [hy114]; with_reducible exact H2_) | (have H2_ := (Option.bind_some _ _).symm.trans H; with_reducible exact H2_) | with_reducible exact H | (rw [hy114]; exact H) | exact H
  have Ny114 := Aside0.mk hy114
  clear hy114
  replace H := ifI_ H; obtain ⟨c2, H⟩ := H
  have LMc2 := Aside0.mk c2
  clear c2
  obtain ⟨y117, hy117⟩ : ∃ y_ : List (S46), y_ = (y114 ++ l0_2) := ⟨_, rfl⟩
  replace H : ((sleuthlaw0_CopyNodes.f k l0_0).bind fun t120 => (some (t120, a0_1, y117))) = some (r1, r2, r3) := by first | (rw [hy117]; with_reducible exact H) | (have H2_ := (Option.bind_some _ _).symm.trans H; rw [hy117]; with_reducible exact H2_) | (have H2_ := (Option.bind_some _ _).symm.trans H; with_reducible exact H2_) | with_reducible exact H | (rw [hy117]; exact H) | exact H
  have Ny117 := Aside0.mk hy117
  clear hy117
  replace H := Option.bind_eq_some_iff.mp H
  obtain ⟨t120, A30, H⟩ := H
  replace H : (some (t120, a0_1, y117)) = some (r1, r2, r3) := H
  have A3 := Aside0.mk A30
  clear A30
  simp only [Option.some.injEq, Prod.mk.injEq] at H
  obtain ⟨rfl, rfl, rfl⟩ := H
  go_enter Tryz.func7, Tryz.ntmps7
  try go_wp2_with (first | ((with_reducible refine gate_dst (N := 1) rfl ?_); refine boxE_ 1 #[.slice A0_0 l0_0.length c0_0, .int .i64 a0_1, .slice A0_2 l0_2.length c0_2] 25 ?_; intro gb112 hg w4 hbox hb; have n0_ := Aside0.mk (below_step hB_ hb); have n1_ := Aside0.mk (hbox); have n2_ := Aside0.mk ((gE_ hg : w.heap.size ≤ gb112)); have n3_ := Aside0.mk ((gE_ hg : w.heap.size ≤ gb112)); clear HB; have HB := n0_; have BK112 := n1_; have GW112 := n2_; have GE112 := n3_; clear n0_ n1_ n2_ n3_; clear hb hbox hg) | ((with_reducible refine gate_dst (N := 2) rfl ?_); refine boxE_ 2 #[.slice none 0 0, .int .i64 0, .slice none 0 0] 25 ?_; intro gb113 hg w5 hbox hb; have n0_ := Aside0.mk (bB_ BK112.out hb); have n1_ := Aside0.mk (below_step hC_ hb); have n2_ := Aside0.mk (hbox); have n3_ := Aside0.mk ((gE_ hg : w.heap.size ≤ gb113)); have n4_ := Aside0.mk ((gE_ hg : w.heap.size ≤ gb113)); have n5_ := Aside0.mk ((bL_ BK112.out hg : gb112 ≠ gb113)); have n6_ := Aside0.mk ((bG_ BK112.out hg : gb113 ≠ gb112)); clear BK112 HB; have BK112 := n0_; have HB := n1_; have BK113 := n2_; have GW113 := n3_; have GE113 := n4_; have NB112_113 := n5_; have NB113_112 := n6_; clear n0_ n1_ n2_ n3_ n4_ n5_ n6_; clear hb hbox hg) | ((with_reducible refine gate_dst (N := 4) rfl ?_); refine Kd.R_lit k46 _ 46 ?hg (N := 4) ?hd (xs := ([] : List (S46))) (inner := []) (ok := fun _ => True) (okp := fun _ => True) ?hr ?hp (fun _ hk => hk) trivial (Below.refl _ _) (Nat.le_refl _) (by simp) ?_; (case hd => rfl); (case hg => rfl); (case hr => first | (go_simp; done) | (go_simp; rfl)); (case hp => exact (Reps.none _ _)); intro v115 w6 ho7 hb hg_ hnew_; clear hg_ hnew_; (first | rw [← Ny114.out] at ho7 | (simp only [Int.reduceToNat] at ho7; rw [← Ny114.out] at ho7)); have n0_ := Aside0.mk (Kd.R_lower ho7 (below_size hC_)); have n1_ := Aside0.mk (bB_ BK112.out hb); have n2_ := Aside0.mk (bB_ BK113.out hb); have n3_ := Aside0.mk (below_step hC_ hb); clear BK112 BK113 HB; have HO116 := n0_; have BK112 := n1_; have BK113 := n2_; have HB := n3_; clear n0_ n1_ n2_ n3_; clear hb ho7; have hnb8 := NB112_113.out; have hnc8 := NB113_112.out; obtain ⟨hcz9_0, hcz9_1, hcz9_2, hfz9_0, hfz9_1, hfz9_2⟩ := bx3_ BK112.out) | ((with_reducible refine gate_builtin (b := .append) (xs := #[.tmp 4, .tmp 6]) rfl ?_); at_builtin; refine Kd.R_append_rows k46 (w0 := w) w.heap.size rfl (.tmp 4) (.tmp 6) 23 46 (.agg #[(.int .i64 0), (.int .i64 0)]) 16 rfl Tryz.underlying23 info46 rfl (by decide) (by omega) v115 y114 l0_2 _ _ _ (fun _ => True) (fun _ => False) rfl rfl ?aO ?aR (fun _ _ h => h) (fun _ h => h.elim) ?aF ?aB ?aS ?aL ?_; (case aR => exact cB_ HR0_2.out); (case aB => exact hC_); (case aF => exact (fun _ _ => trivial)); (case aO => exact (hR_ HO116.out)); (case aS => exact (below_size hC_)); (case aL => have := LMc2.out; omega); intro v118 w10 ho hb hg hat; rw [← Ny117.out] at ho; have n0_ := Aside0.mk (blk_grown (hK_ BK112.out) hg (Kd.R_ne HO116.out BK112.out (by decide))); have n1_ := Aside0.mk (blk_grown (hK_ BK113.out) hg (Kd.R_ne HO116.out BK113.out (by decide))); have n2_ := Aside0.mk (hb); have n3_ := Aside0.mk (ho); clear BK112 BK113 HB HO116; have BK112 := n0_; have BK113 := n1_; have HB := n2_; have HO119 := n3_; clear n0_ n1_ n2_ n3_; clear ho hb hg hat))
  have n0_ := Aside0.mk (Kd.R_drew HO119.out)
  have n1_ := Aside0.mk (blk_drew BK112.out)
  have n2_ := Aside0.mk (blk_drew BK113.out)
  have n3_ := Aside0.mk (below_drew1 HB.out)
  clear HO119
  clear BK112
  clear BK113
  clear HB
  have HO119 := n0_
  have BK112 := n1_
  have BK113 := n2_
  have HB := n3_
  clear n0_ n1_ n2_ n3_
  refine start_ (n := 8) (S := fun w' => w'.cell? ⟨gb112, 0, none⟩ = some (.slice A0_0 l0_0.length c0_0) ∧ w'.cell? ⟨gb112, 1, none⟩ = some (.int .i64 a0_1) ∧ w'.cell? ⟨gb112, 2, none⟩ = some (.slice A0_2 l0_2.length c0_2)) (ds := []) #[false, false, false, false, false, false, false, false] (by kernel_rfl) rfl rfl ⟨(blk_cell BK112.out 0).trans rfl, (blk_cell BK112.out 1).trans rfl, (blk_cell BK112.out 2).trans rfl⟩ (fun hHeld => ?_); refine with_tabW sleuthlaw0_CopySession.tab2 sleuthlaw0_CopySession.bits2 (fun HT_ HW_ => ?_)
  generalize w10.drew = w11 at HO119 BK112 BK113 HB hHeld ⊢
  refine pA_ 0 8 #[true, false, false, false, false, false, false, false] HT_.out ?_
  refine pA_ 3 11 #[true, false, false, true, false, false, false, false] HT_.out ?_
  refine pA_ 5 13 #[true, false, false, true, false, true, false, false] HT_.out ?_
  refine tA_ 1 9 #[true, true, false, true, false, true, false, false] HT_.out HW_.out hHeld ?_
  refine tA_ 4 12 #[true, true, false, true, true, true, false, false] HT_.out HW_.out hHeld ?_
  refine one_ (i := 2) (N := some 10) #[true, true, true, true, true, true, false, false] rfl rfl (one_of HT_.out (by kernel_rfl)) (by decide) (fun K hK => ?_)
  refine goes_ Tryz.func24 (by kernel_rfl) rfl #[.slice A0_0 l0_0.length c0_0] (by rfl) rfl rfl hL_ ?_
  with_reducible refine (sleuthlaw0_CopyNodes.calls k _ _ l0_0 t120 _ ?side1 ?side2 A3.out).mono ?_
  (case side1 => exact cB_ HR0_0.out)
  (case side2 => exact HC0_0.out)
  rintro e w12 ⟨v121, rfl, ho0, hb⟩
  refine ⟨_, rfl, ?_⟩
  have n0_ := Aside0.mk (Kd.R_below (hR_ HO119.out) hb)
  have n1_ := Aside0.mk (Kd.S_lower ho0 (below_size hC_))
  have n2_ := Aside0.mk (bB_ BK112.out hb)
  have n3_ := Aside0.mk (bB_ BK113.out hb)
  have n4_ := Aside0.mk (below_step hC_ hb)
  clear HO119
  clear BK112
  clear BK113
  clear HB
  have HO119 := n0_
  have HO122 := n1_
  have BK112 := n2_
  have BK113 := n3_
  have HB := n4_
  clear n0_ n1_ n2_ n3_ n4_
  (try clear hb)
  (try clear hb2)
  (try clear hk)
  (try clear hi)
  (try clear ho0)
  obtain ⟨Ao13, co13, eo13⟩ := Kd.R_slice HO119.out
  (first | subst eo13 | (injection eo13 with f1_ f2_ f3_; have f4_ := f1_.symm; have f5_ := f3_.symm; clear f1_ f2_ f3_; subst f4_; subst f5_))
  obtain ⟨Ao14, co14, eo14⟩ := Kd.S_slice HO122.out
  (first | subst eo14 | (injection eo14 with f1_ f2_ f3_; have f4_ := f1_.symm; have f5_ := f3_.symm; clear f1_ f2_ f3_; subst f4_; subst f5_))
  refine hK.out _ _ ⟨(blk_cell BK112.out 0).trans rfl, (blk_cell BK112.out 1).trans rfl, (blk_cell BK112.out 2).trans rfl⟩ (fun hHeld => ?_)
  clear hK K
  refine norm_ (a' := ?_) ?_ ?_
  rotate_left
  · show Act.put _ (some 10) _ = _
    simp only [Act.put, List.setIfInBounds_toArray, List.set_cons_zero, List.set_cons_succ, i64_w, i32_w]
    rfl
  refine pA_ 6 14 #[true, true, true, true, true, true, true, false] HT_.out ?_
  refine one_ (i := 7) (N := none) #[true, true, true, true, true, true, true, true] rfl rfl (one_of HT_.out (by kernel_rfl)) (by decide) (fun K hK => ?_)
  have hs15 := bc0_ BK113.out
  have hfs15 := blk_frozen BK113.out 0
  have hns15_0 := NB112_113.out
  have hms15_0 := NB113_112.out
  have hs16 := bc1_ BK113.out
  have hfs16 := blk_frozen BK113.out 1
  have hns16_0 := NB112_113.out
  have hms16_0 := NB113_112.out
  have hs17 := bc2_ BK113.out
  have hfs17 := blk_frozen BK113.out 2
  have hns17_0 := NB112_113.out
  have hms17_0 := NB113_112.out
  refine skip_ (w1 := ?_) (by rfl) rfl ?_ ?_
  rotate_left
  · go_simp
    rfl
  refine hK.out _ _ ⟨((cell_far (p := ⟨gb113, _, none⟩) NB112_113.out _).trans (((cell_far (p := ⟨gb113, _, none⟩) NB112_113.out _).trans (((cell_far (p := ⟨gb113, _, none⟩) NB112_113.out _).trans (hHeld.1)))))), ((cell_far (p := ⟨gb113, _, none⟩) NB112_113.out _).trans (((cell_far (p := ⟨gb113, _, none⟩) NB112_113.out _).trans (((cell_far (p := ⟨gb113, _, none⟩) NB112_113.out _).trans (hHeld.2.1)))))), ((cell_far (p := ⟨gb113, _, none⟩) NB112_113.out _).trans (((cell_far (p := ⟨gb113, _, none⟩) NB112_113.out _).trans (((cell_far (p := ⟨gb113, _, none⟩) NB112_113.out _).trans (hHeld.2.2))))))⟩ (fun hHeld => ?_)
  clear hK K
  refine done_ (done_of HT_.out (by kernel_rfl)) ?_
  try go_wp2
  refine bodyPost_ret (results_cell_row rfl _ _ gb113 25 #[.slice Ao14 t120.length co14, .int .i64 a0_1, .slice Ao13 y117.length co13] (0, 0) _ rfl (bP_ (bP_ (bP_ (hK_ BK113.out)))) Tryz.underlying25 rfl (by kernel_rfl)) rfl ?_
  exact ⟨_, _, hV_, by (with_reducible repeat (first | apply Kd.S_alloc | apply Kd.S_drewN | apply Kd.S_drew)); exact Kd.S_mono (sF_ (sF_ (sF_ (Kd.S_types HO122.out BK113.out (by decide))))) (fun _ hk => trivial), hR_ (Kd.R_mono (rF_ (rF_ (rF_ (Kd.R_types HO119.out BK113.out (by decide))))) (fun _ hk => trivial)), hC_⟩
end Go.Proofs.YtgokcaccamfgfaaGreatDoor.G
end
section
-- Laid by the session's own driver gp.py over the kit's printer. Not trusted: Lean checks it.
namespace Go.Proofs.YtgokcaccamfgfaaGreatDoor.G
open Go.RowKit Go.Proofs.YtgokcaccamfgfaaGreatDoorW.PrintWords Go.Proofs.YtgokcaccamfgfaaGreatDoorW.PrintLast Go.Proofs.YtgokcaccamfgfaaGreatDoorW.PrintMore
attribute [local go_sem] max2_int min2_int max_two min_two max_three min_three max_four min_four   -- for this text's walks alone
set_option linter.unusedVariables false
set_option linter.unusedSimpArgs false

/-! ### sleuthref12_Marks: function 9 -/
mutual
def sleuthref12_Marks.j0 : Nat → Bool → List (S64) → Int → List (S46) → Option (List Int × Int)
  | 0, _, _, _, _ => none
  | k + 1, x16, x284000, x284001, x284002 => if x16 = true then (some (([] : List Int), 2000)) else (if 0 ≤ (x284000.length : Int) then (if ((x284000.length : Int) : Int).toNat ≤ 35184372088832 then (sleuthref12_Marks.l0 k (List.replicate ((x284000.length : Int) : Int).toNat 0) 0 x284000 x284001 x284002) else (none)) else (none))
def sleuthref12_Marks.l0 : Nat → List Int → Int → List (S64) → Int → List (S46) → Option (List Int × Int)
  | 0, _, _, _, _, _ => none
  | k + 1, x4, x5, x284000, x284001, x284002 => if x5 < (x284002.length : Int) then (if 0 ≤ x5 then ((sleuthref12_upTo.f ((rd_T46 x284002 x5).f0) 0 (wrap64 ((x284000.length : Int) - 1))).bind fun t290 => (if t290 = true then ((sleuthref12_markMay.f ((rd_T46 x284002 x5).f1)).bind fun t291 => (if t291 = true then (if 0 ≤ ((rd_T46 x284002 x5).f0) then (if ((rd_T46 x284002 x5).f0) < (x4.length : Int) then (sleuthref12_Marks.l0 k (x4.set (((rd_T46 x284002 x5).f0) : Int).toNat ((rd_T46 x284002 x5).f1)) (wrap64 (x5 + 1)) x284000 x284001 x284002) else (none)) else (none)) else (some (([] : List Int), 2000)))) else (some (([] : List Int), 2000)))) else (none)) else (some (x4, 0))
end
def sleuthref12_Marks.f (k : Nat) (l0_0 : List (S64)) (a0_1 : Int) (l0_2 : List (S46)) : Option (List Int × Int) := (sleuthref12_TrailMay.f k l0_0).bind fun t284 => (if t284 = true then (sleuthref12_Marks.j0 k (decide ((l0_2.length : Int) > 512)) l0_0 a0_1 l0_2) else (sleuthref12_Marks.j0 k true l0_0 a0_1 l0_2))
theorem sleuthref12_Marks.mono_l : ∀ k, (∀ y0 y1 y2 y3, LeO (sleuthref12_Marks.j0 k y0 y1 y2 y3) (sleuthref12_Marks.j0 (k + 1) y0 y1 y2 y3)) ∧ (∀ y0 y1 y2 y3 y4, LeO (sleuthref12_Marks.l0 k y0 y1 y2 y3 y4) (sleuthref12_Marks.l0 (k + 1) y0 y1 y2 y3 y4))
  | 0 => ⟨fun _ _ _ _ r h => by simp [sleuthref12_Marks.j0] at h, fun _ _ _ _ _ r h => by simp [sleuthref12_Marks.l0] at h⟩
  | k + 1 => by
    obtain ⟨ih0, ih1⟩ := sleuthref12_Marks.mono_l k
    refine ⟨?_, ?_⟩
    · intro y0 y1 y2 y3
      unfold sleuthref12_Marks.j0
      repeat' first
      | (with_reducible exact ih0 _ _ _ _)
      | (with_reducible exact ih1 _ _ _ _ _)
      | (with_reducible exact sleuthref12_TrailMay.mono _ _)
      | (with_reducible exact LeO.refl _)
      | (with_reducible exact LeO.none _)
      | (with_reducible refine LeO.ite ?_ ?_)
      | (with_reducible refine LeO.bind ?_ (fun _ => ?_))
      | exact ih0 _ _ _ _
      | exact ih1 _ _ _ _ _
      | exact sleuthref12_TrailMay.mono _ _
      | exact LeO.none _
      | refine LeO.ite ?_ ?_
      | refine LeO.bind ?_ (fun _ => ?_)
    · intro y0 y1 y2 y3 y4
      unfold sleuthref12_Marks.l0
      repeat' first
      | (with_reducible exact ih0 _ _ _ _)
      | (with_reducible exact ih1 _ _ _ _ _)
      | (with_reducible exact sleuthref12_TrailMay.mono _ _)
      | (with_reducible exact LeO.refl _)
      | (with_reducible exact LeO.none _)
      | (with_reducible refine LeO.ite ?_ ?_)
      | (with_reducible refine LeO.bind ?_ (fun _ => ?_))
      | exact ih0 _ _ _ _
      | exact ih1 _ _ _ _ _
      | exact sleuthref12_TrailMay.mono _ _
      | exact LeO.none _
      | refine LeO.ite ?_ ?_
      | refine LeO.bind ?_ (fun _ => ?_)
theorem sleuthref12_Marks.mono : ∀ a0 a1 a2 k, LeO (sleuthref12_Marks.f k a0 a1 a2) (sleuthref12_Marks.f (k + 1) a0 a1 a2) := by
  intro a0 a1 a2 k
  obtain ⟨ih0, ih1⟩ := sleuthref12_Marks.mono_l k
  unfold sleuthref12_Marks.f
  repeat' first
      | (with_reducible exact ih0 _ _ _ _)
      | (with_reducible exact ih1 _ _ _ _ _)
      | (with_reducible exact sleuthref12_TrailMay.mono _ _)
      | (with_reducible exact LeO.refl _)
      | (with_reducible exact LeO.none _)
      | (with_reducible refine LeO.ite ?_ ?_)
      | (with_reducible refine LeO.bind ?_ (fun _ => ?_))
      | exact ih0 _ _ _ _
      | exact ih1 _ _ _ _ _
      | exact sleuthref12_TrailMay.mono _ _
      | exact LeO.none _
      | refine LeO.ite ?_ ?_
      | refine LeO.bind ?_ (fun _ => ?_)
set_option maxHeartbeats 8000000 in
set_option maxRecDepth 100000 in
theorem sleuthref12_Marks.calls (k : Nat) (A0_0 : Option Addr) (c0_0 : Nat) (l0_0 : List (S64)) (a0_1 : Int) (A0_2 : Option Addr) (c0_2 : Nat) (l0_2 : List (S46)) (r1 : List Int) (r2 : Int) (w : World) (hr0_0 : Kd.C k64 w A0_0 l0_0.length l0_0) (hc0_0 : l0_0.length ≤ c0_0) (hr0_2 : Kd.C k46 w A0_2 l0_2.length l0_2) (hc0_2 : l0_2.length ≤ c0_2) (h : sleuthref12_Marks.f k l0_0 a0_1 l0_2 = some (r1, r2)) :
    Calls Tryz.prog 9 #[.agg #[.slice A0_0 l0_0.length c0_0, .int .i64 a0_1, .slice A0_2 l0_2.length c0_2]] w fun e w' => ∃ v0_ : Value, e = .returned (.tuple #[v0_, .int .i64 r2]) ∧ Kd.R (Kd.int .i64) 3 w' w.heap.size (fun _ => True) v0_ r1 ∧ Below w.heap.size w w' := by
  have hu25 := Tryz.underlying25
  have hu46 := Tryz.underlying46
  have HR0_0 := Aside0.mk hr0_0
  have HC0_0 := Aside0.mk hc0_0
  clear hr0_0 hc0_0
  have HR0_2 := Aside0.mk hr0_2
  have HC0_2 := Aside0.mk hc0_2
  clear hr0_2 hc0_2
  have HB := Aside0.mk (Below.refl w.heap.size w)
  have H : ((sleuthref12_TrailMay.f k l0_0).bind fun t284 => (if t284 = true then (sleuthref12_Marks.j0 k (decide ((l0_2.length : Int) > 512)) l0_0 a0_1 l0_2) else (sleuthref12_Marks.j0 k true l0_0 a0_1 l0_2))) = some (r1, r2) := h
  clear h
  have HC2 := Aside0.mk H
  clear H
  go_enter Tryz.func9, Tryz.ntmps9
  go_upto_region 1 with (first | ((with_reducible refine gate_dst (N := 1) rfl ?_); (try (refine gate_guard (by rfl) ?_; dsimp only)); refine boxE_ 1 #[.slice A0_0 l0_0.length c0_0, .int .i64 a0_1, .slice A0_2 l0_2.length c0_2] 25 ?_; intro gb283 hg w3 hbox hb; have n0_ := Aside0.mk (below_step hB_ hb); have n1_ := Aside0.mk (hbox); have n2_ := Aside0.mk ((gE_ hg : w.heap.size ≤ gb283)); have n3_ := Aside0.mk ((gE_ hg : w.heap.size ≤ gb283)); clear HB; have HB := n0_; have BK283 := n1_; have GW283 := n2_; have GE283 := n3_; clear n0_ n1_ n2_ n3_; clear hb hbox hg))
  (try simp only [Act.put, List.setIfInBounds_toArray, List.set_cons_zero, List.set_cons_succ])
  go_cut [16] (fun v16 wc => ∃ (kq : Nat) (x16_1 : Bool), v16 = .bool x16_1 ∧ Aside0 (sleuthref12_Marks.j0 kq x16_1 l0_0 a0_1 l0_2 = some (r1, r2)) ∧ Aside0 (kq ≤ k) ∧ Aside0 (wc.heap[gb283]? = some (.cells #[(.slice A0_0 l0_0.length c0_0), .int .i64 a0_1, (.slice A0_2 l0_2.length c0_2)] 25 (0, 0))) ∧ Aside0 (Below w.heap.size w wc))
  case first =>
    have H := HC2.out
    clear HC2
    replace H := Option.bind_eq_some_iff.mp H
    obtain ⟨t284, A40, H⟩ := H
    replace H : (if t284 = true then (sleuthref12_Marks.j0 k (decide ((l0_2.length : Int) > 512)) l0_0 a0_1 l0_2) else (sleuthref12_Marks.j0 k true l0_0 a0_1 l0_2)) = some (r1, r2) := H
    have A4 := Aside0.mk A40
    clear A40
    by_cases c5 : t284 = true
    case neg =>
      replace c5 := Bool.eq_false_iff.mpr c5
      subst c5
      have H1 : (sleuthref12_Marks.j0 k true l0_0 a0_1 l0_2) = some (r1, r2) := by rw [if_neg (show ¬ (false = true) by decide)] at H; exact H
      clear H
      have H := H1
      clear H1
      have H' := Aside0.mk H
      clear H
      obtain ⟨hcz9_0, hcz9_1, hcz9_2, hfz9_0, hfz9_1, hfz9_2⟩ := bx3_ BK283.out
      go_wp2_with (first | ((with_reducible refine gate_callee (f := 27) rfl ?_); refine goesL_ (some 9) rfl rfl Tryz.func27 (by kernel_rfl) rfl #[.slice A0_0 l0_0.length c0_0] rfl hL_ ?_; (with_reducible refine (sleuthref12_TrailMay.calls k _ _ l0_0 false _ ?side1 ?side2 A4.out).mono ?_); (case side1 => exact cB_ HR0_0.out); (case side2 => exact HC0_0.out); rintro e w10 ⟨rfl, hb⟩; refine ⟨_, rfl, ?_⟩; have n0_ := Aside0.mk (bB_ BK283.out hb); have n1_ := Aside0.mk (below_step hC_ hb); clear BK283 HB; have BK283 := n0_; have HB := n1_; clear n0_ n1_; (try clear hb); (try clear hb2); (try clear hk); (try clear hi)))
      go_meet
      case rel => exact ⟨_, (true), hW_, H', ⟨by first | omega | exact Nat.le_refl _⟩, ⟨(hK_ BK283.out)⟩, ⟨hC_⟩⟩
    subst c5
    have H1 : (sleuthref12_Marks.j0 k (decide ((l0_2.length : Int) > 512)) l0_0 a0_1 l0_2) = some (r1, r2) := by rw [if_pos rfl] at H; exact H
    clear H
    have H := H1
    clear H1
    have H' := Aside0.mk H
    clear H
    obtain ⟨hcz6_0, hcz6_1, hcz6_2, hfz6_0, hfz6_1, hfz6_2⟩ := bx3_ BK283.out
    go_wp2_with (first | ((with_reducible refine gate_callee (f := 27) rfl ?_); refine goesL_ (some 9) rfl rfl Tryz.func27 (by kernel_rfl) rfl #[.slice A0_0 l0_0.length c0_0] rfl hL_ ?_; (with_reducible refine (sleuthref12_TrailMay.calls k _ _ l0_0 true _ ?side1 ?side2 A4.out).mono ?_); (case side1 => exact cB_ HR0_0.out); (case side2 => exact HC0_0.out); rintro e w7 ⟨rfl, hb⟩; refine ⟨_, rfl, ?_⟩; have n0_ := Aside0.mk (bB_ BK283.out hb); have n1_ := Aside0.mk (below_step hC_ hb); clear BK283 HB; have BK283 := n0_; have HB := n1_; clear n0_ n1_; (try clear hb); (try clear hb2); (try clear hk); (try clear hi); obtain ⟨hcz8_0, hcz8_1, hcz8_2, hfz8_0, hfz8_1, hfz8_2⟩ := bx3_ BK283.out))
    go_meet
    case rel => exact ⟨_, (decide ((l0_2.length : Int) > 512)), hW_, H', ⟨by first | omega | exact Nat.le_refl _⟩, ⟨(hK_ BK283.out)⟩, ⟨hC_⟩⟩
  case rest =>
    clear HC2
    try clear c2
    try clear p2
    try clear c5
    try clear c9
    try clear hcz6_0
    try clear hcz6_1
    try clear hcz6_2
    try clear hcz8_0
    try clear hcz8_1
    try clear hcz8_2
    try clear hcz9_0
    try clear hcz9_1
    try clear hcz9_2
    try clear hfz6_0
    try clear hfz6_1
    try clear hfz6_2
    try clear hfz8_0
    try clear hfz8_1
    try clear hfz8_2
    try clear hfz9_0
    try clear hfz9_1
    try clear hfz9_2
    obtain ⟨kq, x16_1, rfl, HA, HJ1, BK283, HB⟩ := hcut
    cases kq with
    | zero => exact absurd HA.out (by simp [sleuthref12_Marks.j0])
    | succ kj1 =>
      have H := HA.out
      clear HA
      simp only [sleuthref12_Marks.j0] at H
      by_cases c11 : x16_1 = true
      case pos =>
        subst c11
        have H1 : (some (([] : List Int), 2000)) = some (r1, r2) := by rw [if_pos rfl] at H; exact H
        clear H
        have H := H1
        clear H1
        simp only [Option.some.injEq, Prod.mk.injEq] at H
        obtain ⟨rfl, rfl⟩ := H
        go_wp2
        go_ret2
        exact ⟨_, hV_, by first | exact Kd.R_nil _ _ _ _ _ | exact Kd.N_nil _ _ _ _ _ | exact Kd.V_nil _ _ _ _ _ | exact Kd.Q_nil _ _ _ _ _ | exact Kd.S_nil _ _ _ _ _, hC_⟩
      replace c11 := Bool.eq_false_iff.mpr c11
      subst c11
      have H1 : (if 0 ≤ (l0_0.length : Int) then (if ((l0_0.length : Int) : Int).toNat ≤ 35184372088832 then (sleuthref12_Marks.l0 kj1 (List.replicate ((l0_0.length : Int) : Int).toNat 0) 0 l0_0 a0_1 l0_2) else (none)) else (none)) = some (r1, r2) := by rw [if_neg (show ¬ (false = true) by decide)] at H; exact H
      clear H
      have H := H1
      clear H1
      replace H := ifI_ H; obtain ⟨c12, H⟩ := H
      have c12b0 := eq_true c12
      have c12b1 : decide (0 ≤ (l0_0.length : Int)) = true := decide_eq_true c12
      clear c12
      replace H := ifI_ H; obtain ⟨c13, H⟩ := H
      have c13b0 := eq_true c13
      have c13b1 : decide (((l0_0.length : Int) : Int).toNat ≤ 35184372088832) = true := decide_eq_true c13
      clear c13
      obtain ⟨y285, hy285⟩ : ∃ y_ : List Int, y_ = (List.replicate ((l0_0.length : Int) : Int).toNat 0) := ⟨_, rfl⟩
      replace H : (sleuthref12_Marks.l0 kj1 y285 0 l0_0 a0_1 l0_2) = some (r1, r2) := by first | (rw [hy285]; with_reducible exact H) | (have H2_ := (Option.bind_some _ _).symm.trans H; rw [hy285]; with_reducible exact H2_) | (have H2_ := (Option.bind_some _ _).symm.trans H; with_reducible exact H2_) | with_reducible exact H | (rw [hy285]; exact H) | exact H
      have Ny285 := Aside0.mk hy285
      clear hy285
      have H' := Aside0.mk H
      clear H
      obtain ⟨hcz14_0, hcz14_1, hcz14_2, hfz14_0, hfz14_1, hfz14_2⟩ := bx3_ BK283.out
      go_wp2_with (first | ((with_reducible refine gate_dst (N := 20) rfl ?_); (try (refine gate_guard (by rfl) ?_; dsimp only)); refine Kd.R_make (Kd.int .i64) _ 3 rfl (N := 20) rfl 27 _ _ rfl (l0_0.length : Int) rfl rfl Tryz.underlying27 (.int .i64 0) 8 info3 rfl (by decide) (by omega) 0 (ok := fun _ => True) (okp := fun _ => True) rfl (fun _ hk => hk) trivial (of_decide_eq_true hA_) (Nat.le_trans (Nat.mul_le_mul_right _ (of_decide_eq_true hA_ : (l0_0.length : Int).toNat ≤ 35184372088832)) (by omega)) (Below.refl _ _) (Nat.le_refl _) ?_; intro v286 w15 ho16 hb hg_ hnew_; clear hg_ hnew_; (first | rw [← Ny285.out] at ho16 | (simp only [Int.reduceToNat] at ho16; rw [← Ny285.out] at ho16)); have n0_ := Aside0.mk (Kd.R_lower ho16 (below_size hC_)); have n1_ := Aside0.mk (bB_ BK283.out hb); have n2_ := Aside0.mk (below_step hC_ hb); clear BK283 HB; have HO287 := n0_; have BK283 := n1_; have HB := n2_; clear n0_ n1_ n2_; clear hb ho16))
      go_loopg [5] kj1 (fun kq v5 w' => ∃ (x4_2 : List Int) (x5_2 : Int), v5 = .int .i64 x5_2 ∧ Aside0 (sleuthref12_Marks.l0 kq x4_2 x5_2 l0_0 a0_1 l0_2 = some (r1, r2)) ∧ Aside0 (kq ≤ kj1) ∧ Aside0 (Kd.R (Kd.int .i64) 3 w' w.heap.size (fun _ => True) v286 x4_2) ∧ Aside0 (w'.heap[gb283]? = some (.cells #[(.slice A0_0 l0_0.length c0_0), .int .i64 a0_1, (.slice A0_2 l0_2.length c0_2)] 25 (0, 0))) ∧ Aside0 (Below w.heap.size w w'))
      case atStart => exact ⟨(y285), (0), hW_, H', ⟨Nat.le_refl _⟩, ⟨hR_ HO287.out⟩, ⟨(hK_ BK283.out)⟩, ⟨hC_⟩⟩
      case round =>
        clear H'
        try clear c1
        try clear c2
        try clear p2
        try clear c5
        try clear c9
        try clear c11
        try clear c12
        try clear c12b0
        try clear c12b1
        try clear c13
        try clear c13b0
        try clear c13b1
        try clear hcz14_0
        try clear hcz14_1
        try clear hcz14_2
        try clear hcz6_0
        try clear hcz6_1
        try clear hcz6_2
        try clear hcz8_0
        try clear hcz8_1
        try clear hcz8_2
        try clear hcz9_0
        try clear hcz9_1
        try clear hcz9_2
        try clear hfz14_0
        try clear hfz14_1
        try clear hfz14_2
        try clear hfz6_0
        try clear hfz6_1
        try clear hfz6_2
        try clear hfz8_0
        try clear hfz8_1
        try clear hfz8_2
        try clear hfz9_0
        try clear hfz9_1
        try clear hfz9_2
        try clear p2
        obtain ⟨x4_2, x5_2, rfl, HA, HK2, HO_4, BK283, HB⟩ := hrel
        cases gk with
        | zero => exact absurd HA.out (by simp [sleuthref12_Marks.l0])
        | succ k2 =>
          have H := HA.out
          clear HA
          simp only [sleuthref12_Marks.l0] at H
          by_cases c17 : x5_2 < (l0_2.length : Int)
          case neg =>
            rw [if_neg c17] at H
            have c17b0 : decide (x5_2 < (l0_2.length : Int)) = false := decide_eq_false c17
            clear c17
            simp only [Option.some.injEq, Prod.mk.injEq] at H
            obtain ⟨rfl, rfl⟩ := H
            obtain ⟨hcz45_0, hcz45_1, hcz45_2, hfz45_0, hfz45_1, hfz45_2⟩ := bx3_ BK283.out
            go_wp2
            go_ret2
            exact ⟨_, hV_, hR_ HO_4.out, hC_⟩
          rw [if_pos c17] at H
          have c17b0 : decide (x5_2 < (l0_2.length : Int)) = true := decide_eq_true c17
          clear c17
          replace H := ifI_ H; obtain ⟨c18, H⟩ := H
          have c18b0 : decide (0 ≤ x5_2) = true := decide_eq_true c18
          clear c18
          replace H := Option.bind_eq_some_iff.mp H
          obtain ⟨t290, A190, H⟩ := H
          replace H : (if t290 = true then ((sleuthref12_markMay.f ((rd_T46 l0_2 x5_2).f1)).bind fun t291 => (if t291 = true then (if 0 ≤ ((rd_T46 l0_2 x5_2).f0) then (if ((rd_T46 l0_2 x5_2).f0) < (x4_2.length : Int) then (sleuthref12_Marks.l0 k2 (x4_2.set (((rd_T46 l0_2 x5_2).f0) : Int).toNat ((rd_T46 l0_2 x5_2).f1)) (wrap64 (x5_2 + 1)) l0_0 a0_1 l0_2) else (none)) else (none)) else (some (([] : List Int), 2000)))) else (some (([] : List Int), 2000))) = some (r1, r2) := H
          have A19 := Aside0.mk A190
          clear A190
          by_cases c20 : t290 = true
          case neg =>
            replace c20 := Bool.eq_false_iff.mpr c20
            subst c20
            have H1 : (some (([] : List Int), 2000)) = some (r1, r2) := by rw [if_neg (show ¬ (false = true) by decide)] at H; exact H
            clear H
            have H := H1
            clear H1
            simp only [Option.some.injEq, Prod.mk.injEq] at H
            obtain ⟨rfl, rfl⟩ := H
            obtain ⟨hcz40_0, hcz40_1, hcz40_2, hfz40_0, hfz40_1, hfz40_2⟩ := bx3_ BK283.out
            have p288 : 0 ≤ (x5_2 : Int) := of_decide_eq_true hA_
            have q288 : x5_2 < (l0_2.length : Int) := of_decide_eq_true hA_
            obtain ⟨ad288, e288, hx288_0, hx288_1⟩ := at_T46 HR0_2.out x5_2 p288 q288
            cases e288
            replace hx288_0 := cl_ HB.out hx288_0
            replace hx288_1 := cl_ HB.out hx288_1
            replace p288 := eq_true p288
            replace q288 := eq_true q288
            go_wp2_with (first | ((with_reducible refine gate_dst (N := 6) rfl ?_); (try (refine gate_guard (by rfl) ?_; dsimp only)); refine boxE_ 6 #[.int .i64 0, .int .i64 0] 46 ?_; intro gb289 hg w41 hbox hb; have n0_ := Aside0.mk (Kd.R_below (hR_ HO_4.out) hb); have n1_ := Aside0.mk (bB_ BK283.out hb); have n2_ := Aside0.mk (below_step hC_ hb); have n3_ := Aside0.mk (hbox); have n4_ := Aside0.mk ((gE_ hg : w.heap.size ≤ gb289)); have n5_ := Aside0.mk ((gE_ hg : w.heap.size ≤ gb289)); have n6_ := Aside0.mk ((bL_ BK283.out hg : gb283 ≠ gb289)); have n7_ := Aside0.mk ((bG_ BK283.out hg : gb289 ≠ gb283)); clear HO_4 BK283 HB; have HO_4 := n0_; have BK283 := n1_; have HB := n2_; have BK289 := n3_; have GW289 := n4_; have GE289 := n5_; have NB283_289 := n6_; have NB289_283 := n7_; clear n0_ n1_ n2_ n3_ n4_ n5_ n6_ n7_; clear hb hbox hg; have hnb42 := NB289_283.out; have hnc42 := NB283_289.out; obtain ⟨hcz43_0, hcz43_1, hfz43_0, hfz43_1⟩ := bx2_ BK289.out; obtain ⟨hcz44_0, hcz44_1, hcz44_2, hfz44_0, hfz44_1, hfz44_2⟩ := bx3_ BK283.out) | ((with_reducible refine gate_callee (f := 28) rfl ?_); refine goesL_ (some 39) rfl rfl Tryz.func28 (by kernel_rfl) rfl #[.int .i64 ((rd_T46 l0_2 x5_2).f0), .int .i64 0, .int .i64 (wrap64 ((l0_0.length : Int) - 1))] rfl hL_ ?_; (with_reducible refine (sleuthref12_upTo.calls ((rd_T46 l0_2 x5_2).f0) 0 (wrap64 ((l0_0.length : Int) - 1)) false _ A19.out).mono ?_); rintro e w' ⟨rfl, ⟨nd, rfl⟩⟩; refine ⟨_, rfl, ?_⟩))
            go_ret2
            exact ⟨_, hV_, by first | exact Kd.R_nil _ _ _ _ _ | exact Kd.N_nil _ _ _ _ _ | exact Kd.V_nil _ _ _ _ _ | exact Kd.Q_nil _ _ _ _ _ | exact Kd.S_nil _ _ _ _ _, hC_⟩
          subst c20
          have H1 : ((sleuthref12_markMay.f ((rd_T46 l0_2 x5_2).f1)).bind fun t291 => (if t291 = true then (if 0 ≤ ((rd_T46 l0_2 x5_2).f0) then (if ((rd_T46 l0_2 x5_2).f0) < (x4_2.length : Int) then (sleuthref12_Marks.l0 k2 (x4_2.set (((rd_T46 l0_2 x5_2).f0) : Int).toNat ((rd_T46 l0_2 x5_2).f1)) (wrap64 (x5_2 + 1)) l0_0 a0_1 l0_2) else (none)) else (none)) else (some (([] : List Int), 2000)))) = some (r1, r2) := by rw [if_pos rfl] at H; exact H
          clear H
          have H := H1
          clear H1
          replace H := Option.bind_eq_some_iff.mp H
          obtain ⟨t291, A210, H⟩ := H
          replace H : (if t291 = true then (if 0 ≤ ((rd_T46 l0_2 x5_2).f0) then (if ((rd_T46 l0_2 x5_2).f0) < (x4_2.length : Int) then (sleuthref12_Marks.l0 k2 (x4_2.set (((rd_T46 l0_2 x5_2).f0) : Int).toNat ((rd_T46 l0_2 x5_2).f1)) (wrap64 (x5_2 + 1)) l0_0 a0_1 l0_2) else (none)) else (none)) else (some (([] : List Int), 2000))) = some (r1, r2) := H
          have A21 := Aside0.mk A210
          clear A210
          by_cases c22 : t291 = true
          case neg =>
            replace c22 := Bool.eq_false_iff.mpr c22
            subst c22
            have H1 : (some (([] : List Int), 2000)) = some (r1, r2) := by rw [if_neg (show ¬ (false = true) by decide)] at H; exact H
            clear H
            have H := H1
            clear H1
            simp only [Option.some.injEq, Prod.mk.injEq] at H
            obtain ⟨rfl, rfl⟩ := H
            obtain ⟨hcz35_0, hcz35_1, hcz35_2, hfz35_0, hfz35_1, hfz35_2⟩ := bx3_ BK283.out
            have p288 : 0 ≤ (x5_2 : Int) := of_decide_eq_true hA_
            have q288 : x5_2 < (l0_2.length : Int) := of_decide_eq_true hA_
            obtain ⟨ad288, e288, hx288_0, hx288_1⟩ := at_T46 HR0_2.out x5_2 p288 q288
            cases e288
            replace hx288_0 := cl_ HB.out hx288_0
            replace hx288_1 := cl_ HB.out hx288_1
            replace p288 := eq_true p288
            replace q288 := eq_true q288
            go_wp2_with (first | ((with_reducible refine gate_dst (N := 6) rfl ?_); (try (refine gate_guard (by rfl) ?_; dsimp only)); refine boxE_ 6 #[.int .i64 0, .int .i64 0] 46 ?_; intro gb289 hg w36 hbox hb; have n0_ := Aside0.mk (Kd.R_below (hR_ HO_4.out) hb); have n1_ := Aside0.mk (bB_ BK283.out hb); have n2_ := Aside0.mk (below_step hC_ hb); have n3_ := Aside0.mk (hbox); have n4_ := Aside0.mk ((gE_ hg : w.heap.size ≤ gb289)); have n5_ := Aside0.mk ((gE_ hg : w.heap.size ≤ gb289)); have n6_ := Aside0.mk ((bL_ BK283.out hg : gb283 ≠ gb289)); have n7_ := Aside0.mk ((bG_ BK283.out hg : gb289 ≠ gb283)); clear HO_4 BK283 HB; have HO_4 := n0_; have BK283 := n1_; have HB := n2_; have BK289 := n3_; have GW289 := n4_; have GE289 := n5_; have NB283_289 := n6_; have NB289_283 := n7_; clear n0_ n1_ n2_ n3_ n4_ n5_ n6_ n7_; clear hb hbox hg; have hnb37 := NB289_283.out; have hnc37 := NB283_289.out; obtain ⟨hcz38_0, hcz38_1, hfz38_0, hfz38_1⟩ := bx2_ BK289.out; obtain ⟨hcz39_0, hcz39_1, hcz39_2, hfz39_0, hfz39_1, hfz39_2⟩ := bx3_ BK283.out) | ((with_reducible refine gate_callee (f := 28) rfl ?_); refine goesL_ (some 39) rfl rfl Tryz.func28 (by kernel_rfl) rfl #[.int .i64 ((rd_T46 l0_2 x5_2).f0), .int .i64 0, .int .i64 (wrap64 ((l0_0.length : Int) - 1))] rfl hL_ ?_; (with_reducible refine (sleuthref12_upTo.calls ((rd_T46 l0_2 x5_2).f0) 0 (wrap64 ((l0_0.length : Int) - 1)) true _ A19.out).mono ?_); rintro e w' ⟨rfl, ⟨nd, rfl⟩⟩; refine ⟨_, rfl, ?_⟩) | (go_at_call 29; (with_reducible refine (sleuthref12_markMay.calls ((rd_T46 l0_2 x5_2).f1) false _ A21.out).mono ?_); rintro e w' ⟨rfl, ⟨nd, rfl⟩⟩))
            go_ret2
            exact ⟨_, hV_, by first | exact Kd.R_nil _ _ _ _ _ | exact Kd.N_nil _ _ _ _ _ | exact Kd.V_nil _ _ _ _ _ | exact Kd.Q_nil _ _ _ _ _ | exact Kd.S_nil _ _ _ _ _, hC_⟩
          subst c22
          have H1 : (if 0 ≤ ((rd_T46 l0_2 x5_2).f0) then (if ((rd_T46 l0_2 x5_2).f0) < (x4_2.length : Int) then (sleuthref12_Marks.l0 k2 (x4_2.set (((rd_T46 l0_2 x5_2).f0) : Int).toNat ((rd_T46 l0_2 x5_2).f1)) (wrap64 (x5_2 + 1)) l0_0 a0_1 l0_2) else (none)) else (none)) = some (r1, r2) := by rw [if_pos rfl] at H; exact H
          clear H
          have H := H1
          clear H1
          replace H := ifI_ H; obtain ⟨c23, H⟩ := H
          have c23b0 : decide (0 ≤ ((rd_T46 l0_2 x5_2).f0)) = true := decide_eq_true c23
          clear c23
          replace H := ifI_ H; obtain ⟨c24, H⟩ := H
          have c24b0 : decide (((rd_T46 l0_2 x5_2).f0) < (x4_2.length : Int)) = true := decide_eq_true c24
          clear c24
          obtain ⟨y292, hy292⟩ : ∃ y_ : List Int, y_ = (x4_2.set (((rd_T46 l0_2 x5_2).f0) : Int).toNat ((rd_T46 l0_2 x5_2).f1)) := ⟨_, rfl⟩
          replace H : (sleuthref12_Marks.l0 k2 y292 (wrap64 (x5_2 + 1)) l0_0 a0_1 l0_2) = some (r1, r2) := by first | (rw [hy292]; with_reducible exact H) | (have H2_ := (Option.bind_some _ _).symm.trans H; rw [hy292]; with_reducible exact H2_) | (have H2_ := (Option.bind_some _ _).symm.trans H; with_reducible exact H2_) | with_reducible exact H | (rw [hy292]; exact H) | exact H
          have Ny292 := Aside0.mk hy292
          clear hy292
          have H' := Aside0.mk H
          clear H
          obtain ⟨hcz26_0, hcz26_1, hcz26_2, hfz26_0, hfz26_1, hfz26_2⟩ := bx3_ BK283.out
          have p288 : 0 ≤ (x5_2 : Int) := of_decide_eq_true hA_
          have q288 : x5_2 < (l0_2.length : Int) := of_decide_eq_true hA_
          obtain ⟨ad288, e288, hx288_0, hx288_1⟩ := at_T46 HR0_2.out x5_2 p288 q288
          cases e288
          replace hx288_0 := cl_ HB.out hx288_0
          replace hx288_1 := cl_ HB.out hx288_1
          replace p288 := eq_true p288
          replace q288 := eq_true q288
          go_wp2_with (first | ((with_reducible refine gate_dst (N := 6) rfl ?_); (try (refine gate_guard (by rfl) ?_; dsimp only)); refine boxE_ 6 #[.int .i64 0, .int .i64 0] 46 ?_; intro gb289 hg w27 hbox hb; have n0_ := Aside0.mk (Kd.R_below (hR_ HO_4.out) hb); have n1_ := Aside0.mk (bB_ BK283.out hb); have n2_ := Aside0.mk (below_step hC_ hb); have n3_ := Aside0.mk (hbox); have n4_ := Aside0.mk ((gE_ hg : w.heap.size ≤ gb289)); have n5_ := Aside0.mk ((gE_ hg : w.heap.size ≤ gb289)); have n6_ := Aside0.mk ((bL_ BK283.out hg : gb283 ≠ gb289)); have n7_ := Aside0.mk ((bG_ BK283.out hg : gb289 ≠ gb283)); clear HO_4 BK283 HB; have HO_4 := n0_; have BK283 := n1_; have HB := n2_; have BK289 := n3_; have GW289 := n4_; have GE289 := n5_; have NB283_289 := n6_; have NB289_283 := n7_; clear n0_ n1_ n2_ n3_ n4_ n5_ n6_ n7_; clear hb hbox hg; have hnb28 := NB289_283.out; have hnc28 := NB283_289.out; obtain ⟨hcz29_0, hcz29_1, hfz29_0, hfz29_1⟩ := bx2_ BK289.out) | ((with_reducible refine gate_store (t := 46) (p := 6) rfl ?_); refine store_event (t := 46) (p := 6) (v := ?vo_w30) (w1 := ((w27.setCell ⟨gb289, 0, none⟩ (.int .i64 ((rd_T46 l0_2 x5_2).f0))).setCell ⟨gb289, 1, none⟩ (.int .i64 ((rd_T46 l0_2 x5_2).f1)))) ?hg ?ho ?hn ?hr ?_; (case ho => rfl); (case hg => rfl); (case hn => rfl); (case hr => first | (go_simp; done) | (go_simp; rfl)); intro w30 hw; have n0_ : Aside0 (Kd.R (Kd.int .i64) 3 w30 w.heap.size (fun _ => True) v286 x4_2) := ⟨(by rw [hw]; exact (by (with_reducible repeat (first | apply Kd.R_alloc | apply Kd.R_drewN | apply Kd.R_drew)); exact Kd.R_mono (rF_ (rF_ (Kd.R_types HO_4.out BK289.out (by decide)))) (fun _ hk => trivial)))⟩; have n1_ : Aside0 (w30.heap[gb283]? = some (.cells #[.slice A0_0 l0_0.length c0_0, .int .i64 a0_1, .slice (some ad288) l0_2.length c0_2] 25 (0, 0))) := ⟨(by rw [hw]; exact (bF_ (bF_ (hK_ BK283.out) NB283_289.out) NB283_289.out))⟩; have n2_ : Aside0 (w30.heap[gb289]? = some (.cells #[.int .i64 ((rd_T46 l0_2 x5_2).f0), .int .i64 ((rd_T46 l0_2 x5_2).f1)] 46 (0, 0))) := ⟨(by rw [hw]; exact (bP_ (bP_ (hK_ BK289.out))))⟩; have n3_ : Aside0 (Below w.heap.size w w30) := ⟨(by rw [hw]; exact hC_)⟩; clear hw HO_4 BK283 BK289 HB; have HO_4 := n0_; have BK283 := n1_; have BK289 := n2_; have HB := n3_; clear n0_ n1_ n2_ n3_; obtain ⟨hcz31_0, hcz31_1, hfz31_0, hfz31_1⟩ := bx2_ BK289.out; obtain ⟨hcz32_0, hcz32_1, hcz32_2, hfz32_0, hfz32_1, hfz32_2⟩ := bx3_ BK283.out) | ((with_reducible refine gate_callee (f := 28) rfl ?_); refine goesL_ (some 39) rfl rfl Tryz.func28 (by kernel_rfl) rfl #[.int .i64 ((rd_T46 l0_2 x5_2).f0), .int .i64 0, .int .i64 (wrap64 ((l0_0.length : Int) - 1))] rfl hL_ ?_; (with_reducible refine (sleuthref12_upTo.calls ((rd_T46 l0_2 x5_2).f0) 0 (wrap64 ((l0_0.length : Int) - 1)) true _ A19.out).mono ?_); rintro e w' ⟨rfl, ⟨nd, rfl⟩⟩; refine ⟨_, rfl, ?_⟩; (try (rw [drewN_self w30]; generalize hq_ : World.drewN w30 _ = w30; have n0_ : Aside0 (Kd.R (Kd.int .i64) 3 w30 w.heap.size (fun _ => True) v286 x4_2) := ⟨by rw [← hq_]; exact (hR_ HO_4.out)⟩; have n1_ : Aside0 (w30.heap[gb283]? = some (.cells #[.slice A0_0 l0_0.length c0_0, .int .i64 a0_1, .slice (some ad288) l0_2.length c0_2] 25 (0, 0))) := ⟨by rw [← hq_]; exact (hK_ BK283.out)⟩; have n2_ : Aside0 (w30.heap[gb289]? = some (.cells #[.int .i64 ((rd_T46 l0_2 x5_2).f0), .int .i64 ((rd_T46 l0_2 x5_2).f1)] 46 (0, 0))) := ⟨by rw [← hq_]; exact (hK_ BK289.out)⟩; have n3_ : Aside0 (Below w.heap.size w w30) := ⟨by rw [← hq_]; exact hC_⟩; clear HO_4 BK283 BK289 HB hq_; have HO_4 := n0_; have BK283 := n1_; have BK289 := n2_; have HB := n3_; clear n0_ n1_ n2_ n3_; (try have hcu0_0 := bc0_ BK283.out); (try have hfu0_0 := blk_frozen BK283.out 0); (try have hcu0_1 := bc1_ BK283.out); (try have hfu0_1 := blk_frozen BK283.out 1); (try have hcu0_2 := bc2_ BK283.out); (try have hfu0_2 := blk_frozen BK283.out 2); (try have hcu1_0 := bc0_ BK289.out); (try have hfu1_0 := blk_frozen BK289.out 0); (try have hcu1_1 := bc1_ BK289.out); (try have hfu1_1 := blk_frozen BK289.out 1)))) | (go_at_call 29; (with_reducible refine (sleuthref12_markMay.calls ((rd_T46 l0_2 x5_2).f1) true _ A21.out).mono ?_); rintro e w' ⟨rfl, ⟨nd, rfl⟩⟩; (try (rw [drewN_self w30]; generalize hq_ : World.drewN w30 _ = w30; have n0_ : Aside0 (Kd.R (Kd.int .i64) 3 w30 w.heap.size (fun _ => True) v286 x4_2) := ⟨by rw [← hq_]; exact (hR_ HO_4.out)⟩; have n1_ : Aside0 (w30.heap[gb283]? = some (.cells #[.slice A0_0 l0_0.length c0_0, .int .i64 a0_1, .slice (some ad288) l0_2.length c0_2] 25 (0, 0))) := ⟨by rw [← hq_]; exact (hK_ BK283.out)⟩; have n2_ : Aside0 (w30.heap[gb289]? = some (.cells #[.int .i64 ((rd_T46 l0_2 x5_2).f0), .int .i64 ((rd_T46 l0_2 x5_2).f1)] 46 (0, 0))) := ⟨by rw [← hq_]; exact (hK_ BK289.out)⟩; have n3_ : Aside0 (Below w.heap.size w w30) := ⟨by rw [← hq_]; exact hC_⟩; clear HO_4 BK283 BK289 HB hq_; have HO_4 := n0_; have BK283 := n1_; have BK289 := n2_; have HB := n3_; clear n0_ n1_ n2_ n3_; (try have hcu0_0 := bc0_ BK283.out); (try have hfu0_0 := blk_frozen BK283.out 0); (try have hcu0_1 := bc1_ BK283.out); (try have hfu0_1 := blk_frozen BK283.out 1); (try have hcu0_2 := bc2_ BK283.out); (try have hfu0_2 := blk_frozen BK283.out 2); (try have hcu1_0 := bc0_ BK289.out); (try have hfu1_0 := blk_frozen BK289.out 0); (try have hcu1_1 := bc1_ BK289.out); (try have hfu1_1 := blk_frozen BK289.out 1))); have p25 : 0 ≤ (((rd_T46 l0_2 x5_2).f0) : Int) := of_decide_eq_true hA_; have q25 : (((rd_T46 l0_2 x5_2).f0) : Int) < ((x4_2.length : Int) : Int) := of_decide_eq_true hA_; obtain ⟨go25, co25, eo25, gb25, gl25, cl25, HG25⟩ := Kd.R_form HO_4.out (by omega); (first | cases eo25 | (injection eo25 with ea_ en_ ec_; (first | subst ea_ | (injection ea_ with ea_; subst ea_)); subst ec_; clear en_)); have GB25 := Aside0.mk gb25; have GG25 := Aside0.mk HG25; clear gb25 gl25 HG25; obtain ⟨hx25_0, hf25_0⟩ := Kd.R_celln 0 HO_4.out (((rd_T46 l0_2 x5_2).f0) : Int) p25 q25; replace p25 := eq_true p25; replace q25 := eq_true q25; obtain ⟨hy33_, hz33_⟩ := Kd.R_celln 0 HO_4.out (((rd_T46 l0_2 x5_2).f0) : Int) (of_decide_eq_true hA_) (of_decide_eq_true hA_); have HP33 := Kd.R_putg HO_4.out (((rd_T46 l0_2 x5_2).f0) : Int) ((rd_T46 l0_2 x5_2).f1)) | ((with_reducible refine gate_store (t := 3) (p := 52) rfl ?_); refine store_event (t := 3) (p := 52) (v := ?vo_w34) (w1 := (w30.setCell ⟨go25, (((rd_T46 l0_2 x5_2).f0) : Int).toNat, none⟩ (.int .i64 ((rd_T46 l0_2 x5_2).f1)))) ?hg ?ho ?hn ?hr ?_; (case ho => rfl); (case hg => rfl); (case hn => rfl); (case hr => first | (go_simp; done) | (go_simp; rfl)); intro w34 hw; have hg : w30.grownBy w34 (some go25) := (by rw [hw]; exact HP33.2); have hp_ : Kd.R (Kd.int .i64) 3 w34 w.heap.size (fun _ => True) (.slice (some ⟨go25, 0, none⟩) x4_2.length co25) y292 := (by rw [hw, Ny292.out]; exact HP33.1); clear HP33; have n0_ := Aside0.mk (hp_); have n1_ := Aside0.mk (blk_grown (hK_ BK283.out) hg (Kd.R_ne HO_4.out BK283.out (by decide))); have n2_ := Aside0.mk (blk_grown (hK_ BK289.out) hg (Kd.R_ne HO_4.out BK289.out (by decide))); have n3_ := Aside0.mk ((by rw [hw]; exact below_set (HB.out) GB25.out : Below w.heap.size w w34)); clear HO_4 BK283 BK289 HB; have HO_4 := n0_; have BK283 := n1_; have BK289 := n2_; have HB := n3_; clear n0_ n1_ n2_ n3_; clear hg hw hp_))
          go_roundg k2
          case measure => have := HJ1.out; have := HK2.out; omega
          case rel => exact ⟨(y292), (wrap64 (x5_2 + 1)), hW_, H', ⟨by have := HJ1.out; have := HK2.out; omega⟩, ⟨hR_ HO_4.out⟩, ⟨(hK_ BK283.out)⟩, ⟨hC_⟩⟩
end Go.Proofs.YtgokcaccamfgfaaGreatDoor.G
end
section
-- Laid by the session's own driver gp.py over the kit's printer. Not trusted: Lean checks it.
namespace Go.Proofs.YtgokcaccamfgfaaGreatDoor.G
open Go.RowKit Go.Proofs.YtgokcaccamfgfaaGreatDoorW.PrintWords Go.Proofs.YtgokcaccamfgfaaGreatDoorW.PrintLast Go.Proofs.YtgokcaccamfgfaaGreatDoorW.PrintMore
attribute [local go_sem] max2_int min2_int max_two min_two max_three min_three max_four min_four   -- for this text's walks alone
set_option linter.unusedVariables false
set_option linter.unusedSimpArgs false

/-! ### next_Mark: function 26 -/
def next_Mark.f (a0 : Int) : Option (Bool) := if a0 ≥ 1 then (some (decide (a0 ≤ 3))) else (some false)
set_option maxHeartbeats 8000000 in
set_option maxRecDepth 100000 in
theorem next_Mark.calls (a0 : Int) (r : Bool) (w : World) (h : next_Mark.f a0 = some r) :
    Calls Tryz.prog 26 #[.int .i64 a0] w fun e w' => e = .returned (.bool r) ∧ Drawn0 w w' := by
  have H : (if a0 ≥ 1 then (some (decide (a0 ≤ 3))) else (some false)) = some r := h
  clear h
  by_cases c2 : a0 ≥ 1
  case pos =>
    rw [if_pos c2] at H
    have c2b0 : decide (1 ≤ a0) = true := decide_eq_true c2
    clear c2
    obtain rfl := Option.some.inj H
    go_enter Tryz.func26, Tryz.ntmps26
    go_wp2
    go_ret
    exact ⟨by first | rfl | (simp; done) | (simp [*]; done), by repeat (first | exact Drawn0.refl _ | apply Drawn0.step)⟩
  rw [if_neg c2] at H
  have c2b0 : decide (1 ≤ a0) = false := decide_eq_false c2
  clear c2
  obtain rfl := Option.some.inj H
  go_enter Tryz.func26, Tryz.ntmps26
  go_wp2
  go_ret
  exact ⟨by first | rfl | (simp; done) | (simp [*]; done), by repeat (first | exact Drawn0.refl _ | apply Drawn0.step)⟩

end Go.Proofs.YtgokcaccamfgfaaGreatDoor.G
end
section
-- Laid by the session's own driver gp.py over the kit's printer. Not trusted: Lean checks it.
namespace Go.Proofs.YtgokcaccamfgfaaGreatDoor.G
open Go.RowKit Go.Proofs.YtgokcaccamfgfaaGreatDoorW.PrintWords Go.Proofs.YtgokcaccamfgfaaGreatDoorW.PrintLast Go.Proofs.YtgokcaccamfgfaaGreatDoorW.PrintMore
attribute [local go_sem] max2_int min2_int max_two min_two max_three min_three max_four min_four   -- for this text's walks alone
set_option linter.unusedVariables false
set_option linter.unusedSimpArgs false

/-! ### next_Marks: function 8 -/
mutual
def next_Marks.j0 : Nat → Bool → List (S64) → Int → List (S46) → Option (List Int × Int)
  | 0, _, _, _, _ => none
  | k + 1, x16, x160000, x160001, x160002 => if x16 = true then (some (([] : List Int), 2000)) else (if 0 ≤ (x160000.length : Int) then (if ((x160000.length : Int) : Int).toNat ≤ 35184372088832 then (next_Marks.l0 k (List.replicate ((x160000.length : Int) : Int).toNat 0) x160002 (x160002.length : Int) 0) else (none)) else (none))
def next_Marks.l0 : Nat → List Int → List (S46) → Int → Int → Option (List Int × Int)
  | 0, _, _, _, _ => none
  | k + 1, x4, x22, x23, x24 => if x24 < x23 then (if 0 ≤ x24 then (if x24 < (x22.length : Int) then (if ((rd_T46 x22 x24).f0) < 0 then (some (([] : List Int), 2000)) else (if ((rd_T46 x22 x24).f0) ≥ (x4.length : Int) then (some (([] : List Int), 2000)) else ((next_Mark.f ((rd_T46 x22 x24).f1)).bind fun t166 => (if t166 = true then (if 0 ≤ ((rd_T46 x22 x24).f0) then (if ((rd_T46 x22 x24).f0) < (x4.length : Int) then (next_Marks.l0 k (x4.set (((rd_T46 x22 x24).f0) : Int).toNat ((rd_T46 x22 x24).f1)) x22 x23 (wrap64 (x24 + 1))) else (none)) else (none)) else (some (([] : List Int), 2000)))))) else (none)) else (none)) else (some (x4, 0))
end
def next_Marks.f (k : Nat) (l0_0 : List (S64)) (a0_1 : Int) (l0_2 : List (S46)) : Option (List Int × Int) := (trail_May.f k l0_0).bind fun t160 => (if t160 = true then (next_Marks.j0 k (decide ((l0_2.length : Int) > 512)) l0_0 a0_1 l0_2) else (next_Marks.j0 k true l0_0 a0_1 l0_2))
theorem next_Marks.mono_l : ∀ k, (∀ y0 y1 y2 y3, LeO (next_Marks.j0 k y0 y1 y2 y3) (next_Marks.j0 (k + 1) y0 y1 y2 y3)) ∧ (∀ y0 y1 y2 y3, LeO (next_Marks.l0 k y0 y1 y2 y3) (next_Marks.l0 (k + 1) y0 y1 y2 y3))
  | 0 => ⟨fun _ _ _ _ r h => by simp [next_Marks.j0] at h, fun _ _ _ _ r h => by simp [next_Marks.l0] at h⟩
  | k + 1 => by
    obtain ⟨ih0, ih1⟩ := next_Marks.mono_l k
    refine ⟨?_, ?_⟩
    · intro y0 y1 y2 y3
      unfold next_Marks.j0
      repeat' first
      | (with_reducible exact ih0 _ _ _ _)
      | (with_reducible exact ih1 _ _ _ _)
      | (with_reducible exact trail_May.mono _ _)
      | (with_reducible exact LeO.refl _)
      | (with_reducible exact LeO.none _)
      | (with_reducible refine LeO.ite ?_ ?_)
      | (with_reducible refine LeO.bind ?_ (fun _ => ?_))
      | exact ih0 _ _ _ _
      | exact ih1 _ _ _ _
      | exact trail_May.mono _ _
      | exact LeO.none _
      | refine LeO.ite ?_ ?_
      | refine LeO.bind ?_ (fun _ => ?_)
    · intro y0 y1 y2 y3
      unfold next_Marks.l0
      repeat' first
      | (with_reducible exact ih0 _ _ _ _)
      | (with_reducible exact ih1 _ _ _ _)
      | (with_reducible exact trail_May.mono _ _)
      | (with_reducible exact LeO.refl _)
      | (with_reducible exact LeO.none _)
      | (with_reducible refine LeO.ite ?_ ?_)
      | (with_reducible refine LeO.bind ?_ (fun _ => ?_))
      | exact ih0 _ _ _ _
      | exact ih1 _ _ _ _
      | exact trail_May.mono _ _
      | exact LeO.none _
      | refine LeO.ite ?_ ?_
      | refine LeO.bind ?_ (fun _ => ?_)
theorem next_Marks.mono : ∀ a0 a1 a2 k, LeO (next_Marks.f k a0 a1 a2) (next_Marks.f (k + 1) a0 a1 a2) := by
  intro a0 a1 a2 k
  obtain ⟨ih0, ih1⟩ := next_Marks.mono_l k
  unfold next_Marks.f
  repeat' first
      | (with_reducible exact ih0 _ _ _ _)
      | (with_reducible exact ih1 _ _ _ _)
      | (with_reducible exact trail_May.mono _ _)
      | (with_reducible exact LeO.refl _)
      | (with_reducible exact LeO.none _)
      | (with_reducible refine LeO.ite ?_ ?_)
      | (with_reducible refine LeO.bind ?_ (fun _ => ?_))
      | exact ih0 _ _ _ _
      | exact ih1 _ _ _ _
      | exact trail_May.mono _ _
      | exact LeO.none _
      | refine LeO.ite ?_ ?_
      | refine LeO.bind ?_ (fun _ => ?_)
set_option maxHeartbeats 8000000 in
set_option maxRecDepth 100000 in
theorem next_Marks.calls (k : Nat) (A0_0 : Option Addr) (c0_0 : Nat) (l0_0 : List (S64)) (a0_1 : Int) (A0_2 : Option Addr) (c0_2 : Nat) (l0_2 : List (S46)) (r1 : List Int) (r2 : Int) (w : World) (hr0_0 : Kd.C k64 w A0_0 l0_0.length l0_0) (hc0_0 : l0_0.length ≤ c0_0) (hr0_2 : Kd.C k46 w A0_2 l0_2.length l0_2) (hc0_2 : l0_2.length ≤ c0_2) (h : next_Marks.f k l0_0 a0_1 l0_2 = some (r1, r2)) (hG : GOK w) :
    Calls Tryz.prog 8 #[.agg #[.slice A0_0 l0_0.length c0_0, .int .i64 a0_1, .slice A0_2 l0_2.length c0_2]] w fun e w' => ∃ v0_ : Value, e = .returned (.tuple #[v0_, .int .i64 r2]) ∧ Kd.R (Kd.int .i64) 3 w' w.heap.size (fun _ => True) v0_ r1 ∧ Below w.heap.size w w' := by
  have hu25 := Tryz.underlying25
  have hu46 := Tryz.underlying46
  have HR0_0 := Aside0.mk hr0_0
  have HC0_0 := Aside0.mk hc0_0
  clear hr0_0 hc0_0
  have HR0_2 := Aside0.mk hr0_2
  have HC0_2 := Aside0.mk hc0_2
  clear hr0_2 hc0_2
  have HB := Aside0.mk (Below.refl w.heap.size w)
  have H : ((trail_May.f k l0_0).bind fun t160 => (if t160 = true then (next_Marks.j0 k (decide ((l0_2.length : Int) > 512)) l0_0 a0_1 l0_2) else (next_Marks.j0 k true l0_0 a0_1 l0_2))) = some (r1, r2) := h
  clear h
  have HC2 := Aside0.mk H
  clear H
  go_enter Tryz.func8, Tryz.ntmps8
  go_upto_region 1 with (first | ((with_reducible refine gate_dst (N := 1) rfl ?_); (try (refine gate_guard (by rfl) ?_; dsimp only)); refine boxE_ 1 #[.slice A0_0 l0_0.length c0_0, .int .i64 a0_1, .slice A0_2 l0_2.length c0_2] 25 ?_; intro gb159 hg w3 hbox hb; have n0_ := Aside0.mk (below_step hB_ hb); have n1_ := Aside0.mk (hbox); have n2_ := Aside0.mk ((gE_ hg : w.heap.size ≤ gb159)); have n3_ := Aside0.mk ((gE_ hg : w.heap.size ≤ gb159)); clear HB; have HB := n0_; have BK159 := n1_; have GW159 := n2_; have GE159 := n3_; clear n0_ n1_ n2_ n3_; clear hb hbox hg))
  (try simp only [Act.put, List.setIfInBounds_toArray, List.set_cons_zero, List.set_cons_succ])
  go_cut [16] (fun v16 wc => ∃ (kq : Nat) (x16_1 : Bool), v16 = .bool x16_1 ∧ Aside0 (next_Marks.j0 kq x16_1 l0_0 a0_1 l0_2 = some (r1, r2)) ∧ Aside0 (kq ≤ k) ∧ Aside0 (wc.heap[gb159]? = some (.cells #[(.slice A0_0 l0_0.length c0_0), .int .i64 a0_1, (.slice A0_2 l0_2.length c0_2)] 25 (0, 0))) ∧ Aside0 (Below w.heap.size w wc))
  case first =>
    have H := HC2.out
    clear HC2
    replace H := Option.bind_eq_some_iff.mp H
    obtain ⟨t160, A40, H⟩ := H
    replace H : (if t160 = true then (next_Marks.j0 k (decide ((l0_2.length : Int) > 512)) l0_0 a0_1 l0_2) else (next_Marks.j0 k true l0_0 a0_1 l0_2)) = some (r1, r2) := H
    have A4 := Aside0.mk A40
    clear A40
    by_cases c5 : t160 = true
    case neg =>
      replace c5 := Bool.eq_false_iff.mpr c5
      subst c5
      have H1 : (next_Marks.j0 k true l0_0 a0_1 l0_2) = some (r1, r2) := by rw [if_neg (show ¬ (false = true) by decide)] at H; exact H
      clear H
      have H := H1
      clear H1
      have H' := Aside0.mk H
      clear H
      obtain ⟨hcz9_0, hcz9_1, hcz9_2, hfz9_0, hfz9_1, hfz9_2⟩ := bx3_ BK159.out
      go_wp2_with (first | ((with_reducible refine gate_callee (f := 25) rfl ?_); refine goesL_ (some 9) rfl rfl Tryz.func25 (by kernel_rfl) rfl #[.slice A0_0 l0_0.length c0_0] rfl hL_ ?_; (with_reducible refine (trail_May.calls k _ _ l0_0 false _ ?side1 ?side2 A4.out (by first | exact hG | exact GOK.below hG hC_)).mono ?_); (case side1 => exact cB_ HR0_0.out); (case side2 => exact HC0_0.out); rintro e w10 ⟨rfl, hb⟩; refine ⟨_, rfl, ?_⟩; have n0_ := Aside0.mk (bB_ BK159.out hb); have n1_ := Aside0.mk (below_step hC_ hb); clear BK159 HB; have BK159 := n0_; have HB := n1_; clear n0_ n1_; (try clear hb); (try clear hb2); (try clear hk); (try clear hi)))
      go_meet
      case rel => exact ⟨_, (true), hW_, H', ⟨by first | omega | exact Nat.le_refl _⟩, ⟨(hK_ BK159.out)⟩, ⟨hC_⟩⟩
    subst c5
    have H1 : (next_Marks.j0 k (decide ((l0_2.length : Int) > 512)) l0_0 a0_1 l0_2) = some (r1, r2) := by rw [if_pos rfl] at H; exact H
    clear H
    have H := H1
    clear H1
    have H' := Aside0.mk H
    clear H
    obtain ⟨hcz6_0, hcz6_1, hcz6_2, hfz6_0, hfz6_1, hfz6_2⟩ := bx3_ BK159.out
    go_wp2_with (first | ((with_reducible refine gate_callee (f := 25) rfl ?_); refine goesL_ (some 9) rfl rfl Tryz.func25 (by kernel_rfl) rfl #[.slice A0_0 l0_0.length c0_0] rfl hL_ ?_; (with_reducible refine (trail_May.calls k _ _ l0_0 true _ ?side1 ?side2 A4.out (by first | exact hG | exact GOK.below hG hC_)).mono ?_); (case side1 => exact cB_ HR0_0.out); (case side2 => exact HC0_0.out); rintro e w7 ⟨rfl, hb⟩; refine ⟨_, rfl, ?_⟩; have n0_ := Aside0.mk (bB_ BK159.out hb); have n1_ := Aside0.mk (below_step hC_ hb); clear BK159 HB; have BK159 := n0_; have HB := n1_; clear n0_ n1_; (try clear hb); (try clear hb2); (try clear hk); (try clear hi); obtain ⟨hcz8_0, hcz8_1, hcz8_2, hfz8_0, hfz8_1, hfz8_2⟩ := bx3_ BK159.out))
    go_meet
    case rel => exact ⟨_, (decide ((l0_2.length : Int) > 512)), hW_, H', ⟨by first | omega | exact Nat.le_refl _⟩, ⟨(hK_ BK159.out)⟩, ⟨hC_⟩⟩
  case rest =>
    clear HC2
    try clear c2
    try clear p2
    try clear c5
    try clear c8
    try clear hcz6_0
    try clear hcz6_1
    try clear hcz6_2
    try clear hcz8_0
    try clear hcz8_1
    try clear hcz8_2
    try clear hcz9_0
    try clear hcz9_1
    try clear hcz9_2
    try clear hfz6_0
    try clear hfz6_1
    try clear hfz6_2
    try clear hfz8_0
    try clear hfz8_1
    try clear hfz8_2
    try clear hfz9_0
    try clear hfz9_1
    try clear hfz9_2
    obtain ⟨kq, x16_1, rfl, HA, HJ1, BK159, HB⟩ := hcut
    cases kq with
    | zero => exact absurd HA.out (by simp [next_Marks.j0])
    | succ kj1 =>
      have H := HA.out
      clear HA
      simp only [next_Marks.j0] at H
      by_cases c11 : x16_1 = true
      case pos =>
        subst c11
        have H1 : (some (([] : List Int), 2000)) = some (r1, r2) := by rw [if_pos rfl] at H; exact H
        clear H
        have H := H1
        clear H1
        simp only [Option.some.injEq, Prod.mk.injEq] at H
        obtain ⟨rfl, rfl⟩ := H
        go_wp2
        go_ret2
        exact ⟨_, hV_, by first | exact Kd.R_nil _ _ _ _ _ | exact Kd.N_nil _ _ _ _ _ | exact Kd.V_nil _ _ _ _ _ | exact Kd.Q_nil _ _ _ _ _ | exact Kd.S_nil _ _ _ _ _, hC_⟩
      replace c11 := Bool.eq_false_iff.mpr c11
      subst c11
      have H1 : (if 0 ≤ (l0_0.length : Int) then (if ((l0_0.length : Int) : Int).toNat ≤ 35184372088832 then (next_Marks.l0 kj1 (List.replicate ((l0_0.length : Int) : Int).toNat 0) l0_2 (l0_2.length : Int) 0) else (none)) else (none)) = some (r1, r2) := by rw [if_neg (show ¬ (false = true) by decide)] at H; exact H
      clear H
      have H := H1
      clear H1
      replace H := ifI_ H; obtain ⟨c12, H⟩ := H
      have c12b0 := eq_true c12
      have c12b1 : decide (0 ≤ (l0_0.length : Int)) = true := decide_eq_true c12
      clear c12
      replace H := ifI_ H; obtain ⟨c13, H⟩ := H
      have c13b0 := eq_true c13
      have c13b1 : decide (((l0_0.length : Int) : Int).toNat ≤ 35184372088832) = true := decide_eq_true c13
      clear c13
      obtain ⟨y161, hy161⟩ : ∃ y_ : List Int, y_ = (List.replicate ((l0_0.length : Int) : Int).toNat 0) := ⟨_, rfl⟩
      replace H : (next_Marks.l0 kj1 y161 l0_2 (l0_2.length : Int) 0) = some (r1, r2) := by first | (rw [hy161]; with_reducible exact H) | (have H2_ := (Option.bind_some _ _).symm.trans H; rw [hy161]; with_reducible exact H2_) | (have H2_ := (Option.bind_some _ _).symm.trans H; with_reducible exact H2_) | with_reducible exact H | (rw [hy161]; exact H) | exact H
      have Ny161 := Aside0.mk hy161
      clear hy161
      have H' := Aside0.mk H
      clear H
      obtain ⟨hcz14_0, hcz14_1, hcz14_2, hfz14_0, hfz14_1, hfz14_2⟩ := bx3_ BK159.out
      go_wp2_with (first | ((with_reducible refine gate_dst (N := 20) rfl ?_); (try (refine gate_guard (by rfl) ?_; dsimp only)); refine Kd.R_make (Kd.int .i64) _ 3 rfl (N := 20) rfl 27 _ _ rfl (l0_0.length : Int) rfl rfl Tryz.underlying27 (.int .i64 0) 8 info3 rfl (by decide) (by omega) 0 (ok := fun _ => True) (okp := fun _ => True) rfl (fun _ hk => hk) trivial (of_decide_eq_true hA_) (Nat.le_trans (Nat.mul_le_mul_right _ (of_decide_eq_true hA_ : (l0_0.length : Int).toNat ≤ 35184372088832)) (by omega)) (Below.refl _ _) (Nat.le_refl _) ?_; intro v162 w15 ho16 hb hg_ hnew_; clear hg_ hnew_; (first | rw [← Ny161.out] at ho16 | (simp only [Int.reduceToNat] at ho16; rw [← Ny161.out] at ho16)); have n0_ := Aside0.mk (Kd.R_lower ho16 (below_size hC_)); have n1_ := Aside0.mk (bB_ BK159.out hb); have n2_ := Aside0.mk (below_step hC_ hb); clear BK159 HB; have HO163 := n0_; have BK159 := n1_; have HB := n2_; clear n0_ n1_ n2_; clear hb ho16; obtain ⟨hcz17_0, hcz17_1, hcz17_2, hfz17_0, hfz17_1, hfz17_2⟩ := bx3_ BK159.out))
      go_loopg [24] kj1 (fun kq v24 w' => ∃ (x4_2 : List Int) (x24_2 : Int), v24 = .int .i64 x24_2 ∧ Aside0 (next_Marks.l0 kq x4_2 l0_2 (l0_2.length : Int) x24_2 = some (r1, r2)) ∧ Aside0 (kq ≤ kj1) ∧ Aside0 (Kd.R (Kd.int .i64) 3 w' w.heap.size (fun _ => True) v162 x4_2) ∧ Aside0 (w'.heap[gb159]? = some (.cells #[(.slice A0_0 l0_0.length c0_0), .int .i64 a0_1, (.slice A0_2 l0_2.length c0_2)] 25 (0, 0))) ∧ Aside0 (Below w.heap.size w w'))
      case atStart => exact ⟨(y161), (0), hW_, H', ⟨Nat.le_refl _⟩, ⟨hR_ HO163.out⟩, ⟨(hK_ BK159.out)⟩, ⟨hC_⟩⟩
      case round =>
        clear H'
        try clear c1
        try clear c2
        try clear p2
        try clear c5
        try clear c8
        try clear c11
        try clear c12
        try clear c12b0
        try clear c12b1
        try clear c13
        try clear c13b0
        try clear c13b1
        try clear hcz14_0
        try clear hcz14_1
        try clear hcz14_2
        try clear hcz17_0
        try clear hcz17_1
        try clear hcz17_2
        try clear hcz6_0
        try clear hcz6_1
        try clear hcz6_2
        try clear hcz8_0
        try clear hcz8_1
        try clear hcz8_2
        try clear hcz9_0
        try clear hcz9_1
        try clear hcz9_2
        try clear hfz14_0
        try clear hfz14_1
        try clear hfz14_2
        try clear hfz17_0
        try clear hfz17_1
        try clear hfz17_2
        try clear hfz6_0
        try clear hfz6_1
        try clear hfz6_2
        try clear hfz8_0
        try clear hfz8_1
        try clear hfz8_2
        try clear hfz9_0
        try clear hfz9_1
        try clear hfz9_2
        try clear p2
        obtain ⟨x4_2, x24_2, rfl, HA, HK2, HO_4, BK159, HB⟩ := hrel
        cases gk with
        | zero => exact absurd HA.out (by simp [next_Marks.l0])
        | succ k2 =>
          have H := HA.out
          clear HA
          simp only [next_Marks.l0] at H
          by_cases c18 : x24_2 < (l0_2.length : Int)
          case neg =>
            rw [if_neg c18] at H
            have c18b0 : decide (x24_2 < (l0_2.length : Int)) = false := decide_eq_false c18
            clear c18
            simp only [Option.some.injEq, Prod.mk.injEq] at H
            obtain ⟨rfl, rfl⟩ := H
            go_wp2
            go_ret2
            exact ⟨_, hV_, hR_ HO_4.out, hC_⟩
          rw [if_pos c18] at H
          have c18b0 : decide (x24_2 < (l0_2.length : Int)) = true := decide_eq_true c18
          clear c18
          replace H := ifI_ H; obtain ⟨c19, H⟩ := H
          have c19b0 : decide (0 ≤ x24_2) = true := decide_eq_true c19
          clear c19
          replace H := ifI_ H; obtain ⟨c20, H⟩ := H
          have c20b0 : decide (x24_2 < (l0_2.length : Int)) = true := decide_eq_true c20
          clear c20
          by_cases c21 : ((rd_T46 l0_2 x24_2).f0) < 0
          case pos =>
            rw [if_pos c21] at H
            have c21b0 : decide (((rd_T46 l0_2 x24_2).f0) < 0) = true := decide_eq_true c21
            clear c21
            simp only [Option.some.injEq, Prod.mk.injEq] at H
            obtain ⟨rfl, rfl⟩ := H
            have p164 : 0 ≤ (x24_2 : Int) := of_decide_eq_true hA_
            have q164 : x24_2 < (l0_2.length : Int) := of_decide_eq_true hA_
            obtain ⟨ad164, e164, hx164_0, hx164_1⟩ := at_T46 HR0_2.out x24_2 p164 q164
            cases e164
            replace hx164_0 := cl_ HB.out hx164_0
            replace hx164_1 := cl_ HB.out hx164_1
            replace p164 := eq_true p164
            replace q164 := eq_true q164
            go_wp2_with (first | ((with_reducible refine gate_dst (N := 6) rfl ?_); (try (refine gate_guard (by rfl) ?_; dsimp only)); refine boxE_ 6 #[.int .i64 0, .int .i64 0] 46 ?_; intro gb165 hg w22 hbox hb; have n0_ := Aside0.mk (Kd.R_below (hR_ HO_4.out) hb); have n1_ := Aside0.mk (bB_ BK159.out hb); have n2_ := Aside0.mk (below_step hC_ hb); have n3_ := Aside0.mk (hbox); have n4_ := Aside0.mk ((gE_ hg : w.heap.size ≤ gb165)); have n5_ := Aside0.mk ((gE_ hg : w.heap.size ≤ gb165)); have n6_ := Aside0.mk ((bL_ BK159.out hg : gb159 ≠ gb165)); have n7_ := Aside0.mk ((bG_ BK159.out hg : gb165 ≠ gb159)); clear HO_4 BK159 HB; have HO_4 := n0_; have BK159 := n1_; have HB := n2_; have BK165 := n3_; have GW165 := n4_; have GE165 := n5_; have NB159_165 := n6_; have NB165_159 := n7_; clear n0_ n1_ n2_ n3_ n4_ n5_ n6_ n7_; clear hb hbox hg; have hnb23 := NB165_159.out; have hnc23 := NB159_165.out; obtain ⟨hcz24_0, hcz24_1, hfz24_0, hfz24_1⟩ := bx2_ BK165.out))
            go_ret2
            exact ⟨_, hV_, by first | exact Kd.R_nil _ _ _ _ _ | exact Kd.N_nil _ _ _ _ _ | exact Kd.V_nil _ _ _ _ _ | exact Kd.Q_nil _ _ _ _ _ | exact Kd.S_nil _ _ _ _ _, hC_⟩
          rw [if_neg c21] at H
          have c21b0 : decide (((rd_T46 l0_2 x24_2).f0) < 0) = false := decide_eq_false c21
          clear c21
          by_cases c25 : ((rd_T46 l0_2 x24_2).f0) ≥ (x4_2.length : Int)
          case pos =>
            rw [if_pos c25] at H
            have c25b0 : decide ((x4_2.length : Int) ≤ ((rd_T46 l0_2 x24_2).f0)) = true := decide_eq_true c25
            clear c25
            simp only [Option.some.injEq, Prod.mk.injEq] at H
            obtain ⟨rfl, rfl⟩ := H
            have p164 : 0 ≤ (x24_2 : Int) := of_decide_eq_true hA_
            have q164 : x24_2 < (l0_2.length : Int) := of_decide_eq_true hA_
            obtain ⟨ad164, e164, hx164_0, hx164_1⟩ := at_T46 HR0_2.out x24_2 p164 q164
            cases e164
            replace hx164_0 := cl_ HB.out hx164_0
            replace hx164_1 := cl_ HB.out hx164_1
            replace p164 := eq_true p164
            replace q164 := eq_true q164
            go_wp2_with (first | ((with_reducible refine gate_dst (N := 6) rfl ?_); (try (refine gate_guard (by rfl) ?_; dsimp only)); refine boxE_ 6 #[.int .i64 0, .int .i64 0] 46 ?_; intro gb165 hg w26 hbox hb; have n0_ := Aside0.mk (Kd.R_below (hR_ HO_4.out) hb); have n1_ := Aside0.mk (bB_ BK159.out hb); have n2_ := Aside0.mk (below_step hC_ hb); have n3_ := Aside0.mk (hbox); have n4_ := Aside0.mk ((gE_ hg : w.heap.size ≤ gb165)); have n5_ := Aside0.mk ((gE_ hg : w.heap.size ≤ gb165)); have n6_ := Aside0.mk ((bL_ BK159.out hg : gb159 ≠ gb165)); have n7_ := Aside0.mk ((bG_ BK159.out hg : gb165 ≠ gb159)); clear HO_4 BK159 HB; have HO_4 := n0_; have BK159 := n1_; have HB := n2_; have BK165 := n3_; have GW165 := n4_; have GE165 := n5_; have NB159_165 := n6_; have NB165_159 := n7_; clear n0_ n1_ n2_ n3_ n4_ n5_ n6_ n7_; clear hb hbox hg; have hnb27 := NB165_159.out; have hnc27 := NB159_165.out; obtain ⟨hcz28_0, hcz28_1, hfz28_0, hfz28_1⟩ := bx2_ BK165.out; obtain ⟨Ao29, co29, eo29⟩ := Kd.R_slice HO_4.out; subst eo29))
            go_ret2
            exact ⟨_, hV_, by first | exact Kd.R_nil _ _ _ _ _ | exact Kd.N_nil _ _ _ _ _ | exact Kd.V_nil _ _ _ _ _ | exact Kd.Q_nil _ _ _ _ _ | exact Kd.S_nil _ _ _ _ _, hC_⟩
          rw [if_neg c25] at H
          have c25b0 : decide ((x4_2.length : Int) ≤ ((rd_T46 l0_2 x24_2).f0)) = false := decide_eq_false c25
          clear c25
          replace H := Option.bind_eq_some_iff.mp H
          obtain ⟨t166, A300, H⟩ := H
          replace H : (if t166 = true then (if 0 ≤ ((rd_T46 l0_2 x24_2).f0) then (if ((rd_T46 l0_2 x24_2).f0) < (x4_2.length : Int) then (next_Marks.l0 k2 (x4_2.set (((rd_T46 l0_2 x24_2).f0) : Int).toNat ((rd_T46 l0_2 x24_2).f1)) l0_2 (l0_2.length : Int) (wrap64 (x24_2 + 1))) else (none)) else (none)) else (some (([] : List Int), 2000))) = some (r1, r2) := H
          have A30 := Aside0.mk A300
          clear A300
          by_cases c31 : t166 = true
          case neg =>
            replace c31 := Bool.eq_false_iff.mpr c31
            subst c31
            have H1 : (some (([] : List Int), 2000)) = some (r1, r2) := by rw [if_neg (show ¬ (false = true) by decide)] at H; exact H
            clear H
            have H := H1
            clear H1
            simp only [Option.some.injEq, Prod.mk.injEq] at H
            obtain ⟨rfl, rfl⟩ := H
            have p164 : 0 ≤ (x24_2 : Int) := of_decide_eq_true hA_
            have q164 : x24_2 < (l0_2.length : Int) := of_decide_eq_true hA_
            obtain ⟨ad164, e164, hx164_0, hx164_1⟩ := at_T46 HR0_2.out x24_2 p164 q164
            cases e164
            replace hx164_0 := cl_ HB.out hx164_0
            replace hx164_1 := cl_ HB.out hx164_1
            replace p164 := eq_true p164
            replace q164 := eq_true q164
            go_wp2_with (first | ((with_reducible refine gate_dst (N := 6) rfl ?_); (try (refine gate_guard (by rfl) ?_; dsimp only)); refine boxE_ 6 #[.int .i64 0, .int .i64 0] 46 ?_; intro gb165 hg w43 hbox hb; have n0_ := Aside0.mk (Kd.R_below (hR_ HO_4.out) hb); have n1_ := Aside0.mk (bB_ BK159.out hb); have n2_ := Aside0.mk (below_step hC_ hb); have n3_ := Aside0.mk (hbox); have n4_ := Aside0.mk ((gE_ hg : w.heap.size ≤ gb165)); have n5_ := Aside0.mk ((gE_ hg : w.heap.size ≤ gb165)); have n6_ := Aside0.mk ((bL_ BK159.out hg : gb159 ≠ gb165)); have n7_ := Aside0.mk ((bG_ BK159.out hg : gb165 ≠ gb159)); clear HO_4 BK159 HB; have HO_4 := n0_; have BK159 := n1_; have HB := n2_; have BK165 := n3_; have GW165 := n4_; have GE165 := n5_; have NB159_165 := n6_; have NB165_159 := n7_; clear n0_ n1_ n2_ n3_ n4_ n5_ n6_ n7_; clear hb hbox hg; have hnb44 := NB165_159.out; have hnc44 := NB159_165.out; obtain ⟨hcz45_0, hcz45_1, hfz45_0, hfz45_1⟩ := bx2_ BK165.out; obtain ⟨Ao46, co46, eo46⟩ := Kd.R_slice HO_4.out; subst eo46) | (go_at_call 26; (with_reducible refine (next_Mark.calls ((rd_T46 l0_2 x24_2).f1) false _ A30.out).mono ?_); rintro e w' ⟨rfl, ⟨nd, rfl⟩⟩))
            go_ret2
            exact ⟨_, hV_, by first | exact Kd.R_nil _ _ _ _ _ | exact Kd.N_nil _ _ _ _ _ | exact Kd.V_nil _ _ _ _ _ | exact Kd.Q_nil _ _ _ _ _ | exact Kd.S_nil _ _ _ _ _, hC_⟩
          subst c31
          have H1 : (if 0 ≤ ((rd_T46 l0_2 x24_2).f0) then (if ((rd_T46 l0_2 x24_2).f0) < (x4_2.length : Int) then (next_Marks.l0 k2 (x4_2.set (((rd_T46 l0_2 x24_2).f0) : Int).toNat ((rd_T46 l0_2 x24_2).f1)) l0_2 (l0_2.length : Int) (wrap64 (x24_2 + 1))) else (none)) else (none)) = some (r1, r2) := by rw [if_pos rfl] at H; exact H
          clear H
          have H := H1
          clear H1
          replace H := ifI_ H; obtain ⟨c32, H⟩ := H
          have c32b0 : decide (0 ≤ ((rd_T46 l0_2 x24_2).f0)) = true := decide_eq_true c32
          clear c32
          replace H := ifI_ H; obtain ⟨c33, H⟩ := H
          have c33b0 : decide (((rd_T46 l0_2 x24_2).f0) < (x4_2.length : Int)) = true := decide_eq_true c33
          clear c33
          obtain ⟨y167, hy167⟩ : ∃ y_ : List Int, y_ = (x4_2.set (((rd_T46 l0_2 x24_2).f0) : Int).toNat ((rd_T46 l0_2 x24_2).f1)) := ⟨_, rfl⟩
          replace H : (next_Marks.l0 k2 y167 l0_2 (l0_2.length : Int) (wrap64 (x24_2 + 1))) = some (r1, r2) := by first | (rw [hy167]; with_reducible exact H) | (have H2_ := (Option.bind_some _ _).symm.trans H; rw [hy167]; with_reducible exact H2_) | (have H2_ := (Option.bind_some _ _).symm.trans H; with_reducible exact H2_) | with_reducible exact H | (rw [hy167]; exact H) | exact H
          have Ny167 := Aside0.mk hy167
          clear hy167
          have H' := Aside0.mk H
          clear H
          have p164 : 0 ≤ (x24_2 : Int) := of_decide_eq_true hA_
          have q164 : x24_2 < (l0_2.length : Int) := of_decide_eq_true hA_
          obtain ⟨ad164, e164, hx164_0, hx164_1⟩ := at_T46 HR0_2.out x24_2 p164 q164
          cases e164
          replace hx164_0 := cl_ HB.out hx164_0
          replace hx164_1 := cl_ HB.out hx164_1
          replace p164 := eq_true p164
          replace q164 := eq_true q164
          go_wp2_with (first | ((with_reducible refine gate_dst (N := 6) rfl ?_); (try (refine gate_guard (by rfl) ?_; dsimp only)); refine boxE_ 6 #[.int .i64 0, .int .i64 0] 46 ?_; intro gb165 hg w35 hbox hb; have n0_ := Aside0.mk (Kd.R_below (hR_ HO_4.out) hb); have n1_ := Aside0.mk (bB_ BK159.out hb); have n2_ := Aside0.mk (below_step hC_ hb); have n3_ := Aside0.mk (hbox); have n4_ := Aside0.mk ((gE_ hg : w.heap.size ≤ gb165)); have n5_ := Aside0.mk ((gE_ hg : w.heap.size ≤ gb165)); have n6_ := Aside0.mk ((bL_ BK159.out hg : gb159 ≠ gb165)); have n7_ := Aside0.mk ((bG_ BK159.out hg : gb165 ≠ gb159)); clear HO_4 BK159 HB; have HO_4 := n0_; have BK159 := n1_; have HB := n2_; have BK165 := n3_; have GW165 := n4_; have GE165 := n5_; have NB159_165 := n6_; have NB165_159 := n7_; clear n0_ n1_ n2_ n3_ n4_ n5_ n6_ n7_; clear hb hbox hg; have hnb36 := NB165_159.out; have hnc36 := NB159_165.out; obtain ⟨hcz37_0, hcz37_1, hfz37_0, hfz37_1⟩ := bx2_ BK165.out) | ((with_reducible refine gate_store (t := 46) (p := 6) rfl ?_); refine store_event (t := 46) (p := 6) (v := ?vo_w38) (w1 := ((w35.setCell ⟨gb165, 0, none⟩ (.int .i64 ((rd_T46 l0_2 x24_2).f0))).setCell ⟨gb165, 1, none⟩ (.int .i64 ((rd_T46 l0_2 x24_2).f1)))) ?hg ?ho ?hn ?hr ?_; (case ho => rfl); (case hg => rfl); (case hn => rfl); (case hr => first | (go_simp; done) | (go_simp; rfl)); intro w38 hw; have n0_ : Aside0 (Kd.R (Kd.int .i64) 3 w38 w.heap.size (fun _ => True) v162 x4_2) := ⟨(by rw [hw]; exact (by (with_reducible repeat (first | apply Kd.R_alloc | apply Kd.R_drewN | apply Kd.R_drew)); exact Kd.R_mono (rF_ (rF_ (Kd.R_types HO_4.out BK165.out (by decide)))) (fun _ hk => trivial)))⟩; have n1_ : Aside0 (w38.heap[gb159]? = some (.cells #[.slice A0_0 l0_0.length c0_0, .int .i64 a0_1, .slice (some ad164) l0_2.length c0_2] 25 (0, 0))) := ⟨(by rw [hw]; exact (bF_ (bF_ (hK_ BK159.out) NB159_165.out) NB159_165.out))⟩; have n2_ : Aside0 (w38.heap[gb165]? = some (.cells #[.int .i64 ((rd_T46 l0_2 x24_2).f0), .int .i64 ((rd_T46 l0_2 x24_2).f1)] 46 (0, 0))) := ⟨(by rw [hw]; exact (bP_ (bP_ (hK_ BK165.out))))⟩; have n3_ : Aside0 (Below w.heap.size w w38) := ⟨(by rw [hw]; exact hC_)⟩; clear hw HO_4 BK159 BK165 HB; have HO_4 := n0_; have BK159 := n1_; have BK165 := n2_; have HB := n3_; clear n0_ n1_ n2_ n3_; obtain ⟨hcz39_0, hcz39_1, hfz39_0, hfz39_1⟩ := bx2_ BK165.out; obtain ⟨Ao40, co40, eo40⟩ := Kd.R_slice HO_4.out; subst eo40) | (go_at_call 26; (with_reducible refine (next_Mark.calls ((rd_T46 l0_2 x24_2).f1) true _ A30.out).mono ?_); rintro e w' ⟨rfl, ⟨nd, rfl⟩⟩; (try (rw [drewN_self w38]; generalize hq_ : World.drewN w38 _ = w38; have n0_ : Aside0 (Kd.R (Kd.int .i64) 3 w38 w.heap.size (fun _ => True) (.slice Ao40 x4_2.length co40) x4_2) := ⟨by rw [← hq_]; exact (hR_ HO_4.out)⟩; have n1_ : Aside0 (w38.heap[gb159]? = some (.cells #[.slice A0_0 l0_0.length c0_0, .int .i64 a0_1, .slice (some ad164) l0_2.length c0_2] 25 (0, 0))) := ⟨by rw [← hq_]; exact (hK_ BK159.out)⟩; have n2_ : Aside0 (w38.heap[gb165]? = some (.cells #[.int .i64 ((rd_T46 l0_2 x24_2).f0), .int .i64 ((rd_T46 l0_2 x24_2).f1)] 46 (0, 0))) := ⟨by rw [← hq_]; exact (hK_ BK165.out)⟩; have n3_ : Aside0 (Below w.heap.size w w38) := ⟨by rw [← hq_]; exact hC_⟩; clear HO_4 BK159 BK165 HB hq_; have HO_4 := n0_; have BK159 := n1_; have BK165 := n2_; have HB := n3_; clear n0_ n1_ n2_ n3_; (try have hcu0_0 := bc0_ BK159.out); (try have hfu0_0 := blk_frozen BK159.out 0); (try have hcu0_1 := bc1_ BK159.out); (try have hfu0_1 := blk_frozen BK159.out 1); (try have hcu0_2 := bc2_ BK159.out); (try have hfu0_2 := blk_frozen BK159.out 2); (try have hcu1_0 := bc0_ BK165.out); (try have hfu1_0 := blk_frozen BK165.out 0); (try have hcu1_1 := bc1_ BK165.out); (try have hfu1_1 := blk_frozen BK165.out 1))); have p34 : 0 ≤ (((rd_T46 l0_2 x24_2).f0) : Int) := of_decide_eq_true hA_; have q34 : (((rd_T46 l0_2 x24_2).f0) : Int) < ((x4_2.length : Int) : Int) := of_decide_eq_true hA_; obtain ⟨go34, co34, eo34, gb34, gl34, cl34, HG34⟩ := Kd.R_form HO_4.out (by omega); (first | cases eo34 | (injection eo34 with ea_ en_ ec_; (first | subst ea_ | (injection ea_ with ea_; subst ea_)); subst ec_; clear en_)); have GB34 := Aside0.mk gb34; have GG34 := Aside0.mk HG34; clear gb34 gl34 HG34; obtain ⟨hx34_0, hf34_0⟩ := Kd.R_celln 0 HO_4.out (((rd_T46 l0_2 x24_2).f0) : Int) p34 q34; replace p34 := eq_true p34; replace q34 := eq_true q34; obtain ⟨hy41_, hz41_⟩ := Kd.R_celln 0 HO_4.out (((rd_T46 l0_2 x24_2).f0) : Int) (of_decide_eq_true hA_) (of_decide_eq_true hA_); have HP41 := Kd.R_putg HO_4.out (((rd_T46 l0_2 x24_2).f0) : Int) ((rd_T46 l0_2 x24_2).f1)) | ((with_reducible refine gate_store (t := 3) (p := 49) rfl ?_); refine store_event (t := 3) (p := 49) (v := ?vo_w42) (w1 := (w38.setCell ⟨go34, (((rd_T46 l0_2 x24_2).f0) : Int).toNat, none⟩ (.int .i64 ((rd_T46 l0_2 x24_2).f1)))) ?hg ?ho ?hn ?hr ?_; (case ho => rfl); (case hg => rfl); (case hn => rfl); (case hr => first | (go_simp; done) | (go_simp; rfl)); intro w42 hw; have hg : w38.grownBy w42 (some go34) := (by rw [hw]; exact HP41.2); have hp_ : Kd.R (Kd.int .i64) 3 w42 w.heap.size (fun _ => True) (.slice (some ⟨go34, 0, none⟩) x4_2.length co40) y167 := (by rw [hw, Ny167.out]; exact HP41.1); clear HP41; have n0_ := Aside0.mk (hp_); have n1_ := Aside0.mk (blk_grown (hK_ BK159.out) hg (Kd.R_ne HO_4.out BK159.out (by decide))); have n2_ := Aside0.mk (blk_grown (hK_ BK165.out) hg (Kd.R_ne HO_4.out BK165.out (by decide))); have n3_ := Aside0.mk ((by rw [hw]; exact below_set (HB.out) GB34.out : Below w.heap.size w w42)); clear HO_4 BK159 BK165 HB; have HO_4 := n0_; have BK159 := n1_; have BK165 := n2_; have HB := n3_; clear n0_ n1_ n2_ n3_; clear hg hw hp_))
          go_roundg k2
          case measure => have := HJ1.out; have := HK2.out; omega
          case rel => exact ⟨(y167), (wrap64 (x24_2 + 1)), hW_, H', ⟨by have := HJ1.out; have := HK2.out; omega⟩, ⟨hR_ HO_4.out⟩, ⟨(hK_ BK159.out)⟩, ⟨hC_⟩⟩
end Go.Proofs.YtgokcaccamfgfaaGreatDoor.G
end
section
-- Laid by the session's own driver gp.py over the kit's printer. Not trusted: Lean checks it.
namespace Go.Proofs.YtgokcaccamfgfaaGreatDoor.G
open Go.RowKit Go.Proofs.YtgokcaccamfgfaaGreatDoorW.PrintWords Go.Proofs.YtgokcaccamfgfaaGreatDoorW.PrintLast Go.Proofs.YtgokcaccamfgfaaGreatDoorW.PrintMore
attribute [local go_sem] max2_int min2_int max_two min_two max_three min_three max_four min_four   -- for this text's walks alone
set_option linter.unusedVariables false
set_option linter.unusedSimpArgs false

/-! ### next_Way: function 30 -/
def next_Way.f (a0 : Int) : Option (Bool) := if a0 = 0 then (some true) else (some (a0 == 1))
set_option maxHeartbeats 8000000 in
set_option maxRecDepth 100000 in
theorem next_Way.calls (a0 : Int) (r : Bool) (w : World) (h : next_Way.f a0 = some r) :
    Calls Tryz.prog 30 #[.int .i64 a0] w fun e w' => e = .returned (.bool r) ∧ Drawn0 w w' := by
  have H : (if a0 = 0 then (some true) else (some (a0 == 1))) = some r := h
  clear h
  by_cases c2 : a0 = 0
  case neg =>
    rw [if_neg c2] at H
    have c2b0 : (a0 == 0) = false := beq_eq_false_iff_ne.mpr c2
    have c2b1 : (a0 != 0) = true := bne_iff_ne.mpr c2
    obtain rfl := Option.some.inj H
    go_enter Tryz.func30, Tryz.ntmps30
    go_wp2
    go_ret
    exact ⟨by first | rfl | (simp; done) | (simp [*]; done), by repeat (first | exact Drawn0.refl _ | apply Drawn0.step)⟩

  rw [if_pos c2] at H
  have c2b0 : (a0 == 0) = true := beq_iff_eq.mpr c2
  have c2b1 : (a0 != 0) = false := bne_eq_false_iff_eq.mpr c2
  clear c2
  obtain rfl := Option.some.inj H
  go_enter Tryz.func30, Tryz.ntmps30
  go_wp2
  go_ret
  exact ⟨by first | rfl | (simp; done) | (simp [*]; done), by repeat (first | exact Drawn0.refl _ | apply Drawn0.step)⟩
end Go.Proofs.YtgokcaccamfgfaaGreatDoor.G
end
section
-- Laid by the session's own driver gp.py over the kit's printer. Not trusted: Lean checks it.
namespace Go.Proofs.YtgokcaccamfgfaaGreatDoor.G
open Go.RowKit Go.Proofs.YtgokcaccamfgfaaGreatDoorW.PrintWords Go.Proofs.YtgokcaccamfgfaaGreatDoorW.PrintLast Go.Proofs.YtgokcaccamfgfaaGreatDoorW.PrintMore
attribute [local go_sem] max2_int min2_int max_two min_two max_three min_three max_four min_four   -- for this text's walks alone
set_option linter.unusedVariables false
set_option linter.unusedSimpArgs false

/-! ### tree_Below: function 70, given -/
/-- a node's kids among those ahead of place i -/
def kidsTo (ns : List S64) (a : Int) : Nat → List Int
  | 0 => []
  | i + 1 => if a < (i : Int) ∧ (rd_T64 ns (i : Int)).f1 = a then kidsTo ns a i ++ [(i : Int)] else kidsTo ns a i
theorem kidsTo_pre (ns : List S64) (a : Int) : ∀ {i j : Nat}, i ≤ j → kidsTo ns a i <+: kidsTo ns a j := by
  intro i j h
  induction h with
  | refl => exact List.prefix_refl _
  | step _ ih =>
    rw [kidsTo]
    split
    · exact ih.trans (List.prefix_append _ _)
    · exact ih
theorem kidsTo_none (ns : List S64) (a : Int) : ∀ (i : Nat), (i : Int) ≤ a + 1 → kidsTo ns a i = []
  | 0, _ => rfl
  | i + 1, h => by rw [kidsTo, if_neg (by omega), kidsTo_none ns a i (by omega)]
theorem kidsTo_len (ns : List S64) (a : Int) : ∀ (i : Nat), (kidsTo ns a i).length ≤ i
  | 0 => Nat.le_refl _
  | i + 1 => by
    have := kidsTo_len ns a i
    rw [kidsTo]
    split <;> simp <;> omega

section
attribute [local go_sem] Oper.semAt_some
set_option maxRecDepth 100000 in
set_option maxHeartbeats 2000000 in
theorem tree_Below_1.in_ (n : Nat) (hn : 1 ≤ n) (l Bn Ba n₁ N : Nat) (A0 : Option Addr) (c0 : Nat) (l0 : List S64) (a1 : Int) (ha0 : 0 ≤ a1) (ha1 : a1 < (l0.length : Int)) (hlen : l0.length ≤ 9223372036854775806) (w : World) (hC : Kd.C k64 w A0 l0.length l0)
    (hN : ∀ i, i < l0.length → (kidsTo l0 a1 i).length < N) (J Jx : List Int → World → Prop) (hJd : ∀ s W n, J s W → J s (W.drewN n))
    (hY : ∀ pre x W, J pre W → pre.length < N → (0 ≤ x ∧ x < (l0.length : Int)) → YieldAt Fence.wide (n - 1) Tryz.prog l #[.int .i64 x] W fun e W' =>
      (e = .returned (.bool true) ∧ J (pre ++ [x]) W' ∧ Below n₁ W W') ∨ (e = .returned (.bool false) ∧ Jx (pre ++ [x]) W'))
    (W : World) (hB : Below w.heap.size w W) (hw : w.heap.size ≤ n₁) (hBn : W.cell? ⟨Bn, 0, none⟩ = some (.slice A0 l0.length c0)) (hBa : W.cell? ⟨Ba, 0, none⟩ = some (.int .i64 a1)) (hbn : Bn < n₁) (hba : Ba < n₁) (h0 : J [] W) :
    CallsIn Fence.wide n Tryz.prog 73 #[.func (.yield l) #[] #[], .pointer (some ⟨Ba, 0, none⟩), .pointer (some ⟨Bn, 0, none⟩)] W fun e W' => (∃ v, e = .returned v) ∧
      ((∃ ys, ys = kidsTo l0 a1 l0.length ∧ J ys W') ∨ (∃ pre, pre <+: kidsTo l0 a1 l0.length ∧ Jx pre W')) := by
  refine callsIn_of_wp Tryz.func73 rfl trivial ?_ rfl
  simp only [Tryz.ntmps73, List.size_toArray, List.length_cons, List.length_nil, Nat.reduceAdd, Nat.reduceSub, Array.replicate_succ, Array.replicate_zero, List.push_toArray, List.append_toArray, List.nil_append, List.cons_append]
  gi_wp2
  gi_loopw [4] (fun i wr => ∃ x : Int, i = .int .i64 x ∧ Aside0 (a1 < x ∧ x ≤ (l0.length : Int)) ∧ Aside0 (J (kidsTo l0 a1 x.toNat) wr ∧ Below n₁ W wr))
    (fun i _ => l0.length - (intOf i).toNat)
  case atStart => exact ⟨a1 + 1, by first | rfl | (congr 1; omega) | (simp; omega), ⟨by omega, by omega⟩, ⟨by rw [kidsTo_none _ _ _ (by omega)]; exact h0, Below.refl _ _⟩⟩
  case round =>
    obtain ⟨x, rfl, HX, HJ⟩ := hrel
    have hcn := (HJ.out.2.cell (p := ⟨Bn, 0, none⟩) hbn).trans hBn
    have hca := (HJ.out.2.cell (p := ⟨Ba, 0, none⟩) hba).trans hBa
    by_cases hlt : x < (l0.length : Int)
    case neg =>
      have hltb := decide_eq_false hlt
      have hxl : x.toNat = l0.length := by have := HX.out; omega
      have HX2 := Aside0.mk hxl
      clear hxl hlt
      gi_wp2
      go_end0
      exact ⟨⟨_, rfl⟩, .inl ⟨_, rfl, by rw [← HX2.out]; exact HJ.out.1⟩⟩
    have hx0 : 0 ≤ x := by have := HX.out; omega
    obtain ⟨ad, A2, c2, e0, g0, g1, g2, g3, hl2, hi2⟩ := at_T64 hC x hx0 hlt
    cases e0
    have hbw : Below w.heap.size w wr := hB.trans (HJ.out.2.mono hw)
    have hp := (hbw.cell (World.block_lt_of_cell? w _ g1)).trans g1
    clear g0 g1 g2 g3 hl2 hi2
    have hxt : (x + 1).toNat = x.toNat + 1 := by omega
    have hxe : ((x.toNat : Nat) : Int) = x := by omega
    have hw1 : IntKind.i64.wrap (x + 1) = x + 1 := IntWalk.i64_in _ (by omega)
    have hw2 := Aside0.mk hw1
    clear hw1
    have hlt0 := Aside0.mk (And.intro hlt (And.intro hxt hxe))
    clear hxt hxe
    have hltb := decide_eq_true hlt
    replace hlt := eq_true hlt
    replace hx0 := eq_true hx0
    have hmix : Tryz.prog.follows .mixedOrders = true := by kernel_rfl
    by_cases hpar : (rd_T64 l0 x).f1 = a1
    case neg =>
      have hparb : ((rd_T64 l0 x).f1 == a1) = false := beq_eq_false_iff_ne.2 hpar
      have hkid : kidsTo l0 a1 (x.toNat + 1) = kidsTo l0 a1 x.toNat := by rw [kidsTo, hlt0.out.2.2, if_neg (fun h => hpar h.2)]
      have HK := Aside0.mk hkid
      clear hkid hpar
      have HY := Aside0.mk (And.intro hY hJd)
      clear hY hJd
      clear hN hBa hBn hC h0
      gi_wp2
      refine wpIn_mono (Q := fun e a w' => e = .normal ∧ ∃ (t7 t8 t9 t10 t11 t12 t13 t14 t15 t16 t17 t18 t19 t20 t21 t22 t23 t24 : Value), a = { tmps := #[.func (.yield l) #[] #[], .pointer (some ⟨Ba, 0, none⟩), .pointer (some ⟨Bn, 0, none⟩), undef, .int .i64 x, .int .i64 a1, .int .i64 (a1 + 1), t7, t8, t9, t10, t11, t12, t13, t14, t15, t16, t17, t18, t19, t20, t21, t22, t23, t24, .bool false], defers := [] } ∧ ∃ nq, w' = wr.drewN nq) ?reg ?post
      case reg =>
        clear HY HK HX HJ hlt0 hw2 hbw hB hw
        refine wpIn_region_quiet_lit rfl hmix (by kernel_rfl) ?_
        iterate 10 (quiet_step_in (fail))
        refine BigFrame.wpQuietIn_skip (fun _ _ _ _ => trivial) (by first | rfl | kernel_rfl | simp [Region.wanted, yielded]) ?_
        simp only [Act.put, List.setIfInBounds_toArray, List.set_cons_succ, List.set_cons_zero]
        iterate 2 (quiet_step_in (fail))
        refine wpQuietIn_nil ?_
        intro _ hw'
        obtain ⟨nq, hw''⟩ := hw'
        subst hw''
        exact ⟨trivial, _, _, _, _, _, _, _, _, _, _, _, _, _, _, _, _, _, _, rfl, _, rfl⟩
      case post =>
        rintro e a W3 ⟨rfl, t7, t8, t9, t10, t11, t12, t13, t14, t15, t16, t17, t18, t19, t20, t21, t22, t23, t24, rfl, nq, rfl⟩
        clear hparb hp
        gi_wp2
        refine ⟨⟨x + 1, by rw [show wrap64 (x + 1) = x + 1 from by have := HX.out; have := hlt0.out.1; unfold wrap64; omega], ⟨by have := HX.out; omega, by have := hlt0.out.1; omega⟩, ⟨by rw [hlt0.out.2.1, HK.out]; exact HY.out.2 _ _ nq HJ.out.1, below_dn HJ.out.2 nq⟩⟩, ?_⟩
        rw [show wrap64 (x + 1) = x + 1 from by have := HX.out; have := hlt0.out.1; unfold wrap64; omega]
        have := HX.out
        have := hlt0.out.1
        simp only [intOf]
        omega
    have hparb : ((rd_T64 l0 x).f1 == a1) = true := beq_iff_eq.2 hpar
    have hkid : kidsTo l0 a1 (x.toNat + 1) = kidsTo l0 a1 x.toNat ++ [x] := by rw [kidsTo, hlt0.out.2.2, if_pos ⟨HX.out.1, hpar⟩]
    have HK := Aside0.mk hkid
    clear hkid hpar
    have HY := Aside0.mk (fun nq => hY _ x (wr.drewN nq) (hJd _ _ nq HJ.out.1) (hN x.toNat (by have := hlt0.out.1; omega)) ⟨by have := HX.out; omega, hlt0.out.1⟩)
    clear hY hJd hN hBa hBn hC h0
    gi_wp2
    refine wpIn_mono (Q := fun e a w' => e = .normal ∧ ∃ (b : Bool) (t7 t8 t9 t10 t11 t12 t13 t14 t15 t16 t17 t18 t19 t20 t21 t22 t23 t24 : Value), a = { tmps := #[.func (.yield l) #[] #[], .pointer (some ⟨Ba, 0, none⟩), .pointer (some ⟨Bn, 0, none⟩), undef, .int .i64 x, .int .i64 a1, .int .i64 (a1 + 1), t7, t8, t9, t10, t11, t12, t13, t14, t15, t16, t17, t18, t19, t20, t21, t22, t23, t24, .bool (!b)], defers := [] } ∧ Aside0 ((b = true ∧ J (kidsTo l0 a1 x.toNat ++ [x]) w' ∧ Below n₁ wr w') ∨ (b = false ∧ Jx (kidsTo l0 a1 x.toNat ++ [x]) w'))) ?reg ?post
    case reg =>
      clear HK HX HJ hlt0 hw2 hbw hB hw
      refine wpIn_region_head 10 rfl hmix (by kernel_rfl) ?_
      simp only [List.take_succ_cons, List.take_zero, List.drop_succ_cons, List.drop_zero]
      iterate 10 (quiet_step_in (fail))
      refine wpQuietIn_nil ?_
      intro _ hw'
      obtain ⟨nq, hw''⟩ := hw'
      subst hw''
      obtain ⟨fn, tmps, assign, body, hy, hR⟩ := HY.out nq
      clear HY
      have HR : RoundIn Fence.wide (n - 1) Tryz.prog l fn tmps assign body (wr.drewN nq) (fun e W' => ∃ b, e = .returned (.bool b) ∧ Aside0 ((b = true ∧ J (kidsTo l0 a1 x.toNat ++ [x]) W' ∧ Below n₁ wr W') ∨ (b = false ∧ Jx (kidsTo l0 a1 x.toNat ++ [x]) W'))) := hR.mono fun e W' hh => by
        rcases hh with ⟨rfl, h1, h2⟩ | ⟨rfl, h1⟩
        · exact ⟨true, rfl, ⟨.inl ⟨rfl, h1, (below_dn (Below.refl _ _) nq).trans h2⟩⟩⟩
        · exact ⟨false, rfl, ⟨.inr ⟨rfl, h1⟩⟩⟩
      clear hR
      gi_wp2
      refine HR.mono ?_
      rintro e W3 ⟨b, rfl, HQ⟩
      gi_wp2
    case post =>
      rintro e a W3 ⟨rfl, b, t7, t8, t9, t10, t11, t12, t13, t14, t15, t16, t17, t18, t19, t20, t21, t22, t23, t24, rfl, HQ⟩
      clear HY hparb hp
      cases b
      · gi_wp2
        refine bodyPost_ret (results_none rfl _ _ _) rfl ?_
        have hq := HQ.out
        simp only [Bool.false_eq_true, false_and, false_or, true_and] at hq
        exact ⟨⟨_, rfl⟩, .inr ⟨_, by rw [← HK.out]; exact kidsTo_pre _ _ (by have := hlt0.out.1; omega), hq⟩⟩
      · have hq := HQ.out
        simp only [Bool.true_eq_false, false_and, or_false, true_and] at hq
        have HQ2 := Aside0.mk hq
        clear hq HQ
        gi_wp2
        refine ⟨⟨x + 1, by rw [show wrap64 (x + 1) = x + 1 from by have := HX.out; have := hlt0.out.1; unfold wrap64; omega], ⟨by have := HX.out; omega, by have := hlt0.out.1; omega⟩, ⟨by rw [hlt0.out.2.1, HK.out]; exact HQ2.out.1, HJ.out.2.trans HQ2.out.2⟩⟩, ?_⟩
        rw [show wrap64 (x + 1) = x + 1 from by have := HX.out; have := hlt0.out.1; unfold wrap64; omega]
        have := HX.out
        have := hlt0.out.1
        simp only [intOf]
        omega
/-- tree.Below: two boxes, a function value -/
theorem tree_Below.in_ (n : Nat) (hn : 1 ≤ n) (A0 : Option Addr) (len c0 : Nat) (a1 : Int) (w : World) :
    CallsIn Fence.wide n Tryz.prog 70 #[.slice A0 len c0, .int .i64 a1] w fun e w' => e = .returned (.func (.func 73) #[] #[.pointer (some ⟨w.heap.size + 1, 0, none⟩), .pointer (some ⟨w.heap.size, 0, none⟩)]) ∧ w' = (w.alloc (.cells #[.slice A0 len c0] 22)).alloc (.cells #[.int .i64 a1] 3) := by
  refine callsIn_of_wp Tryz.func70 rfl trivial ?_ rfl
  simp only [Tryz.ntmps70, List.size_toArray, List.length_cons, List.length_nil, Nat.reduceAdd, Nat.reduceSub, Array.replicate_succ, Array.replicate_zero, List.push_toArray, List.append_toArray, List.nil_append, List.cons_append]
  gi_wp2
  go_ret
  exact ⟨rfl, rfl⟩
theorem tree_Below.stops (n : Nat) (hn : 1 ≤ n) (A0 : Option Addr) (c0 : Nat) (l0 : List S64) (a1 : Int) (ha0 : 0 ≤ a1) (ha1 : a1 < (l0.length : Int)) (hlen : l0.length ≤ 9223372036854775806) (w : World) (hC : Kd.C k64 w A0 l0.length l0) (Bn Ba n₁ : Nat) (hn₁ : n₁ ≤ w.heap.size) (hbn : Bn < n₁) (hba : Ba < n₁)
    (hBn : w.cell? ⟨Bn, 0, none⟩ = some (.slice A0 l0.length c0)) (hBa : w.cell? ⟨Ba, 0, none⟩ = some (.int .i64 a1)) (w0 : World) (hw0 : Below w0.heap.size w0 w) (hC0 : Kd.C k64 w0 A0 l0.length l0) (hn0 : w0.heap.size ≤ n₁) :
    SeqStopsK Fence.wide n Tryz.prog 73 #[.pointer (some ⟨Ba, 0, none⟩), .pointer (some ⟨Bn, 0, none⟩)] (fun x : Int => #[Value.int .i64 x]) (Below n₁) (fun ys => ys = kidsTo l0 a1 l0.length) (fun pre => pre <+: kidsTo l0 a1 l0.length) l0.length w := fun l J Jx W hW hJ hJx hY h0 =>
  tree_Below_1.in_ n hn l Bn Ba n₁ l0.length A0 c0 l0 a1 ha0 ha1 hlen w0 hC0 (fun i hi => Nat.lt_of_le_of_lt (kidsTo_len l0 a1 i) hi) J Jx
    (fun s W1 m h => hJ s W1 (W1.drewN m) none h ⟨rfl, rfl, rfl, Nat.le_refl _, fun _ _ _ => rfl⟩ (fun r e => by cases e)) (fun pre x W1 h1 h2 _ => hY pre x W1 h1 h2) W (hw0.trans (hW.mono hw0.size)) hn0 ((hW.cell (p := ⟨Bn, 0, none⟩) (by show Bn < w.heap.size; omega)).trans hBn) ((hW.cell (p := ⟨Ba, 0, none⟩) (by show Ba < w.heap.size; omega)).trans hBa) hbn hba h0
theorem kidsTo_rng (ns : List S64) (a : Int) (x : Int) : ∀ n : Nat, x ∈ kidsTo ns a n → a < x ∧ x < (n : Int) ∧ (rd_T64 ns x).f1 = a
  | 0, h => by rw [kidsTo] at h; cases h
  | n + 1, h => by
    rw [kidsTo] at h
    by_cases c : a < (n : Int) ∧ (rd_T64 ns (n : Int)).f1 = a
    case neg =>
      rw [if_neg c] at h
      have := kidsTo_rng ns a x n h; exact ⟨this.1, by omega, this.2.2⟩
    rw [if_pos c, List.mem_append, List.mem_singleton] at h
    rcases h with h | h
    · have := kidsTo_rng ns a x n h; exact ⟨this.1, by omega, this.2.2⟩
    · subst h; exact ⟨c.1, by omega, c.2⟩
/-- the same of places that are places: a body may look there -/
theorem tree_Below.stopsF (n : Nat) (hn : 1 ≤ n) (A0 : Option Addr) (c0 : Nat) (l0 : List S64) (a1 : Int) (ha0 : 0 ≤ a1) (ha1 : a1 < (l0.length : Int)) (hlen : l0.length ≤ 9223372036854775806) (w : World) (hC : Kd.C k64 w A0 l0.length l0) (Bn Ba n₁ : Nat) (hn₁ : n₁ ≤ w.heap.size) (hbn : Bn < n₁) (hba : Ba < n₁)
    (hBn : w.cell? ⟨Bn, 0, none⟩ = some (.slice A0 l0.length c0)) (hBa : w.cell? ⟨Ba, 0, none⟩ = some (.int .i64 a1)) (w0 : World) (hw0 : Below w0.heap.size w0 w) (hC0 : Kd.C k64 w0 A0 l0.length l0) (hn0 : w0.heap.size ≤ n₁) :
    SeqStopsK Fence.wide n Tryz.prog 73 #[.pointer (some ⟨Ba, 0, none⟩), .pointer (some ⟨Bn, 0, none⟩)] (fun x : {x : Int // 0 ≤ x ∧ x < (l0.length : Int)} => #[Value.int .i64 x.1]) (Below n₁) (fun ys => ys.map (·.1) = kidsTo l0 a1 l0.length) (fun pre => pre.map (·.1) <+: kidsTo l0 a1 l0.length) l0.length w := fun l J Jx W hW hJ hJx hY h0 => by
  refine (tree_Below_1.in_ n hn l Bn Ba n₁ l0.length A0 c0 l0 a1 ha0 ha1 hlen w0 hC0 (fun i hi => Nat.lt_of_le_of_lt (kidsTo_len l0 a1 i) hi) (fun ys W1 => ∃ zs : List {x : Int // 0 ≤ x ∧ x < (l0.length : Int)}, zs.map (·.1) = ys ∧ J zs W1) (fun ys W1 => ∃ zs : List {x : Int // 0 ≤ x ∧ x < (l0.length : Int)}, zs.map (·.1) = ys ∧ Jx zs W1)
    ?_ ?_ W (hw0.trans (hW.mono hw0.size)) hn0 ((hW.cell (p := ⟨Bn, 0, none⟩) (by show Bn < w.heap.size; omega)).trans hBn) ((hW.cell (p := ⟨Ba, 0, none⟩) (by show Ba < w.heap.size; omega)).trans hBa) hbn hba ⟨[], rfl, h0⟩).mono ?_
  · rintro s W1 m ⟨zs, e, h⟩
    exact ⟨zs, e, hJ zs W1 (W1.drewN m) none h ⟨rfl, rfl, rfl, Nat.le_refl _, fun _ _ _ => rfl⟩ (fun r e => by cases e)⟩
  · rintro pre x W1 ⟨zs, e, h⟩ hl hx
    refine (hY zs ⟨x, hx⟩ W1 h (by rw [← e, List.length_map] at hl; exact hl)).mono ?_
    rintro e' W2 (⟨h1, h2, h3⟩ | ⟨h1, h2⟩)
    · exact .inl ⟨h1, ⟨_, by rw [List.map_append, e]; rfl, h2⟩, h3⟩
    · exact .inr ⟨h1, ⟨_, by rw [List.map_append, e]; rfl, h2⟩⟩
  · rintro e' W2 ⟨hv, ⟨ys, hy, zs, e, h⟩ | ⟨pre, hp, zs, e, h⟩⟩
    · exact ⟨hv, .inl ⟨zs, e.trans hy, h⟩⟩
    · exact ⟨hv, .inr ⟨zs, (show zs.map (fun x => x.1) <+: kidsTo l0 a1 l0.length by rw [e]; exact hp), h⟩⟩
end

end Go.Proofs.YtgokcaccamfgfaaGreatDoor.G
end
