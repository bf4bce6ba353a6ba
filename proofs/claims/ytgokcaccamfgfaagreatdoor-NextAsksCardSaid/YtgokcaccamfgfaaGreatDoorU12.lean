/- Parts of this proof, one behind the other: G35, G36, G37. -/
import Derived.Test.YtgokcaccamfgfaaGreatDoorG0
import Derived.Test.YtgokcaccamfgfaaGreatDoorU11
section
-- Laid by the session's own driver gp.py over the kit's printer. Not trusted: Lean checks it.
namespace Go.Proofs.YtgokcaccamfgfaaGreatDoor.G
open Go.RowKit Go.Proofs.YtgokcaccamfgfaaGreatDoorW.PrintWords Go.Proofs.YtgokcaccamfgfaaGreatDoorW.PrintLast Go.Proofs.YtgokcaccamfgfaaGreatDoorW.PrintMore
attribute [local go_sem] max2_int min2_int max_two min_two max_three min_three max_four min_four   -- for this text's walks alone
set_option linter.unusedVariables false
set_option linter.unusedSimpArgs false

/-! ### sleuthref12_kids: function 63 -/
def sleuthref12_kids.l0 : Nat → List (S64) → Int → List Int → Int → Option (List Int)
  | 0, _, _, _, _ => none
  | k + 1, x0, x1, x5, x6 => if x6 < (x0.length : Int) then (if 0 ≤ x6 then (if ((rd_T64 x0 x6).f1) = x1 then (if x5.length < 17592186044416 then (sleuthref12_kids.l0 k x0 x1 (x5 ++ [x6]) (wrap64 (x6 + 1))) else (none)) else (sleuthref12_kids.l0 k x0 x1 x5 (wrap64 (x6 + 1)))) else (none)) else (some x5)
def sleuthref12_kids.f (k : Nat) (l0 : List (S64)) (a1 : Int) : Option (List Int) := sleuthref12_kids.l0 k l0 a1 ([] : List Int) 0
theorem sleuthref12_kids.mono_l : ∀ k, (∀ y0 y1 y2 y3, LeO (sleuthref12_kids.l0 k y0 y1 y2 y3) (sleuthref12_kids.l0 (k + 1) y0 y1 y2 y3))
  | 0 => fun _ _ _ _ r h => by simp [sleuthref12_kids.l0] at h
  | k + 1 => by
    have ih0 := sleuthref12_kids.mono_l k
    · intro y0 y1 y2 y3
      unfold sleuthref12_kids.l0
      repeat' first
      | (with_reducible exact ih0 _ _ _ _)
      | (with_reducible exact LeO.refl _)
      | (with_reducible exact LeO.none _)
      | (with_reducible refine LeO.ite ?_ ?_)
      | (with_reducible refine LeO.bind ?_ (fun _ => ?_))
      | exact ih0 _ _ _ _
      | exact LeO.none _
      | refine LeO.ite ?_ ?_
      | refine LeO.bind ?_ (fun _ => ?_)
theorem sleuthref12_kids.mono : ∀ a0 a1 k, LeO (sleuthref12_kids.f k a0 a1) (sleuthref12_kids.f (k + 1) a0 a1) := by
  intro a0 a1 k
  have ih0 := sleuthref12_kids.mono_l k
  unfold sleuthref12_kids.f
  repeat' first
      | (with_reducible exact ih0 _ _ _ _)
      | (with_reducible exact LeO.refl _)
      | (with_reducible exact LeO.none _)
      | (with_reducible refine LeO.ite ?_ ?_)
      | (with_reducible refine LeO.bind ?_ (fun _ => ?_))
      | exact ih0 _ _ _ _
      | exact LeO.none _
      | refine LeO.ite ?_ ?_
      | refine LeO.bind ?_ (fun _ => ?_)
set_option maxHeartbeats 8000000 in
set_option maxRecDepth 100000 in
theorem sleuthref12_kids.calls (k : Nat) (A0 : Option Addr) (c0 : Nat) (l0 : List (S64)) (a1 : Int) (r : List Int) (w : World) (hr0 : Kd.C k64 w A0 l0.length l0) (hc0 : l0.length ≤ c0) (h : sleuthref12_kids.f k l0 a1 = some r) :
    Calls Tryz.prog 63 #[.slice A0 l0.length c0, .int .i64 a1] w fun e w' => ∃ v0_ : Value, e = .returned (v0_) ∧ Kd.R (Kd.int .i64) 3 w' w.heap.size (fun _ => True) v0_ r ∧ Below w.heap.size w w' := by
  have HR0 := Aside0.mk hr0
  have HC0 := Aside0.mk hc0
  clear hr0 hc0
  have HB := Aside0.mk (Below.refl w.heap.size w)
  have H : (sleuthref12_kids.l0 k l0 a1 ([] : List Int) 0) = some r := h
  clear h
  have H' := Aside0.mk H
  clear H
  go_enter Tryz.func63, Tryz.ntmps63
  go_wp2
  go_loopg [5, 6] k (fun kq v5 v6 w' => ∃ (x5_1 : List Int) (x6_1 : Int), v6 = .int .i64 x6_1 ∧ Aside0 (sleuthref12_kids.l0 kq l0 a1 x5_1 x6_1 = some r) ∧ Aside0 (kq ≤ k) ∧ Aside0 (Kd.R (Kd.int .i64) 3 w' w.heap.size (fun _ => True) v5 x5_1) ∧ Aside0 (Below w.heap.size w w'))
  case atStart => exact ⟨(([] : List Int)), (0), hW_, H', ⟨Nat.le_refl _⟩, ⟨by first | exact Kd.R_nil _ _ _ _ _ | exact Kd.N_nil _ _ _ _ _ | exact Kd.V_nil _ _ _ _ _ | exact Kd.Q_nil _ _ _ _ _ | exact Kd.S_nil _ _ _ _ _⟩, ⟨hC_⟩⟩
  case round =>
    clear H'
    try clear p2
    obtain ⟨x5_1, x6_1, rfl, HA, HK1, HO_5, HB⟩ := hrel
    cases gk with
    | zero => exact absurd HA.out (by simp [sleuthref12_kids.l0])
    | succ k1 =>
      have H := HA.out
      clear HA
      simp only [sleuthref12_kids.l0] at H
      by_cases c3 : x6_1 < (l0.length : Int)
      case neg =>
        rw [if_neg c3] at H
        have c3b0 : decide (x6_1 < (l0.length : Int)) = false := decide_eq_false c3
        clear c3
        obtain rfl := Option.some.inj H
        go_wp2
        go_ret
        exact ⟨_, hV_, hR_ HO_5.out, hC_⟩

      rw [if_pos c3] at H
      have c3b0 : decide (x6_1 < (l0.length : Int)) = true := decide_eq_true c3
      clear c3
      replace H := ifI_ H; obtain ⟨c4, H⟩ := H
      have c4b0 : decide (0 ≤ x6_1) = true := decide_eq_true c4
      clear c4
      by_cases c5 : ((rd_T64 l0 x6_1).f1) = a1
      case neg =>
        rw [if_neg c5] at H
        have c5b0 : (((rd_T64 l0 x6_1).f1) == a1) = false := beq_eq_false_iff_ne.mpr c5
        have c5b1 : (((rd_T64 l0 x6_1).f1) != a1) = true := bne_iff_ne.mpr c5
        have H' := Aside0.mk H
        clear H
        have p329 : 0 ≤ (x6_1 : Int) := of_decide_eq_true hA_
        have q329 : x6_1 < (l0.length : Int) := of_decide_eq_true hA_
        obtain ⟨ad329, A329_2, c329_2, e329, hx329_0, hx329_1, hx329_2, hx329_3, hl329_2, hi329_2⟩ := at_T64 HR0.out x6_1 p329 q329
        cases e329
        replace hx329_0 := cl_ HB.out hx329_0
        replace hx329_1 := cl_ HB.out hx329_1
        replace hx329_2 := cl_ HB.out hx329_2
        replace hx329_3 := cl_ HB.out hx329_3
        have HR329_2 := Aside0.mk hi329_2
        have HC329_2 := Aside0.mk hl329_2
        clear hi329_2 hl329_2
        replace p329 := eq_true p329
        replace q329 := eq_true q329
        go_wp2
        go_roundg k1
        case measure => have := HK1.out; omega
        case rel => exact ⟨(x5_1), (wrap64 (x6_1 + 1)), hW_, H', ⟨by have := HK1.out; omega⟩, ⟨hR_ HO_5.out⟩, ⟨hC_⟩⟩
      rw [if_pos c5] at H
      have c5b0 : (((rd_T64 l0 x6_1).f1) == a1) = true := beq_iff_eq.mpr c5
      have c5b1 : (((rd_T64 l0 x6_1).f1) != a1) = false := bne_eq_false_iff_eq.mpr c5
      clear c5
      replace H := ifI_ H; obtain ⟨c6, H⟩ := H
      have LMc6 := Aside0.mk c6
      clear c6
      obtain ⟨y330, hy330⟩ : ∃ y_ : List Int, y_ = (x5_1 ++ [x6_1]) := ⟨_, rfl⟩
      replace H : (sleuthref12_kids.l0 k1 l0 a1 y330 (wrap64 (x6_1 + 1))) = some r := by first | (rw [hy330]; with_reducible exact H) | (have H2_ := (Option.bind_some _ _).symm.trans H; rw [hy330]; with_reducible exact H2_) | (have H2_ := (Option.bind_some _ _).symm.trans H; with_reducible exact H2_) | with_reducible exact H | (rw [hy330]; exact H) | exact H
      have Ny330 := Aside0.mk hy330
      clear hy330
      have H' := Aside0.mk H
      clear H
      have p329 : 0 ≤ (x6_1 : Int) := of_decide_eq_true hA_
      have q329 : x6_1 < (l0.length : Int) := of_decide_eq_true hA_
      obtain ⟨ad329, A329_2, c329_2, e329, hx329_0, hx329_1, hx329_2, hx329_3, hl329_2, hi329_2⟩ := at_T64 HR0.out x6_1 p329 q329
      cases e329
      replace hx329_0 := cl_ HB.out hx329_0
      replace hx329_1 := cl_ HB.out hx329_1
      replace hx329_2 := cl_ HB.out hx329_2
      replace hx329_3 := cl_ HB.out hx329_3
      have HR329_2 := Aside0.mk hi329_2
      have HC329_2 := Aside0.mk hl329_2
      clear hi329_2 hl329_2
      replace p329 := eq_true p329
      replace q329 := eq_true q329
      go_wp2_with (first | ((with_reducible refine gate_builtin (b := .append) (xs := #[.tmp 20, .tmp 22]) rfl ?_); at_builtin; refine Kd.R_append (Kd.int .i64) (w0 := w) w.heap.size rfl (.tmp 20) (.tmp 22) 27 3 (.int .i64 0) 8 rfl Tryz.underlying27 info3 rfl (by decide) (by omega) u5 x5_1 x6_1 [.int .i64 x6_1] (fun _ => True) (fun _ => False) rfl rfl ?aP (fun _ hk => hk.elim) ?aF ?aO ?aB ?aS ?aL ?_; (case aP => exact rfl); (case aB => exact hB_); (case aF => exact (fun _ _ => trivial)); (case aO => exact (hR_ HO_5.out)); (case aS => exact hS_); (case aL => have := LMc6.out; omega); intro v331 w7 ho hb hg hat; rw [← Ny330.out] at ho; have n0_ := Aside0.mk (hb); have n1_ := Aside0.mk (ho); clear HB HO_5; have HB := n0_; have HO332 := n1_; clear n0_ n1_; clear ho hb hg hat))
      go_roundg k1
      case measure => have := HK1.out; omega
      case rel => exact ⟨(y330), (wrap64 (x6_1 + 1)), hW_, H', ⟨by have := HK1.out; omega⟩, ⟨hR_ HO332.out⟩, ⟨hC_⟩⟩
/-! ### sleuthref12_firstOf: function 64 -/
def sleuthref12_firstOf.l0 : Nat → List Int → List Int → Int → Int → Option (Int)
  | 0, _, _, _, _ => none
  | k + 1, x0, x1, x2, x7 => if x7 < (x0.length : Int) then (if 0 ≤ x7 then (if 0 ≤ (rd x0 x7) then (if (rd x0 x7) < (x1.length : Int) then (if (rd x1 (rd x0 x7)) = x2 then (some (rd x0 x7)) else (sleuthref12_firstOf.l0 k x0 x1 x2 (wrap64 (x7 + 1)))) else (none)) else (none)) else (none)) else (some (-1))
def sleuthref12_firstOf.f (k : Nat) (l0 : List Int) (l1 : List Int) (a2 : Int) : Option (Int) := sleuthref12_firstOf.l0 k l0 l1 a2 0
theorem sleuthref12_firstOf.mono_l : ∀ k, (∀ y0 y1 y2 y3, LeO (sleuthref12_firstOf.l0 k y0 y1 y2 y3) (sleuthref12_firstOf.l0 (k + 1) y0 y1 y2 y3))
  | 0 => fun _ _ _ _ r h => by simp [sleuthref12_firstOf.l0] at h
  | k + 1 => by
    have ih0 := sleuthref12_firstOf.mono_l k
    · intro y0 y1 y2 y3
      unfold sleuthref12_firstOf.l0
      repeat' first
      | (with_reducible exact ih0 _ _ _ _)
      | (with_reducible exact LeO.refl _)
      | (with_reducible exact LeO.none _)
      | (with_reducible refine LeO.ite ?_ ?_)
      | (with_reducible refine LeO.bind ?_ (fun _ => ?_))
      | exact ih0 _ _ _ _
      | exact LeO.none _
      | refine LeO.ite ?_ ?_
      | refine LeO.bind ?_ (fun _ => ?_)
theorem sleuthref12_firstOf.mono : ∀ a0 a1 a2 k, LeO (sleuthref12_firstOf.f k a0 a1 a2) (sleuthref12_firstOf.f (k + 1) a0 a1 a2) := by
  intro a0 a1 a2 k
  have ih0 := sleuthref12_firstOf.mono_l k
  unfold sleuthref12_firstOf.f
  repeat' first
      | (with_reducible exact ih0 _ _ _ _)
      | (with_reducible exact LeO.refl _)
      | (with_reducible exact LeO.none _)
      | (with_reducible refine LeO.ite ?_ ?_)
      | (with_reducible refine LeO.bind ?_ (fun _ => ?_))
      | exact ih0 _ _ _ _
      | exact LeO.none _
      | refine LeO.ite ?_ ?_
      | refine LeO.bind ?_ (fun _ => ?_)
set_option maxHeartbeats 8000000 in
set_option maxRecDepth 100000 in
theorem sleuthref12_firstOf.calls (k : Nat) (A0 : Option Addr) (c0 : Nat) (l0 : List Int) (A1 : Option Addr) (c1 : Nat) (l1 : List Int) (a2 : Int) (r : Int) (w : World) (hr0 : Kd.C (Kd.int .i64) w A0 l0.length l0) (hc0 : l0.length ≤ c0) (hr1 : Kd.C (Kd.int .i64) w A1 l1.length l1) (hc1 : l1.length ≤ c1) (h : sleuthref12_firstOf.f k l0 l1 a2 = some r) :
    Calls Tryz.prog 64 #[.slice A0 l0.length c0, .slice A1 l1.length c1, .int .i64 a2] w fun e w' => e = .returned (.int .i64 r) ∧ Drawn0 w w' := by
  have HR0 := Aside0.mk hr0
  have HC0 := Aside0.mk hc0
  clear hr0 hc0
  have HR1 := Aside0.mk hr1
  have HC1 := Aside0.mk hc1
  clear hr1 hc1
  have H : (sleuthref12_firstOf.l0 k l0 l1 a2 0) = some r := h
  clear h
  have H' := Aside0.mk H
  clear H
  go_enter Tryz.func64, Tryz.ntmps64
  go_wp2
  go_loopg [7] k (fun kq v7 w' => ∃ (x7_1 : Int), v7 = .int .i64 x7_1 ∧ Aside0 (sleuthref12_firstOf.l0 kq l0 l1 a2 x7_1 = some r) ∧ Aside0 (kq ≤ k) ∧ Drawn0 w w')
  case atStart => exact ⟨(0), hW_, H', ⟨Nat.le_refl _⟩, by repeat (first | exact Drawn0.refl _ | apply Drawn0.step)⟩
  case round =>
    clear H'
    try clear c1
    try clear p2
    obtain ⟨x7_1, rfl, HA, HK1, ⟨m1, rfl⟩⟩ := hrel
    cases gk with
    | zero => exact absurd HA.out (by simp [sleuthref12_firstOf.l0])
    | succ k1 =>
      have H := HA.out
      clear HA
      simp only [sleuthref12_firstOf.l0] at H
      by_cases c4 : x7_1 < (l0.length : Int)
      case neg =>
        rw [if_neg c4] at H
        have c4b0 : decide (x7_1 < (l0.length : Int)) = false := decide_eq_false c4
        clear c4
        obtain rfl := Option.some.inj H
        go_wp2
        go_ret
        exact ⟨by first | rfl | (simp; done) | (simp [*]; done), by repeat (first | exact Drawn0.refl _ | apply Drawn0.step)⟩

      rw [if_pos c4] at H
      have c4b0 : decide (x7_1 < (l0.length : Int)) = true := decide_eq_true c4
      clear c4
      replace H := ifI_ H; obtain ⟨c5, H⟩ := H
      have c5b0 : decide (0 ≤ x7_1) = true := decide_eq_true c5
      clear c5
      replace H := ifI_ H; obtain ⟨c6, H⟩ := H
      have c6b0 : decide (0 ≤ (rd l0 x7_1)) = true := decide_eq_true c6
      clear c6
      replace H := ifI_ H; obtain ⟨c7, H⟩ := H
      have c7b0 : decide ((rd l0 x7_1) < (l1.length : Int)) = true := decide_eq_true c7
      clear c7
      by_cases c8 : (rd l1 (rd l0 x7_1)) = a2
      case neg =>
        rw [if_neg c8] at H
        have c8b0 : ((rd l1 (rd l0 x7_1)) == a2) = false := beq_eq_false_iff_ne.mpr c8
        have c8b1 : ((rd l1 (rd l0 x7_1)) != a2) = true := bne_iff_ne.mpr c8
        have H' := Aside0.mk H
        clear H
        have p333 : 0 ≤ (x7_1 : Int) := of_decide_eq_true hA_
        have q333 : x7_1 < (l0.length : Int) := of_decide_eq_true hA_
        obtain ⟨ad333, e333, hx333_0⟩ := Kd.at_int HR0.out x7_1 p333 q333
        cases e333
        replace p333 := eq_true p333
        replace q333 := eq_true q333
        have p334 : 0 ≤ ((rd l0 x7_1) : Int) := of_decide_eq_true hA_
        have q334 : (rd l0 x7_1) < (l1.length : Int) := of_decide_eq_true hA_
        obtain ⟨ad334, e334, hx334_0⟩ := Kd.at_int HR1.out (rd l0 x7_1) p334 q334
        cases e334
        replace p334 := eq_true p334
        replace q334 := eq_true q334
        go_wp2
        go_roundg k1
        case measure => have := HK1.out; omega
        case rel => exact ⟨(wrap64 (x7_1 + 1)), hW_, H', ⟨by have := HK1.out; omega⟩, by repeat (first | exact Drawn0.refl _ | apply Drawn0.step)⟩
      rw [if_pos c8] at H
      have c8b0 : ((rd l1 (rd l0 x7_1)) == a2) = true := beq_iff_eq.mpr c8
      have c8b1 : ((rd l1 (rd l0 x7_1)) != a2) = false := bne_eq_false_iff_eq.mpr c8
      clear c8
      obtain rfl := Option.some.inj H
      have p333 : 0 ≤ (x7_1 : Int) := of_decide_eq_true hA_
      have q333 : x7_1 < (l0.length : Int) := of_decide_eq_true hA_
      obtain ⟨ad333, e333, hx333_0⟩ := Kd.at_int HR0.out x7_1 p333 q333
      cases e333
      replace p333 := eq_true p333
      replace q333 := eq_true q333
      have p334 : 0 ≤ ((rd l0 x7_1) : Int) := of_decide_eq_true hA_
      have q334 : (rd l0 x7_1) < (l1.length : Int) := of_decide_eq_true hA_
      obtain ⟨ad334, e334, hx334_0⟩ := Kd.at_int HR1.out (rd l0 x7_1) p334 q334
      cases e334
      replace p334 := eq_true p334
      replace q334 := eq_true q334
      have p335 : 0 ≤ (x7_1 : Int) := of_decide_eq_true hA_
      have q335 : x7_1 < (l0.length : Int) := of_decide_eq_true hA_
      obtain ⟨ad335, e335, hx335_0⟩ := Kd.at_int HR0.out x7_1 p335 q335
      obtain rfl : ad333 = ad335 := (by injection e335)
      replace p335 := eq_true p335
      replace q335 := eq_true q335
      go_wp2
      go_ret
      exact ⟨by first | rfl | (simp; done) | (simp [*]; done), by repeat (first | exact Drawn0.refl _ | apply Drawn0.step)⟩
end Go.Proofs.YtgokcaccamfgfaaGreatDoor.G
end
section
-- Laid by the session's own driver gp.py over the kit's printer. Not trusted: Lean checks it.
namespace Go.Proofs.YtgokcaccamfgfaaGreatDoor.G
open Go.RowKit Go.Proofs.YtgokcaccamfgfaaGreatDoorW.PrintWords Go.Proofs.YtgokcaccamfgfaaGreatDoorW.PrintLast Go.Proofs.YtgokcaccamfgfaaGreatDoorW.PrintMore
attribute [local go_sem] max2_int min2_int max_two min_two max_three min_three max_four min_four   -- for this text's walks alone
set_option linter.unusedVariables false
set_option linter.unusedSimpArgs false

/-! ### sleuthref12_verdict: function 65 -/
def sleuthref12_verdict.l0 : Nat → List Int → Int → List Int → Int → Option (Int × Int)
  | 0, _, _, _, _ => none
  | k + 1, x1, x2, x7, x8 => if x8 < (x7.length : Int) then (if 0 ≤ x8 then (if 0 ≤ (rd x7 x8) then (if (rd x7 x8) < (x1.length : Int) then (if (rd x1 (rd x7 x8)) = 1 then (sleuthref12_verdict.l0 k x1 x2 x7 (wrap64 (x8 + 1))) else (some (3, 0))) else (none)) else (none)) else (none)) else (some (1, x2))
def sleuthref12_verdict.f (k : Nat) (l0 : List (S64)) (l1 : List Int) (a2 : Int) : Option (Int × Int) := (sleuthref12_kids.f k l0 a2).bind fun t337 => (sleuthref12_verdict.l0 k l1 a2 t337 0)
theorem sleuthref12_verdict.mono_l : ∀ k, (∀ y0 y1 y2 y3, LeO (sleuthref12_verdict.l0 k y0 y1 y2 y3) (sleuthref12_verdict.l0 (k + 1) y0 y1 y2 y3))
  | 0 => fun _ _ _ _ r h => by simp [sleuthref12_verdict.l0] at h
  | k + 1 => by
    have ih0 := sleuthref12_verdict.mono_l k
    · intro y0 y1 y2 y3
      unfold sleuthref12_verdict.l0
      repeat' first
      | (with_reducible exact ih0 _ _ _ _)
      | (with_reducible exact sleuthref12_kids.mono _ _ _)
      | (with_reducible exact LeO.refl _)
      | (with_reducible exact LeO.none _)
      | (with_reducible refine LeO.ite ?_ ?_)
      | (with_reducible refine LeO.bind ?_ (fun _ => ?_))
      | exact ih0 _ _ _ _
      | exact sleuthref12_kids.mono _ _ _
      | exact LeO.none _
      | refine LeO.ite ?_ ?_
      | refine LeO.bind ?_ (fun _ => ?_)
theorem sleuthref12_verdict.mono : ∀ a0 a1 a2 k, LeO (sleuthref12_verdict.f k a0 a1 a2) (sleuthref12_verdict.f (k + 1) a0 a1 a2) := by
  intro a0 a1 a2 k
  have ih0 := sleuthref12_verdict.mono_l k
  unfold sleuthref12_verdict.f
  repeat' first
      | (with_reducible exact ih0 _ _ _ _)
      | (with_reducible exact sleuthref12_kids.mono _ _ _)
      | (with_reducible exact LeO.refl _)
      | (with_reducible exact LeO.none _)
      | (with_reducible refine LeO.ite ?_ ?_)
      | (with_reducible refine LeO.bind ?_ (fun _ => ?_))
      | exact ih0 _ _ _ _
      | exact sleuthref12_kids.mono _ _ _
      | exact LeO.none _
      | refine LeO.ite ?_ ?_
      | refine LeO.bind ?_ (fun _ => ?_)
set_option maxHeartbeats 8000000 in
set_option maxRecDepth 100000 in
theorem sleuthref12_verdict.calls (k : Nat) (A0 : Option Addr) (c0 : Nat) (l0 : List (S64)) (A1 : Option Addr) (c1 : Nat) (l1 : List Int) (a2 : Int) (r1 : Int) (r2 : Int) (w : World) (hr0 : Kd.C k64 w A0 l0.length l0) (hc0 : l0.length ≤ c0) (hr1 : Kd.C (Kd.int .i64) w A1 l1.length l1) (hc1 : l1.length ≤ c1) (h : sleuthref12_verdict.f k l0 l1 a2 = some (r1, r2)) :
    Calls Tryz.prog 65 #[.slice A0 l0.length c0, .slice A1 l1.length c1, .int .i64 a2] w fun e w' => e = .returned (.agg #[.int .i64 r1, .int .i64 r2]) ∧ Below w.heap.size w w' := by
  have hu34 := Tryz.underlying34
  have HR0 := Aside0.mk hr0
  have HC0 := Aside0.mk hc0
  clear hr0 hc0
  have HR1 := Aside0.mk hr1
  have HC1 := Aside0.mk hc1
  clear hr1 hc1
  have HB := Aside0.mk (Below.refl w.heap.size w)
  have H : ((sleuthref12_kids.f k l0 a2).bind fun t337 => (sleuthref12_verdict.l0 k l1 a2 t337 0)) = some (r1, r2) := h
  clear h
  replace H := Option.bind_eq_some_iff.mp H
  obtain ⟨t337, A40, H⟩ := H
  replace H : (sleuthref12_verdict.l0 k l1 a2 t337 0) = some (r1, r2) := H
  have A4 := Aside0.mk A40
  clear A40
  have H' := Aside0.mk H
  clear H
  go_enter Tryz.func65, Tryz.ntmps65
  go_wp2_with (first | ((with_reducible refine gate_dst (N := 6) rfl ?_); refine boxE_ 6 #[.int .i64 0, .int .i64 0] 34 ?_; intro gb336 hg w5 hbox hb; have n0_ := Aside0.mk (below_step hB_ hb); have n1_ := Aside0.mk (hbox); have n2_ := Aside0.mk ((gE_ hg : w.heap.size ≤ gb336)); have n3_ := Aside0.mk ((gE_ hg : w.heap.size ≤ gb336)); clear HB; have HB := n0_; have BK336 := n1_; have GW336 := n2_; have GE336 := n3_; clear n0_ n1_ n2_ n3_; clear hb hbox hg) | ((with_reducible refine gate_callee (f := 63) rfl ?_); refine goesL_ (some 11) rfl rfl Tryz.func63 (by kernel_rfl) rfl #[.slice A0 l0.length c0, .int .i64 a2] rfl hL_ ?_; (with_reducible refine (sleuthref12_kids.calls k _ _ l0 a2 t337 _ ?side1 ?side2 A4.out).mono ?_); (case side1 => exact cB_ HR0.out); (case side2 => exact HC0.out); rintro e w6 ⟨v338, rfl, ho0, hb⟩; refine ⟨_, rfl, ?_⟩; have n0_ := Aside0.mk (Kd.R_lower ho0 (below_size hC_)); have n1_ := Aside0.mk (bB_ BK336.out hb); have n2_ := Aside0.mk (below_step hC_ hb); clear BK336 HB; have HO339 := n0_; have BK336 := n1_; have HB := n2_; clear n0_ n1_ n2_; (try clear hb); (try clear hb2); (try clear hk); (try clear hi); (try clear ho0)))
  (try simp only [Act.put, List.setIfInBounds_toArray, List.set_cons_zero, List.set_cons_succ])
  go_loopg [8] k (fun kq v8 w' => ∃ (x8_1 : Int) (x337000_1 : Int) (x337001_1 : Int), v8 = .int .i64 x8_1 ∧ Aside0 (sleuthref12_verdict.l0 kq l1 a2 t337 x8_1 = some (r1, r2)) ∧ Aside0 (kq ≤ k) ∧ Aside0 (Kd.R (Kd.int .i64) 3 w' w.heap.size (fun _ => True) v338 t337) ∧ Aside0 (w'.heap[gb336]? = some (.cells #[.int .i64 x337000_1, .int .i64 x337001_1] 34 (0, 0))) ∧ Aside0 (Below w.heap.size w w'))
  case atStart => exact ⟨(0), (0), (0), hW_, H', ⟨Nat.le_refl _⟩, ⟨hR_ HO339.out⟩, ⟨(hK_ BK336.out)⟩, ⟨hC_⟩⟩
  case round =>
    clear H'
    try clear c1
    try clear p2
    try clear c6
    obtain ⟨x8_1, x337000_1, x337001_1, rfl, HA, HK1, HO_7, BK336, HB⟩ := hrel
    cases gk with
    | zero => exact absurd HA.out (by simp [sleuthref12_verdict.l0])
    | succ k1 =>
      have H := HA.out
      clear HA
      simp only [sleuthref12_verdict.l0] at H
      by_cases c7 : x8_1 < (t337.length : Int)
      case neg =>
        rw [if_neg c7] at H
        have c7b0 : decide (x8_1 < (t337.length : Int)) = false := decide_eq_false c7
        clear c7
        simp only [Option.some.injEq, Prod.mk.injEq] at H
        obtain ⟨rfl, rfl⟩ := H
        obtain ⟨Ao15, co15, eo15⟩ := Kd.R_slice HO_7.out
        subst eo15
        obtain ⟨hcz16_0, hcz16_1, hfz16_0, hfz16_1⟩ := bx2_ BK336.out
        go_wp2
        refine bodyPost_ret (results_cell_row rfl _ _ gb336 34 #[.int .i64 1, .int .i64 a2] (0, 0) _ rfl (bP_ (bP_ (hK_ BK336.out))) Tryz.underlying34 rfl (by kernel_rfl)) rfl ?_
        exact ⟨hV_, hC_⟩

      rw [if_pos c7] at H
      have c7b0 : decide (x8_1 < (t337.length : Int)) = true := decide_eq_true c7
      clear c7
      replace H := ifI_ H; obtain ⟨c8, H⟩ := H
      have c8b0 : decide (0 ≤ x8_1) = true := decide_eq_true c8
      clear c8
      replace H := ifI_ H; obtain ⟨c9, H⟩ := H
      have c9b0 : decide (0 ≤ (rd t337 x8_1)) = true := decide_eq_true c9
      clear c9
      replace H := ifI_ H; obtain ⟨c10, H⟩ := H
      have c10b0 : decide ((rd t337 x8_1) < (l1.length : Int)) = true := decide_eq_true c10
      clear c10
      by_cases c11 : (rd l1 (rd t337 x8_1)) = 1
      case pos =>
        rw [if_pos c11] at H
        have c11b0 : ((rd l1 (rd t337 x8_1)) == 1) = true := beq_iff_eq.mpr c11
        have c11b1 : ((rd l1 (rd t337 x8_1)) != 1) = false := bne_eq_false_iff_eq.mpr c11
        clear c11
        have H' := Aside0.mk H
        clear H
        obtain ⟨Ao12, co12, eo12⟩ := Kd.R_slice HO_7.out
        subst eo12
        have p340 : 0 ≤ (x8_1 : Int) := of_decide_eq_true hA_
        have q340 : x8_1 < (t337.length : Int) := of_decide_eq_true hA_
        obtain ⟨ad340, e340, hx340_0⟩ := Kd.at_int (Kd.R_reads' HO_7.out).2.2 x8_1 p340 q340
        cases e340
        replace p340 := eq_true p340
        replace q340 := eq_true q340
        have p341 : 0 ≤ ((rd t337 x8_1) : Int) := of_decide_eq_true hA_
        have q341 : (rd t337 x8_1) < (l1.length : Int) := of_decide_eq_true hA_
        obtain ⟨ad341, e341, hx341_0⟩ := Kd.at_int HR1.out (rd t337 x8_1) p341 q341
        cases e341
        replace hx341_0 := cl_ HB.out hx341_0
        replace p341 := eq_true p341
        replace q341 := eq_true q341
        go_wp2
        go_roundg k1
        case measure => have := HK1.out; omega
        case rel => exact ⟨(wrap64 (x8_1 + 1)), (x337000_1), (x337001_1), hW_, H', ⟨by have := HK1.out; omega⟩, ⟨hR_ HO_7.out⟩, ⟨(hK_ BK336.out)⟩, ⟨hC_⟩⟩
      rw [if_neg c11] at H
      have c11b0 : ((rd l1 (rd t337 x8_1)) == 1) = false := beq_eq_false_iff_ne.mpr c11
      have c11b1 : ((rd l1 (rd t337 x8_1)) != 1) = true := bne_iff_ne.mpr c11
      simp only [Option.some.injEq, Prod.mk.injEq] at H
      obtain ⟨rfl, rfl⟩ := H
      obtain ⟨Ao13, co13, eo13⟩ := Kd.R_slice HO_7.out
      subst eo13
      have p340 : 0 ≤ (x8_1 : Int) := of_decide_eq_true hA_
      have q340 : x8_1 < (t337.length : Int) := of_decide_eq_true hA_
      obtain ⟨ad340, e340, hx340_0⟩ := Kd.at_int (Kd.R_reads' HO_7.out).2.2 x8_1 p340 q340
      cases e340
      replace p340 := eq_true p340
      replace q340 := eq_true q340
      have p341 : 0 ≤ ((rd t337 x8_1) : Int) := of_decide_eq_true hA_
      have q341 : (rd t337 x8_1) < (l1.length : Int) := of_decide_eq_true hA_
      obtain ⟨ad341, e341, hx341_0⟩ := Kd.at_int HR1.out (rd t337 x8_1) p341 q341
      cases e341
      replace hx341_0 := cl_ HB.out hx341_0
      replace p341 := eq_true p341
      replace q341 := eq_true q341
      obtain ⟨hcz14_0, hcz14_1, hfz14_0, hfz14_1⟩ := bx2_ BK336.out
      go_wp2
      refine bodyPost_ret (results_cell_row rfl _ _ gb336 34 #[.int .i64 3, .int .i64 0] (0, 0) _ rfl (bP_ (bP_ (hK_ BK336.out))) Tryz.underlying34 rfl (by kernel_rfl)) rfl ?_
      exact ⟨hV_, hC_⟩
end Go.Proofs.YtgokcaccamfgfaaGreatDoor.G
end
section
-- Laid by the session's own driver gp.py over the kit's printer. Not trusted: Lean checks it.
namespace Go.Proofs.YtgokcaccamfgfaaGreatDoor.G
open Go.RowKit Go.Proofs.YtgokcaccamfgfaaGreatDoorW.PrintWords Go.Proofs.YtgokcaccamfgfaaGreatDoorW.PrintLast Go.Proofs.YtgokcaccamfgfaaGreatDoorW.PrintMore
attribute [local go_sem] max2_int min2_int max_two min_two max_three min_three max_four min_four   -- for this text's walks alone
set_option linter.unusedVariables false
set_option linter.unusedSimpArgs false

/-! ### sleuthref12_topDown: function 45 -/
def sleuthref12_topDown.l0 : Nat → List (S64) → List Int → Int → Option (Int × Int)
  | 0, _, _, _ => none
  | k + 1, x0, x1, x5 => (sleuthref12_kids.f k x0 x5).bind fun t347 => ((sleuthref12_firstOf.f k t347 x1 2).bind fun t350 => (if t350 < 0 then ((sleuthref12_kids.f k x0 x5).bind fun t351 => ((sleuthref12_firstOf.f k t351 x1 0).bind fun t354 => (if t354 ≥ 0 then (some (0, t354)) else ((sleuthref12_verdict.f k x0 x1 x5).bind fun bt355 => (some (bt355.1, bt355.2)))))) else (sleuthref12_topDown.l0 k x0 x1 t350)))
def sleuthref12_topDown.f (k : Nat) (l0 : List (S64)) (l1 : List Int) : Option (Int × Int) := if 0 < (l1.length : Int) then (if (rd l1 0) = 2 then (sleuthref12_topDown.l0 k l0 l1 0) else ((sleuthref12_rooted.f (rd l1 0)).bind fun bt345 => (some (bt345.1, bt345.2)))) else (none)
theorem sleuthref12_topDown.mono_l : ∀ k, (∀ y0 y1 y2, LeO (sleuthref12_topDown.l0 k y0 y1 y2) (sleuthref12_topDown.l0 (k + 1) y0 y1 y2))
  | 0 => fun _ _ _ r h => by simp [sleuthref12_topDown.l0] at h
  | k + 1 => by
    have ih0 := sleuthref12_topDown.mono_l k
    · intro y0 y1 y2
      unfold sleuthref12_topDown.l0
      repeat' first
      | (with_reducible exact ih0 _ _ _)
      | (with_reducible exact sleuthref12_firstOf.mono _ _ _ _)
      | (with_reducible exact sleuthref12_kids.mono _ _ _)
      | (with_reducible exact sleuthref12_verdict.mono _ _ _ _)
      | (with_reducible exact LeO.refl _)
      | (with_reducible exact LeO.none _)
      | (with_reducible refine LeO.ite ?_ ?_)
      | (with_reducible refine LeO.bind ?_ (fun _ => ?_))
      | exact ih0 _ _ _
      | exact sleuthref12_firstOf.mono _ _ _ _
      | exact sleuthref12_kids.mono _ _ _
      | exact sleuthref12_verdict.mono _ _ _ _
      | exact LeO.none _
      | refine LeO.ite ?_ ?_
      | refine LeO.bind ?_ (fun _ => ?_)
theorem sleuthref12_topDown.mono : ∀ a0 a1 k, LeO (sleuthref12_topDown.f k a0 a1) (sleuthref12_topDown.f (k + 1) a0 a1) := by
  intro a0 a1 k
  have ih0 := sleuthref12_topDown.mono_l k
  unfold sleuthref12_topDown.f
  repeat' first
      | (with_reducible exact ih0 _ _ _)
      | (with_reducible exact sleuthref12_firstOf.mono _ _ _ _)
      | (with_reducible exact sleuthref12_kids.mono _ _ _)
      | (with_reducible exact sleuthref12_verdict.mono _ _ _ _)
      | (with_reducible exact LeO.refl _)
      | (with_reducible exact LeO.none _)
      | (with_reducible refine LeO.ite ?_ ?_)
      | (with_reducible refine LeO.bind ?_ (fun _ => ?_))
      | exact ih0 _ _ _
      | exact sleuthref12_firstOf.mono _ _ _ _
      | exact sleuthref12_kids.mono _ _ _
      | exact sleuthref12_verdict.mono _ _ _ _
      | exact LeO.none _
      | refine LeO.ite ?_ ?_
      | refine LeO.bind ?_ (fun _ => ?_)
set_option maxHeartbeats 8000000 in
set_option maxRecDepth 100000 in
theorem sleuthref12_topDown.calls (k : Nat) (A0 : Option Addr) (c0 : Nat) (l0 : List (S64)) (A1 : Option Addr) (c1 : Nat) (l1 : List Int) (r1 : Int) (r2 : Int) (w : World) (hr0 : Kd.C k64 w A0 l0.length l0) (hc0 : l0.length ≤ c0) (hr1 : Kd.C (Kd.int .i64) w A1 l1.length l1) (hc1 : l1.length ≤ c1) (h : sleuthref12_topDown.f k l0 l1 = some (r1, r2)) :
    Calls Tryz.prog 45 #[.slice A0 l0.length c0, .slice A1 l1.length c1] w fun e w' => e = .returned (.agg #[.int .i64 r1, .int .i64 r2]) ∧ Below w.heap.size w w' := by
  have hu34 := Tryz.underlying34
  have HR0 := Aside0.mk hr0
  have HC0 := Aside0.mk hc0
  clear hr0 hc0
  have HR1 := Aside0.mk hr1
  have HC1 := Aside0.mk hc1
  clear hr1 hc1
  have HB := Aside0.mk (Below.refl w.heap.size w)
  have H : (if 0 < (l1.length : Int) then (if (rd l1 0) = 2 then (sleuthref12_topDown.l0 k l0 l1 0) else ((sleuthref12_rooted.f (rd l1 0)).bind fun bt345 => (some (bt345.1, bt345.2)))) else (none)) = some (r1, r2) := h
  clear h
  replace H := ifI_ H; obtain ⟨c3, H⟩ := H
  have c3b0 : decide (0 < (l1.length : Int)) = true := decide_eq_true c3
  have c3b1 : decide (0 < l1.length) = true := decide_eq_true (by omega)
  clear c3
  by_cases c4 : (rd l1 0) = 2
  case neg =>
    rw [if_neg c4] at H
    have c4b0 : ((rd l1 0) == 2) = false := beq_eq_false_iff_ne.mpr c4
    have c4b1 : ((rd l1 0) != 2) = true := bne_iff_ne.mpr c4
    replace H := Option.bind_eq_some_iff.mp H
    obtain ⟨⟨t345, t346⟩, A260, H⟩ := H
    replace H : (some (t345, t346)) = some (r1, r2) := H
    have A26 := Aside0.mk A260
    clear A260
    simp only [Option.some.injEq, Prod.mk.injEq] at H
    obtain ⟨rfl, rfl⟩ := H
    go_enter Tryz.func45, Tryz.ntmps45
    go_wp2_with (first | ((with_reducible refine gate_dst (N := 4) rfl ?_); refine boxE_ 4 #[.int .i64 0, .int .i64 0] 34 ?_; intro gb342 hg w27 hbox hb; have n0_ := Aside0.mk (below_step hB_ hb); have n1_ := Aside0.mk (hbox); have n2_ := Aside0.mk ((gE_ hg : w.heap.size ≤ gb342)); have n3_ := Aside0.mk ((gE_ hg : w.heap.size ≤ gb342)); clear HB; have HB := n0_; have BK342 := n1_; have GW342 := n2_; have GE342 := n3_; clear n0_ n1_ n2_ n3_; clear hb hbox hg; have p343 : 0 ≤ (0 : Int) := (by omega); have q343 : 0 < (l1.length : Int) := of_decide_eq_true hA_; obtain ⟨ad343, e343, hx343_0⟩ := Kd.at_int HR1.out 0 p343 q343; cases e343; have qi343 : (0 < l1.length) = True := eq_true (by omega); (try rw [show ((0 : Int)).toNat = 0 from rfl] at hx343_0); (try rw [Addr.add_zero'] at hx343_0); replace hx343_0 := cl_ HB.out hx343_0; replace p343 := eq_true p343; replace q343 := eq_true q343; have p344 : 0 ≤ (0 : Int) := (by omega); have q344 : 0 < (l1.length : Int) := of_decide_eq_true hA_; obtain ⟨ad344, e344, hx344_0⟩ := Kd.at_int HR1.out 0 p344 q344; obtain rfl : ad343 = ad344 := (by injection e344); have qi344 : (0 < l1.length) = True := eq_true (by omega); (try rw [show ((0 : Int)).toNat = 0 from rfl] at hx344_0); (try rw [Addr.add_zero'] at hx344_0); replace hx344_0 := cl_ HB.out hx344_0; replace p344 := eq_true p344; replace q344 := eq_true q344) | ((with_reducible refine gate_callee (f := 62) rfl ?_); refine goesL_ (some 16) rfl rfl Tryz.func62 (by kernel_rfl) rfl #[.int .i64 (rd l1 0)] rfl hL_ ?_; (with_reducible refine (sleuthref12_rooted.calls (rd l1 0) t345 t346 _ A26.out).mono ?_); rintro e w28 ⟨rfl, hb⟩; refine ⟨_, rfl, ?_⟩; have n0_ := Aside0.mk (bB_ BK342.out hb); have n1_ := Aside0.mk (below_step hC_ hb); clear BK342 HB; have BK342 := n0_; have HB := n1_; clear n0_ n1_; (try clear hb); (try clear hb2); (try clear hk); (try clear hi); obtain ⟨hcz29_0, hcz29_1, hfz29_0, hfz29_1⟩ := bx2_ BK342.out))
    refine bodyPost_ret (results_cell_row rfl _ _ gb342 34 #[.int .i64 t345, .int .i64 t346] (0, 0) _ rfl (bP_ (bP_ (hK_ BK342.out))) Tryz.underlying34 rfl (by kernel_rfl)) rfl ?_
    exact ⟨hV_, hC_⟩
  rw [if_pos c4] at H
  have c4b0 : ((rd l1 0) == 2) = true := beq_iff_eq.mpr c4
  have c4b1 : ((rd l1 0) != 2) = false := bne_eq_false_iff_eq.mpr c4
  clear c4
  have H' := Aside0.mk H
  clear H
  go_enter Tryz.func45, Tryz.ntmps45
  go_wp2_with (first | ((with_reducible refine gate_dst (N := 4) rfl ?_); refine boxE_ 4 #[.int .i64 0, .int .i64 0] 34 ?_; intro gb342 hg w5 hbox hb; have n0_ := Aside0.mk (below_step hB_ hb); have n1_ := Aside0.mk (hbox); have n2_ := Aside0.mk ((gE_ hg : w.heap.size ≤ gb342)); have n3_ := Aside0.mk ((gE_ hg : w.heap.size ≤ gb342)); clear HB; have HB := n0_; have BK342 := n1_; have GW342 := n2_; have GE342 := n3_; clear n0_ n1_ n2_ n3_; clear hb hbox hg; have p343 : 0 ≤ (0 : Int) := (by omega); have q343 : 0 < (l1.length : Int) := of_decide_eq_true hA_; obtain ⟨ad343, e343, hx343_0⟩ := Kd.at_int HR1.out 0 p343 q343; cases e343; have qi343 : (0 < l1.length) = True := eq_true (by omega); (try rw [show ((0 : Int)).toNat = 0 from rfl] at hx343_0); (try rw [Addr.add_zero'] at hx343_0); replace hx343_0 := cl_ HB.out hx343_0; replace p343 := eq_true p343; replace q343 := eq_true q343))
  (try simp only [Act.put, List.setIfInBounds_toArray, List.set_cons_zero, List.set_cons_succ])
  go_loopg [5] k (fun kq v5 w' => ∃ (x5_1 : Int), v5 = .int .i64 x5_1 ∧ Aside0 (sleuthref12_topDown.l0 kq l0 l1 x5_1 = some (r1, r2)) ∧ Aside0 (kq ≤ k) ∧ Aside0 (w'.heap[gb342]? = some (.cells #[.int .i64 0, .int .i64 0] 34 (0, 0))) ∧ Aside0 (Below w.heap.size w w'))
  case atStart => exact ⟨(0), hW_, H', ⟨Nat.le_refl _⟩, ⟨(hK_ BK342.out)⟩, ⟨hC_⟩⟩
  case round =>
    clear H'
    try clear c1
    try clear p2
    try clear c3
    try clear c3b0
    try clear c3b1
    try clear p3
    try clear q3
    try clear hx3
    try clear qi3
    try clear c4
    try clear c4b0
    try clear c4b1
    try clear hx343_0
    try clear p343
    try clear q343
    obtain ⟨x5_1, rfl, HA, HK1, BK342, HB⟩ := hrel
    cases gk with
    | zero => exact absurd HA.out (by simp [sleuthref12_topDown.l0])
    | succ k1 =>
      have H := HA.out
      clear HA
      simp only [sleuthref12_topDown.l0] at H
      replace H := Option.bind_eq_some_iff.mp H
      obtain ⟨t347, A60, H⟩ := H
      replace H : ((sleuthref12_firstOf.f k1 t347 l1 2).bind fun t350 => (if t350 < 0 then ((sleuthref12_kids.f k1 l0 x5_1).bind fun t351 => ((sleuthref12_firstOf.f k1 t351 l1 0).bind fun t354 => (if t354 ≥ 0 then (some (0, t354)) else ((sleuthref12_verdict.f k1 l0 l1 x5_1).bind fun bt355 => (some (bt355.1, bt355.2)))))) else (sleuthref12_topDown.l0 k1 l0 l1 t350))) = some (r1, r2) := H
      have A6 := Aside0.mk A60
      clear A60
      replace H := Option.bind_eq_some_iff.mp H
      obtain ⟨t350, A70, H⟩ := H
      replace H : (if t350 < 0 then ((sleuthref12_kids.f k1 l0 x5_1).bind fun t351 => ((sleuthref12_firstOf.f k1 t351 l1 0).bind fun t354 => (if t354 ≥ 0 then (some (0, t354)) else ((sleuthref12_verdict.f k1 l0 l1 x5_1).bind fun bt355 => (some (bt355.1, bt355.2)))))) else (sleuthref12_topDown.l0 k1 l0 l1 t350)) = some (r1, r2) := H
      have A7 := Aside0.mk A70
      clear A70
      by_cases c8 : t350 < 0
      case neg =>
        rw [if_neg c8] at H
        have c8b0 : decide (t350 < 0) = false := decide_eq_false c8
        clear c8
        have H' := Aside0.mk H
        clear H
        go_wp2_with (first | ((with_reducible refine gate_callee (f := 63) rfl ?_); refine goesL_ (some 19) rfl rfl Tryz.func63 (by kernel_rfl) rfl #[.slice A0 l0.length c0, .int .i64 x5_1] rfl hL_ ?_; (with_reducible refine (sleuthref12_kids.calls k1 _ _ l0 x5_1 t347 _ ?side1 ?side2 A6.out).mono ?_); (case side1 => exact cB_ HR0.out); (case side2 => exact HC0.out); rintro e w24 ⟨v348, rfl, ho0, hb⟩; refine ⟨_, rfl, ?_⟩; have n0_ := Aside0.mk (Kd.R_lower ho0 (below_size hC_)); have n1_ := Aside0.mk (bB_ BK342.out hb); have n2_ := Aside0.mk (below_step hC_ hb); clear BK342 HB; have HO349 := n0_; have BK342 := n1_; have HB := n2_; clear n0_ n1_ n2_; (try clear hb); (try clear hb2); (try clear hk); (try clear hi); (try clear ho0); obtain ⟨Ao25, co25, eo25⟩ := Kd.R_slice HO349.out; subst eo25) | ((with_reducible refine gate_callee (f := 64) rfl ?_); refine goesL_ (some 22) rfl rfl Tryz.func64 (by kernel_rfl) rfl #[.slice Ao25 t347.length co25, .slice (some ad343) l1.length c1, .int .i64 2] rfl hL_ ?_; (with_reducible refine (sleuthref12_firstOf.calls k1 _ _ t347 _ _ l1 2 t350 _ ?side1 ?side2 ?side3 ?side4 A7.out).mono ?_); (case side1 => exact cC_ (Kd.R_reads' HO349.out).2.2); (case side2 => exact (Kd.R_reads' HO349.out).2.1); (case side3 => exact cB_ HR1.out); (case side4 => exact HC1.out); rintro e w' ⟨rfl, ⟨nd, rfl⟩⟩; refine ⟨_, rfl, ?_⟩))
        go_roundg k1
        case measure => have := HK1.out; omega
        case rel => exact ⟨(t350), hW_, H', ⟨by have := HK1.out; omega⟩, ⟨(hK_ BK342.out)⟩, ⟨hC_⟩⟩
      rw [if_pos c8] at H
      have c8b0 : decide (t350 < 0) = true := decide_eq_true c8
      clear c8
      replace H := Option.bind_eq_some_iff.mp H
      obtain ⟨t351, A90, H⟩ := H
      replace H : ((sleuthref12_firstOf.f k1 t351 l1 0).bind fun t354 => (if t354 ≥ 0 then (some (0, t354)) else ((sleuthref12_verdict.f k1 l0 l1 x5_1).bind fun bt355 => (some (bt355.1, bt355.2))))) = some (r1, r2) := H
      have A9 := Aside0.mk A90
      clear A90
      replace H := Option.bind_eq_some_iff.mp H
      obtain ⟨t354, A100, H⟩ := H
      replace H : (if t354 ≥ 0 then (some (0, t354)) else ((sleuthref12_verdict.f k1 l0 l1 x5_1).bind fun bt355 => (some (bt355.1, bt355.2)))) = some (r1, r2) := H
      have A10 := Aside0.mk A100
      clear A100
      by_cases c11 : t354 ≥ 0
      case pos =>
        rw [if_pos c11] at H
        have c11b0 : decide (0 ≤ t354) = true := decide_eq_true c11
        clear c11
        simp only [Option.some.injEq, Prod.mk.injEq] at H
        obtain ⟨rfl, rfl⟩ := H
        go_wp2_with (first | ((with_reducible refine gate_callee (f := 63) rfl ?_); refine goesL_ (some 19) rfl rfl Tryz.func63 (by kernel_rfl) rfl #[.slice A0 l0.length c0, .int .i64 x5_1] rfl hL_ ?_; (with_reducible refine (sleuthref12_kids.calls k1 _ _ l0 x5_1 t347 _ ?side1 ?side2 A6.out).mono ?_); (case side1 => exact cB_ HR0.out); (case side2 => exact HC0.out); rintro e w12 ⟨v348, rfl, ho0, hb⟩; refine ⟨_, rfl, ?_⟩; have n0_ := Aside0.mk (Kd.R_lower ho0 (below_size hC_)); have n1_ := Aside0.mk (bB_ BK342.out hb); have n2_ := Aside0.mk (below_step hC_ hb); clear BK342 HB; have HO349 := n0_; have BK342 := n1_; have HB := n2_; clear n0_ n1_ n2_; (try clear hb); (try clear hb2); (try clear hk); (try clear hi); (try clear ho0); obtain ⟨Ao13, co13, eo13⟩ := Kd.R_slice HO349.out; subst eo13) | ((with_reducible refine gate_callee (f := 64) rfl ?_); refine goesL_ (some 22) rfl rfl Tryz.func64 (by kernel_rfl) rfl #[.slice Ao13 t347.length co13, .slice (some ad343) l1.length c1, .int .i64 2] rfl hL_ ?_; (with_reducible refine (sleuthref12_firstOf.calls k1 _ _ t347 _ _ l1 2 t350 _ ?side1 ?side2 ?side3 ?side4 A7.out).mono ?_); (case side1 => exact cC_ (Kd.R_reads' HO349.out).2.2); (case side2 => exact (Kd.R_reads' HO349.out).2.1); (case side3 => exact cB_ HR1.out); (case side4 => exact HC1.out); rintro e w' ⟨rfl, ⟨nd, rfl⟩⟩; refine ⟨_, rfl, ?_⟩; (try (rw [drewN_self w12]; generalize hq_ : World.drewN w12 _ = w12; have n0_ : Aside0 (Kd.R (Kd.int .i64) 3 w12 w.heap.size (fun _ => True) (.slice Ao13 t347.length co13) t347) := ⟨by rw [← hq_]; exact (hR_ HO349.out)⟩; have n1_ : Aside0 (w12.heap[gb342]? = some (.cells #[.int .i64 0, .int .i64 0] 34 (0, 0))) := ⟨by rw [← hq_]; exact (hK_ BK342.out)⟩; have n2_ : Aside0 (Below w.heap.size w w12) := ⟨by rw [← hq_]; exact hC_⟩; clear HO349 BK342 HB hq_; have HO349 := n0_; have BK342 := n1_; have HB := n2_; clear n0_ n1_ n2_; (try have hcu0_0 := bc0_ BK342.out); (try have hfu0_0 := blk_frozen BK342.out 0); (try have hcu0_1 := bc1_ BK342.out); (try have hfu0_1 := blk_frozen BK342.out 1)))) | ((with_reducible refine gate_callee (f := 63) rfl ?_); refine goesL_ (some 28) rfl rfl Tryz.func63 (by kernel_rfl) rfl #[.slice A0 l0.length c0, .int .i64 x5_1] rfl hL_ ?_; (with_reducible refine (sleuthref12_kids.calls k1 _ _ l0 x5_1 t351 _ ?side1 ?side2 A9.out).mono ?_); (case side1 => exact cB_ HR0.out); (case side2 => exact HC0.out); rintro e w14 ⟨v352, rfl, ho0, hb⟩; refine ⟨_, rfl, ?_⟩; have n0_ := Aside0.mk (Kd.R_elder' (hR_ HO349.out) (Kd.R_base ho0) hb); have n1_ := Aside0.mk (Kd.R_lower (Kd.R_new' ho0 (Kd.R_lt (hR_ HO349.out))) (below_size hC_)); have n2_ := Aside0.mk (bB_ BK342.out hb); have n3_ := Aside0.mk (below_step hC_ hb); clear HO349 BK342 HB; have HO349 := n0_; have HO353 := n1_; have BK342 := n2_; have HB := n3_; clear n0_ n1_ n2_ n3_; (try clear hb); (try clear hb2); (try clear hk); (try clear hi); (try clear ho0); obtain ⟨Ao15, co15, eo15⟩ := Kd.R_slice HO353.out; subst eo15) | ((with_reducible refine gate_callee (f := 64) rfl ?_); refine goesL_ (some 30) rfl rfl Tryz.func64 (by kernel_rfl) rfl #[.slice Ao15 t351.length co15, .slice (some ad343) l1.length c1, .int .i64 0] rfl hL_ ?_; (with_reducible refine (sleuthref12_firstOf.calls k1 _ _ t351 _ _ l1 0 t354 _ ?side1 ?side2 ?side3 ?side4 A10.out).mono ?_); (case side1 => exact cC_ (Kd.R_reads' HO353.out).2.2); (case side2 => exact (Kd.R_reads' HO353.out).2.1); (case side3 => exact cB_ HR1.out); (case side4 => exact HC1.out); rintro e w' ⟨rfl, ⟨nd, rfl⟩⟩; refine ⟨_, rfl, ?_⟩; (try (rw [drewN_self w14]; generalize hq_ : World.drewN w14 _ = w14; have n0_ : Aside0 (Kd.R (Kd.int .i64) 3 w14 w.heap.size (fun k_ => some k_ ≠ (.slice Ao15 t351.length co15 : Value).ownBlock) (.slice Ao13 t347.length co13) t347) := ⟨by rw [← hq_]; exact (by (with_reducible repeat (first | apply Kd.R_alloc | apply Kd.R_drewN | apply Kd.R_drew)); exact Kd.R_mono HO349.out (fun _ hk => hk.2))⟩; have n1_ : Aside0 (Kd.R (Kd.int .i64) 3 w14 w.heap.size (fun k_ => some k_ ≠ (.slice Ao13 t347.length co13 : Value).ownBlock) (.slice Ao15 t351.length co15) t351) := ⟨by rw [← hq_]; exact (by (with_reducible repeat (first | apply Kd.R_alloc | apply Kd.R_drewN | apply Kd.R_drew)); exact Kd.R_mono HO353.out (fun _ hk => hk.2))⟩; have n2_ : Aside0 (w14.heap[gb342]? = some (.cells #[.int .i64 0, .int .i64 0] 34 (0, 0))) := ⟨by rw [← hq_]; exact (hK_ BK342.out)⟩; have n3_ : Aside0 (Below w.heap.size w w14) := ⟨by rw [← hq_]; exact hC_⟩; clear HO349 HO353 BK342 HB hq_; have HO349 := n0_; have HO353 := n1_; have BK342 := n2_; have HB := n3_; clear n0_ n1_ n2_ n3_; (try have hcu0_0 := bc0_ BK342.out); (try have hfu0_0 := blk_frozen BK342.out 0); (try have hcu0_1 := bc1_ BK342.out); (try have hfu0_1 := blk_frozen BK342.out 1))); obtain ⟨hcz16_0, hcz16_1, hfz16_0, hfz16_1⟩ := bx2_ BK342.out))
        refine bodyPost_ret (results_cell_row rfl _ _ gb342 34 #[.int .i64 0, .int .i64 t354] (0, 0) _ rfl (bP_ (bP_ (hK_ BK342.out))) Tryz.underlying34 rfl (by kernel_rfl)) rfl ?_
        exact ⟨hV_, hC_⟩
      rw [if_neg c11] at H
      have c11b0 : decide (0 ≤ t354) = false := decide_eq_false c11
      clear c11
      replace H := Option.bind_eq_some_iff.mp H
      obtain ⟨⟨t355, t356⟩, A170, H⟩ := H
      replace H : (some (t355, t356)) = some (r1, r2) := H
      have A17 := Aside0.mk A170
      clear A170
      simp only [Option.some.injEq, Prod.mk.injEq] at H
      obtain ⟨rfl, rfl⟩ := H
      go_wp2_with (first | ((with_reducible refine gate_callee (f := 63) rfl ?_); refine goesL_ (some 19) rfl rfl Tryz.func63 (by kernel_rfl) rfl #[.slice A0 l0.length c0, .int .i64 x5_1] rfl hL_ ?_; (with_reducible refine (sleuthref12_kids.calls k1 _ _ l0 x5_1 t347 _ ?side1 ?side2 A6.out).mono ?_); (case side1 => exact cB_ HR0.out); (case side2 => exact HC0.out); rintro e w18 ⟨v348, rfl, ho0, hb⟩; refine ⟨_, rfl, ?_⟩; have n0_ := Aside0.mk (Kd.R_lower ho0 (below_size hC_)); have n1_ := Aside0.mk (bB_ BK342.out hb); have n2_ := Aside0.mk (below_step hC_ hb); clear BK342 HB; have HO349 := n0_; have BK342 := n1_; have HB := n2_; clear n0_ n1_ n2_; (try clear hb); (try clear hb2); (try clear hk); (try clear hi); (try clear ho0); obtain ⟨Ao19, co19, eo19⟩ := Kd.R_slice HO349.out; subst eo19) | ((with_reducible refine gate_callee (f := 64) rfl ?_); refine goesL_ (some 22) rfl rfl Tryz.func64 (by kernel_rfl) rfl #[.slice Ao19 t347.length co19, .slice (some ad343) l1.length c1, .int .i64 2] rfl hL_ ?_; (with_reducible refine (sleuthref12_firstOf.calls k1 _ _ t347 _ _ l1 2 t350 _ ?side1 ?side2 ?side3 ?side4 A7.out).mono ?_); (case side1 => exact cC_ (Kd.R_reads' HO349.out).2.2); (case side2 => exact (Kd.R_reads' HO349.out).2.1); (case side3 => exact cB_ HR1.out); (case side4 => exact HC1.out); rintro e w' ⟨rfl, ⟨nd, rfl⟩⟩; refine ⟨_, rfl, ?_⟩; (try (rw [drewN_self w18]; generalize hq_ : World.drewN w18 _ = w18; have n0_ : Aside0 (Kd.R (Kd.int .i64) 3 w18 w.heap.size (fun _ => True) (.slice Ao19 t347.length co19) t347) := ⟨by rw [← hq_]; exact (hR_ HO349.out)⟩; have n1_ : Aside0 (w18.heap[gb342]? = some (.cells #[.int .i64 0, .int .i64 0] 34 (0, 0))) := ⟨by rw [← hq_]; exact (hK_ BK342.out)⟩; have n2_ : Aside0 (Below w.heap.size w w18) := ⟨by rw [← hq_]; exact hC_⟩; clear HO349 BK342 HB hq_; have HO349 := n0_; have BK342 := n1_; have HB := n2_; clear n0_ n1_ n2_; (try have hcu0_0 := bc0_ BK342.out); (try have hfu0_0 := blk_frozen BK342.out 0); (try have hcu0_1 := bc1_ BK342.out); (try have hfu0_1 := blk_frozen BK342.out 1)))) | ((with_reducible refine gate_callee (f := 63) rfl ?_); refine goesL_ (some 28) rfl rfl Tryz.func63 (by kernel_rfl) rfl #[.slice A0 l0.length c0, .int .i64 x5_1] rfl hL_ ?_; (with_reducible refine (sleuthref12_kids.calls k1 _ _ l0 x5_1 t351 _ ?side1 ?side2 A9.out).mono ?_); (case side1 => exact cB_ HR0.out); (case side2 => exact HC0.out); rintro e w20 ⟨v352, rfl, ho0, hb⟩; refine ⟨_, rfl, ?_⟩; have n0_ := Aside0.mk (Kd.R_elder' (hR_ HO349.out) (Kd.R_base ho0) hb); have n1_ := Aside0.mk (Kd.R_lower (Kd.R_new' ho0 (Kd.R_lt (hR_ HO349.out))) (below_size hC_)); have n2_ := Aside0.mk (bB_ BK342.out hb); have n3_ := Aside0.mk (below_step hC_ hb); clear HO349 BK342 HB; have HO349 := n0_; have HO353 := n1_; have BK342 := n2_; have HB := n3_; clear n0_ n1_ n2_ n3_; (try clear hb); (try clear hb2); (try clear hk); (try clear hi); (try clear ho0); obtain ⟨Ao21, co21, eo21⟩ := Kd.R_slice HO353.out; subst eo21) | ((with_reducible refine gate_callee (f := 64) rfl ?_); refine goesL_ (some 30) rfl rfl Tryz.func64 (by kernel_rfl) rfl #[.slice Ao21 t351.length co21, .slice (some ad343) l1.length c1, .int .i64 0] rfl hL_ ?_; (with_reducible refine (sleuthref12_firstOf.calls k1 _ _ t351 _ _ l1 0 t354 _ ?side1 ?side2 ?side3 ?side4 A10.out).mono ?_); (case side1 => exact cC_ (Kd.R_reads' HO353.out).2.2); (case side2 => exact (Kd.R_reads' HO353.out).2.1); (case side3 => exact cB_ HR1.out); (case side4 => exact HC1.out); rintro e w' ⟨rfl, ⟨nd, rfl⟩⟩; refine ⟨_, rfl, ?_⟩; (try (rw [drewN_self w20]; generalize hq_ : World.drewN w20 _ = w20; have n0_ : Aside0 (Kd.R (Kd.int .i64) 3 w20 w.heap.size (fun k_ => some k_ ≠ (.slice Ao21 t351.length co21 : Value).ownBlock) (.slice Ao19 t347.length co19) t347) := ⟨by rw [← hq_]; exact (by (with_reducible repeat (first | apply Kd.R_alloc | apply Kd.R_drewN | apply Kd.R_drew)); exact Kd.R_mono HO349.out (fun _ hk => hk.2))⟩; have n1_ : Aside0 (Kd.R (Kd.int .i64) 3 w20 w.heap.size (fun k_ => some k_ ≠ (.slice Ao19 t347.length co19 : Value).ownBlock) (.slice Ao21 t351.length co21) t351) := ⟨by rw [← hq_]; exact (by (with_reducible repeat (first | apply Kd.R_alloc | apply Kd.R_drewN | apply Kd.R_drew)); exact Kd.R_mono HO353.out (fun _ hk => hk.2))⟩; have n2_ : Aside0 (w20.heap[gb342]? = some (.cells #[.int .i64 0, .int .i64 0] 34 (0, 0))) := ⟨by rw [← hq_]; exact (hK_ BK342.out)⟩; have n3_ : Aside0 (Below w.heap.size w w20) := ⟨by rw [← hq_]; exact hC_⟩; clear HO349 HO353 BK342 HB hq_; have HO349 := n0_; have HO353 := n1_; have BK342 := n2_; have HB := n3_; clear n0_ n1_ n2_ n3_; (try have hcu0_0 := bc0_ BK342.out); (try have hfu0_0 := blk_frozen BK342.out 0); (try have hcu0_1 := bc1_ BK342.out); (try have hfu0_1 := blk_frozen BK342.out 1)))) | ((with_reducible refine gate_callee (f := 65) rfl ?_); refine goesL_ (some 38) rfl rfl Tryz.func65 (by kernel_rfl) rfl #[.slice A0 l0.length c0, .slice (some ad343) l1.length c1, .int .i64 x5_1] rfl hL_ ?_; (with_reducible refine (sleuthref12_verdict.calls k1 _ _ l0 _ _ l1 x5_1 t355 t356 _ ?side1 ?side2 ?side3 ?side4 A17.out).mono ?_); (case side1 => exact cB_ HR0.out); (case side2 => exact HC0.out); (case side3 => exact cB_ HR1.out); (case side4 => exact HC1.out); rintro e w22 ⟨rfl, hb⟩; refine ⟨_, rfl, ?_⟩; have n0_ := Aside0.mk (Kd.R_below (hR_ HO349.out) hb); have n1_ := Aside0.mk (Kd.R_below (hR_ HO353.out) hb); have n2_ := Aside0.mk (bB_ BK342.out hb); have n3_ := Aside0.mk (below_step hC_ hb); clear HO349 HO353 BK342 HB; have HO349 := n0_; have HO353 := n1_; have BK342 := n2_; have HB := n3_; clear n0_ n1_ n2_ n3_; (try clear hb); (try clear hb2); (try clear hk); (try clear hi); obtain ⟨hcz23_0, hcz23_1, hfz23_0, hfz23_1⟩ := bx2_ BK342.out))
      refine bodyPost_ret (results_cell_row rfl _ _ gb342 34 #[.int .i64 t355, .int .i64 t356] (0, 0) _ rfl (bP_ (bP_ (hK_ BK342.out))) Tryz.underlying34 rfl (by kernel_rfl)) rfl ?_
      exact ⟨hV_, hC_⟩
end Go.Proofs.YtgokcaccamfgfaaGreatDoor.G
end
