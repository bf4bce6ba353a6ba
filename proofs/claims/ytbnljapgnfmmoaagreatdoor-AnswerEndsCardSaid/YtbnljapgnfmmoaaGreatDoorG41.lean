-- Laid by the session's own driver gp.py over the kit's printer. Not trusted: Lean checks it.
import Derived.Test.YtbnljapgnfmmoaaGreatDoorU2
import Derived.Test.YtbnljapgnfmmoaaGreatDoorG0
import Derived.Test.YtbnljapgnfmmoaaGreatDoorU7
import Derived.Test.YtbnljapgnfmmoaaGreatDoorU8
import Derived.Test.YtbnljapgnfmmoaaGreatDoorU10
import Derived.Test.YtbnljapgnfmmoaaGreatDoorU11
namespace Go.Proofs.YtbnljapgnfmmoaaGreatDoor.G
open Go.RowKit Go.Proofs.YtbnljapgnfmmoaaGreatDoorW.PrintWords Go.Proofs.YtbnljapgnfmmoaaGreatDoorW.PrintLast Go.Proofs.YtbnljapgnfmmoaaGreatDoorW.PrintMore
set_option maxHeartbeats 8000000
set_option maxRecDepth 100000
attribute [local go_sem] max2_int min2_int max_two min_two max_three min_three max_four min_four   -- for this text's walks alone
set_option linter.unusedVariables false
set_option linter.unusedSimpArgs false

mutual
def sleuthlaw22_AnswerEnds.l0 : Nat → List (S66) → List Int → Int → List (S66) → Int → List (S53) → Option (Bool)
 | 0, _, _, _, _, _, _ => none
 | k + 1, x0, x2, x9, x460000, x460001, x460002 => if x9 ≤ (x0.length : Int) then (if x9 < (x2.length : Int) then (if 0 ≤ x9 then (sleuthlaw22_AnswerEnds.j1 k x0 x2 x9 (wrap64 (1 + (wrap64 (Int.tmod (IntKind.u64.wrap (rd x2 x9)) 3)))) x460000 x460001 x460002) else (none)) else (sleuthlaw22_AnswerEnds.j1 k x0 x2 x9 2 x460000 x460001 x460002)) else (none)
def sleuthlaw22_AnswerEnds.j1 : Nat → List (S66) → List Int → Int → Int → List (S66) → Int → List (S53) → Option (Bool)
 | 0, _, _, _, _, _, _, _ => none
 | k + 1, x0, x2, x9, x10, x460000, x460001, x460002 => (answer_Put.f k x460000 x460001 x460002 x10).bind fun bt462 => ((sleuthlaw0_Num.f bt462.2.2.2).bind fun t471 => (if t471 = 2201 then (some true) else (if t471 = 0 then (sleuthlaw22_AnswerEnds.l0 k x0 x2 (wrap64 (x9 + 1)) bt462.1 bt462.2.1 bt462.2.2.1) else (none))))
end
def sleuthlaw22_AnswerEnds.f (k : Nat) (l0 : List (S66)) (a1 : Int) (l2 : List Int) : Option (Bool) := (sleuthlaw22_awake.f k).bind fun t450 => (if t450 = true then ((sleuthref12_NewSession.f k l0 (Go.bits .and .i64 a1 1)).bind fun bt451 => (if bt451.2.2.2 = 0 then (sleuthlaw22_AnswerEnds.l0 k l0 l2 0 bt451.1 bt451.2.1 bt451.2.2.1) else ((sleuthref12_TrailMay.f k l0).bind fun t460 => (some (!t460))))) else (none))
theorem sleuthlaw22_AnswerEnds.mono_l : ∀ k, (∀ y0 y1 y2 y3 y4 y5, LeO (sleuthlaw22_AnswerEnds.l0 k y0 y1 y2 y3 y4 y5) (sleuthlaw22_AnswerEnds.l0 (k + 1) y0 y1 y2 y3 y4 y5)) ∧ (∀ y0 y1 y2 y3 y4 y5 y6, LeO (sleuthlaw22_AnswerEnds.j1 k y0 y1 y2 y3 y4 y5 y6) (sleuthlaw22_AnswerEnds.j1 (k + 1) y0 y1 y2 y3 y4 y5 y6))
 | 0 => ⟨fun _ _ _ _ _ _ r h => by simp [sleuthlaw22_AnswerEnds.l0] at h, fun _ _ _ _ _ _ _ r h => by simp [sleuthlaw22_AnswerEnds.j1] at h⟩
 | k + 1 => by
  obtain ⟨ih0, ih1⟩ := sleuthlaw22_AnswerEnds.mono_l k
  refine ⟨?_, ?_⟩
  · intro y0 y1 y2 y3 y4 y5
    unfold sleuthlaw22_AnswerEnds.l0
    repeat' first
    | (with_reducible exact ih0 _ _ _ _ _ _)
    | (with_reducible exact ih1 _ _ _ _ _ _ _)
    | (with_reducible exact answer_Put.mono _ _ _ _ _)
    | (with_reducible exact sleuthlaw22_awake.mono _)
    | (with_reducible exact sleuthref12_NewSession.mono _ _ _)
    | (with_reducible exact sleuthref12_TrailMay.mono _ _)
    | (with_reducible exact LeO.refl _)
    | (with_reducible exact LeO.none _)
    | (with_reducible refine LeO.ite ?_ ?_)
    | (with_reducible refine LeO.bind ?_ (fun _ => ?_))
    | exact ih0 _ _ _ _ _ _
    | exact ih1 _ _ _ _ _ _ _
    | exact answer_Put.mono _ _ _ _ _
    | exact sleuthlaw22_awake.mono _
    | exact sleuthref12_NewSession.mono _ _ _
    | exact sleuthref12_TrailMay.mono _ _
    | exact LeO.none _
    | refine LeO.ite ?_ ?_
    | refine LeO.bind ?_ (fun _ => ?_)
  · intro y0 y1 y2 y3 y4 y5 y6
    unfold sleuthlaw22_AnswerEnds.j1
    repeat' first
    | (with_reducible exact ih0 _ _ _ _ _ _)
    | (with_reducible exact ih1 _ _ _ _ _ _ _)
    | (with_reducible exact answer_Put.mono _ _ _ _ _)
    | (with_reducible exact sleuthlaw22_awake.mono _)
    | (with_reducible exact sleuthref12_NewSession.mono _ _ _)
    | (with_reducible exact sleuthref12_TrailMay.mono _ _)
    | (with_reducible exact LeO.refl _)
    | (with_reducible exact LeO.none _)
    | (with_reducible refine LeO.ite ?_ ?_)
    | (with_reducible refine LeO.bind ?_ (fun _ => ?_))
    | exact ih0 _ _ _ _ _ _
    | exact ih1 _ _ _ _ _ _ _
    | exact answer_Put.mono _ _ _ _ _
    | exact sleuthlaw22_awake.mono _
    | exact sleuthref12_NewSession.mono _ _ _
    | exact sleuthref12_TrailMay.mono _ _
    | exact LeO.none _
    | refine LeO.ite ?_ ?_
    | refine LeO.bind ?_ (fun _ => ?_)
theorem sleuthlaw22_AnswerEnds.mono : ∀ a0 a1 a2 k, LeO (sleuthlaw22_AnswerEnds.f k a0 a1 a2) (sleuthlaw22_AnswerEnds.f (k + 1) a0 a1 a2) := by
 intro a0 a1 a2 k
 obtain ⟨ih0, ih1⟩ := sleuthlaw22_AnswerEnds.mono_l k
 unfold sleuthlaw22_AnswerEnds.f
 repeat' first
  | (with_reducible exact ih0 _ _ _ _ _ _)
  | (with_reducible exact ih1 _ _ _ _ _ _ _)
  | (with_reducible exact answer_Put.mono _ _ _ _ _)
  | (with_reducible exact sleuthlaw22_awake.mono _)
  | (with_reducible exact sleuthref12_NewSession.mono _ _ _)
  | (with_reducible exact sleuthref12_TrailMay.mono _ _)
  | (with_reducible exact LeO.refl _)
  | (with_reducible exact LeO.none _)
  | (with_reducible refine LeO.ite ?_ ?_)
  | (with_reducible refine LeO.bind ?_ (fun _ => ?_))
  | exact ih0 _ _ _ _ _ _
  | exact ih1 _ _ _ _ _ _ _
  | exact answer_Put.mono _ _ _ _ _
  | exact sleuthlaw22_awake.mono _
  | exact sleuthref12_NewSession.mono _ _ _
  | exact sleuthref12_TrailMay.mono _ _
  | exact LeO.none _
  | refine LeO.ite ?_ ?_
  | refine LeO.bind ?_ (fun _ => ?_)
theorem sleuthlaw22_AnswerEnds.calls (k : Nat) (A0 : Option Addr) (c0 : Nat) (l0 : List (S66)) (a1 : Int) (A2 : Option Addr) (c2 : Nat) (l2 : List Int) (r : Bool) (w : World) (hr0 : Kd.C k66 w A0 l0.length l0) (hc0 : l0.length ≤ c0) (hr2 : Kd.C (Kd.int .i64) w A2 l2.length l2) (hc2 : l2.length ≤ c2) (h : sleuthlaw22_AnswerEnds.f k l0 a1 l2 = some r) (hG : GOK w) :
 Calls Tryz.prog 5 #[.slice A0 l0.length c0, .int .i64 a1, .slice A2 l2.length c2] w fun e w' => e = .returned (.bool r) ∧ Below w.heap.size w w' := by
 have hu25 := Tryz.underlying25
 have HR0 := a_ hr0
 have HC0 := a_ hc0
 clear hr0 hc0
 have HR2 := a_ hr2
 have HC2 := a_ hc2
 clear hr2 hc2
 have HB := a_ (Below.refl w.heap.size w)
 have H := h; unfold sleuthlaw22_AnswerEnds.f at H
 clear h
 replace H := Option.bind_eq_some_iff.mp H
 obtain ⟨t450, A40, H⟩ := H
 try dsimp only at H
 have A4 := a_ A40
 clear A40
 by_cases c5 : t450 = true
 case neg =>
  replace c5 := Bool.eq_false_iff.mpr c5
  subst c5
  rw [if_neg (show ¬ (false = true) by decide)] at H
  cases H
 subst c5
 rw [if_pos rfl] at H
 replace H := Option.bind_eq_some_iff.mp H
 obtain ⟨⟨t451, t454, t455, t458⟩, A60, H⟩ := H
 try dsimp only at H
 have A6 := a_ A60
 clear A60
 by_cases c7 : t458 = 0
 case neg =>
  rw [if_neg c7] at H
  have c7b0 : (t458 == 0) = false := beq_eq_false_iff_ne.mpr c7
  have c7b1 : (t458 != 0) = true := bne_iff_ne.mpr c7
  replace H := Option.bind_eq_some_iff.mp H
  obtain ⟨t460, A500, H⟩ := H
  try dsimp only at H
  have A50 := a_ A500
  clear A500
  obtain rfl := Option.some.inj H
  go_enter Tryz.func5, Tryz.ntmps5
  go_wp2_with (first | ((with_reducible refine gate_callee (f := 15) rfl ?_); refine goesL_ (some 13) rfl rfl Tryz.func15 (by kernel_rfl) rfl #[] rfl hL_ ?_; (with_reducible refine (sleuthlaw22_awake.calls k  true _ A4.out hG_).mono ?_); rintro e w51 ⟨rfl, hb⟩; refine ⟨_, rfl, ?_⟩; replace HB := a_ (below_step hB_ hb); (try clear hb); (try clear hb2); (try clear hk); (try clear hi)) | ((with_reducible refine gate_callee (f := 17) rfl ?_); refine goesL_ (some 19) rfl rfl Tryz.func17 (by kernel_rfl) rfl #[.slice A0 l0.length c0, .int .i64 (Go.bits .and .i64 a1 1)] rfl hL_ ?_; (with_reducible refine (sleuthref12_NewSession.calls k _ _ l0 (Go.bits .and .i64 a1 1) t451 t454 t455 t458 _ ?side1 ?side2 A6.out).mono ?_); (case side1 => exact cB_ HR0.out); (case side2 => exact HC0.out); rintro e w52 ⟨v452, v456, rfl, ho0, ho1, hb⟩; refine ⟨_, rfl, ?_⟩; have HO453 := a_ (Kd.S_lower ho0 hS_); have HO457 := a_ (Kd.R_lower ho1 hS_); replace HB := a_ (below_step hB_ hb); (try clear hb); (try clear hb2); (try clear hk); (try clear hi); (try clear ho0); (try clear ho1)) | ((with_reducible refine gate_dst (N := 7) rfl ?_); refine boxE_ 7 #[.slice none 0 0, .int .i64 0, .slice none 0 0] 25 ?_; intro gb459 hg w53 hbox hb; replace HO453 := a_ (Kd.S_below (by (with_reducible repeat (first | apply Kd.S_alloc | apply Kd.S_drewN | apply Kd.S_drew)); exact HO453.out) hb); replace HO457 := a_ (Kd.R_below (hR_ HO457.out) hb); have BK459 := a_ (hbox); have GW459 := a_ ((gE_ hg : w.heap.size ≤ gb459)); have GE459 := a_ ((gE_ hg : w.heap.size ≤ gb459)); replace HB := a_ (below_step hB_ hb); clear hb hbox hg; obtain ⟨Ao54, co54, eo54⟩ := Kd.S_slice HO453.out; subst eo54; obtain ⟨hcz55_0, hcz55_1, hcz55_2, hfz55_0, hfz55_1, hfz55_2⟩ := bx3_ BK459.out; obtain ⟨Ao56, co56, eo56⟩ := Kd.R_slice HO457.out; subst eo56) | ((with_reducible refine gate_callee (f := 18) rfl ?_); refine goesL_ (some 25) rfl rfl Tryz.func18 (by kernel_rfl) rfl #[.slice A0 l0.length c0] rfl hL_ ?_; (with_reducible refine (sleuthref12_TrailMay.calls k _ _ l0 t460 _ ?side1 ?side2 A50.out).mono ?_); (case side1 => exact Kd.C_below HR0.out hC_); (case side2 => exact HC0.out); rintro e w57 ⟨rfl, hb⟩; refine ⟨_, rfl, ?_⟩; replace HO453 := a_ (Kd.S_below (by (with_reducible repeat (first | apply Kd.S_alloc | apply Kd.S_drewN | apply Kd.S_drew)); exact (Kd.S_mono (sF_ (sF_ (sF_ (Kd.S_types HO453.out BK459.out (by decide))))) (fun _ h_ => h_.1))) hb); replace HO457 := a_ (Kd.R_below (by (with_reducible repeat (first | apply Kd.R_alloc | apply Kd.R_drewN | apply Kd.R_drew)); exact (Kd.R_mono (rF_ (rF_ (rF_ (Kd.R_types HO457.out BK459.out (by decide))))) (fun _ h_ => h_.1))) hb); replace BK459 := a_ (blk_below (g := gb459) (o := .cells #[.slice Ao54 t451.length co54, .int .i64 t454, .slice Ao56 t455.length co56] 25 (0, 0)) (by (with_reducible repeat (first | refine blk_drewN ?_ _ | refine blk_drew ?_ | refine blk_alloc ?_ _)); exact (bP_ (bP_ (bP_ (hK_ BK459.out))))) hb); replace HB := a_ (below_step hC_ hb); (try clear hb); (try clear hb2); (try clear hk); (try clear hi)))
  go_ret
  exact ⟨hV_, hC_⟩
 rw [if_pos c7] at H
 have c7b0 : (t458 == 0) = true := beq_iff_eq.mpr c7
 have c7b1 : (t458 != 0) = false := bne_eq_false_iff_eq.mpr c7
 clear c7
 have H' := a_ H
 clear H
 go_enter Tryz.func5, Tryz.ntmps5
 go_wp2_with (first | ((with_reducible refine gate_callee (f := 15) rfl ?_); refine goesL_ (some 13) rfl rfl Tryz.func15 (by kernel_rfl) rfl #[] rfl hL_ ?_; (with_reducible refine (sleuthlaw22_awake.calls k  true _ A4.out hG_).mono ?_); rintro e w8 ⟨rfl, hb⟩; refine ⟨_, rfl, ?_⟩; replace HB := a_ (below_step hB_ hb); (try clear hb); (try clear hb2); (try clear hk); (try clear hi)) | ((with_reducible refine gate_callee (f := 17) rfl ?_); refine goesL_ (some 19) rfl rfl Tryz.func17 (by kernel_rfl) rfl #[.slice A0 l0.length c0, .int .i64 (Go.bits .and .i64 a1 1)] rfl hL_ ?_; (with_reducible refine (sleuthref12_NewSession.calls k _ _ l0 (Go.bits .and .i64 a1 1) t451 t454 t455 t458 _ ?side1 ?side2 A6.out).mono ?_); (case side1 => exact cB_ HR0.out); (case side2 => exact HC0.out); rintro e w9 ⟨v452, v456, rfl, ho0, ho1, hb⟩; refine ⟨_, rfl, ?_⟩; have HO453 := a_ (Kd.S_lower ho0 hS_); have HO457 := a_ (Kd.R_lower ho1 hS_); replace HB := a_ (below_step hB_ hb); (try clear hb); (try clear hb2); (try clear hk); (try clear hi); (try clear ho0); (try clear ho1)) | ((with_reducible refine gate_dst (N := 7) rfl ?_); refine boxE_ 7 #[.slice none 0 0, .int .i64 0, .slice none 0 0] 25 ?_; intro gb459 hg w10 hbox hb; replace HO453 := a_ (Kd.S_below (by (with_reducible repeat (first | apply Kd.S_alloc | apply Kd.S_drewN | apply Kd.S_drew)); exact HO453.out) hb); replace HO457 := a_ (Kd.R_below (hR_ HO457.out) hb); have BK459 := a_ (hbox); have GW459 := a_ ((gE_ hg : w.heap.size ≤ gb459)); have GE459 := a_ ((gE_ hg : w.heap.size ≤ gb459)); replace HB := a_ (below_step hB_ hb); clear hb hbox hg; obtain ⟨Ao11, co11, eo11⟩ := Kd.S_slice HO453.out; subst eo11; obtain ⟨hcz12_0, hcz12_1, hcz12_2, hfz12_0, hfz12_1, hfz12_2⟩ := bx3_ BK459.out; obtain ⟨Ao13, co13, eo13⟩ := Kd.R_slice HO457.out; subst eo13))
 (try simp only [Act.put, List.setIfInBounds_toArray, List.set_cons_zero, List.set_cons_succ])
 go_loopg [9] k (fun kq v9 w' => ∃ (x9_1 : Int) (x460000_1 : List (S66)) (x460001_1 : Int) (x460002_1 : List (S53)) (u460000 : Value) (u460002 : Value), v9 = .int .i64 x9_1 ∧ Aside0 (sleuthlaw22_AnswerEnds.l0 kq l0 l2 x9_1 x460000_1 x460001_1 x460002_1 = some r) ∧ Aside0 (kq ≤ k) ∧ Aside0 (Kd.S k66 66 w' w.heap.size (fun _ => True) u460000 x460000_1) ∧ Aside0 (Kd.R k53 53 w' w.heap.size (fun _ => True) u460002 x460002_1) ∧ Aside0 (w'.heap[gb459]? = some (.cells #[u460000, .int .i64 x460001_1, u460002] 25 (0, 0))) ∧ Aside0 (Below w.heap.size w w'))
 case atStart => exact ⟨(0), (t451), (t454), (t455), (.slice Ao11 t451.length co11), (.slice Ao13 t455.length co13), hW_, H', ⟨Nat.le_refl _⟩, ⟨by (with_reducible repeat (first | apply Kd.S_alloc | apply Kd.S_drewN | apply Kd.S_drew)); exact Kd.S_mono (sF_ (sF_ (sF_ (Kd.S_types HO453.out BK459.out (by decide))))) (fun _ hk => trivial)⟩, ⟨hR_ (Kd.R_mono (rF_ (rF_ (rF_ (Kd.R_types HO457.out BK459.out (by decide))))) (fun _ hk => trivial))⟩, ⟨(bP_ (bP_ (bP_ (hK_ BK459.out))))⟩, ⟨hC_⟩⟩
 case round =>
  clear H'
  try clear c1
  try clear c2
  try clear p2
  try clear c5
  try clear c7
  try clear c7b0
  try clear c7b1
  try clear hcz12_0
  try clear hcz12_1
  try clear hcz12_2
  try clear hfz12_0
  try clear hfz12_1
  try clear hfz12_2
  obtain ⟨x9_1, x460000_1, x460001_1, x460002_1, u460000, u460002, rfl, HA, HK1, HO_460000, HO_460002, BK459, HB⟩ := hrel
  cases gk with
  | zero => exact absurd HA.out (by simp [sleuthlaw22_AnswerEnds.l0])
  | succ k1 =>
   have H := HA.out
   clear HA
   simp only [sleuthlaw22_AnswerEnds.l0] at H
   by_cases c14 : x9_1 ≤ (l0.length : Int)
   case neg =>
    rw [if_neg c14] at H
    have c14b0 : decide (x9_1 ≤ (l0.length : Int)) = false := decide_eq_false c14
    clear c14
    cases H
   rw [if_pos c14] at H
   have c14b0 : decide (x9_1 ≤ (l0.length : Int)) = true := decide_eq_true c14
   clear c14
   have HC15 := a_ H
   clear H
   go_upto_if 36 with (fail)
   go_cut [10] (fun v10 wc => ∃ (kq : Nat) (x10_14 : Int), v10 = .int .i64 x10_14 ∧ Aside0 (sleuthlaw22_AnswerEnds.j1 kq l0 l2 x9_1 x10_14 x460000_1 x460001_1 x460002_1 = some r) ∧ Aside0 (kq ≤ k1) ∧ Aside0 (Kd.S k66 66 wc w.heap.size (fun _ => True) u460000 x460000_1) ∧ Aside0 (Kd.R k53 53 wc w.heap.size (fun _ => True) u460002 x460002_1) ∧ Aside0 (wc.heap[gb459]? = some (.cells #[u460000, .int .i64 x460001_1, u460002] 25 (0, 0))) ∧ Aside0 (Below w.heap.size w wc))
   case first =>
    have H := HC15.out
    clear HC15
    by_cases c16 : x9_1 < (l2.length : Int)
    case neg =>
     rw [if_neg c16] at H
     have c16b0 : decide (x9_1 < (l2.length : Int)) = false := decide_eq_false c16
     clear c16
     (first | rw [c16b0] | (simp only [i64_w, i32_w]; rw [c16b0]) | skip)
     have H' := a_ H
     clear H
     go_wp2
     go_meet
     case rel => exact ⟨_, (2), hW_, H', ⟨by have := HK1.out; first | omega | exact Nat.le_refl _⟩, ⟨by (with_reducible repeat (first | apply Kd.S_alloc | apply Kd.S_drewN | apply Kd.S_drew)); exact HO_460000.out⟩, ⟨hR_ HO_460002.out⟩, ⟨(hK_ BK459.out)⟩, ⟨hC_⟩⟩
    rw [if_pos c16] at H
    have c16b0 : decide (x9_1 < (l2.length : Int)) = true := decide_eq_true c16
    clear c16
    (first | rw [c16b0] | (simp only [i64_w, i32_w]; rw [c16b0]) | skip)
    replace H := ifI_ H; obtain ⟨c17, H⟩ := H
    have c17b0 : decide (0 ≤ x9_1) = true := decide_eq_true c17
    clear c17
    have H' := a_ H
    clear H
    have p461 : 0 ≤ (x9_1 : Int) := of_decide_eq_true hA_
    have q461 : x9_1 < (l2.length : Int) := of_decide_eq_true hA_
    obtain ⟨ad461, e461, hx461_0⟩ := Kd.at_int HR2.out x9_1 p461 q461
    cases e461
    replace hx461_0 := cl_ HB.out hx461_0
    replace p461 := eq_true p461
    replace q461 := eq_true q461
    go_wp2
    go_meet
    case rel => exact ⟨_, (wrap64 (1 + (wrap64 (Int.tmod (IntKind.u64.wrap (rd l2 x9_1)) 3)))), hW_, H', ⟨by have := HK1.out; first | omega | exact Nat.le_refl _⟩, ⟨by (with_reducible repeat (first | apply Kd.S_alloc | apply Kd.S_drewN | apply Kd.S_drew)); exact HO_460000.out⟩, ⟨hR_ HO_460002.out⟩, ⟨(hK_ BK459.out)⟩, ⟨hC_⟩⟩
   case rest =>
    clear HC15
    try clear c1
    try clear c2
    try clear p2
    try clear p4
    try clear q4
    try clear hx4
    try clear c5
    try clear p6
    try clear c7
    try clear c7b0
    try clear c7b1
    try clear c14
    try clear c14b0
    try clear c15
    try clear c16
    try clear c16b0
    try clear c17
    try clear c17b0
    try clear hcz12_0
    try clear hcz12_1
    try clear hcz12_2
    try clear hfz12_0
    try clear hfz12_1
    try clear hfz12_2
    try clear hx461_0
    try clear p2
    try clear p461
    try clear q461
    obtain ⟨kq, x10_14, rfl, HA, HJ14, HO_460000, HO_460002, BK459, HB⟩ := hcut
    cases kq with
    | zero => exact absurd HA.out (by simp [sleuthlaw22_AnswerEnds.j1])
    | succ kj14 =>
     have H := HA.out
     clear HA
     simp only [sleuthlaw22_AnswerEnds.j1] at H
     replace H := Option.bind_eq_some_iff.mp H
     obtain ⟨⟨t462, t465, t466, t469⟩, A180, H⟩ := H
     try dsimp only at H
     have A18 := a_ A180
     clear A180
     replace H := Option.bind_eq_some_iff.mp H
     obtain ⟨t471, A190, H⟩ := H
     try dsimp only at H
     have A19 := a_ A190
     clear A190
     by_cases c20 : t471 = 2201
     case pos =>
      rw [if_pos c20] at H
      have c20b0 : (t471 == 2201) = true := beq_iff_eq.mpr c20
      have c20b1 : (t471 != 2201) = false := bne_eq_false_iff_eq.mpr c20
      clear c20
      obtain rfl := Option.some.inj H
      obtain ⟨hcz21_0, hcz21_1, hcz21_2, hfz21_0, hfz21_1, hfz21_2⟩ := bx3_ BK459.out
      obtain ⟨Ao22, co22, eo22⟩ := Kd.S_slice HO_460000.out
      subst eo22
      obtain ⟨Ao23, co23, eo23⟩ := Kd.R_slice HO_460002.out
      subst eo23
      go_wp2_with (first | ((with_reducible refine gate_callee (f := 8) rfl ?_); refine goesL_ (some 48) rfl rfl Tryz.func8 (by kernel_rfl) rfl #[.agg #[.slice Ao22 x460000_1.length co22, .int .i64 x460001_1, .slice Ao23 x460002_1.length co23], .int .i64 x10_14] rfl hL_ ?_; (with_reducible refine (answer_Put.calls kj14 _ _ x460000_1 x460001_1 _ _ x460002_1 x10_14 t462 t465 t466 t469 _ ?side1 ?side2 ?side3 ?side4 A18.out (by first | exact hG | exact GOK.below hG hC_)).mono ?_); (case side1 => repeat (first | exact (Kd.S_reads' HO_460000.out).2.2 | (with_reducible refine Kd.C_alloc ?_ _) | (with_reducible refine Kd.C_drewN ?_ _) | (with_reducible refine Kd.C_drew ?_))); (case side2 => exact (Kd.S_reads' HO_460000.out).2.1); (case side3 => exact cC_ (Kd.R_reads' HO_460002.out).2.2); (case side4 => exact (Kd.R_reads' HO_460002.out).2.1); rintro e w24 ⟨v463, v467, rfl, ho0, ho1, hb⟩; refine ⟨_, rfl, ?_⟩; have HO464 := a_ (Kd.S_lower (Kd.S_new' ho0 (Kd.S_lt (by (with_reducible repeat (first | apply Kd.S_alloc | apply Kd.S_drewN | apply Kd.S_drew)); exact HO_460000.out))) (below_size hC_)); replace HO_460000 := a_ (Kd.S_elder' (by (with_reducible repeat (first | apply Kd.S_alloc | apply Kd.S_drewN | apply Kd.S_drew)); exact HO_460000.out) (Kd.S_base ho0) hb); have HO468 := a_ (Kd.R_lower (Kd.R_new' ho1 (Kd.R_lt (hR_ HO_460002.out))) (below_size hC_)); replace HO_460002 := a_ (Kd.R_elder' (hR_ HO_460002.out) (Kd.R_base ho1) hb); replace BK459 := a_ (bB_ BK459.out hb); replace HB := a_ (below_step hC_ hb); (try clear hb); (try clear hb2); (try clear hk); (try clear hi); (try clear ho0); (try clear ho1)) | ((with_reducible refine gate_dst (N := 11) rfl ?_); refine boxE_ 11 #[.slice none 0 0, .int .i64 0, .slice none 0 0] 25 ?_; intro gb470 hg w25 hbox hb; replace HO_460000 := a_ (Kd.S_below (by (with_reducible repeat (first | apply Kd.S_alloc | apply Kd.S_drewN | apply Kd.S_drew)); exact HO_460000.out) hb); replace HO_460002 := a_ (Kd.R_below (hR_ HO_460002.out) hb); replace HO464 := a_ (Kd.S_below (by (with_reducible repeat (first | apply Kd.S_alloc | apply Kd.S_drewN | apply Kd.S_drew)); exact HO464.out) hb); replace HO468 := a_ (Kd.R_below (hR_ HO468.out) hb); have BK470 := a_ (hbox); have GW470 := a_ ((gE_ hg : w.heap.size ≤ gb470)); have GE470 := a_ ((gE_ hg : w.heap.size ≤ gb470)); replace HB := a_ (below_step hC_ hb); have NB459_470 := a_ ((bL_ BK459.out hg : gb459 ≠ gb470)); have NB470_459 := a_ ((bG_ BK459.out hg : gb470 ≠ gb459)); replace BK459 := a_ (bB_ BK459.out hb); clear hb hbox hg; obtain ⟨Ao26, co26, eo26⟩ := Kd.S_slice HO464.out; subst eo26; have hnb27 := NB470_459.out; have hnc27 := NB459_470.out; obtain ⟨hcz28_0, hcz28_1, hcz28_2, hfz28_0, hfz28_1, hfz28_2⟩ := bx3_ BK470.out; obtain ⟨Ao29, co29, eo29⟩ := Kd.R_slice HO468.out; subst eo29) | ((with_reducible refine gate_callee (f := 13) rfl ?_); refine goesL_ _ rfl rfl Tryz.func13 (by kernel_rfl) rfl #[.int .i64 t469] rfl hL_ ?_; (with_reducible refine (sleuthlaw0_Num.calls t469 t471 _ A19.out).mono ?_); rintro e w' ⟨rfl, ⟨nd, rfl⟩⟩; refine ⟨_, rfl, ?_⟩))
      go_ret
      exact ⟨hV_, hC_⟩
     rw [if_neg c20] at H
     have c20b0 : (t471 == 2201) = false := beq_eq_false_iff_ne.mpr c20
     have c20b1 : (t471 != 2201) = true := bne_iff_ne.mpr c20
     by_cases c30 : t471 = 0
     case neg =>
      rw [if_neg c30] at H
      have c30b0 : (t471 == 0) = false := beq_eq_false_iff_ne.mpr c30
      have c30b1 : (t471 != 0) = true := bne_iff_ne.mpr c30
      cases H
     rw [if_pos c30] at H
     have c30b0 : (t471 == 0) = true := beq_iff_eq.mpr c30
     have c30b1 : (t471 != 0) = false := bne_eq_false_iff_eq.mpr c30
     clear c30
     have H' := a_ H
     clear H
     obtain ⟨hcz31_0, hcz31_1, hcz31_2, hfz31_0, hfz31_1, hfz31_2⟩ := bx3_ BK459.out
     obtain ⟨Ao32, co32, eo32⟩ := Kd.S_slice HO_460000.out
     subst eo32
     obtain ⟨Ao33, co33, eo33⟩ := Kd.R_slice HO_460002.out
     subst eo33
     go_wp2_with (first | ((with_reducible refine gate_callee (f := 8) rfl ?_); refine goesL_ (some 48) rfl rfl Tryz.func8 (by kernel_rfl) rfl #[.agg #[.slice Ao32 x460000_1.length co32, .int .i64 x460001_1, .slice Ao33 x460002_1.length co33], .int .i64 x10_14] rfl hL_ ?_; (with_reducible refine (answer_Put.calls kj14 _ _ x460000_1 x460001_1 _ _ x460002_1 x10_14 t462 t465 t466 t469 _ ?side1 ?side2 ?side3 ?side4 A18.out (by first | exact hG | exact GOK.below hG hC_)).mono ?_); (case side1 => repeat (first | exact (Kd.S_reads' HO_460000.out).2.2 | (with_reducible refine Kd.C_alloc ?_ _) | (with_reducible refine Kd.C_drewN ?_ _) | (with_reducible refine Kd.C_drew ?_))); (case side2 => exact (Kd.S_reads' HO_460000.out).2.1); (case side3 => exact cC_ (Kd.R_reads' HO_460002.out).2.2); (case side4 => exact (Kd.R_reads' HO_460002.out).2.1); rintro e w34 ⟨v463, v467, rfl, ho0, ho1, hb⟩; refine ⟨_, rfl, ?_⟩; have HO464 := a_ (Kd.S_lower (Kd.S_new' ho0 (Kd.S_lt (by (with_reducible repeat (first | apply Kd.S_alloc | apply Kd.S_drewN | apply Kd.S_drew)); exact HO_460000.out))) (below_size hC_)); replace HO_460000 := a_ (Kd.S_elder' (by (with_reducible repeat (first | apply Kd.S_alloc | apply Kd.S_drewN | apply Kd.S_drew)); exact HO_460000.out) (Kd.S_base ho0) hb); have HO468 := a_ (Kd.R_lower (Kd.R_new' ho1 (Kd.R_lt (hR_ HO_460002.out))) (below_size hC_)); replace HO_460002 := a_ (Kd.R_elder' (hR_ HO_460002.out) (Kd.R_base ho1) hb); replace BK459 := a_ (bB_ BK459.out hb); replace HB := a_ (below_step hC_ hb); (try clear hb); (try clear hb2); (try clear hk); (try clear hi); (try clear ho0); (try clear ho1)) | ((with_reducible refine gate_dst (N := 11) rfl ?_); refine boxE_ 11 #[.slice none 0 0, .int .i64 0, .slice none 0 0] 25 ?_; intro gb470 hg w35 hbox hb; replace HO_460000 := a_ (Kd.S_below (by (with_reducible repeat (first | apply Kd.S_alloc | apply Kd.S_drewN | apply Kd.S_drew)); exact HO_460000.out) hb); replace HO_460002 := a_ (Kd.R_below (hR_ HO_460002.out) hb); replace HO464 := a_ (Kd.S_below (by (with_reducible repeat (first | apply Kd.S_alloc | apply Kd.S_drewN | apply Kd.S_drew)); exact HO464.out) hb); replace HO468 := a_ (Kd.R_below (hR_ HO468.out) hb); have BK470 := a_ (hbox); have GW470 := a_ ((gE_ hg : w.heap.size ≤ gb470)); have GE470 := a_ ((gE_ hg : w.heap.size ≤ gb470)); replace HB := a_ (below_step hC_ hb); have NB459_470 := a_ ((bL_ BK459.out hg : gb459 ≠ gb470)); have NB470_459 := a_ ((bG_ BK459.out hg : gb470 ≠ gb459)); replace BK459 := a_ (bB_ BK459.out hb); clear hb hbox hg; obtain ⟨Ao36, co36, eo36⟩ := Kd.S_slice HO464.out; subst eo36; have hnb37 := NB470_459.out; have hnc37 := NB459_470.out; obtain ⟨hcz38_0, hcz38_1, hcz38_2, hfz38_0, hfz38_1, hfz38_2⟩ := bx3_ BK470.out; obtain ⟨Ao39, co39, eo39⟩ := Kd.R_slice HO468.out; subst eo39) | ((with_reducible refine gate_callee (f := 13) rfl ?_); refine goesL_ _ rfl rfl Tryz.func13 (by kernel_rfl) rfl #[.int .i64 t469] rfl hL_ ?_; (with_reducible refine (sleuthlaw0_Num.calls t469 t471 _ A19.out).mono ?_); rintro e w' ⟨rfl, ⟨nd, rfl⟩⟩; refine ⟨_, rfl, ?_⟩; obtain ⟨hcz40_0, hcz40_1, hcz40_2, hfz40_0, hfz40_1, hfz40_2⟩ := bx3_ BK459.out))
     go_roundg kj14
     case measure => have := HK1.out; have := HJ14.out; omega
     case rel => exact ⟨(wrap64 (x9_1 + 1)), (t462), (t465), (t466), (.slice Ao36 t462.length co36), (.slice Ao39 t466.length co39), hW_, H', ⟨by have := HK1.out; have := HJ14.out; omega⟩, ⟨by (with_reducible repeat (first | apply Kd.S_alloc | apply Kd.S_drewN | apply Kd.S_drew)); exact Kd.S_mono (sF_ (sF_ (sF_ (Kd.S_far (p := ⟨gb470, 2, none⟩) (Kd.S_far (p := ⟨gb470, 1, none⟩) (Kd.S_far (p := ⟨gb470, 0, none⟩) (Kd.S_types (Kd.S_types HO464.out BK470.out (by decide)) BK459.out (by decide)) (fun _ hk => hk.1.2) (.slice Ao36 t462.length co36)) (fun _ hk => hk.1.2) (.int .i64 t465)) (fun _ hk => hk.1.2) (.slice Ao39 t466.length co39))))) (fun _ hk => trivial)⟩, ⟨by (with_reducible repeat (first | apply Kd.R_alloc | apply Kd.R_drewN | apply Kd.R_drew)); exact Kd.R_mono (rF_ (rF_ (rF_ (Kd.R_far (p := ⟨gb470, 2, none⟩) (Kd.R_far (p := ⟨gb470, 1, none⟩) (Kd.R_far (p := ⟨gb470, 0, none⟩) (Kd.R_types (Kd.R_types HO468.out BK470.out (by decide)) BK459.out (by decide)) (fun _ hk => hk.1.2) (.slice Ao36 t462.length co36)) (fun _ hk => hk.1.2) (.int .i64 t465)) (fun _ hk => hk.1.2) (.slice Ao39 t466.length co39))))) (fun _ hk => trivial)⟩, ⟨(bP_ (bP_ (bP_ (bF_ (bF_ (bF_ (hK_ BK459.out) NB459_470.out) NB459_470.out) NB459_470.out))))⟩, ⟨hC_⟩⟩
end Go.Proofs.YtbnljapgnfmmoaaGreatDoor.G
