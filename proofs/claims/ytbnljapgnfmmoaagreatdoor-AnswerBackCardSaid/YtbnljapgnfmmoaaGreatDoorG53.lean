-- Laid by the session's own driver gp.py over the kit's printer. Not trusted: Lean checks it.
import Derived.Test.YtbnljapgnfmmoaaGreatDoorU2
import Derived.Test.YtbnljapgnfmmoaaGreatDoorG0
import Derived.Test.YtbnljapgnfmmoaaGreatDoorU7
import Derived.Test.YtbnljapgnfmmoaaGreatDoorU9
import Derived.Test.YtbnljapgnfmmoaaGreatDoorU12
import Derived.Test.YtbnljapgnfmmoaaGreatDoorU10
import Derived.Test.YtbnljapgnfmmoaaGreatDoorU13
namespace Go.Proofs.YtbnljapgnfmmoaaGreatDoor.G
open Go.RowKit Go.Proofs.YtbnljapgnfmmoaaGreatDoorW.PrintWords Go.Proofs.YtbnljapgnfmmoaaGreatDoorW.PrintLast Go.Proofs.YtbnljapgnfmmoaaGreatDoorW.PrintMore
set_option maxHeartbeats 8000000
set_option maxRecDepth 100000
attribute [local go_sem] max2_int min2_int max_two min_two max_three min_three max_four min_four   -- for this text's walks alone
set_option linter.unusedVariables false
set_option linter.unusedSimpArgs false

def sleuthlaw22_AnswerBack.f (k : Nat) (l0_0 : List (S66)) (a0_1 : Int) (l0_2 : List (S53)) (a1 : Int) : Option (Bool) := (sleuthlaw22_awake.f k).bind fun t679 => (if t679 = true then ((answer_Put.f k l0_0 a0_1 l0_2 (wrap64 (1 + (wrap64 (Int.tmod (IntKind.u64.wrap (a1)) 3))))).bind fun bt680 => ((sleuthlaw0_Num.f bt680.2.2.2).bind fun t689 => (if t689 = 0 then ((answer_Undo.f k bt680.1 bt680.2.1 bt680.2.2.1).bind fun bt691 => ((sleuthlaw0_Num.f bt691.2.2.2).bind fun t700 => (if t700 = 0 then ((sleuthlaw0_SameSession.f k bt691.1 bt691.2.1 bt691.2.2.1 l0_0 a0_1 l0_2).bind fun t701 => (if t701 = true then (if (bt680.2.2.1.length : Int) = (wrap64 ((l0_2.length : Int) + 1)) then ((sleuthref12_SessionMay.f k bt680.1 bt680.2.1 bt680.2.2.1).bind fun t702 => (some t702)) else (none)) else (none))) else (none)))) else ((sleuthlaw0_SameSession.f k bt680.1 bt680.2.1 bt680.2.2.1 ([] : List (S66)) 0 ([] : List (S53))).bind fun t690 => (some t690))))) else (none))
theorem sleuthlaw22_AnswerBack.mono : ∀ a0 a1 a2 a3 k, LeO (sleuthlaw22_AnswerBack.f k a0 a1 a2 a3) (sleuthlaw22_AnswerBack.f (k + 1) a0 a1 a2 a3) := by
 intro a0 a1 a2 a3 k
 unfold sleuthlaw22_AnswerBack.f
 repeat' first
  | (with_reducible exact answer_Put.mono _ _ _ _ _)
  | (with_reducible exact answer_Undo.mono _ _ _ _)
  | (with_reducible exact sleuthlaw0_SameSession.mono _ _ _ _ _ _ _)
  | (with_reducible exact sleuthlaw22_awake.mono _)
  | (with_reducible exact sleuthref12_SessionMay.mono _ _ _ _)
  | (with_reducible exact LeO.refl _)
  | (with_reducible exact LeO.none _)
  | (with_reducible refine LeO.ite ?_ ?_)
  | (with_reducible refine LeO.bind ?_ (fun _ => ?_))
  | exact answer_Put.mono _ _ _ _ _
  | exact answer_Undo.mono _ _ _ _
  | exact sleuthlaw0_SameSession.mono _ _ _ _ _ _ _
  | exact sleuthlaw22_awake.mono _
  | exact sleuthref12_SessionMay.mono _ _ _ _
  | exact LeO.none _
  | refine LeO.ite ?_ ?_
  | refine LeO.bind ?_ (fun _ => ?_)
theorem sleuthlaw22_AnswerBack.calls (k : Nat) (A0_0 : Option Addr) (c0_0 : Nat) (l0_0 : List (S66)) (a0_1 : Int) (A0_2 : Option Addr) (c0_2 : Nat) (l0_2 : List (S53)) (a1 : Int) (r : Bool) (w : World) (hr0_0 : Kd.C k66 w A0_0 l0_0.length l0_0) (hc0_0 : l0_0.length ≤ c0_0) (hr0_2 : Kd.C k53 w A0_2 l0_2.length l0_2) (hc0_2 : l0_2.length ≤ c0_2) (h : sleuthlaw22_AnswerBack.f k l0_0 a0_1 l0_2 a1 = some r) (hG : GOK w) :
 Calls Tryz.prog 4 #[.agg #[.slice A0_0 l0_0.length c0_0, .int .i64 a0_1, .slice A0_2 l0_2.length c0_2], .int .i64 a1] w fun e w' => e = .returned (.bool r) ∧ Below w.heap.size w w' := by
 have hu25 := Tryz.underlying25
 have HR0_0 := a_ hr0_0
 have HC0_0 := a_ hc0_0
 clear hr0_0 hc0_0
 have HR0_2 := a_ hr0_2
 have HC0_2 := a_ hc0_2
 clear hr0_2 hc0_2
 have HB := a_ (Below.refl w.heap.size w)
 have H := h; unfold sleuthlaw22_AnswerBack.f at H
 clear h
 replace H := Option.bind_eq_some_iff.mp H
 obtain ⟨t679, A30, H⟩ := H
 try dsimp only at H
 have A3 := a_ A30
 clear A30
 by_cases c4 : t679 = true
 case neg =>
  replace c4 := Bool.eq_false_iff.mpr c4
  subst c4
  rw [if_neg (show ¬ (false = true) by decide)] at H
  cases H
 subst c4
 rw [if_pos rfl] at H
 replace H := Option.bind_eq_some_iff.mp H
 obtain ⟨⟨t680, t683, t684, t687⟩, A50, H⟩ := H
 try dsimp only at H
 have A5 := a_ A50
 clear A50
 replace H := Option.bind_eq_some_iff.mp H
 obtain ⟨t689, A60, H⟩ := H
 try dsimp only at H
 have A6 := a_ A60
 clear A60
 by_cases c7 : t689 = 0
 case neg =>
  rw [if_neg c7] at H
  have c7b0 : (t689 == 0) = false := beq_eq_false_iff_ne.mpr c7
  have c7b1 : (t689 != 0) = true := bne_iff_ne.mpr c7
  replace H := Option.bind_eq_some_iff.mp H
  obtain ⟨t690, A900, H⟩ := H
  try dsimp only at H
  have A90 := a_ A900
  clear A900
  obtain rfl := Option.some.inj H
  go_enter Tryz.func4, Tryz.ntmps4
  go_wp2_with (first | ((with_reducible refine gate_dst (N := 2) rfl ?_); (try (refine gate_guard (by rfl) ?_; dsimp only)); refine boxE_ 2 #[.slice A0_0 l0_0.length c0_0, .int .i64 a0_1, .slice A0_2 l0_2.length c0_2] 25 ?_; intro gb678 hg w91 hbox hb; have BK678 := a_ (hbox); have GW678 := a_ ((gE_ hg : w.heap.size ≤ gb678)); have GE678 := a_ ((gE_ hg : w.heap.size ≤ gb678)); replace HB := a_ (below_step hB_ hb); clear hb hbox hg) | ((with_reducible refine gate_callee (f := 15) rfl ?_); refine goesL_ (some 9) rfl rfl Tryz.func15 (by kernel_rfl) rfl #[] rfl hL_ ?_; (with_reducible refine (sleuthlaw22_awake.calls k  true _ A3.out (by first | exact hG | exact GOK.below hG hC_)).mono ?_); rintro e w92 ⟨rfl, hb⟩; refine ⟨_, rfl, ?_⟩; replace BK678 := a_ (bB_ BK678.out hb); replace HB := a_ (below_step hC_ hb); (try clear hb); (try clear hb2); (try clear hk); (try clear hi); obtain ⟨hcz93_0, hcz93_1, hcz93_2, hfz93_0, hfz93_1, hfz93_2⟩ := bx3_ BK678.out) | ((with_reducible refine gate_callee (f := 8) rfl ?_); refine goesL_ (some 18) rfl rfl Tryz.func8 (by kernel_rfl) rfl #[.agg #[.slice A0_0 l0_0.length c0_0, .int .i64 a0_1, .slice A0_2 l0_2.length c0_2], .int .i64 (wrap64 (1 + (wrap64 (Int.tmod (IntKind.u64.wrap (a1)) 3))))] rfl hL_ ?_; (with_reducible refine (answer_Put.calls k _ _ l0_0 a0_1 _ _ l0_2 (wrap64 (1 + (wrap64 (Int.tmod (IntKind.u64.wrap (a1)) 3)))) t680 t683 t684 t687 _ ?side1 ?side2 ?side3 ?side4 A5.out (by first | exact hG | exact GOK.below hG hC_)).mono ?_); (case side1 => exact cB_ HR0_0.out); (case side2 => exact HC0_0.out); (case side3 => exact cB_ HR0_2.out); (case side4 => exact HC0_2.out); rintro e w94 ⟨v681, v685, rfl, ho0, ho1, hb⟩; refine ⟨_, rfl, ?_⟩; have HO682 := a_ (Kd.S_lower ho0 (below_size hC_)); have HO686 := a_ (Kd.R_lower ho1 (below_size hC_)); replace BK678 := a_ (bB_ BK678.out hb); replace HB := a_ (below_step hC_ hb); (try clear hb); (try clear hb2); (try clear hk); (try clear hi); (try clear ho0); (try clear ho1)) | ((with_reducible refine gate_dst (N := 5) rfl ?_); (try (refine gate_guard (by rfl) ?_; dsimp only)); refine boxE_ 5 #[.slice none 0 0, .int .i64 0, .slice none 0 0] 25 ?_; intro gb688 hg w95 hbox hb; replace HO682 := a_ (Kd.S_below (by (with_reducible repeat (first | apply Kd.S_alloc | apply Kd.S_drewN | apply Kd.S_drew)); exact HO682.out) hb); replace HO686 := a_ (Kd.R_below (hR_ HO686.out) hb); have BK688 := a_ (hbox); have GW688 := a_ ((gE_ hg : w.heap.size ≤ gb688)); have GE688 := a_ ((gE_ hg : w.heap.size ≤ gb688)); replace HB := a_ (below_step hC_ hb); have NB678_688 := a_ ((bL_ BK678.out hg : gb678 ≠ gb688)); have NB688_678 := a_ ((bG_ BK678.out hg : gb688 ≠ gb678)); replace BK678 := a_ (bB_ BK678.out hb); clear hb hbox hg; obtain ⟨Ao96, co96, eo96⟩ := Kd.S_slice HO682.out; subst eo96; have hnb97 := NB688_678.out; have hnc97 := NB678_688.out; obtain ⟨hcz98_0, hcz98_1, hcz98_2, hfz98_0, hfz98_1, hfz98_2⟩ := bx3_ BK688.out; obtain ⟨Ao99, co99, eo99⟩ := Kd.R_slice HO686.out; subst eo99) | ((with_reducible refine gate_callee (f := 13) rfl ?_); refine goesL_ (some 22) rfl rfl Tryz.func13 (by kernel_rfl) rfl #[.int .i64 t687] rfl hL_ ?_; (with_reducible refine (sleuthlaw0_Num.calls t687 t689 _ A6.out).mono ?_); rintro e w' ⟨rfl, ⟨nd, rfl⟩⟩; refine ⟨_, rfl, ?_⟩) | ((with_reducible refine gate_callee (f := 12) rfl ?_); refine goesL_ (some 26) rfl rfl Tryz.func12 (by kernel_rfl) rfl #[.agg #[.slice Ao96 t680.length co96, .int .i64 t683, .slice Ao99 t684.length co99], .agg #[.slice none 0 0, .int .i64 0, .slice none 0 0]] rfl hL_ ?_; (refine (sleuthlaw0_SameSession.calls k _ _ t680 t683 _ _ t684 _ _ ([] : List (S66)) 0 _ _ ([] : List (S53)) t690 _ ?side1 ?side2 ?side3 ?side4 ?side5 ?side6 ?side7 ?side8 A90.out).mono ?_); (case side1 => refine (Kd.S_reads' (e := 66) (base := w.heap.size) (ok := fun k_ => True) (n := t680.length) (c := co96) ?_).2.2; exact (by (with_reducible repeat (first | apply Kd.S_alloc | apply Kd.S_drewN | apply Kd.S_drew)); exact (Kd.S_mono (sF_ (sF_ (sF_ (Kd.S_types HO682.out BK688.out (by decide))))) (fun _ h_ => h_.1)))); (case side2 => exact (Kd.S_reads' HO682.out).2.1); (case side3 => refine (Kd.R_reads' (e := 53) (base := w.heap.size) (ok := fun k_ => True) (n := t684.length) (c := co99) ?_).2.2; exact (by (with_reducible repeat (first | apply Kd.R_alloc | apply Kd.R_drewN | apply Kd.R_drew)); exact (Kd.R_mono (rF_ (rF_ (rF_ (Kd.R_types HO686.out BK688.out (by decide))))) (fun _ h_ => h_.1)))); (case side4 => exact (Kd.R_reads' HO686.out).2.1); (case side5 => exact Kd.C_nil _ _); (case side6 => exact Nat.le_refl _); (case side7 => exact Kd.C_nil _ _); (case side8 => exact Nat.le_refl _); rintro e w100 ⟨rfl, hb⟩; refine ⟨_, rfl, ?_⟩; replace HO682 := a_ (Kd.S_below (by (with_reducible repeat (first | apply Kd.S_alloc | apply Kd.S_drewN | apply Kd.S_drew)); exact (Kd.S_mono (sF_ (sF_ (sF_ (Kd.S_types HO682.out BK688.out (by decide))))) (fun _ h_ => h_.1))) hb); replace HO686 := a_ (Kd.R_below (by (with_reducible repeat (first | apply Kd.R_alloc | apply Kd.R_drewN | apply Kd.R_drew)); exact (Kd.R_mono (rF_ (rF_ (rF_ (Kd.R_types HO686.out BK688.out (by decide))))) (fun _ h_ => h_.1))) hb); replace BK678 := a_ (blk_below (g := gb678) (o := .cells #[.slice A0_0 l0_0.length c0_0, .int .i64 a0_1, .slice A0_2 l0_2.length c0_2] 25 (0, 0)) (by (with_reducible repeat (first | refine blk_drewN ?_ _ | refine blk_drew ?_ | refine blk_alloc ?_ _)); exact (bF_ (bF_ (bF_ (hK_ BK678.out) NB678_688.out) NB678_688.out) NB678_688.out)) hb); replace BK688 := a_ (blk_below (g := gb688) (o := .cells #[.slice Ao96 t680.length co96, .int .i64 t683, .slice Ao99 t684.length co99] 25 (0, 0)) (by (with_reducible repeat (first | refine blk_drewN ?_ _ | refine blk_drew ?_ | refine blk_alloc ?_ _)); exact (bP_ (bP_ (bP_ (hK_ BK688.out))))) hb); replace HB := a_ (below_step hC_ hb); (try clear hb); (try clear hb2); (try clear hk); (try clear hi)))
  go_ret
  exact ⟨hV_, hC_⟩
 rw [if_pos c7] at H
 have c7b0 : (t689 == 0) = true := beq_iff_eq.mpr c7
 have c7b1 : (t689 != 0) = false := bne_eq_false_iff_eq.mpr c7
 clear c7
 replace H := Option.bind_eq_some_iff.mp H
 obtain ⟨⟨t691, t694, t695, t698⟩, A80, H⟩ := H
 try dsimp only at H
 have A8 := a_ A80
 clear A80
 replace H := Option.bind_eq_some_iff.mp H
 obtain ⟨t700, A90, H⟩ := H
 try dsimp only at H
 have A9 := a_ A90
 clear A90
 by_cases c10 : t700 = 0
 case neg =>
  rw [if_neg c10] at H
  have c10b0 : (t700 == 0) = false := beq_eq_false_iff_ne.mpr c10
  have c10b1 : (t700 != 0) = true := bne_iff_ne.mpr c10
  cases H
 rw [if_pos c10] at H
 have c10b0 : (t700 == 0) = true := beq_iff_eq.mpr c10
 have c10b1 : (t700 != 0) = false := bne_eq_false_iff_eq.mpr c10
 clear c10
 replace H := Option.bind_eq_some_iff.mp H
 obtain ⟨t701, A110, H⟩ := H
 try dsimp only at H
 have A11 := a_ A110
 clear A110
 by_cases c12 : t701 = true
 case neg =>
  replace c12 := Bool.eq_false_iff.mpr c12
  subst c12
  rw [if_neg (show ¬ (false = true) by decide)] at H
  cases H
 subst c12
 rw [if_pos rfl] at H
 by_cases c13 : (t684.length : Int) = (wrap64 ((l0_2.length : Int) + 1))
 case neg =>
  rw [if_neg c13] at H
  have c13b0 : ((t684.length : Int) == (wrap64 ((l0_2.length : Int) + 1))) = false := beq_eq_false_iff_ne.mpr c13
  have c13b1 : ((t684.length : Int) != (wrap64 ((l0_2.length : Int) + 1))) = true := bne_iff_ne.mpr c13
  (try (have c13b0w := c13b0; (rw [show wrap64 ((l0_2.length : Int) + 1) = ((l0_2.length : Int) + 1) from by unfold wrap64; omega] at c13b0w)))
  (try (have c13b1w := c13b1; (rw [show wrap64 ((l0_2.length : Int) + 1) = ((l0_2.length : Int) + 1) from by unfold wrap64; omega] at c13b1w)))
  cases H
 rw [if_pos c13] at H
 have c13b0 : ((t684.length : Int) == (wrap64 ((l0_2.length : Int) + 1))) = true := beq_iff_eq.mpr c13
 have c13b1 : ((t684.length : Int) != (wrap64 ((l0_2.length : Int) + 1))) = false := bne_eq_false_iff_eq.mpr c13
 (try (have c13b0w := c13b0; (rw [show wrap64 ((l0_2.length : Int) + 1) = ((l0_2.length : Int) + 1) from by unfold wrap64; omega] at c13b0w)))
 (try (have c13b1w := c13b1; (rw [show wrap64 ((l0_2.length : Int) + 1) = ((l0_2.length : Int) + 1) from by unfold wrap64; omega] at c13b1w)))
 clear c13
 replace H := Option.bind_eq_some_iff.mp H
 obtain ⟨t702, A140, H⟩ := H
 try dsimp only at H
 have A14 := a_ A140
 clear A140
 obtain rfl := Option.some.inj H
 go_enter Tryz.func4, Tryz.ntmps4
 go_wp2_with (first | ((with_reducible refine gate_dst (N := 2) rfl ?_); (try (refine gate_guard (by rfl) ?_; dsimp only)); refine boxE_ 2 #[.slice A0_0 l0_0.length c0_0, .int .i64 a0_1, .slice A0_2 l0_2.length c0_2] 25 ?_; intro gb678 hg w15 hbox hb; have BK678 := a_ (hbox); have GW678 := a_ ((gE_ hg : w.heap.size ≤ gb678)); have GE678 := a_ ((gE_ hg : w.heap.size ≤ gb678)); replace HB := a_ (below_step hB_ hb); clear hb hbox hg) | ((with_reducible refine gate_callee (f := 15) rfl ?_); refine goesL_ (some 9) rfl rfl Tryz.func15 (by kernel_rfl) rfl #[] rfl hL_ ?_; (with_reducible refine (sleuthlaw22_awake.calls k  true _ A3.out (by first | exact hG | exact GOK.below hG hC_)).mono ?_); rintro e w16 ⟨rfl, hb⟩; refine ⟨_, rfl, ?_⟩; replace BK678 := a_ (bB_ BK678.out hb); replace HB := a_ (below_step hC_ hb); (try clear hb); (try clear hb2); (try clear hk); (try clear hi); obtain ⟨hcz17_0, hcz17_1, hcz17_2, hfz17_0, hfz17_1, hfz17_2⟩ := bx3_ BK678.out) | ((with_reducible refine gate_callee (f := 8) rfl ?_); refine goesL_ (some 18) rfl rfl Tryz.func8 (by kernel_rfl) rfl #[.agg #[.slice A0_0 l0_0.length c0_0, .int .i64 a0_1, .slice A0_2 l0_2.length c0_2], .int .i64 (wrap64 (1 + (wrap64 (Int.tmod (IntKind.u64.wrap (a1)) 3))))] rfl hL_ ?_; (with_reducible refine (answer_Put.calls k _ _ l0_0 a0_1 _ _ l0_2 (wrap64 (1 + (wrap64 (Int.tmod (IntKind.u64.wrap (a1)) 3)))) t680 t683 t684 t687 _ ?side1 ?side2 ?side3 ?side4 A5.out (by first | exact hG | exact GOK.below hG hC_)).mono ?_); (case side1 => exact cB_ HR0_0.out); (case side2 => exact HC0_0.out); (case side3 => exact cB_ HR0_2.out); (case side4 => exact HC0_2.out); rintro e w18 ⟨v681, v685, rfl, ho0, ho1, hb⟩; refine ⟨_, rfl, ?_⟩; have HO682 := a_ (Kd.S_lower ho0 (below_size hC_)); have HO686 := a_ (Kd.R_lower ho1 (below_size hC_)); replace BK678 := a_ (bB_ BK678.out hb); replace HB := a_ (below_step hC_ hb); (try clear hb); (try clear hb2); (try clear hk); (try clear hi); (try clear ho0); (try clear ho1)) | ((with_reducible refine gate_dst (N := 5) rfl ?_); (try (refine gate_guard (by rfl) ?_; dsimp only)); refine boxE_ 5 #[.slice none 0 0, .int .i64 0, .slice none 0 0] 25 ?_; intro gb688 hg w19 hbox hb; replace HO682 := a_ (Kd.S_below (by (with_reducible repeat (first | apply Kd.S_alloc | apply Kd.S_drewN | apply Kd.S_drew)); exact HO682.out) hb); replace HO686 := a_ (Kd.R_below (hR_ HO686.out) hb); have BK688 := a_ (hbox); have GW688 := a_ ((gE_ hg : w.heap.size ≤ gb688)); have GE688 := a_ ((gE_ hg : w.heap.size ≤ gb688)); replace HB := a_ (below_step hC_ hb); have NB678_688 := a_ ((bL_ BK678.out hg : gb678 ≠ gb688)); have NB688_678 := a_ ((bG_ BK678.out hg : gb688 ≠ gb678)); replace BK678 := a_ (bB_ BK678.out hb); clear hb hbox hg; obtain ⟨Ao20, co20, eo20⟩ := Kd.S_slice HO682.out; subst eo20; have hnb21 := NB688_678.out; have hnc21 := NB678_688.out; obtain ⟨hcz22_0, hcz22_1, hcz22_2, hfz22_0, hfz22_1, hfz22_2⟩ := bx3_ BK688.out; obtain ⟨Ao23, co23, eo23⟩ := Kd.R_slice HO686.out; subst eo23) | ((with_reducible refine gate_callee (f := 13) rfl ?_); refine goesL_ (some 22) rfl rfl Tryz.func13 (by kernel_rfl) rfl #[.int .i64 t687] rfl hL_ ?_; (with_reducible refine (sleuthlaw0_Num.calls t687 t689 _ A6.out).mono ?_); rintro e w' ⟨rfl, ⟨nd, rfl⟩⟩; refine ⟨_, rfl, ?_⟩) | ((with_reducible refine gate_callee (f := 10) rfl ?_); refine goesL_ (some 29) rfl rfl Tryz.func10 (by kernel_rfl) rfl #[.agg #[.slice Ao20 t680.length co20, .int .i64 t683, .slice Ao23 t684.length co23]] rfl hL_ ?_; (with_reducible refine (answer_Undo.calls k _ _ t680 t683 _ _ t684 t691 t694 t695 t698 _ ?side1 ?side2 ?side3 ?side4 A8.out (by first | exact hG | exact GOK.below hG hC_)).mono ?_); (case side1 => refine (Kd.S_reads' (e := 66) (base := w.heap.size) (ok := fun k_ => True) (n := t680.length) (c := co20) ?_).2.2; exact (by (with_reducible repeat (first | apply Kd.S_alloc | apply Kd.S_drewN | apply Kd.S_drew)); exact (Kd.S_mono (sF_ (sF_ (sF_ (Kd.S_types HO682.out BK688.out (by decide))))) (fun _ h_ => h_.1)))); (case side2 => exact (Kd.S_reads' HO682.out).2.1); (case side3 => refine (Kd.R_reads' (e := 53) (base := w.heap.size) (ok := fun k_ => True) (n := t684.length) (c := co23) ?_).2.2; exact (by (with_reducible repeat (first | apply Kd.R_alloc | apply Kd.R_drewN | apply Kd.R_drew)); exact (Kd.R_mono (rF_ (rF_ (rF_ (Kd.R_types HO686.out BK688.out (by decide))))) (fun _ h_ => h_.1)))); (case side4 => exact (Kd.R_reads' HO686.out).2.1); rintro e w24 ⟨v692, v696, rfl, ho0, ho1, hb⟩; refine ⟨_, rfl, ?_⟩; have HO693 := a_ (Kd.S_lower (Kd.S_new' ho0 (Kd.S_lt (by (with_reducible repeat (first | apply Kd.S_alloc | apply Kd.S_drewN | apply Kd.S_drew)); exact (Kd.S_mono (sF_ (sF_ (sF_ (Kd.S_types HO682.out BK688.out (by decide))))) (fun _ h_ => h_.1))))) (below_size hC_)); replace HO682 := a_ (Kd.S_elder' (by (with_reducible repeat (first | apply Kd.S_alloc | apply Kd.S_drewN | apply Kd.S_drew)); exact (Kd.S_mono (sF_ (sF_ (sF_ (Kd.S_types HO682.out BK688.out (by decide))))) (fun _ h_ => h_.1))) (Kd.S_base ho0) hb); have HO697 := a_ (Kd.R_lower (Kd.R_new' ho1 (Kd.R_lt (by (with_reducible repeat (first | apply Kd.R_alloc | apply Kd.R_drewN | apply Kd.R_drew)); exact (Kd.R_mono (rF_ (rF_ (rF_ (Kd.R_types HO686.out BK688.out (by decide))))) (fun _ h_ => h_.1))))) (below_size hC_)); replace HO686 := a_ (Kd.R_elder' (by (with_reducible repeat (first | apply Kd.R_alloc | apply Kd.R_drewN | apply Kd.R_drew)); exact (Kd.R_mono (rF_ (rF_ (rF_ (Kd.R_types HO686.out BK688.out (by decide))))) (fun _ h_ => h_.1))) (Kd.R_base ho1) hb); replace BK678 := a_ (blk_below (g := gb678) (o := .cells #[.slice A0_0 l0_0.length c0_0, .int .i64 a0_1, .slice A0_2 l0_2.length c0_2] 25 (0, 0)) (by (with_reducible repeat (first | refine blk_drewN ?_ _ | refine blk_drew ?_ | refine blk_alloc ?_ _)); exact (bF_ (bF_ (bF_ (hK_ BK678.out) NB678_688.out) NB678_688.out) NB678_688.out)) hb); replace BK688 := a_ (blk_below (g := gb688) (o := .cells #[.slice Ao20 t680.length co20, .int .i64 t683, .slice Ao23 t684.length co23] 25 (0, 0)) (by (with_reducible repeat (first | refine blk_drewN ?_ _ | refine blk_drew ?_ | refine blk_alloc ?_ _)); exact (bP_ (bP_ (bP_ (hK_ BK688.out))))) hb); replace HB := a_ (below_step hC_ hb); (try clear hb); (try clear hb2); (try clear hk); (try clear hi); (try clear ho0); (try clear ho1)) | ((with_reducible refine gate_dst (N := 7) rfl ?_); (try (refine gate_guard (by rfl) ?_; dsimp only)); refine boxE_ 7 #[.slice none 0 0, .int .i64 0, .slice none 0 0] 25 ?_; intro gb699 hg w25 hbox hb; replace HO682 := a_ (Kd.S_below (by (with_reducible repeat (first | apply Kd.S_alloc | apply Kd.S_drewN | apply Kd.S_drew)); exact HO682.out) hb); replace HO686 := a_ (Kd.R_below (hR_ HO686.out) hb); replace HO693 := a_ (Kd.S_below (by (with_reducible repeat (first | apply Kd.S_alloc | apply Kd.S_drewN | apply Kd.S_drew)); exact HO693.out) hb); replace HO697 := a_ (Kd.R_below (hR_ HO697.out) hb); have BK699 := a_ (hbox); have GW699 := a_ ((gE_ hg : w.heap.size ≤ gb699)); have GE699 := a_ ((gE_ hg : w.heap.size ≤ gb699)); replace HB := a_ (below_step hC_ hb); have NB678_699 := a_ ((bL_ BK678.out hg : gb678 ≠ gb699)); have NB699_678 := a_ ((bG_ BK678.out hg : gb699 ≠ gb678)); replace BK678 := a_ (bB_ BK678.out hb); have NB688_699 := a_ ((bL_ BK688.out hg : gb688 ≠ gb699)); have NB699_688 := a_ ((bG_ BK688.out hg : gb699 ≠ gb688)); replace BK688 := a_ (bB_ BK688.out hb); clear hb hbox hg; obtain ⟨Ao26, co26, eo26⟩ := Kd.S_slice HO693.out; subst eo26; have hnb27 := NB699_678.out; have hnc27 := NB678_699.out; have hnb28 := NB699_688.out; have hnc28 := NB688_699.out; obtain ⟨hcz29_0, hcz29_1, hcz29_2, hfz29_0, hfz29_1, hfz29_2⟩ := bx3_ BK699.out; obtain ⟨Ao30, co30, eo30⟩ := Kd.R_slice HO697.out; subst eo30) | ((with_reducible refine gate_callee (f := 13) rfl ?_); refine goesL_ (some 33) rfl rfl Tryz.func13 (by kernel_rfl) rfl #[.int .i64 t698] rfl hL_ ?_; (with_reducible refine (sleuthlaw0_Num.calls t698 t700 _ A9.out).mono ?_); rintro e w' ⟨rfl, ⟨nd, rfl⟩⟩; refine ⟨_, rfl, ?_⟩; obtain ⟨hcz31_0, hcz31_1, hcz31_2, hfz31_0, hfz31_1, hfz31_2⟩ := bx3_ BK678.out) | (go_at_call 12; (with_reducible refine (sleuthlaw0_SameSession.calls k _ _ t691 t694 _ _ t695 _ _ l0_0 a0_1 _ _ l0_2 true _ ?side1 ?side2 ?side3 ?side4 ?side5 ?side6 ?side7 ?side8 A11.out).mono ?_); (case side1 => refine (Kd.S_reads' (e := 66) (base := w.heap.size) (ok := fun k_ => (True ∧ some k_ ≠ (.slice Ao20 t680.length co20 : Value).ownBlock)) (n := t691.length) (c := co26) ?_).2.2; exact (by (with_reducible repeat (first | apply Kd.S_alloc | apply Kd.S_drewN | apply Kd.S_drew)); exact (Kd.S_mono (sF_ (sF_ (sF_ (Kd.S_types HO693.out BK699.out (by decide))))) (fun _ h_ => h_.1)))); (case side2 => exact (Kd.S_reads' HO693.out).2.1); (case side3 => refine (Kd.R_reads' (e := 53) (base := w.heap.size) (ok := fun k_ => (True ∧ some k_ ≠ (.slice Ao23 t684.length co23 : Value).ownBlock)) (n := t695.length) (c := co30) ?_).2.2; exact (by (with_reducible repeat (first | apply Kd.R_alloc | apply Kd.R_drewN | apply Kd.R_drew)); exact (Kd.R_mono (rF_ (rF_ (rF_ (Kd.R_types HO697.out BK699.out (by decide))))) (fun _ h_ => h_.1)))); (case side4 => exact (Kd.R_reads' HO697.out).2.1); (case side5 => exact Kd.C_below HR0_0.out hC_); (case side6 => exact HC0_0.out); (case side7 => exact Kd.C_below HR0_2.out hC_); (case side8 => exact HC0_2.out); rintro e w32 ⟨rfl, hb⟩; replace HO682 := a_ (Kd.S_below (by (with_reducible repeat (first | apply Kd.S_alloc | apply Kd.S_drewN | apply Kd.S_drew)); exact (Kd.S_mono (sF_ (sF_ (sF_ (Kd.S_types HO682.out BK699.out (by decide))))) (fun _ h_ => h_.1))) hb); replace HO686 := a_ (Kd.R_below (by (with_reducible repeat (first | apply Kd.R_alloc | apply Kd.R_drewN | apply Kd.R_drew)); exact (Kd.R_mono (rF_ (rF_ (rF_ (Kd.R_types HO686.out BK699.out (by decide))))) (fun _ h_ => h_.1))) hb); replace HO693 := a_ (Kd.S_below (by (with_reducible repeat (first | apply Kd.S_alloc | apply Kd.S_drewN | apply Kd.S_drew)); exact (Kd.S_mono (sF_ (sF_ (sF_ (Kd.S_types HO693.out BK699.out (by decide))))) (fun _ h_ => h_.1))) hb); replace HO697 := a_ (Kd.R_below (by (with_reducible repeat (first | apply Kd.R_alloc | apply Kd.R_drewN | apply Kd.R_drew)); exact (Kd.R_mono (rF_ (rF_ (rF_ (Kd.R_types HO697.out BK699.out (by decide))))) (fun _ h_ => h_.1))) hb); replace BK678 := a_ (blk_below (g := gb678) (o := .cells #[.slice A0_0 l0_0.length c0_0, .int .i64 a0_1, .slice A0_2 l0_2.length c0_2] 25 (0, 0)) (by (with_reducible repeat (first | refine blk_drewN ?_ _ | refine blk_drew ?_ | refine blk_alloc ?_ _)); exact (bF_ (bF_ (bF_ (hK_ BK678.out) NB678_699.out) NB678_699.out) NB678_699.out)) hb); replace BK688 := a_ (blk_below (g := gb688) (o := .cells #[.slice Ao20 t680.length co20, .int .i64 t683, .slice Ao23 t684.length co23] 25 (0, 0)) (by (with_reducible repeat (first | refine blk_drewN ?_ _ | refine blk_drew ?_ | refine blk_alloc ?_ _)); exact (bF_ (bF_ (bF_ (hK_ BK688.out) NB688_699.out) NB688_699.out) NB688_699.out)) hb); replace BK699 := a_ (blk_below (g := gb699) (o := .cells #[.slice Ao26 t691.length co26, .int .i64 t694, .slice Ao30 t695.length co30] 25 (0, 0)) (by (with_reducible repeat (first | refine blk_drewN ?_ _ | refine blk_drew ?_ | refine blk_alloc ?_ _)); exact (bP_ (bP_ (bP_ (hK_ BK699.out))))) hb); replace HB := a_ (below_step hC_ hb); (try clear hb); (try clear hb2); (try clear hk); (try clear hi); obtain ⟨hcz33_0, hcz33_1, hcz33_2, hfz33_0, hfz33_1, hfz33_2⟩ := bx3_ BK688.out; obtain ⟨hcz34_0, hcz34_1, hcz34_2, hfz34_0, hfz34_1, hfz34_2⟩ := bx3_ BK678.out) | (go_at_call 16; (with_reducible refine (sleuthref12_SessionMay.calls k _ _ t680 t683 _ _ t684 t702 _ ?side1 ?side2 ?side3 ?side4 A14.out).mono ?_); (case side1 => repeat (first | exact (Kd.S_reads' HO682.out).2.2 | (with_reducible refine Kd.C_alloc ?_ _) | (with_reducible refine Kd.C_drewN ?_ _) | (with_reducible refine Kd.C_drew ?_))); (case side2 => exact (Kd.S_reads' HO682.out).2.1); (case side3 => exact cC_ (Kd.R_reads' HO686.out).2.2); (case side4 => exact (Kd.R_reads' HO686.out).2.1); rintro e w35 ⟨rfl, hb⟩; replace HO682 := a_ (Kd.S_below (by (with_reducible repeat (first | apply Kd.S_alloc | apply Kd.S_drewN | apply Kd.S_drew)); exact HO682.out) hb); replace HO686 := a_ (Kd.R_below (hR_ HO686.out) hb); replace HO693 := a_ (Kd.S_below (by (with_reducible repeat (first | apply Kd.S_alloc | apply Kd.S_drewN | apply Kd.S_drew)); exact HO693.out) hb); replace HO697 := a_ (Kd.R_below (hR_ HO697.out) hb); replace BK678 := a_ (bB_ BK678.out hb); replace BK688 := a_ (bB_ BK688.out hb); replace BK699 := a_ (bB_ BK699.out hb); replace HB := a_ (below_step hC_ hb); (try clear hb); (try clear hb2); (try clear hk); (try clear hi)))
 go_ret
 exact ⟨hV_, hC_⟩
end Go.Proofs.YtbnljapgnfmmoaaGreatDoor.G
