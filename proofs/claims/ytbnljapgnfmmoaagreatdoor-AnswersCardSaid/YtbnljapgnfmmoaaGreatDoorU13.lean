/- Parts of this proof, one behind the other: G47, AnsVals, G55, G56, AnsWake, AnsNew, G51, G52, G53, G54, SpoilVals. -/
import Derived.Test.YtbnljapgnfmmoaaGreatDoorU2
import Derived.Test.YtbnljapgnfmmoaaGreatDoorG0
import Derived.Test.YtbnljapgnfmmoaaGreatDoorU6
import Derived.Test.YtbnljapgnfmmoaaGreatDoorU7
import Derived.Test.YtbnljapgnfmmoaaGreatDoorU12
import Derived.Test.YtbnljapgnfmmoaaGreatDoorU10
import Derived.Test.YtbnljapgnfmmoaaGreatDoorU5
section
namespace Go.Proofs.YtbnljapgnfmmoaaGreatDoor.G
open Go.RowKit Go.Proofs.YtbnljapgnfmmoaaGreatDoorW.PrintWords Go.Proofs.YtbnljapgnfmmoaaGreatDoorW.PrintLast Go.Proofs.YtbnljapgnfmmoaaGreatDoorW.PrintMore
set_option maxHeartbeats 8000000
set_option maxRecDepth 100000
attribute [local go_sem] max2_int min2_int max_two min_two max_three min_three max_four min_four   -- for this text's walks alone
set_option linter.unusedVariables false
set_option linter.unusedSimpArgs false

def answer_Undo.f (k : Nat) (l0_0 : List (S66)) (a0_1 : Int) (l0_2 : List (S53)) : Option ((List (S66)) × Int × (List (S53)) × Int) := (session_May.f k l0_0 a0_1 l0_2).bind fun t486 => (if t486 = true then (if (l0_2.length : Int) = 0 then (some (([] : List (S66)), 0, ([] : List (S53)), 2201)) else ((session_Copy.f l0_0 a0_1 l0_2).bind fun bt487 => (if 0 ≤ (wrap64 ((bt487.2.2.length : Int) - 1)) then (if (wrap64 ((bt487.2.2.length : Int) - 1)) ≤ (bt487.2.2.length : Int) then (some (bt487.1, bt487.2.1, (bt487.2.2.take ((wrap64 ((bt487.2.2.length : Int) - 1)) : Int).toNat), 0)) else (none)) else (none)))) else (some (([] : List (S66)), 0, ([] : List (S53)), 2200)))
theorem answer_Undo.calls (k : Nat) (A0_0 : Option Addr) (c0_0 : Nat) (l0_0 : List (S66)) (a0_1 : Int) (A0_2 : Option Addr) (c0_2 : Nat) (l0_2 : List (S53)) (r1 : List (S66)) (r2 : Int) (r3 : List (S53)) (r4 : Int) (w : World) (hr0_0 : Kd.C k66 w A0_0 l0_0.length l0_0) (hc0_0 : l0_0.length ≤ c0_0) (hr0_2 : Kd.C k53 w A0_2 l0_2.length l0_2) (hc0_2 : l0_2.length ≤ c0_2) (h : answer_Undo.f k l0_0 a0_1 l0_2 = some (r1, r2, r3, r4)) (hG : GOK w) :
 Calls Tryz.prog 10 #[.agg #[.slice A0_0 l0_0.length c0_0, .int .i64 a0_1, .slice A0_2 l0_2.length c0_2]] w fun e w' => ∃ v0_ v2_ : Value, e = .returned (.tuple #[.agg #[v0_, .int .i64 r2, v2_], .int .i64 r4]) ∧ Kd.S k66 66 w' w.heap.size (fun _ => True) v0_ r1 ∧ Kd.R k53 53 w' w.heap.size (fun _ => True) v2_ r3 ∧ Below w.heap.size w w' := by
 have hu25 := Tryz.underlying25
 have HR0_0 := a_ hr0_0
 have HC0_0 := a_ hc0_0
 clear hr0_0 hc0_0
 have HR0_2 := a_ hr0_2
 have HC0_2 := a_ hc0_2
 clear hr0_2 hc0_2
 have HB := a_ (Below.refl w.heap.size w)
 have H := h; unfold answer_Undo.f at H
 clear h
 replace H := Option.bind_eq_some_iff.mp H
 obtain ⟨t3, A20, H⟩ := H
 try dsimp only at H
 have A2 := a_ A20
 clear A20
 by_cases c3 : t3 = true
 case neg =>
  replace c3 := Bool.eq_false_iff.mpr c3
  subst c3
  rw [if_neg (show ¬ (false = true) by decide)] at H
  simp only [Option.some.injEq, Prod.mk.injEq] at H
  obtain ⟨rfl, rfl, rfl, rfl⟩ := H
  go_enter Tryz.func10, Tryz.ntmps10
  go_wp2_with (first | ((with_reducible refine gate_dst (N := 1) rfl ?_); refine boxE_ 1 #[.slice A0_0 l0_0.length c0_0, .int .i64 a0_1, .slice A0_2 l0_2.length c0_2] 25 ?_; intro g1 hg w3 hbox hb; have B0 := a_ (hbox); have E0 := a_ ((gE_ hg : w.heap.size ≤ g1)); replace HB := a_ (below_step hB_ hb); clear hb hbox hg) | ((with_reducible refine gate_dst (N := 2) rfl ?_); refine boxE_ 2 #[.slice none 0 0, .int .i64 0, .slice none 0 0] 25 ?_; intro g0 hg w4 hbox hb; have B1 := a_ (hbox); have E1 := a_ ((gE_ hg : w.heap.size ≤ g0)); replace HB := a_ (below_step hC_ hb); have N0 := a_ ((bL_ B0.out hg : g1 ≠ g0)); have N1 := a_ ((bG_ B0.out hg : g0 ≠ g1)); replace B0 := a_ (bB_ B0.out hb); clear hb hbox hg; have m0 := N0.out; have n0 := N1.out; obtain ⟨z0, z1, z2, f0, f1, f2⟩ := bx3_ B0.out) | ((with_reducible refine gate_callee (f := 21) rfl ?_); refine goesL_ (some 7) rfl rfl Tryz.func21 (by kernel_rfl) rfl #[.agg #[.slice A0_0 l0_0.length c0_0, .int .i64 a0_1, .slice A0_2 l0_2.length c0_2]] rfl hL_ ?_; (with_reducible refine (session_May.calls k _ _ l0_0 a0_1 _ _ l0_2 false _ ?s1 ?s2 ?s3 ?s4 A2.out (by first | exact hG | exact GOK.below hG hC_)).mono ?_); (case s1 => exact cB_ HR0_0.out); (case s2 => exact HC0_0.out); (case s3 => exact cB_ HR0_2.out); (case s4 => exact HC0_2.out); rintro e w7 ⟨rfl, hb⟩; refine ⟨_, rfl, ?_⟩; replace B0 := a_ (bB_ B0.out hb); replace B1 := a_ (bB_ B1.out hb); replace HB := a_ (below_step hC_ hb); (try clear hb); (try clear hb2); (try clear hk); (try clear hi); obtain ⟨z3, z4, z5, f3, f4, f5⟩ := bx3_ B1.out))
  refine bodyPost_ret (results_ct rfl _ _ g0 25 #[.slice none 0 0, .int .i64 0, .slice none 0 0] (0, 0) _ rfl (bP_ (bP_ (bP_ (hK_ B1.out)))) Tryz.underlying25 rfl (by kernel_rfl)) rfl ?_
  exact ⟨_, _, hV_, by first | exact Kd.S_nil _ _ _ _ _ | exact Kd.N_nil _ _ _ _ _ | exact Kd.V_nil _ _ _ _ _ | exact Kd.Q_nil _ _ _ _ _ | exact Kd.R_nil _ _ _ _ _, by first | exact Kd.R_nil _ _ _ _ _ | exact Kd.N_nil _ _ _ _ _ | exact Kd.V_nil _ _ _ _ _ | exact Kd.Q_nil _ _ _ _ _ | exact Kd.S_nil _ _ _ _ _, hC_⟩

 subst c3
 rw [if_pos rfl] at H
 by_cases c4 : (l0_2.length : Int) = 0
 case pos =>
  rw [if_pos c4] at H
  have c4b0 : ((l0_2.length : Int) == 0) = true := beq_iff_eq.mpr c4
  have c4b1 : ((l0_2.length : Int) != 0) = false := bne_eq_false_iff_eq.mpr c4
  clear c4
  simp only [Option.some.injEq, Prod.mk.injEq] at H
  obtain ⟨rfl, rfl, rfl, rfl⟩ := H
  go_enter Tryz.func10, Tryz.ntmps10
  go_wp2_with (first | ((with_reducible refine gate_dst (N := 1) rfl ?_); refine boxE_ 1 #[.slice A0_0 l0_0.length c0_0, .int .i64 a0_1, .slice A0_2 l0_2.length c0_2] 25 ?_; intro g1 hg w5 hbox hb; have B0 := a_ (hbox); have E0 := a_ ((gE_ hg : w.heap.size ≤ g1)); replace HB := a_ (below_step hB_ hb); clear hb hbox hg) | ((with_reducible refine gate_dst (N := 2) rfl ?_); refine boxE_ 2 #[.slice none 0 0, .int .i64 0, .slice none 0 0] 25 ?_; intro g0 hg w6 hbox hb; have B1 := a_ (hbox); have E1 := a_ ((gE_ hg : w.heap.size ≤ g0)); replace HB := a_ (below_step hC_ hb); have N0 := a_ ((bL_ B0.out hg : g1 ≠ g0)); have N1 := a_ ((bG_ B0.out hg : g0 ≠ g1)); replace B0 := a_ (bB_ B0.out hb); clear hb hbox hg; have m1 := N0.out; have n1 := N1.out; obtain ⟨z6, z7, z8, f6, f7, f8⟩ := bx3_ B0.out) | ((with_reducible refine gate_callee (f := 21) rfl ?_); refine goesL_ (some 7) rfl rfl Tryz.func21 (by kernel_rfl) rfl #[.agg #[.slice A0_0 l0_0.length c0_0, .int .i64 a0_1, .slice A0_2 l0_2.length c0_2]] rfl hL_ ?_; (with_reducible refine (session_May.calls k _ _ l0_0 a0_1 _ _ l0_2 true _ ?s1 ?s2 ?s3 ?s4 A2.out (by first | exact hG | exact GOK.below hG hC_)).mono ?_); (case s1 => exact cB_ HR0_0.out); (case s2 => exact HC0_0.out); (case s3 => exact cB_ HR0_2.out); (case s4 => exact HC0_2.out); rintro e w9 ⟨rfl, hb⟩; refine ⟨_, rfl, ?_⟩; replace B0 := a_ (bB_ B0.out hb); replace B1 := a_ (bB_ B1.out hb); replace HB := a_ (below_step hC_ hb); (try clear hb); (try clear hb2); (try clear hk); (try clear hi); obtain ⟨z9, z10, z11, f9, f10, f11⟩ := bx3_ B0.out; obtain ⟨z12, z13, z14, f12, f13, f14⟩ := bx3_ B1.out))
  refine bodyPost_ret (results_ct rfl _ _ g0 25 #[.slice none 0 0, .int .i64 0, .slice none 0 0] (0, 0) _ rfl (bP_ (bP_ (bP_ (hK_ B1.out)))) Tryz.underlying25 rfl (by kernel_rfl)) rfl ?_
  exact ⟨_, _, hV_, by first | exact Kd.S_nil _ _ _ _ _ | exact Kd.N_nil _ _ _ _ _ | exact Kd.V_nil _ _ _ _ _ | exact Kd.Q_nil _ _ _ _ _ | exact Kd.R_nil _ _ _ _ _, by first | exact Kd.R_nil _ _ _ _ _ | exact Kd.N_nil _ _ _ _ _ | exact Kd.V_nil _ _ _ _ _ | exact Kd.Q_nil _ _ _ _ _ | exact Kd.S_nil _ _ _ _ _, hC_⟩
 rw [if_neg c4] at H
 have c4b0 : ((l0_2.length : Int) == 0) = false := beq_eq_false_iff_ne.mpr c4
 have c4b1 : ((l0_2.length : Int) != 0) = true := bne_iff_ne.mpr c4
 have c4b2 : ¬ (l0_2 = []) := fun h_ => c4 (by rw [h_]; rfl)
 replace H := Option.bind_eq_some_iff.mp H
 obtain ⟨⟨t1, t2, t0⟩, A120, H⟩ := H
 try dsimp only at H
 have A12 := a_ A120
 clear A120
 obtain ⟨ji13, hji13⟩ : ∃ j_ : Int, (wrap64 ((t0.length : Int) - 1)) = j_ := ⟨_, rfl⟩
 replace H : (if 0 ≤ (ji13) then (if (ji13) ≤ (t0.length : Int) then (some (t1, t2, (t0.take ((ji13) : Int).toNat), 0)) else (none)) else (none)) = some (r1, r2, r3, r4) := by first | (rw [hji13] at H; exact H) | (simp only [hji13] at H ⊢; exact H)
 (try rw [hji13] at A2)
 (try rw [hji13] at A12)
 have hji13w : (IntKind.i64.wrap ((t0.length : Int) - 1)) = ji13 := (i64_w _).trans hji13
 replace H := ifI_ H; obtain ⟨c14, H⟩ := H
 have c14b0 := eq_true c14
 have c14b1 : decide (0 ≤ (ji13)) = true := decide_eq_true c14
 clear c14
 replace H := ifI_ H; obtain ⟨c15, H⟩ := H
 have c15b0 := eq_true c15
 have c15b1 : decide ((ji13) ≤ (t0.length : Int)) = true := decide_eq_true c15
 clear c15
 obtain ⟨y0, i0⟩ : ∃ y_ : List (S53), y_ = (t0.take ((ji13) : Int).toNat) := ⟨_, rfl⟩
 replace H : (some (t1, t2, y0, 0)) = some (r1, r2, r3, r4) := by first | (rw [i0]; with_reducible exact H) | (have H2_ := (Option.bind_some _ _).symm.trans H; rw [i0]; with_reducible exact H2_) | (have H2_ := (Option.bind_some _ _).symm.trans H; with_reducible exact H2_) | with_reducible exact H | (rw [i0]; exact H) | exact H
 have Y0 := a_ i0
 clear i0
 simp only [Option.some.injEq, Prod.mk.injEq] at H
 obtain ⟨rfl, rfl, rfl, rfl⟩ := H
 go_enter Tryz.func10, Tryz.ntmps10
 go_wp2_with (first | ((with_reducible refine gate_dst (N := 1) rfl ?_); refine boxE_ 1 #[.slice A0_0 l0_0.length c0_0, .int .i64 a0_1, .slice A0_2 l0_2.length c0_2] 25 ?_; intro g1 hg w8 hbox hb; have B0 := a_ (hbox); have E0 := a_ ((gE_ hg : w.heap.size ≤ g1)); replace HB := a_ (below_step hB_ hb); clear hb hbox hg) | ((with_reducible refine gate_dst (N := 2) rfl ?_); refine boxE_ 2 #[.slice none 0 0, .int .i64 0, .slice none 0 0] 25 ?_; intro g0 hg w17 hbox hb; have B1 := a_ (hbox); have E1 := a_ ((gE_ hg : w.heap.size ≤ g0)); replace HB := a_ (below_step hC_ hb); have N0 := a_ ((bL_ B0.out hg : g1 ≠ g0)); have N1 := a_ ((bG_ B0.out hg : g0 ≠ g1)); replace B0 := a_ (bB_ B0.out hb); clear hb hbox hg; have m2 := N0.out; have n2 := N1.out; obtain ⟨z15, z16, z17, f15, f16, f17⟩ := bx3_ B0.out) | ((with_reducible refine gate_callee (f := 21) rfl ?_); refine goesL_ (some 7) rfl rfl Tryz.func21 (by kernel_rfl) rfl #[.agg #[.slice A0_0 l0_0.length c0_0, .int .i64 a0_1, .slice A0_2 l0_2.length c0_2]] rfl hL_ ?_; (with_reducible refine (session_May.calls k _ _ l0_0 a0_1 _ _ l0_2 true _ ?s1 ?s2 ?s3 ?s4 A2.out (by first | exact hG | exact GOK.below hG hC_)).mono ?_); (case s1 => exact cB_ HR0_0.out); (case s2 => exact HC0_0.out); (case s3 => exact cB_ HR0_2.out); (case s4 => exact HC0_2.out); rintro e w20 ⟨rfl, hb⟩; refine ⟨_, rfl, ?_⟩; replace B0 := a_ (bB_ B0.out hb); replace B1 := a_ (bB_ B1.out hb); replace HB := a_ (below_step hC_ hb); (try clear hb); (try clear hb2); (try clear hk); (try clear hi); obtain ⟨z18, z19, z20, f18, f19, f20⟩ := bx3_ B0.out) | ((with_reducible refine gate_callee (f := 24) rfl ?_); refine goesL_ (some 17) rfl rfl Tryz.func24 (by kernel_rfl) rfl #[.agg #[.slice A0_0 l0_0.length c0_0, .int .i64 a0_1, .slice A0_2 l0_2.length c0_2]] rfl hL_ ?_; (with_reducible refine (session_Copy.calls _ _ l0_0 a0_1 _ _ l0_2 t1 t2 t0 _ ?s1 ?s2 ?s3 ?s4 A12.out).mono ?_); (case s1 => exact cB_ HR0_0.out); (case s2 => exact HC0_0.out); (case s3 => exact cB_ HR0_2.out); (case s4 => exact HC0_2.out); rintro e w22 ⟨v0, v1, rfl, ho0, ho1, hb⟩; refine ⟨_, rfl, ?_⟩; have P1 := a_ (Kd.S_lower ho0 (below_size hC_)); have P0 := a_ (Kd.R_lower ho1 (below_size hC_)); replace B0 := a_ (bB_ B0.out hb); replace B1 := a_ (bB_ B1.out hb); replace HB := a_ (below_step hC_ hb); (try clear hb); (try clear hb2); (try clear hk); (try clear hi); (try clear ho0); (try clear ho1)) | ((with_reducible refine gate_dst (N := 4) rfl ?_); refine boxE_ 4 #[.slice none 0 0, .int .i64 0, .slice none 0 0] 25 ?_; intro g2 hg w2 hbox hb; replace P1 := a_ (Kd.S_below (by (with_reducible repeat (first | apply Kd.S_alloc | apply Kd.S_drewN | apply Kd.S_drew)); exact P1.out) hb); replace P0 := a_ (Kd.R_below (hR_ P0.out) hb); have B2 := a_ (hbox); have E2 := a_ ((gE_ hg : w.heap.size ≤ g2)); replace HB := a_ (below_step hC_ hb); have N3 := a_ ((bL_ B0.out hg : g1 ≠ g2)); have N4 := a_ ((bG_ B0.out hg : g2 ≠ g1)); replace B0 := a_ (bB_ B0.out hb); have N2 := a_ ((bL_ B1.out hg : g0 ≠ g2)); have N5 := a_ ((bG_ B1.out hg : g2 ≠ g0)); replace B1 := a_ (bB_ B1.out hb); clear hb hbox hg; obtain ⟨a1, o1, e0⟩ := Kd.S_slice P1.out; subst e0; have m3 := N4.out; have n3 := N3.out; have m4 := N5.out; have n4 := N2.out; obtain ⟨z21, z22, z23, f21, f22, f23⟩ := bx3_ B2.out; obtain ⟨a0, o0, e1⟩ := Kd.R_slice P0.out; subst e1) | ((with_reducible refine gate_store (t := 25) (p := 4) rfl ?_); refine store_event (t := 25) (p := 4) (v := ?vo_w29) (w1 := (((w2.setCell ⟨g2, 0, none⟩ (.slice a1 t1.length o1)).setCell ⟨g2, 1, none⟩ (.int .i64 t2)).setCell ⟨g2, 2, none⟩ (.slice a0 t0.length o0))) ?hg ?ho ?hn ?hr ?_; (case ho => rfl); (case hg => rfl); (case hn => rfl); (case hr => first | (go_simp; done) | (go_simp; rfl)); intro w0 hw; replace P1 : Aside0 (Kd.S k66 66 w0 w.heap.size (fun _ => True) (.slice a1 t1.length o1) t1) := ⟨(by rw [hw]; exact (by (with_reducible repeat (first | apply Kd.S_alloc | apply Kd.S_drewN | apply Kd.S_drew)); exact Kd.S_mono (sF_ (sF_ (sF_ (Kd.S_types P1.out B2.out (by decide))))) (fun _ hk => trivial)))⟩; replace P0 : Aside0 (Kd.R k53 53 w0 w.heap.size (fun _ => True) (.slice a0 t0.length o0) t0) := ⟨(by rw [hw]; exact (by (with_reducible repeat (first | apply Kd.R_alloc | apply Kd.R_drewN | apply Kd.R_drew)); exact Kd.R_mono (rF_ (rF_ (rF_ (Kd.R_types P0.out B2.out (by decide))))) (fun _ hk => trivial)))⟩; replace B0 : Aside0 (w0.heap[g1]? = some (.cells #[.slice A0_0 l0_0.length c0_0, .int .i64 a0_1, .slice A0_2 l0_2.length c0_2] 25 (0, 0))) := ⟨(by rw [hw]; exact (bF_ (bF_ (bF_ (hK_ B0.out) N3.out) N3.out) N3.out))⟩; replace B1 : Aside0 (w0.heap[g0]? = some (.cells #[.slice none 0 0, .int .i64 0, .slice none 0 0] 25 (0, 0))) := ⟨(by rw [hw]; exact (bF_ (bF_ (bF_ (hK_ B1.out) N2.out) N2.out) N2.out))⟩; replace B2 : Aside0 (w0.heap[g2]? = some (.cells #[.slice a1 t1.length o1, .int .i64 t2, .slice a0 t0.length o0] 25 (0, 0))) := ⟨(by rw [hw]; exact (bP_ (bP_ (bP_ (hK_ B2.out)))))⟩; replace HB : Aside0 (Below w.heap.size w w0) := ⟨(by rw [hw]; exact hC_)⟩; clear hw; obtain ⟨z24, z25, z26, f24, f25, f26⟩ := bx3_ B2.out; have q31 : ((ji13) : Int) ≤ ((t0.length : Int) : Int) := of_decide_eq_true hA_; obtain ⟨i031, hi031, _, hsz31, _⟩ := info_parts info53; have hcut31 := cut_to (P := Tryz.prog) 23 53 .i64 Tryz.underlying23 hi031 a0 t0.length o0 (ji13) (of_decide_eq_true hA_) q31 (Kd.R_reads' P0.out).2.1; have hr31 := Kd.R_take (m := ((ji13) : Int).toNat) P0.out (by omega); have i1 : y0.length = ((ji13) : Int).toNat := (by rw [Y0.out, List.length_take]; omega); rw [← Y0.out] at hr31; rw [← i1] at hr31 hcut31; clear i1 hi031 hsz31 P0; have P2 := a_ hr31; clear hr31; replace q31 := eq_true q31; obtain ⟨z27, z28, z29, f27, f28, f29⟩ := bx3_ B1.out))
 refine bodyPost_ret (results_ct rfl _ _ g0 25 #[.slice a1 t1.length o1, .int .i64 t2, .slice a0 y0.length o0] (0, 0) _ rfl (bP_ (bP_ (bP_ (bF_ (hK_ B1.out) N2.out)))) Tryz.underlying25 rfl (by kernel_rfl)) rfl ?_
 exact ⟨_, _, by first | rfl | (simp [errW_none, errW_some] <;> rfl) | (simp only [← hji13]; first | rfl | (simp [errW_none, errW_some] <;> rfl)) | (simp [*, errW_none, errW_some] <;> rfl), by (with_reducible repeat (first | apply Kd.S_alloc | apply Kd.S_drewN | apply Kd.S_drew)); exact Kd.S_mono (sF_ (sF_ (sF_ (Kd.S_far (p := ⟨g2, 2, none⟩) (Kd.S_types (Kd.S_types P1.out B2.out (by decide)) B1.out (by decide)) (fun _ hk => hk.1.2) (.slice a0 y0.length o0))))) (fun _ hk => trivial), by (with_reducible repeat (first | apply Kd.R_alloc | apply Kd.R_drewN | apply Kd.R_drew)); exact Kd.R_mono (rF_ (rF_ (rF_ (Kd.R_far (p := ⟨g2, 2, none⟩) (Kd.R_types (Kd.R_types P2.out B2.out (by decide)) B1.out (by decide)) (fun _ hk => hk.1.2) (.slice a0 y0.length o0))))) (fun _ hk => trivial), hC_⟩
def sleuthref12_Undo.f (k : Nat) (l0_0 : List (S66)) (a0_1 : Int) (l0_2 : List (S53)) : Option ((List (S66)) × Int × (List (S53)) × Int) := (sleuthref12_SessionMay.f k l0_0 a0_1 l0_2).bind fun t500 => (if t500 = true then (if (l0_2.length : Int) = 0 then (some (([] : List (S66)), 0, ([] : List (S53)), 2201)) else ((some (([] : List (S53)) : List (S53))).bind fun y501 => (if 0 ≤ (wrap64 ((l0_2.length : Int) - 1)) then (if (wrap64 ((l0_2.length : Int) - 1)) ≤ (l0_2.length : Int) then ((some (l0_2.take ((wrap64 ((l0_2.length : Int) - 1)) : Int).toNat : List (S53))).bind fun y504 => (if y501.length + y504.length < 8796093022208 then ((sleuthref12_with.f k l0_0 a0_1 l0_2 (y501 ++ y504)).bind fun bt511 => (some (bt511.1, bt511.2.1, bt511.2.2, 0))) else (none))) else (none)) else (none)))) else (some (([] : List (S66)), 0, ([] : List (S53)), 2200)))
theorem sleuthref12_Undo.calls (k : Nat) (A0_0 : Option Addr) (c0_0 : Nat) (l0_0 : List (S66)) (a0_1 : Int) (A0_2 : Option Addr) (c0_2 : Nat) (l0_2 : List (S53)) (r1 : List (S66)) (r2 : Int) (r3 : List (S53)) (r4 : Int) (w : World) (hr0_0 : Kd.C k66 w A0_0 l0_0.length l0_0) (hc0_0 : l0_0.length ≤ c0_0) (hr0_2 : Kd.C k53 w A0_2 l0_2.length l0_2) (hc0_2 : l0_2.length ≤ c0_2) (h : sleuthref12_Undo.f k l0_0 a0_1 l0_2 = some (r1, r2, r3, r4)) :
 Calls Tryz.prog 11 #[.agg #[.slice A0_0 l0_0.length c0_0, .int .i64 a0_1, .slice A0_2 l0_2.length c0_2]] w fun e w' => ∃ v0_ v2_ : Value, e = .returned (.tuple #[.agg #[v0_, .int .i64 r2, v2_], .int .i64 r4]) ∧ Kd.N k66 66 w' w.heap.size (fun k_ => (w.heap.size ≤ k_) ∧ some k_ ≠ (v2_ : Value).ownBlock) v0_ r1 ∧ Kd.R k53 53 w' w.heap.size (fun k_ => (w.heap.size ≤ k_)) v2_ r3 ∧ Below w.heap.size w w' := by
 have hu25 := Tryz.underlying25
 have HR0_0 := a_ hr0_0
 have HC0_0 := a_ hc0_0
 clear hr0_0 hc0_0
 have HR0_2 := a_ hr0_2
 have HC0_2 := a_ hc0_2
 clear hr0_2 hc0_2
 have HB := a_ (Below.refl w.heap.size w)
 have H := h; unfold sleuthref12_Undo.f at H
 clear h
 replace H := Option.bind_eq_some_iff.mp H
 obtain ⟨t3, A20, H⟩ := H
 try dsimp only at H
 have A2 := a_ A20
 clear A20
 by_cases c3 : t3 = true
 case neg =>
  replace c3 := Bool.eq_false_iff.mpr c3
  subst c3
  rw [if_neg (show ¬ (false = true) by decide)] at H
  simp only [Option.some.injEq, Prod.mk.injEq] at H
  obtain ⟨rfl, rfl, rfl, rfl⟩ := H
  go_enter Tryz.func11, Tryz.ntmps11
  go_wp2_with (first | ((with_reducible refine gate_dst (N := 1) rfl ?_); refine boxE_ 1 #[.slice A0_0 l0_0.length c0_0, .int .i64 a0_1, .slice A0_2 l0_2.length c0_2] 25 ?_; intro g1 hg w1 hbox hb; have B0 := a_ (hbox); have E0 := a_ ((gE_ hg : w.heap.size ≤ g1)); replace HB := a_ (below_step hB_ hb); clear hb hbox hg) | ((with_reducible refine gate_dst (N := 2) rfl ?_); refine boxE_ 2 #[.slice none 0 0, .int .i64 0, .slice none 0 0] 25 ?_; intro g0 hg w2 hbox hb; have B1 := a_ (hbox); have E1 := a_ ((gE_ hg : w.heap.size ≤ g0)); replace HB := a_ (below_step hC_ hb); have N0 := a_ ((bL_ B0.out hg : g1 ≠ g0)); have N1 := a_ ((bG_ B0.out hg : g0 ≠ g1)); replace B0 := a_ (bB_ B0.out hb); clear hb hbox hg; have m0 := N0.out; have n0 := N1.out; obtain ⟨z0, z1, z2, f0, f1, f2⟩ := bx3_ B0.out) | ((with_reducible refine gate_callee (f := 16) rfl ?_); refine goesL_ (some 6) rfl rfl Tryz.func16 (by kernel_rfl) rfl #[.agg #[.slice A0_0 l0_0.length c0_0, .int .i64 a0_1, .slice A0_2 l0_2.length c0_2]] rfl hL_ ?_; (with_reducible refine (sleuthref12_SessionMay.calls k _ _ l0_0 a0_1 _ _ l0_2 false _ ?s1 ?s2 ?s3 ?s4 A2.out).mono ?_); (case s1 => exact cB_ HR0_0.out); (case s2 => exact HC0_0.out); (case s3 => exact cB_ HR0_2.out); (case s4 => exact HC0_2.out); rintro e w3 ⟨rfl, hb⟩; refine ⟨_, rfl, ?_⟩; replace B0 := a_ (bB_ B0.out hb); replace B1 := a_ (bB_ B1.out hb); replace HB := a_ (below_step hC_ hb); (try clear hb); (try clear hb2); (try clear hk); (try clear hi); obtain ⟨z3, z4, z5, f3, f4, f5⟩ := bx3_ B1.out))
  refine bodyPost_ret (results_ct rfl _ _ g0 25 #[.slice none 0 0, .int .i64 0, .slice none 0 0] (0, 0) _ rfl (bP_ (bP_ (bP_ (hK_ B1.out)))) Tryz.underlying25 rfl (by kernel_rfl)) rfl ?_
  exact ⟨_, _, hV_, by first | exact Kd.S_nil _ _ _ _ _ | exact Kd.N_nil _ _ _ _ _ | exact Kd.V_nil _ _ _ _ _ | exact Kd.Q_nil _ _ _ _ _ | exact Kd.R_nil _ _ _ _ _, by first | exact Kd.R_nil _ _ _ _ _ | exact Kd.N_nil _ _ _ _ _ | exact Kd.V_nil _ _ _ _ _ | exact Kd.Q_nil _ _ _ _ _ | exact Kd.S_nil _ _ _ _ _, hC_⟩

 subst c3
 rw [if_pos rfl] at H
 by_cases c4 : (l0_2.length : Int) = 0
 case pos =>
  rw [if_pos c4] at H
  have c4b0 : ((l0_2.length : Int) == 0) = true := beq_iff_eq.mpr c4
  have c4b1 : ((l0_2.length : Int) != 0) = false := bne_eq_false_iff_eq.mpr c4
  clear c4
  simp only [Option.some.injEq, Prod.mk.injEq] at H
  obtain ⟨rfl, rfl, rfl, rfl⟩ := H
  go_enter Tryz.func11, Tryz.ntmps11
  go_wp2_with (first | ((with_reducible refine gate_dst (N := 1) rfl ?_); refine boxE_ 1 #[.slice A0_0 l0_0.length c0_0, .int .i64 a0_1, .slice A0_2 l0_2.length c0_2] 25 ?_; intro g1 hg w5 hbox hb; have B0 := a_ (hbox); have E0 := a_ ((gE_ hg : w.heap.size ≤ g1)); replace HB := a_ (below_step hB_ hb); clear hb hbox hg) | ((with_reducible refine gate_dst (N := 2) rfl ?_); refine boxE_ 2 #[.slice none 0 0, .int .i64 0, .slice none 0 0] 25 ?_; intro g0 hg w6 hbox hb; have B1 := a_ (hbox); have E1 := a_ ((gE_ hg : w.heap.size ≤ g0)); replace HB := a_ (below_step hC_ hb); have N0 := a_ ((bL_ B0.out hg : g1 ≠ g0)); have N1 := a_ ((bG_ B0.out hg : g0 ≠ g1)); replace B0 := a_ (bB_ B0.out hb); clear hb hbox hg; have m1 := N0.out; have n1 := N1.out; obtain ⟨z6, z7, z8, f6, f7, f8⟩ := bx3_ B0.out) | ((with_reducible refine gate_callee (f := 16) rfl ?_); refine goesL_ (some 6) rfl rfl Tryz.func16 (by kernel_rfl) rfl #[.agg #[.slice A0_0 l0_0.length c0_0, .int .i64 a0_1, .slice A0_2 l0_2.length c0_2]] rfl hL_ ?_; (with_reducible refine (sleuthref12_SessionMay.calls k _ _ l0_0 a0_1 _ _ l0_2 true _ ?s1 ?s2 ?s3 ?s4 A2.out).mono ?_); (case s1 => exact cB_ HR0_0.out); (case s2 => exact HC0_0.out); (case s3 => exact cB_ HR0_2.out); (case s4 => exact HC0_2.out); rintro e w9 ⟨rfl, hb⟩; refine ⟨_, rfl, ?_⟩; replace B0 := a_ (bB_ B0.out hb); replace B1 := a_ (bB_ B1.out hb); replace HB := a_ (below_step hC_ hb); (try clear hb); (try clear hb2); (try clear hk); (try clear hi); obtain ⟨z9, z10, z11, f9, f10, f11⟩ := bx3_ B0.out; obtain ⟨z12, z13, z14, f12, f13, f14⟩ := bx3_ B1.out))
  refine bodyPost_ret (results_ct rfl _ _ g0 25 #[.slice none 0 0, .int .i64 0, .slice none 0 0] (0, 0) _ rfl (bP_ (bP_ (bP_ (hK_ B1.out)))) Tryz.underlying25 rfl (by kernel_rfl)) rfl ?_
  exact ⟨_, _, hV_, by first | exact Kd.S_nil _ _ _ _ _ | exact Kd.N_nil _ _ _ _ _ | exact Kd.V_nil _ _ _ _ _ | exact Kd.Q_nil _ _ _ _ _ | exact Kd.R_nil _ _ _ _ _, by first | exact Kd.R_nil _ _ _ _ _ | exact Kd.N_nil _ _ _ _ _ | exact Kd.V_nil _ _ _ _ _ | exact Kd.Q_nil _ _ _ _ _ | exact Kd.S_nil _ _ _ _ _, hC_⟩
 rw [if_neg c4] at H
 have c4b0 : ((l0_2.length : Int) == 0) = false := beq_eq_false_iff_ne.mpr c4
 have c4b1 : ((l0_2.length : Int) != 0) = true := bne_iff_ne.mpr c4
 have c4b2 : ¬ (l0_2 = []) := fun h_ => c4 (by rw [h_]; rfl)
 obtain ⟨y1, i0⟩ : ∃ y_ : List (S53), y_ = (([] : List (S53))) := ⟨_, rfl⟩
 replace H : (if 0 ≤ (wrap64 ((l0_2.length : Int) - 1)) then (if (wrap64 ((l0_2.length : Int) - 1)) ≤ (l0_2.length : Int) then ((some (l0_2.take ((wrap64 ((l0_2.length : Int) - 1)) : Int).toNat : List (S53))).bind fun y0 => (if y1.length + y0.length < 8796093022208 then ((sleuthref12_with.f k l0_0 a0_1 l0_2 (y1 ++ y0)).bind fun bt511 => (some (bt511.1, bt511.2.1, bt511.2.2, 0))) else (none))) else (none)) else (none)) = some (r1, r2, r3, r4) := by first | (rw [i0]; with_reducible exact H) | (have H2_ := (Option.bind_some _ _).symm.trans H; rw [i0]; with_reducible exact H2_) | (have H2_ := (Option.bind_some _ _).symm.trans H; with_reducible exact H2_) | with_reducible exact H | (rw [i0]; exact H) | exact H
 have Y0 := a_ i0
 clear i0
 obtain ⟨ji12, hji12⟩ : ∃ j_ : Int, (wrap64 ((l0_2.length : Int) - 1)) = j_ := ⟨_, rfl⟩
 replace H : (if 0 ≤ (ji12) then (if (ji12) ≤ (l0_2.length : Int) then ((some (l0_2.take ((ji12) : Int).toNat : List (S53))).bind fun y0 => (if y1.length + y0.length < 8796093022208 then ((sleuthref12_with.f k l0_0 a0_1 l0_2 (y1 ++ y0)).bind fun bt511 => (some (bt511.1, bt511.2.1, bt511.2.2, 0))) else (none))) else (none)) else (none)) = some (r1, r2, r3, r4) := by first | (rw [hji12] at H; exact H) | (simp only [hji12] at H ⊢; exact H)
 (try rw [hji12] at A2)
 have hji12w : (IntKind.i64.wrap ((l0_2.length : Int) - 1)) = ji12 := (i64_w _).trans hji12
 replace H := ifI_ H; obtain ⟨c13, H⟩ := H
 have c13b0 := eq_true c13
 have c13b1 : decide (0 ≤ (ji12)) = true := decide_eq_true c13
 clear c13
 replace H := ifI_ H; obtain ⟨c14, H⟩ := H
 have c14b0 := eq_true c14
 have c14b1 : decide ((ji12) ≤ (l0_2.length : Int)) = true := decide_eq_true c14
 clear c14
 obtain ⟨y0, i1⟩ : ∃ y_ : List (S53), y_ = (l0_2.take ((ji12) : Int).toNat) := ⟨_, rfl⟩
 replace H : (if y1.length + y0.length < 8796093022208 then ((sleuthref12_with.f k l0_0 a0_1 l0_2 (y1 ++ y0)).bind fun bt511 => (some (bt511.1, bt511.2.1, bt511.2.2, 0))) else (none)) = some (r1, r2, r3, r4) := by first | (rw [i1]; with_reducible exact H) | (have H2_ := (Option.bind_some _ _).symm.trans H; rw [i1]; with_reducible exact H2_) | (have H2_ := (Option.bind_some _ _).symm.trans H; with_reducible exact H2_) | with_reducible exact H | (rw [i1]; exact H) | exact H
 have Y1 := a_ i1
 clear i1
 replace H := ifI_ H; obtain ⟨c15, H⟩ := H
 have LMc15 := a_ c15
 clear c15
 obtain ⟨y2, i2⟩ : ∃ y_ : List (S53), y_ = (y1 ++ y0) := ⟨_, rfl⟩
 replace H : ((sleuthref12_with.f k l0_0 a0_1 l0_2 y2).bind fun bt511 => (some (bt511.1, bt511.2.1, bt511.2.2, 0))) = some (r1, r2, r3, r4) := by first | (rw [i2]; with_reducible exact H) | (have H2_ := (Option.bind_some _ _).symm.trans H; rw [i2]; with_reducible exact H2_) | (have H2_ := (Option.bind_some _ _).symm.trans H; with_reducible exact H2_) | with_reducible exact H | (rw [i2]; exact H) | exact H
 have Y2 := a_ i2
 clear i2
 replace H := Option.bind_eq_some_iff.mp H
 obtain ⟨⟨t0, t1, t2⟩, A160, H⟩ := H
 try dsimp only at H
 have A16 := a_ A160
 clear A160
 simp only [Option.some.injEq, Prod.mk.injEq] at H
 obtain ⟨rfl, rfl, rfl, rfl⟩ := H
 go_enter Tryz.func11, Tryz.ntmps11
 go_wp2_with (first | ((with_reducible refine gate_dst (N := 1) rfl ?_); refine boxE_ 1 #[.slice A0_0 l0_0.length c0_0, .int .i64 a0_1, .slice A0_2 l0_2.length c0_2] 25 ?_; intro g1 hg w4 hbox hb; have B0 := a_ (hbox); have E0 := a_ ((gE_ hg : w.heap.size ≤ g1)); replace HB := a_ (below_step hB_ hb); clear hb hbox hg) | ((with_reducible refine gate_dst (N := 2) rfl ?_); refine boxE_ 2 #[.slice none 0 0, .int .i64 0, .slice none 0 0] 25 ?_; intro g0 hg w7 hbox hb; have B1 := a_ (hbox); have E1 := a_ ((gE_ hg : w.heap.size ≤ g0)); replace HB := a_ (below_step hC_ hb); have N0 := a_ ((bL_ B0.out hg : g1 ≠ g0)); have N1 := a_ ((bG_ B0.out hg : g0 ≠ g1)); replace B0 := a_ (bB_ B0.out hb); clear hb hbox hg; have m2 := N0.out; have n2 := N1.out; obtain ⟨z15, z16, z17, f15, f16, f17⟩ := bx3_ B0.out) | ((with_reducible refine gate_callee (f := 16) rfl ?_); refine goesL_ (some 6) rfl rfl Tryz.func16 (by kernel_rfl) rfl #[.agg #[.slice A0_0 l0_0.length c0_0, .int .i64 a0_1, .slice A0_2 l0_2.length c0_2]] rfl hL_ ?_; (with_reducible refine (sleuthref12_SessionMay.calls k _ _ l0_0 a0_1 _ _ l0_2 true _ ?s1 ?s2 ?s3 ?s4 A2.out).mono ?_); (case s1 => exact cB_ HR0_0.out); (case s2 => exact HC0_0.out); (case s3 => exact cB_ HR0_2.out); (case s4 => exact HC0_2.out); rintro e w8 ⟨rfl, hb⟩; refine ⟨_, rfl, ?_⟩; replace B0 := a_ (bB_ B0.out hb); replace B1 := a_ (bB_ B1.out hb); replace HB := a_ (below_step hC_ hb); (try clear hb); (try clear hb2); (try clear hk); (try clear hi); obtain ⟨z18, z19, z20, f18, f19, f20⟩ := bx3_ B0.out) | ((with_reducible refine gate_dst (N := 14) rfl ?_); refine Kd.R_lit k53 _ 53 ?hg (N := 14) ?hd (xs := ([] : List (S53))) (inner := []) (ok := fun _ => True) (okp := fun _ => True) ?hr ?hp (fun _ hk => hk) trivial (Below.refl _ _) (Nat.le_refl _) (by simp) ?_; (case hd => rfl); (case hg => rfl); (case hr => first | (go_simp; done) | (go_simp; rfl)); (case hp => exact (Reps.none _ _)); intro v0 w23 ho24 hb hg_ hnew_; clear hg_ hnew_; (first | rw [← Y0.out] at ho24 | (simp only [Int.reduceToNat] at ho24; rw [← Y0.out] at ho24)); have P1 := a_ (Kd.R_lower (Kd.R_newM (M := fun k_ => (w.heap.size ≤ k_)) ho24 (below_size hC_) (fun k_ h_ => h_)) (below_size hC_)); replace B0 := a_ (bB_ B0.out hb); replace B1 := a_ (bB_ B1.out hb); replace HB := a_ (below_step hC_ hb); clear hb ho24; obtain ⟨z21, z22, z23, f21, f22, f23⟩ := bx3_ B0.out; have q26 : ((ji12) : Int) ≤ ((l0_2.length : Int) : Int) := of_decide_eq_true hA_; obtain ⟨i026, hi026, _, hsz26, _⟩ := info_parts info53; have hroom26 : l0_2.length ≤ c0_2 := HC0_2.out; have hC26 : Kd.C k53 _ A0_2 l0_2.length l0_2 := HR0_2.out; have hcut26 := cut_to (P := Tryz.prog) 23 53 .i64 Tryz.underlying23 hi026 A0_2 l0_2.length c0_2 (ji12) (of_decide_eq_true hA_) q26 hroom26; have hr26 := Kd.C_take (m := ((ji12) : Int).toNat) hC26 (by omega); have i3 : y0.length = ((ji12) : Int).toNat := (by rw [Y1.out, List.length_take]; omega); rw [← Y1.out] at hr26; rw [← i3] at hcut26; have HR507 := a_ hr26; have HC507 := a_ (show y0.length ≤ c0_2 from by omega); clear hr26 hC26 hroom26 hi026 hsz26; have KY26 := a_ i3; clear i3; replace q26 := eq_true q26) | ((with_reducible refine gate_builtin (b := .append) (xs := #[.tmp 14, .tmp 21]) rfl ?_); at_builtin; refine Kd.R_append_rows k53 (w0 := w) w.heap.size rfl (.tmp 14) (.tmp 21) 23 53 (.agg #[(.int .i64 0), (.int .i64 0)]) 16 rfl Tryz.underlying23 info53 rfl (by decide) (by omega) v0 y1 y0 _ _ _ (fun k_ => (w.heap.size ≤ k_)) (fun _ => False) rfl rfl ?aO ?aR (fun _ _ h => h) (fun _ h => h.elim) ?aF ?aB ?aS ?aL ?_; (case aR => exact cB_ HR507.out); (case aB => exact hC_); (case aF => exact (fun k_ hk => (Nat.le_trans (below_size hC_) hk))); (case aO => exact (by (with_reducible repeat (first | apply Kd.R_alloc | apply Kd.R_drewN | apply Kd.R_drew)); exact Kd.R_mono P1.out (fun _ hk => hk.1))); (case aS => exact (below_size hC_)); (case aL => have := LMc15.out; omega); intro v2 w27 ho hb hg hat; rw [← Y2.out] at ho; replace B0 := a_ (blk_grown (hK_ B0.out) hg (Kd.R_ne P1.out B0.out (by decide))); replace B1 := a_ (blk_grown (hK_ B1.out) hg (Kd.R_ne P1.out B1.out (by decide))); replace HB := a_ (hb); have P0 := a_ (ho); clear P1; clear ho hb hg hat; obtain ⟨z24, z25, z26, f24, f25, f26⟩ := bx3_ B0.out; obtain ⟨a0, o0, e0⟩ := Kd.R_slice P0.out; subst e0) | ((with_reducible refine gate_callee (f := 27) rfl ?_); refine goesL_ (some 25) rfl rfl Tryz.func27 (by kernel_rfl) rfl #[.agg #[.slice A0_0 l0_0.length c0_0, .int .i64 a0_1, .slice A0_2 l0_2.length c0_2], .slice a0 y2.length o0] rfl hL_ ?_; (with_reducible refine (sleuthref12_with.calls k _ _ l0_0 a0_1 _ _ l0_2 (fun k_ => some k_ = (.slice a0 y2.length o0 : Value).ownBlock) (.slice a0 y2.length o0) y2 t0 t1 t2 w _ ?s1 ?s2 ?s3 ?s4 ?s5 ?s6 A16.out).mono ?_); (case s1 => repeat (first | (with_reducible first | exact HB.out | apply below_alloc | apply pw_below_drewN | apply below_drew1 | refine below_set ?_ E0.out | refine below_set ?_ E1.out) | exact HB.out)); (case s2 => exact Kd.C_kept_came k66_heap HR0_0.out hC_ (fun k_ hs_ => (fun e_ => Kd.R_base P0.out k_ e_.symm) hs_)); (case s3 => exact HC0_0.out); (case s4 => exact Kd.C_kept_came k53_heap HR0_2.out hC_ (fun k_ hs_ => (fun e_ => Kd.R_base P0.out k_ e_.symm) hs_)); (case s5 => exact HC0_2.out); (case s6 => exact Kd.R_tight rfl P0.out); rintro e w30 ⟨v3, v1, rfl, ho0, ho1, hb, hkp⟩; refine ⟨_, rfl, ?_⟩; have P2 := a_ (Kd.N_lower (Kd.N_mono (ok' := fun k_ => (w.heap.size ≤ k_) ∧ some k_ ≠ (v1 : Value).ownBlock ∧ k_ ≠ g1 ∧ k_ ≠ g0) ho0 (fun k_ hk_ => ⟨Or.elim hk_.1 (fun hs_ => (P0.out.1 k_ (hs_).symm)) (fun hn_ => (Nat.le_trans (below_size hC_) hn_)), hk_.2, Or.elim hk_.1 (fun hs_ => fun e_ => (Kd.R_ne P0.out B0.out (by decide)) (by rw [← e_]; exact hs_)) (fun hn_ => (Kd.freshB (g := g1) (o := .cells #[.slice A0_0 l0_0.length c0_0, .int .i64 a0_1, .slice A0_2 l0_2.length c0_2] 25 (0, 0)) (hK_ B0.out) k_ hn_)), Or.elim hk_.1 (fun hs_ => fun e_ => (Kd.R_ne P0.out B1.out (by decide)) (by rw [← e_]; exact hs_)) (fun hn_ => (Kd.freshB (g := g0) (o := .cells #[.slice none 0 0, .int .i64 0, .slice none 0 0] 25 (0, 0)) (hK_ B1.out) k_ hn_))⟩)) (below_size hC_)); replace B0 := a_ (blk_kept (hK_ B0.out) hkp (fun hs_ => (fun e_ => (Kd.R_ne P0.out B0.out (by decide)) e_) hs_)); replace B1 := a_ (blk_kept (hK_ B1.out) hkp (fun hs_ => (fun e_ => (Kd.R_ne P0.out B1.out (by decide)) e_) hs_)); have P3 := a_ (Kd.R_mono (ok' := fun k_ => (w.heap.size ≤ k_)) ho1 (fun k_ hk_ => Or.elim hk_ (fun hs_ => (P0.out.1 k_ (hs_).symm)) (fun hn_ => (Nat.le_trans (below_size hC_) hn_)))); replace HB := a_ (hb); clear P0; (try clear hb); (try clear hkp); (try clear ho0); (try clear ho1); obtain ⟨a1, o1, e1⟩ := Kd.N_slice P2.out; subst e1; obtain ⟨z27, z28, z29, f27, f28, f29⟩ := bx3_ B1.out; obtain ⟨a2, o2, e2⟩ := Kd.R_slice P3.out; subst e2))
 refine bodyPost_ret (results_ct rfl _ _ g0 25 #[.slice a1 t0.length o1, .int .i64 t1, .slice a2 t2.length o2] (0, 0) _ rfl (bP_ (bP_ (bP_ (hK_ B1.out)))) Tryz.underlying25 rfl (by kernel_rfl)) rfl ?_
 exact ⟨_, _, by first | rfl | (simp [errW_none, errW_some] <;> rfl) | (simp only [← hji12]; first | rfl | (simp [errW_none, errW_some] <;> rfl)) | (simp [*, errW_none, errW_some] <;> rfl), by (with_reducible repeat (first | apply Kd.N_alloc | apply Kd.N_drewN | apply Kd.N_drew)); exact Kd.N_mono (nF_ (nF_ (nF_ (Kd.N_mono P2.out (fun k_ hk => (⟨hk, hk.2.2.2⟩ : _ ∧ k_ ≠ g0)))))) (fun _ hk => ⟨hk.1.1, hk.1.2.1⟩), hR_ (Kd.R_mono (rF_ (rF_ (rF_ (Kd.R_types P3.out B1.out (by decide))))) (fun _ hk => hk.1)), hC_⟩
end Go.Proofs.YtbnljapgnfmmoaaGreatDoor.G
end
section
namespace Go.Proofs.YtbnljapgnfmmoaaGreatDoor.G
open Go.RowKit Go.Proofs.YtbnljapgnfmmoaaGreatDoorW.PrintWords Go.Proofs.YtbnljapgnfmmoaaGreatDoorW.PrintLast Go.Proofs.YtbnljapgnfmmoaaGreatDoorW.PrintMore
set_option linter.unusedVariables false
set_option linter.unusedSimpArgs false
/-- the marks behind answers -/
def finM : List An → List Int → List Int
  | [], m => m
  | a :: t, m => finM t (m.set a.f0.toNat a.f1)
theorem goS_fin {ns : List Nd} {w : Int} : ∀ (zs : List An) (m : List Int), marksS ns m = true → goS ns w zs m = true → goA zs m = some (finM zs m) ∧ marksS ns (finM zs m) = true
  | [], m, hm, _ => ⟨rfl, hm⟩
  | a :: t, m, hm, h => by
    obtain ⟨h0, h1, h2, h3, h4, h5⟩ := goS_ask hm h
    obtain ⟨i1, i2⟩ := goS_fin t _ h4 h5
    refine ⟨?_, i2⟩
    rw [goA, decide_eq_true h0, decide_eq_true h1, h3, Bool.and_self, Bool.and_self, if_pos rfl]
    exact i1
def lastM' (ns : List Nd) (zs : List An) : List Int := finM zs (List.replicate ns.length 0)
theorem sess_spec {ns : List Nd} {w : Int} {zs : List An} (h : sessS ns w zs = true) : mayT ns = true ∧ wayB w = true ∧ goS ns w zs (List.replicate ns.length 0) = true ∧ zs.length ≤ ns.length ∧ marksS ns (lastM' ns zs) = true ∧ stepF ns w zs = ((askW w ns (lastM' ns zs)).1, (askW w ns (lastM' ns zs)).2, 0) := by
  unfold sessS at h
  by_cases c : (mayT ns && wayB w) = true
  · rw [if_pos c] at h
    rw [Bool.and_eq_true] at c
    have hlen := mayT_len c.1
    have hmax := goS_max c.1 h
    obtain ⟨h1, h2⟩ := goS_fin zs _ (marksS_zero c.1) h
    refine ⟨c.1, c.2, h, hmax, h2, ?_⟩
    have e : marksF ns zs = (lastM' ns zs, 0) := by
      unfold marksF
      rw [c.1, decide_eq_true (show zs.length ≤ 512 by omega), Bool.and_self, if_pos rfl, h1]; rfl
    unfold stepF
    rw [e, if_pos rfl, if_pos c.2]
  · rw [if_neg c] at h; cases h
def putF (ns : List Nd) (w : Int) (zs : List An) (mk : Int) : List Nd × Int × List An × Int :=
  if sessS ns w zs = true then (if markB mk = true then (if (askW w ns (lastM' ns zs)).1 = 0 then (ns, w, zs ++ [⟨(askW w ns (lastM' ns zs)).2, mk⟩], 0) else ([], 0, [], 2201)) else ([], 0, [], 2200)) else ([], 0, [], 2200)
theorem fit_of {ns : List Nd} {zs : List An} (hok : okN ns) (hz : zs.length ≤ 8796093022208) : sc_fit ns zs = true := by
  unfold sc_fit
  rw [decide_eq_true (show ns.length ≤ 2513169434916 by have := hok.1; omega), Bool.true_and, decide_eq_true hz, Bool.true_and]
  exact List.all_eq_true.2 fun x hx => decide_eq_true (by have := hok.2 x hx; omega)
theorem put_ev (ns : List Nd) (hok : okN ns) (w : Int) (zs : List An) (hz : zs.length ≤ 9223372036854775806) (mk : Int) : Ev (fun k => answer_Put.f k ns w zs mk) (putF ns w zs mk) := by
  unfold answer_Put.f putF
  refine Ev.bind (sessMay_ev ns w zs hz) ?_
  by_cases c : sessS ns w zs = true
  · simp only [if_pos c, mark_eq, Option.bind_some]
    by_cases d : markB mk = true
    · rw [if_pos d, d]
      obtain ⟨h1, h2, h3, h4, h5, h6⟩ := sess_spec c
      have hlen := mayT_len h1
      have hfit : sc_fit ns zs = true := fit_of hok (by omega)
      have hlt : zs.length < 8796093022208 := by omega
      refine Ev.step (f := fun k => (next_Step.f k ns w zs).bind fun bt207 => (if bt207.1 = 0 then ((session_Copy.f ns w zs).bind fun bt211 => (if bt211.2.2.length < 8796093022208 then (some (bt211.1, bt211.2.1, (bt211.2.2 ++ [(⟨bt207.2.1, mk⟩ : An)]), 0)) else (none))) else (some (([] : List Nd), 0, ([] : List An), 2201)))) (fun k => by rw [answer_Put.j0, Bool.not_true, if_neg Bool.false_ne_true]) ?_
      have hs := step_ev ns w zs
      rw [h6] at hs
      refine Ev.bind hs ?_
      unfold session_Copy.f
      by_cases e : (askW w ns (lastM' ns zs)).1 = 0
      · simp only [if_pos e, if_pos hfit, Option.bind_some, if_pos hlt]; exact Ev.now _
      · simp only [if_neg e]; exact Ev.now _
    · rw [if_neg d]
      rw [Bool.not_eq_true] at d
      rw [d]
      refine Ev.step (f := fun _ => some ([], 0, [], 2200)) (fun k => by rw [answer_Put.j0, Bool.not_false, if_pos rfl]) (Ev.now _)
  · simp only [if_neg c]
    refine Ev.step (f := fun _ => some ([], 0, [], 2200)) (fun k => by rw [answer_Put.j0, if_pos rfl]) (Ev.now _)
def undoF (ns : List Nd) (w : Int) (zs : List An) : List Nd × Int × List An × Int :=
  if sessS ns w zs = true then (if zs.length = 0 then ([], 0, [], 2201) else (ns, w, zs.take (zs.length - 1), 0)) else ([], 0, [], 2200)
theorem undo_ev (ns : List Nd) (hok : okN ns) (w : Int) (zs : List An) (hz : zs.length ≤ 9223372036854775806) : Ev (fun k => answer_Undo.f k ns w zs) (undoF ns w zs) := by
  unfold answer_Undo.f undoF
  refine Ev.bind (sessMay_ev ns w zs hz) ?_
  by_cases c : sessS ns w zs = true
  · simp only [if_pos c]
    obtain ⟨h1, h2, h3, h4, h5, h6⟩ := sess_spec c
    have hlen := mayT_len h1
    have hfit : sc_fit ns zs = true := fit_of hok (by omega)
    by_cases d : zs.length = 0
    · have d' : (zs.length : Int) = 0 := by omega
      simp only [if_pos d, if_pos d']; exact Ev.now _
    · have d' : ¬ (zs.length : Int) = 0 := by omega
      have hw : wrap64 ((zs.length : Int) - 1) = ((zs.length - 1 : Nat) : Int) := by rw [w64 (by omega) (by omega)]; omega
      have g0 : (0 : Int) ≤ ((zs.length - 1 : Nat) : Int) := by omega
      have g1 : ((zs.length - 1 : Nat) : Int) ≤ (zs.length : Int) := by omega
      unfold session_Copy.f
      simp only [if_neg d, if_neg d', if_pos hfit, Option.bind_some, hw, if_pos g0, if_pos g1, Int.toNat_natCast]
      exact Ev.now _
  · simp only [if_neg c]; exact Ev.now _
end Go.Proofs.YtbnljapgnfmmoaaGreatDoor.G
end
section
namespace Go.Proofs.YtbnljapgnfmmoaaGreatDoor.G
open Go.RowKit Go.Proofs.YtbnljapgnfmmoaaGreatDoorW.PrintWords Go.Proofs.YtbnljapgnfmmoaaGreatDoorW.PrintLast Go.Proofs.YtbnljapgnfmmoaaGreatDoorW.PrintMore
set_option maxHeartbeats 8000000
set_option maxRecDepth 100000
attribute [local go_sem] max2_int min2_int max_two min_two max_three min_three max_four min_four   -- for this text's walks alone
set_option linter.unusedVariables false
set_option linter.unusedSimpArgs false

def sleuthlaw22_some.f  : Option ((List (S66))) := some (([(⟨0, (-1), ([] : List ByteArray), (⟨#[57]⟩ : ByteArray)⟩ : S66), (⟨1, 0, (([(⟨#[64, 55, 40, 95, 32, 52, 41]⟩ : ByteArray), (⟨#[53]⟩ : ByteArray)] : List ByteArray)), (⟨#[57]⟩ : ByteArray)⟩ : S66), (⟨2, 0, ([] : List ByteArray), (⟨#[33]⟩ : ByteArray)⟩ : S66), (⟨1, 1, (([(⟨#[49]⟩ : ByteArray), (⟨#[95]⟩ : ByteArray)] : List ByteArray)), (⟨#[95]⟩ : ByteArray)⟩ : S66), (⟨1, 2, (([(⟨#[49]⟩ : ByteArray), (⟨#[95]⟩ : ByteArray)] : List ByteArray)), (⟨#[95]⟩ : ByteArray)⟩ : S66)] : List (S66)))
theorem sleuthlaw22_some.calls  (r : List (S66)) (w : World) (h : sleuthlaw22_some.f  = some r) :
 Calls Tryz.prog 19 #[] w fun e w' => ∃ v0_ : Value, e = .returned (v0_) ∧ Kd.N k66 66 w' w.heap.size (fun k_ => (w.heap.size ≤ k_)) v0_ r ∧ Below w.heap.size w w' := by
 have hu66 := Tryz.underlying66
 have HB := a_ (Below.refl w.heap.size w)
 have H := h; unfold sleuthlaw22_some.f at H
 clear h
 obtain ⟨y0, i0⟩ : ∃ y_ : List ByteArray, y_ = (([(⟨#[64, 55, 40, 95, 32, 52, 41]⟩ : ByteArray), (⟨#[53]⟩ : ByteArray)] : List ByteArray)) := ⟨_, rfl⟩
 replace H : (some (([(⟨0, (-1), ([] : List ByteArray), (⟨#[57]⟩ : ByteArray)⟩ : S66), (⟨1, 0, y0, (⟨#[57]⟩ : ByteArray)⟩ : S66), (⟨2, 0, ([] : List ByteArray), (⟨#[33]⟩ : ByteArray)⟩ : S66), (⟨1, 1, (([(⟨#[49]⟩ : ByteArray), (⟨#[95]⟩ : ByteArray)] : List ByteArray)), (⟨#[95]⟩ : ByteArray)⟩ : S66), (⟨1, 2, (([(⟨#[49]⟩ : ByteArray), (⟨#[95]⟩ : ByteArray)] : List ByteArray)), (⟨#[95]⟩ : ByteArray)⟩ : S66)] : List (S66)))) = some r := by first | (rw [i0]; with_reducible exact H) | (have H2_ := (Option.bind_some _ _).symm.trans H; rw [i0]; with_reducible exact H2_) | (have H2_ := (Option.bind_some _ _).symm.trans H; with_reducible exact H2_) | with_reducible exact H | (rw [i0]; exact H) | exact H
 have Y0 := a_ i0
 clear i0
 obtain ⟨y1, i1⟩ : ∃ y_ : List ByteArray, y_ = (([(⟨#[49]⟩ : ByteArray), (⟨#[95]⟩ : ByteArray)] : List ByteArray)) := ⟨_, rfl⟩
 replace H : (some (([(⟨0, (-1), ([] : List ByteArray), (⟨#[57]⟩ : ByteArray)⟩ : S66), (⟨1, 0, y0, (⟨#[57]⟩ : ByteArray)⟩ : S66), (⟨2, 0, ([] : List ByteArray), (⟨#[33]⟩ : ByteArray)⟩ : S66), (⟨1, 1, y1, (⟨#[95]⟩ : ByteArray)⟩ : S66), (⟨1, 2, (([(⟨#[49]⟩ : ByteArray), (⟨#[95]⟩ : ByteArray)] : List ByteArray)), (⟨#[95]⟩ : ByteArray)⟩ : S66)] : List (S66)))) = some r := by first | (rw [i1]; with_reducible exact H) | (have H2_ := (Option.bind_some _ _).symm.trans H; rw [i1]; with_reducible exact H2_) | (have H2_ := (Option.bind_some _ _).symm.trans H; with_reducible exact H2_) | with_reducible exact H | (rw [i1]; exact H) | exact H
 have Y1 := a_ i1
 clear i1
 obtain ⟨y2, i2⟩ : ∃ y_ : List ByteArray, y_ = (([(⟨#[49]⟩ : ByteArray), (⟨#[95]⟩ : ByteArray)] : List ByteArray)) := ⟨_, rfl⟩
 replace H : (some (([(⟨0, (-1), ([] : List ByteArray), (⟨#[57]⟩ : ByteArray)⟩ : S66), (⟨1, 0, y0, (⟨#[57]⟩ : ByteArray)⟩ : S66), (⟨2, 0, ([] : List ByteArray), (⟨#[33]⟩ : ByteArray)⟩ : S66), (⟨1, 1, y1, (⟨#[95]⟩ : ByteArray)⟩ : S66), (⟨1, 2, y2, (⟨#[95]⟩ : ByteArray)⟩ : S66)] : List (S66)))) = some r := by first | (rw [i2]; with_reducible exact H) | (have H2_ := (Option.bind_some _ _).symm.trans H; rw [i2]; with_reducible exact H2_) | (have H2_ := (Option.bind_some _ _).symm.trans H; with_reducible exact H2_) | with_reducible exact H | (rw [i2]; exact H) | exact H
 have Y2 := a_ i2
 clear i2
 obtain ⟨y3, i3⟩ : ∃ y_ : List (S66), y_ = (([(⟨0, (-1), ([] : List ByteArray), (⟨#[57]⟩ : ByteArray)⟩ : S66), (⟨1, 0, y0, (⟨#[57]⟩ : ByteArray)⟩ : S66), (⟨2, 0, ([] : List ByteArray), (⟨#[33]⟩ : ByteArray)⟩ : S66), (⟨1, 1, y1, (⟨#[95]⟩ : ByteArray)⟩ : S66), (⟨1, 2, y2, (⟨#[95]⟩ : ByteArray)⟩ : S66)] : List (S66))) := ⟨_, rfl⟩
 replace H : (some y3) = some r := by first | (rw [i3]; with_reducible exact H) | (have H2_ := (Option.bind_some _ _).symm.trans H; rw [i3]; with_reducible exact H2_) | (have H2_ := (Option.bind_some _ _).symm.trans H; with_reducible exact H2_) | with_reducible exact H | (rw [i3]; exact H) | exact H
 have Y3 := a_ i3
 clear i3
 obtain rfl := Option.some.inj H
 go_enter Tryz.func19, Tryz.ntmps19
 go_wp2_with (first | ((with_reducible refine gate_dst (N := 2) rfl ?_); refine Kd.R_lit Kd.string _ 9 ?hg (N := 2) ?hd (xs := ([(⟨#[64, 55, 40, 95, 32, 52, 41]⟩ : ByteArray), (⟨#[53]⟩ : ByteArray)] : List ByteArray)) (inner := [.string (⟨#[64, 55, 40, 95, 32, 52, 41]⟩ : ByteArray), .string (⟨#[53]⟩ : ByteArray)]) (ok := fun _ => True) (okp := fun _ => True) ?hr ?hp (fun _ hk => hk) trivial (Below.refl _ _) (Nat.le_refl _) (by simp) ?_; (case hd => rfl); (case hg => rfl); (case hr => first | (go_simp; done) | (go_simp; rfl)); (case hp => exact (Reps.one (show Kd.M Kd.string _ _ _ (⟨#[64, 55, 40, 95, 32, 52, 41]⟩ : ByteArray) [.string (⟨#[64, 55, 40, 95, 32, 52, 41]⟩ : ByteArray)] from rfl) (Reps.one (show Kd.M Kd.string _ _ _ (⟨#[53]⟩ : ByteArray) [.string (⟨#[53]⟩ : ByteArray)] from rfl) (Reps.none _ _)))); intro v0 w1 ho2 hb hg_ hnew_; clear hg_ hnew_; (first | rw [← Y0.out] at ho2 | (simp only [Int.reduceToNat] at ho2; rw [← Y0.out] at ho2)); have P0 := a_ (Kd.R_lower (Kd.R_newM (M := fun k_ => (w.heap.size ≤ k_)) ho2 hS_ (fun k_ h_ => h_)) hS_); replace HB := a_ (below_step hB_ hb); clear hb ho2; obtain ⟨a0, o0, e0⟩ := Kd.R_slice P0.out; subst e0) | ((with_reducible refine gate_dst (N := 5) rfl ?_); refine Kd.R_lit Kd.string _ 9 ?hg (N := 5) ?hd (xs := ([(⟨#[49]⟩ : ByteArray), (⟨#[95]⟩ : ByteArray)] : List ByteArray)) (inner := [.string (⟨#[49]⟩ : ByteArray), .string (⟨#[95]⟩ : ByteArray)]) (ok := fun _ => True) (okp := fun _ => True) ?hr ?hp (fun _ hk => hk) trivial (Below.refl _ _) (Nat.le_refl _) (by simp) ?_; (case hd => rfl); (case hg => rfl); (case hr => first | (go_simp; done) | (go_simp; rfl)); (case hp => exact (Reps.one (show Kd.M Kd.string _ _ _ (⟨#[49]⟩ : ByteArray) [.string (⟨#[49]⟩ : ByteArray)] from rfl) (Reps.one (show Kd.M Kd.string _ _ _ (⟨#[95]⟩ : ByteArray) [.string (⟨#[95]⟩ : ByteArray)] from rfl) (Reps.none _ _)))); intro v1 w4 ho5 hb hg_ hnew_; clear hg_ hnew_; (first | rw [← Y1.out] at ho5 | (simp only [Int.reduceToNat] at ho5; rw [← Y1.out] at ho5)); have P1 := a_ (Kd.R_lower (Kd.R_new' (Kd.R_newM (M := fun k_ => (w.heap.size ≤ k_)) ho5 hS_ (fun k_ h_ => h_)) (Kd.R_lt (hR_ P0.out))) hS_); replace P0 := a_ (Kd.R_elder' (hR_ P0.out) (Kd.R_base ho5) hb); replace HB := a_ (below_step hB_ hb); clear hb ho5; obtain ⟨a1, o1, e1⟩ := Kd.R_slice P1.out; subst e1) | ((with_reducible refine gate_dst (N := 7) rfl ?_); refine Kd.R_lit Kd.string _ 9 ?hg (N := 7) ?hd (xs := ([(⟨#[49]⟩ : ByteArray), (⟨#[95]⟩ : ByteArray)] : List ByteArray)) (inner := [.string (⟨#[49]⟩ : ByteArray), .string (⟨#[95]⟩ : ByteArray)]) (ok := fun _ => True) (okp := fun _ => True) ?hr ?hp (fun _ hk => hk) trivial (Below.refl _ _) (Nat.le_refl _) (by simp) ?_; (case hd => rfl); (case hg => rfl); (case hr => first | (go_simp; done) | (go_simp; rfl)); (case hp => exact (Reps.one (show Kd.M Kd.string _ _ _ (⟨#[49]⟩ : ByteArray) [.string (⟨#[49]⟩ : ByteArray)] from rfl) (Reps.one (show Kd.M Kd.string _ _ _ (⟨#[95]⟩ : ByteArray) [.string (⟨#[95]⟩ : ByteArray)] from rfl) (Reps.none _ _)))); intro v2 w7 ho8 hb hg_ hnew_; clear hg_ hnew_; (first | rw [← Y2.out] at ho8 | (simp only [Int.reduceToNat] at ho8; rw [← Y2.out] at ho8)); have P2 := a_ (Kd.R_lower (Kd.R_new' (Kd.R_new' (Kd.R_newM (M := fun k_ => (w.heap.size ≤ k_)) ho8 hS_ (fun k_ h_ => h_)) (Kd.R_lt (hR_ P0.out))) (Kd.R_lt (hR_ P1.out))) hS_); replace P0 := a_ (Kd.R_elder' (hR_ P0.out) (Kd.R_base ho8) hb); replace P1 := a_ (Kd.R_elder' (hR_ P1.out) (Kd.R_base ho8) hb); replace HB := a_ (below_step hB_ hb); clear hb ho8; obtain ⟨a2, o2, e2⟩ := Kd.R_slice P2.out; subst e2) | ((with_reducible refine gate_dst (N := 9) rfl ?_); refine Kd.N_lit k66 _ 66 ?hg (N' := 9) ?hd (xs := ([(⟨0, (-1), ([] : List ByteArray), (⟨#[57]⟩ : ByteArray)⟩ : S66), (⟨1, 0, y0, (⟨#[57]⟩ : ByteArray)⟩ : S66), (⟨2, 0, ([] : List ByteArray), (⟨#[33]⟩ : ByteArray)⟩ : S66), (⟨1, 1, y1, (⟨#[95]⟩ : ByteArray)⟩ : S66), (⟨1, 2, y2, (⟨#[95]⟩ : ByteArray)⟩ : S66)] : List (S66))) (inner := [.int .i64 0, .int .i64 (-1), .slice none 0 0, .string (⟨#[57]⟩ : ByteArray), .int .i64 1, .int .i64 0, .slice a0 y0.length o0, .string (⟨#[57]⟩ : ByteArray), .int .i64 2, .int .i64 0, .slice none 0 0, .string (⟨#[33]⟩ : ByteArray), .int .i64 1, .int .i64 1, .slice a1 y1.length o1, .string (⟨#[95]⟩ : ByteArray), .int .i64 1, .int .i64 2, .slice a2 y2.length o2, .string (⟨#[95]⟩ : ByteArray)]) (ok := (fun k_ => (w.heap.size ≤ k_))) (okp := (fun k_ => (w.heap.size ≤ k_))) ?hr ?hp (fun _ hk => hk) ((show ∀ k_, w7.heap.size ≤ k_ → (fun k_ => (w.heap.size ≤ k_)) k_ from fun k_ hk => (Nat.le_trans hS_ hk)) _ (Nat.le_refl _)) (Below.refl _ _) (Nat.le_refl _) (by simp) ?_; (case hd => rfl); (case hg => rfl); (case hr => first | (go_simp; done) | (go_simp; rfl)); (case hp => exact (Reps.c4 (show Kd.FK k66 _ _ (⟨0, (-1), ([] : List ByteArray), (⟨#[57]⟩ : ByteArray)⟩ : S66) [.int .i64 0, .int .i64 (-1), .slice none 0 0, .string (⟨#[57]⟩ : ByteArray)] from (k66_mkF _ _ (⟨0, (-1), ([] : List ByteArray), (⟨#[57]⟩ : ByteArray)⟩ : S66) (Nat.le_refl _) (Kd.F_nil _ _ _))) (Reps.c4 (show Kd.FK k66 _ _ (⟨1, 0, y0, (⟨#[57]⟩ : ByteArray)⟩ : S66) [.int .i64 1, .int .i64 0, .slice a0 y0.length o0, .string (⟨#[57]⟩ : ByteArray)] from (k66_mkF _ _ (⟨1, 0, y0, (⟨#[57]⟩ : ByteArray)⟩ : S66) (Kd.R_reads' (Kd.R_mono (ok' := (fun k_ => (w.heap.size ≤ k_))) (P0.out) (fun k_ hk => hk.1.1.1))).2.1 (Kd.R_F (Kd.R_mono (ok' := (fun k_ => (w.heap.size ≤ k_))) (P0.out) (fun k_ hk => hk.1.1.1))))) (Reps.c4 (show Kd.FK k66 _ _ (⟨2, 0, ([] : List ByteArray), (⟨#[33]⟩ : ByteArray)⟩ : S66) [.int .i64 2, .int .i64 0, .slice none 0 0, .string (⟨#[33]⟩ : ByteArray)] from (k66_mkF _ _ (⟨2, 0, ([] : List ByteArray), (⟨#[33]⟩ : ByteArray)⟩ : S66) (Nat.le_refl _) (Kd.F_nil _ _ _))) (Reps.c4 (show Kd.FK k66 _ _ (⟨1, 1, y1, (⟨#[95]⟩ : ByteArray)⟩ : S66) [.int .i64 1, .int .i64 1, .slice a1 y1.length o1, .string (⟨#[95]⟩ : ByteArray)] from (k66_mkF _ _ (⟨1, 1, y1, (⟨#[95]⟩ : ByteArray)⟩ : S66) (Kd.R_reads' (Kd.R_mono (ok' := (fun k_ => (w.heap.size ≤ k_))) (P1.out) (fun k_ hk => hk.1.1.1))).2.1 (Kd.R_F (Kd.R_mono (ok' := (fun k_ => (w.heap.size ≤ k_))) (P1.out) (fun k_ hk => hk.1.1.1))))) (Reps.c4 (show Kd.FK k66 _ _ (⟨1, 2, y2, (⟨#[95]⟩ : ByteArray)⟩ : S66) [.int .i64 1, .int .i64 2, .slice a2 y2.length o2, .string (⟨#[95]⟩ : ByteArray)] from (k66_mkF _ _ (⟨1, 2, y2, (⟨#[95]⟩ : ByteArray)⟩ : S66) (Kd.R_reads' (Kd.R_mono (ok' := (fun k_ => (w.heap.size ≤ k_))) (P2.out) (fun k_ hk => hk.1.1.1))).2.1 (Kd.R_F (Kd.R_mono (ok' := (fun k_ => (w.heap.size ≤ k_))) (P2.out) (fun k_ hk => hk.1.1.1))))) (Reps.none _ _))))))); intro v3 w0 ho11 hb hg_ hnew_; clear hg_ hnew_; (first | rw [← Y3.out] at ho11 | (simp only [Int.reduceToNat] at ho11; rw [← Y3.out] at ho11)); have P3 := a_ (Kd.N_lower ho11 hS_); replace HB := a_ (below_step hB_ hb); clear P0 P1 P2; clear hb ho11))
 go_ret
 exact ⟨_, hV_, hN_ P3.out, hC_⟩

set_option maxHeartbeats 8000000
set_option maxRecDepth 100000
attribute [local go_sem] max2_int min2_int max_two min_two max_three min_three max_four min_four   -- for this text's walks alone
set_option linter.unusedVariables false
set_option linter.unusedSimpArgs false

def sleuthlaw22_awake.f (k : Nat) : Option Bool := (sleuthlaw22_some.f).bind fun t240 => (answer_Put.f k t240 0 ([] : List S53) 2).bind fun a => (answer_Put.f k a.1 a.2.1 a.2.2.1 1).bind fun b => (answer_Undo.f k b.1 b.2.1 b.2.2.1).bind fun c => (answer_Undo.f k t240 0 ([] : List S53)).bind fun h => (answer_Put.f k t240 0 ([] : List S53) 0).bind fun i => (answer_Put.f k t240 0 ([] : List S53) 1).bind fun d => (answer_Put.f k d.1 d.2.1 d.2.2.1 1).bind fun j =>
 (sleuthlaw0_SameAnswers.f k b.2.2.1 ([(⟨0, 2⟩ : S53), (⟨1, 1⟩ : S53)] : List S53)).bind fun t0 => if t0 = true then (sleuthlaw0_Num.f a.2.2.2).bind fun t1 => if t1 = 0 then (sleuthlaw0_Num.f b.2.2.2).bind fun t2 => if t2 = 0 then (sleuthlaw0_SameSession.f k a.1 a.2.1 a.2.2.1 c.1 c.2.1 c.2.2.1).bind fun t3 => if t3 = true then (sleuthlaw0_Num.f c.2.2.2).bind fun t4 => if t4 = 0 then (sleuthlaw0_Num.f h.2.2.2).bind fun t5 => if t5 = 2201 then (sleuthlaw0_Num.f i.2.2.2).bind fun t6 => if t6 = 2200 then (sleuthlaw0_Num.f d.2.2.2).bind fun t7 => if t7 = 0 then (sleuthlaw0_Num.f j.2.2.2).bind fun t8 => some (t8 == 2201) else none else none else none else none else none else none else none else none
theorem sleuthlaw22_awake.calls (k : Nat) (r : Bool) (w : World) (h : sleuthlaw22_awake.f k = some r) (hG : GOK w) :
 Calls Tryz.prog 15 #[] w fun e w' => e = .returned (.bool r) ∧ Below w.heap.size w w' := by
 have hu := Tryz.underlying25
 have HB := a_ (Below.refl w.heap.size w)
 have HX := a_ (Below.refl w.heap.size w)
 unfold sleuthlaw22_awake.f at h
 obtain ⟨l0s, B0_, h⟩ := Option.bind_eq_some_iff.mp h
 (try dsimp only at h)
 have B0 := a_ B0_
 clear B0_
 obtain ⟨⟨l0a, na, l2a, ea⟩, B1_, h⟩ := Option.bind_eq_some_iff.mp h
 (try dsimp only at h)
 have B1 := a_ B1_
 clear B1_
 obtain ⟨⟨l0b, nb, l2b, eb⟩, B2_, h⟩ := Option.bind_eq_some_iff.mp h
 (try dsimp only at h)
 have B2 := a_ B2_
 clear B2_
 obtain ⟨⟨l0c, nc, l2c, ec⟩, B3_, h⟩ := Option.bind_eq_some_iff.mp h
 (try dsimp only at h)
 have B3 := a_ B3_
 clear B3_
 obtain ⟨⟨l0h, nh, l2h, eh⟩, B4_, h⟩ := Option.bind_eq_some_iff.mp h
 (try dsimp only at h)
 have B4 := a_ B4_
 clear B4_
 obtain ⟨⟨l0i, ni, l2i, ei⟩, B5_, h⟩ := Option.bind_eq_some_iff.mp h
 (try dsimp only at h)
 have B5 := a_ B5_
 clear B5_
 obtain ⟨⟨l0d, nd, l2d, ed⟩, B6_, h⟩ := Option.bind_eq_some_iff.mp h
 (try dsimp only at h)
 have B6 := a_ B6_
 clear B6_
 obtain ⟨⟨l0j, nj, l2j, ej⟩, B7_, h⟩ := Option.bind_eq_some_iff.mp h
 (try dsimp only at h)
 have B7 := a_ B7_
 clear B7_
 obtain ⟨t0, T0_, h⟩ := Option.bind_eq_some_iff.mp h
 (try dsimp only at h)
 have T0 := a_ T0_
 clear T0_
 by_cases ct0 : t0 = true
 case neg => rw [if_neg ct0] at h; cases h
 rw [if_pos ct0] at h
 obtain ⟨t1, T1_, h⟩ := Option.bind_eq_some_iff.mp h
 (try dsimp only at h)
 have T1 := a_ T1_
 clear T1_
 by_cases ct1 : t1 = 0
 case neg => rw [if_neg ct1] at h; cases h
 rw [if_pos ct1] at h
 obtain ⟨t2, T2_, h⟩ := Option.bind_eq_some_iff.mp h
 (try dsimp only at h)
 have T2 := a_ T2_
 clear T2_
 by_cases ct2 : t2 = 0
 case neg => rw [if_neg ct2] at h; cases h
 rw [if_pos ct2] at h
 obtain ⟨t3, T3_, h⟩ := Option.bind_eq_some_iff.mp h
 (try dsimp only at h)
 have T3 := a_ T3_
 clear T3_
 by_cases ct3 : t3 = true
 case neg => rw [if_neg ct3] at h; cases h
 rw [if_pos ct3] at h
 obtain ⟨t4, T4_, h⟩ := Option.bind_eq_some_iff.mp h
 (try dsimp only at h)
 have T4 := a_ T4_
 clear T4_
 by_cases ct4 : t4 = 0
 case neg => rw [if_neg ct4] at h; cases h
 rw [if_pos ct4] at h
 obtain ⟨t5, T5_, h⟩ := Option.bind_eq_some_iff.mp h
 (try dsimp only at h)
 have T5 := a_ T5_
 clear T5_
 by_cases ct5 : t5 = 2201
 case neg => rw [if_neg ct5] at h; cases h
 rw [if_pos ct5] at h
 obtain ⟨t6, T6_, h⟩ := Option.bind_eq_some_iff.mp h
 (try dsimp only at h)
 have T6 := a_ T6_
 clear T6_
 by_cases ct6 : t6 = 2200
 case neg => rw [if_neg ct6] at h; cases h
 rw [if_pos ct6] at h
 obtain ⟨t7, T7_, h⟩ := Option.bind_eq_some_iff.mp h
 (try dsimp only at h)
 have T7 := a_ T7_
 clear T7_
 by_cases ct7 : t7 = 0
 case neg => rw [if_neg ct7] at h; cases h
 rw [if_pos ct7] at h
 obtain ⟨t8, T8_, h⟩ := Option.bind_eq_some_iff.mp h
 (try dsimp only at h)
 have T8 := a_ T8_
 clear T8_
 obtain rfl := Option.some.inj h
 subst ct0 ct3
 clear h
 have ct1a : (t1 == 0) = true := beq_iff_eq.mpr ct1
 have ct2a : (t2 == 0) = true := beq_iff_eq.mpr ct2
 have ct4a : (t4 == 0) = true := beq_iff_eq.mpr ct4
 have ct5a : (t5 == 2201) = true := beq_iff_eq.mpr ct5
 have ct6a : (t6 == 2200) = true := beq_iff_eq.mpr ct6
 have ct7a : (t7 == 0) = true := beq_iff_eq.mpr ct7
 obtain ⟨yl, hyl⟩ : ∃ y_, y_ = ([(⟨0, 2⟩ : S53), (⟨1, 1⟩ : S53)] : List S53) := ⟨_, rfl⟩
 rw [← hyl] at T0
 have Nyl := a_ hyl
 clear hyl ct1 ct2 ct4 ct5 ct6 ct7
 go_enter Tryz.func15, Tryz.ntmps15
 go_wp2_with (first
  | ((with_reducible refine gate_callee (f := 19) rfl ?_); refine goesL_ _ rfl rfl Tryz.func19 (by kernel_rfl) rfl #[] rfl hL_ ?_; (with_reducible refine (sleuthlaw22_some.calls l0s _ B0.out).mono ?_); rintro e wc1 ⟨v0_, rfl, hn0, hb⟩; refine ⟨_, rfl, ?_⟩; have hs_ := below_step hC_ hb; obtain ⟨A0s, c0s, rfl⟩ := Kd.N_slice hn0; have HOs0 := a_ (Kd.N_reads' hn0).2.2; have HCs0 := a_ (Kd.N_reads' hn0).2.1; replace HX := a_ (below_step HX.out hs_); replace HB := a_ (Below.refl wc1.heap.size wc1); clear hs_ hb hn0)
  | ((with_reducible refine gate_dst (N := 1) rfl ?_); refine boxE_ 1 #[.slice none 0 0, .int .i64 0, .slice none 0 0] 25 ?_; intro g0 hg wb1 hbox hb; have E0 := a_ (gE_ hg : wc1.heap.size ≤ g0); have B8 := a_ hbox; (try clear z0 f0 z1 f1 z2 f2); obtain ⟨z0, z1, z2, f0, f1, f2⟩ := bx3_ B8.out; have hs_ := below_step hC_ hb; replace HB := a_ hs_; clear hs_ hb hbox hg)
  | ((with_reducible refine gate_callee (f := 8) rfl ?_); refine goesL_ _ rfl rfl Tryz.func8 (by kernel_rfl) rfl #[.agg #[.slice A0s l0s.length c0s, .int .i64 0, .slice none 0 0], .int .i64 2] rfl hL_ ?_; (refine (answer_Put.calls k _ _ l0s 0 _ _ ([] : List S53) 2 l0a na l2a ea _ ?s1 ?s2 ?s3 ?s4 B1.out (GOK.below hG (below_step HX.out hC_))).mono ?_); (case s1 => exact (Kd.C_below HOs0.out hC_)); (case s2 => exact HCs0.out); (case s3 => exact Kd.C_nil _ _); (case s4 => exact Nat.le_refl _); rintro e wc2 ⟨v0_, v2_, rfl, hs0, hr1, hb⟩; refine ⟨_, rfl, ?_⟩; have hs_ := below_step hC_ hb; obtain ⟨A0a, c0a, rfl⟩ := Kd.S_slice hs0; obtain ⟨A2a, c2a, rfl⟩ := Kd.R_slice hr1; have HOa0 := a_ (Kd.S_reads' hs0).2.2; have HCa0 := a_ (Kd.S_reads' hs0).2.1; have HOa2 := a_ (Kd.R_reads' hr1).2.2; have HCa2 := a_ (Kd.R_reads' hr1).2.1; replace HOs0 := a_ (Kd.C_below HOs0.out hs_); replace B8 := a_ (blk_below (g := g0) (o := .cells #[.slice A0s l0s.length c0s, .int .i64 0, .slice none 0 0] 25 (0, 0)) (by (with_reducible repeat (first | refine blk_drewN ?_ _ | refine blk_drew ?_ | refine blk_alloc ?_ _)); exact (bP_ (bP_ (bP_ (hK_ B8.out))))) hb); replace HX := a_ (below_step HX.out hs_); replace HB := a_ (Below.refl wc2.heap.size wc2); clear hs_ hb hs0 hr1; (try clear z0 f0 z1 f1 z2 f2); obtain ⟨z0, z1, z2, f0, f1, f2⟩ := bx3_ B8.out)
  | ((with_reducible refine gate_dst (N := 2) rfl ?_); refine boxE_ 2 #[.slice none 0 0, .int .i64 0, .slice none 0 0] 25 ?_; intro g1 hg wb2 hbox hb; have E1 := a_ (gE_ hg : wc2.heap.size ≤ g1); have m0 := (bL_ B8.out hg : g0 ≠ g1); have m1 := (bG_ B8.out hg : g1 ≠ g0); have B9 := a_ hbox; (try clear z0 f0 z1 f1 z2 f2); obtain ⟨z0, z1, z2, f0, f1, f2⟩ := bx3_ (bB_ B8.out hb); (try clear z3 f3 z4 f4 z5 f5); obtain ⟨z3, z4, z5, f3, f4, f5⟩ := bx3_ B9.out; have hs_ := below_step hC_ hb; replace HB := a_ hs_; clear hs_ hb hbox hg)
  | ((with_reducible refine gate_callee (f := 8) rfl ?_); refine goesL_ _ rfl rfl Tryz.func8 (by kernel_rfl) rfl #[.agg #[.slice A0a l0a.length c0a, .int .i64 na, .slice A2a l2a.length c2a], .int .i64 1] rfl hL_ ?_; (with_reducible refine (answer_Put.calls k _ _ l0a na _ _ l2a 1 l0b nb l2b eb _ ?s1 ?s2 ?s3 ?s4 B2.out (GOK.below hG (below_step HX.out hC_))).mono ?_); (case s1 => exact (Kd.C_below HOa0.out hC_)); (case s2 => exact HCa0.out); (case s3 => exact (Kd.C_below HOa2.out hC_)); (case s4 => exact HCa2.out); rintro e wc3 ⟨v0_, v2_, rfl, hs0, hr1, hb⟩; refine ⟨_, rfl, ?_⟩; have hs_ := below_step hC_ hb; obtain ⟨A0b, c0b, rfl⟩ := Kd.S_slice hs0; obtain ⟨A2b, c2b, rfl⟩ := Kd.R_slice hr1; have HOb0 := a_ (Kd.S_reads' hs0).2.2; have HCb0 := a_ (Kd.S_reads' hs0).2.1; have HOb2 := a_ (Kd.R_reads' hr1).2.2; have HCb2 := a_ (Kd.R_reads' hr1).2.1; replace HOs0 := a_ (Kd.C_below HOs0.out hs_); replace HOa0 := a_ (Kd.C_below HOa0.out hs_); replace HOa2 := a_ (Kd.C_below HOa2.out hs_); replace B8 := a_ (blk_below B8.out hs_); replace B9 := a_ (blk_below (g := g1) (o := .cells #[.slice A0a l0a.length c0a, .int .i64 na, .slice A2a l2a.length c2a] 25 (0, 0)) (by (with_reducible repeat (first | refine blk_drewN ?_ _ | refine blk_drew ?_ | refine blk_alloc ?_ _)); exact (bP_ (bP_ (bP_ (hK_ B9.out))))) hb); replace HX := a_ (below_step HX.out hs_); replace HB := a_ (Below.refl wc3.heap.size wc3); clear hs_ hb hs0 hr1; (try clear z0 f0 z1 f1 z2 f2); obtain ⟨z0, z1, z2, f0, f1, f2⟩ := bx3_ B8.out; (try clear z3 f3 z4 f4 z5 f5); obtain ⟨z3, z4, z5, f3, f4, f5⟩ := bx3_ B9.out)
  | ((with_reducible refine gate_dst (N := 4) rfl ?_); refine boxE_ 4 #[.slice none 0 0, .int .i64 0, .slice none 0 0] 25 ?_; intro g2 hg wb4 hbox hb; have E2 := a_ (gE_ hg : wc3.heap.size ≤ g2); have m2 := (bL_ B8.out hg : g0 ≠ g2); have m3 := (bG_ B8.out hg : g2 ≠ g0); have m4 := (bL_ B9.out hg : g1 ≠ g2); have m5 := (bG_ B9.out hg : g2 ≠ g1); have BK4 := a_ hbox; (try clear z0 f0 z1 f1 z2 f2); obtain ⟨z0, z1, z2, f0, f1, f2⟩ := bx3_ (bB_ B8.out hb); (try clear z3 f3 z4 f4 z5 f5); obtain ⟨z3, z4, z5, f3, f4, f5⟩ := bx3_ (bB_ B9.out hb); (try clear z6 f6 z7 f7 z8 f8); obtain ⟨z6, z7, z8, f6, f7, f8⟩ := bx3_ BK4.out; have hs_ := below_step hC_ hb; replace HB := a_ hs_; clear hs_ hb hbox hg)
  | ((with_reducible refine gate_callee (f := 10) rfl ?_); refine goesL_ _ rfl rfl Tryz.func10 (by kernel_rfl) rfl #[.agg #[.slice A0b l0b.length c0b, .int .i64 nb, .slice A2b l2b.length c2b]] rfl hL_ ?_; (with_reducible refine (answer_Undo.calls k _ _ l0b nb _ _ l2b  l0c nc l2c ec _ ?s1 ?s2 ?s3 ?s4 B3.out (GOK.below hG (below_step HX.out hC_))).mono ?_); (case s1 => exact (Kd.C_below HOb0.out hC_)); (case s2 => exact HCb0.out); (case s3 => exact (Kd.C_below HOb2.out hC_)); (case s4 => exact HCb2.out); rintro e wc4 ⟨v0_, v2_, rfl, hs0, hr1, hb⟩; refine ⟨_, rfl, ?_⟩; have hs_ := below_step hC_ hb; obtain ⟨A0c, c0c, rfl⟩ := Kd.S_slice hs0; obtain ⟨A2c, c2c, rfl⟩ := Kd.R_slice hr1; have HOc0 := a_ (Kd.S_reads' hs0).2.2; have HCc0 := a_ (Kd.S_reads' hs0).2.1; have HOc2 := a_ (Kd.R_reads' hr1).2.2; have HCc2 := a_ (Kd.R_reads' hr1).2.1; replace HOs0 := a_ (Kd.C_below HOs0.out hs_); replace HOa0 := a_ (Kd.C_below HOa0.out hs_); replace HOa2 := a_ (Kd.C_below HOa2.out hs_); replace HOb0 := a_ (Kd.C_below HOb0.out hs_); replace HOb2 := a_ (Kd.C_below HOb2.out hs_); replace B8 := a_ (blk_below B8.out hs_); replace B9 := a_ (blk_below B9.out hs_); replace BK4 := a_ (blk_below (g := g2) (o := .cells #[.slice A0b l0b.length c0b, .int .i64 nb, .slice A2b l2b.length c2b] 25 (0, 0)) (by (with_reducible repeat (first | refine blk_drewN ?_ _ | refine blk_drew ?_ | refine blk_alloc ?_ _)); exact (bP_ (bP_ (bP_ (hK_ BK4.out))))) hb); replace HX := a_ (below_step HX.out hs_); replace HB := a_ (Below.refl wc4.heap.size wc4); clear hs_ hb hs0 hr1; (try clear z0 f0 z1 f1 z2 f2); obtain ⟨z0, z1, z2, f0, f1, f2⟩ := bx3_ B8.out; (try clear z3 f3 z4 f4 z5 f5); obtain ⟨z3, z4, z5, f3, f4, f5⟩ := bx3_ B9.out; (try clear z6 f6 z7 f7 z8 f8); obtain ⟨z6, z7, z8, f6, f7, f8⟩ := bx3_ BK4.out)
  | ((with_reducible refine gate_dst (N := 6) rfl ?_); refine boxE_ 6 #[.slice none 0 0, .int .i64 0, .slice none 0 0] 25 ?_; intro g3 hg wb6 hbox hb; have E3 := a_ (gE_ hg : wc4.heap.size ≤ g3); have m6 := (bL_ B8.out hg : g0 ≠ g3); have m7 := (bG_ B8.out hg : g3 ≠ g0); have m8 := (bL_ B9.out hg : g1 ≠ g3); have m9 := (bG_ B9.out hg : g3 ≠ g1); have m10 := (bL_ BK4.out hg : g2 ≠ g3); have m11 := (bG_ BK4.out hg : g3 ≠ g2); have BK6 := a_ hbox; (try clear z0 f0 z1 f1 z2 f2); obtain ⟨z0, z1, z2, f0, f1, f2⟩ := bx3_ (bB_ B8.out hb); (try clear z3 f3 z4 f4 z5 f5); obtain ⟨z3, z4, z5, f3, f4, f5⟩ := bx3_ (bB_ B9.out hb); (try clear z6 f6 z7 f7 z8 f8); obtain ⟨z6, z7, z8, f6, f7, f8⟩ := bx3_ (bB_ BK4.out hb); (try clear z9 f9 z10 f10 z11 f11); obtain ⟨z9, z10, z11, f9, f10, f11⟩ := bx3_ BK6.out; have hs_ := below_step hC_ hb; replace HB := a_ hs_; clear hs_ hb hbox hg)
  | ((with_reducible refine gate_callee (f := 10) rfl ?_); refine goesL_ _ rfl rfl Tryz.func10 (by kernel_rfl) rfl #[.agg #[.slice A0s l0s.length c0s, .int .i64 0, .slice none 0 0]] rfl hL_ ?_; (refine (answer_Undo.calls k _ _ l0s 0 _ _ ([] : List S53)  l0h nh l2h eh _ ?s1 ?s2 ?s3 ?s4 B4.out (GOK.below hG (below_step HX.out hC_))).mono ?_); (case s1 => exact (Kd.C_below HOs0.out hC_)); (case s2 => exact HCs0.out); (case s3 => exact Kd.C_nil _ _); (case s4 => exact Nat.le_refl _); rintro e wc5 ⟨v0_, v2_, rfl, hs0, hr1, hb⟩; refine ⟨_, rfl, ?_⟩; have hs_ := below_step hC_ hb; obtain ⟨A0h, c0h, rfl⟩ := Kd.S_slice hs0; obtain ⟨A2h, c2h, rfl⟩ := Kd.R_slice hr1; have HOh0 := a_ (Kd.S_reads' hs0).2.2; have HCh0 := a_ (Kd.S_reads' hs0).2.1; have HOh2 := a_ (Kd.R_reads' hr1).2.2; have HCh2 := a_ (Kd.R_reads' hr1).2.1; replace HOs0 := a_ (Kd.C_below HOs0.out hs_); replace HOa0 := a_ (Kd.C_below HOa0.out hs_); replace HOa2 := a_ (Kd.C_below HOa2.out hs_); replace HOb0 := a_ (Kd.C_below HOb0.out hs_); replace HOb2 := a_ (Kd.C_below HOb2.out hs_); replace HOc0 := a_ (Kd.C_below HOc0.out hs_); replace HOc2 := a_ (Kd.C_below HOc2.out hs_); replace B8 := a_ (blk_below B8.out hs_); replace B9 := a_ (blk_below B9.out hs_); replace BK4 := a_ (blk_below BK4.out hs_); replace BK6 := a_ (blk_below (g := g3) (o := .cells #[.slice A0c l0c.length c0c, .int .i64 nc, .slice A2c l2c.length c2c] 25 (0, 0)) (by (with_reducible repeat (first | refine blk_drewN ?_ _ | refine blk_drew ?_ | refine blk_alloc ?_ _)); exact (bP_ (bP_ (bP_ (hK_ BK6.out))))) hb); replace HX := a_ (below_step HX.out hs_); replace HB := a_ (Below.refl wc5.heap.size wc5); clear hs_ hb hs0 hr1; (try clear z0 f0 z1 f1 z2 f2); obtain ⟨z0, z1, z2, f0, f1, f2⟩ := bx3_ B8.out; (try clear z3 f3 z4 f4 z5 f5); obtain ⟨z3, z4, z5, f3, f4, f5⟩ := bx3_ B9.out; (try clear z6 f6 z7 f7 z8 f8); obtain ⟨z6, z7, z8, f6, f7, f8⟩ := bx3_ BK4.out; (try clear z9 f9 z10 f10 z11 f11); obtain ⟨z9, z10, z11, f9, f10, f11⟩ := bx3_ BK6.out)
  | ((with_reducible refine gate_dst (N := 8) rfl ?_); refine boxE_ 8 #[.slice none 0 0, .int .i64 0, .slice none 0 0] 25 ?_; intro g4 hg wb8 hbox hb; have E4 := a_ (gE_ hg : wc5.heap.size ≤ g4); have m12 := (bL_ B8.out hg : g0 ≠ g4); have m13 := (bG_ B8.out hg : g4 ≠ g0); have m14 := (bL_ B9.out hg : g1 ≠ g4); have m15 := (bG_ B9.out hg : g4 ≠ g1); have m16 := (bL_ BK4.out hg : g2 ≠ g4); have m17 := (bG_ BK4.out hg : g4 ≠ g2); have m18 := (bL_ BK6.out hg : g3 ≠ g4); have m19 := (bG_ BK6.out hg : g4 ≠ g3); have BK8 := a_ hbox; (try clear z0 f0 z1 f1 z2 f2); obtain ⟨z0, z1, z2, f0, f1, f2⟩ := bx3_ (bB_ B8.out hb); (try clear z3 f3 z4 f4 z5 f5); obtain ⟨z3, z4, z5, f3, f4, f5⟩ := bx3_ (bB_ B9.out hb); (try clear z6 f6 z7 f7 z8 f8); obtain ⟨z6, z7, z8, f6, f7, f8⟩ := bx3_ (bB_ BK4.out hb); (try clear z9 f9 z10 f10 z11 f11); obtain ⟨z9, z10, z11, f9, f10, f11⟩ := bx3_ (bB_ BK6.out hb); (try clear z12 f12 z13 f13 z14 f14); obtain ⟨z12, z13, z14, f12, f13, f14⟩ := bx3_ BK8.out; have hs_ := below_step hC_ hb; replace HB := a_ hs_; clear hs_ hb hbox hg)
  | ((with_reducible refine gate_callee (f := 8) rfl ?_); refine goesL_ _ rfl rfl Tryz.func8 (by kernel_rfl) rfl #[.agg #[.slice A0s l0s.length c0s, .int .i64 0, .slice none 0 0], .int .i64 0] rfl hL_ ?_; (refine (answer_Put.calls k _ _ l0s 0 _ _ ([] : List S53) 0 l0i ni l2i ei _ ?s1 ?s2 ?s3 ?s4 B5.out (GOK.below hG (below_step HX.out hC_))).mono ?_); (case s1 => exact (Kd.C_below HOs0.out hC_)); (case s2 => exact HCs0.out); (case s3 => exact Kd.C_nil _ _); (case s4 => exact Nat.le_refl _); rintro e wc6 ⟨v0_, v2_, rfl, hs0, hr1, hb⟩; refine ⟨_, rfl, ?_⟩; have hs_ := below_step hC_ hb; obtain ⟨A0i, c0i, rfl⟩ := Kd.S_slice hs0; obtain ⟨A2i, c2i, rfl⟩ := Kd.R_slice hr1; have HOi0 := a_ (Kd.S_reads' hs0).2.2; have HCi0 := a_ (Kd.S_reads' hs0).2.1; have HOi2 := a_ (Kd.R_reads' hr1).2.2; have HCi2 := a_ (Kd.R_reads' hr1).2.1; replace HOs0 := a_ (Kd.C_below HOs0.out hs_); replace HOa0 := a_ (Kd.C_below HOa0.out hs_); replace HOa2 := a_ (Kd.C_below HOa2.out hs_); replace HOb0 := a_ (Kd.C_below HOb0.out hs_); replace HOb2 := a_ (Kd.C_below HOb2.out hs_); replace HOc0 := a_ (Kd.C_below HOc0.out hs_); replace HOc2 := a_ (Kd.C_below HOc2.out hs_); replace HOh0 := a_ (Kd.C_below HOh0.out hs_); replace HOh2 := a_ (Kd.C_below HOh2.out hs_); replace B8 := a_ (blk_below B8.out hs_); replace B9 := a_ (blk_below B9.out hs_); replace BK4 := a_ (blk_below BK4.out hs_); replace BK6 := a_ (blk_below BK6.out hs_); replace BK8 := a_ (blk_below (g := g4) (o := .cells #[.slice A0h l0h.length c0h, .int .i64 nh, .slice A2h l2h.length c2h] 25 (0, 0)) (by (with_reducible repeat (first | refine blk_drewN ?_ _ | refine blk_drew ?_ | refine blk_alloc ?_ _)); exact (bP_ (bP_ (bP_ (hK_ BK8.out))))) hb); replace HX := a_ (below_step HX.out hs_); replace HB := a_ (Below.refl wc6.heap.size wc6); clear hs_ hb hs0 hr1; (try clear z0 f0 z1 f1 z2 f2); obtain ⟨z0, z1, z2, f0, f1, f2⟩ := bx3_ B8.out; (try clear z3 f3 z4 f4 z5 f5); obtain ⟨z3, z4, z5, f3, f4, f5⟩ := bx3_ B9.out; (try clear z6 f6 z7 f7 z8 f8); obtain ⟨z6, z7, z8, f6, f7, f8⟩ := bx3_ BK4.out; (try clear z9 f9 z10 f10 z11 f11); obtain ⟨z9, z10, z11, f9, f10, f11⟩ := bx3_ BK6.out; (try clear z12 f12 z13 f13 z14 f14); obtain ⟨z12, z13, z14, f12, f13, f14⟩ := bx3_ BK8.out)
  | ((with_reducible refine gate_dst (N := 10) rfl ?_); refine boxE_ 10 #[.slice none 0 0, .int .i64 0, .slice none 0 0] 25 ?_; intro g5 hg wb10 hbox hb; have E5 := a_ (gE_ hg : wc6.heap.size ≤ g5); have m20 := (bL_ B8.out hg : g0 ≠ g5); have m21 := (bG_ B8.out hg : g5 ≠ g0); have m22 := (bL_ B9.out hg : g1 ≠ g5); have m23 := (bG_ B9.out hg : g5 ≠ g1); have m24 := (bL_ BK4.out hg : g2 ≠ g5); have m25 := (bG_ BK4.out hg : g5 ≠ g2); have m26 := (bL_ BK6.out hg : g3 ≠ g5); have m27 := (bG_ BK6.out hg : g5 ≠ g3); have m28 := (bL_ BK8.out hg : g4 ≠ g5); have m29 := (bG_ BK8.out hg : g5 ≠ g4); have B10 := a_ hbox; (try clear z0 f0 z1 f1 z2 f2); obtain ⟨z0, z1, z2, f0, f1, f2⟩ := bx3_ (bB_ B8.out hb); (try clear z3 f3 z4 f4 z5 f5); obtain ⟨z3, z4, z5, f3, f4, f5⟩ := bx3_ (bB_ B9.out hb); (try clear z6 f6 z7 f7 z8 f8); obtain ⟨z6, z7, z8, f6, f7, f8⟩ := bx3_ (bB_ BK4.out hb); (try clear z9 f9 z10 f10 z11 f11); obtain ⟨z9, z10, z11, f9, f10, f11⟩ := bx3_ (bB_ BK6.out hb); (try clear z12 f12 z13 f13 z14 f14); obtain ⟨z12, z13, z14, f12, f13, f14⟩ := bx3_ (bB_ BK8.out hb); (try clear z15 f15 z16 f16 z17 f17); obtain ⟨z15, z16, z17, f15, f16, f17⟩ := bx3_ B10.out; have hs_ := below_step hC_ hb; replace HB := a_ hs_; clear hs_ hb hbox hg)
  | ((with_reducible refine gate_callee (f := 8) rfl ?_); refine goesL_ _ rfl rfl Tryz.func8 (by kernel_rfl) rfl #[.agg #[.slice A0s l0s.length c0s, .int .i64 0, .slice none 0 0], .int .i64 1] rfl hL_ ?_; (refine (answer_Put.calls k _ _ l0s 0 _ _ ([] : List S53) 1 l0d nd l2d ed _ ?s1 ?s2 ?s3 ?s4 B6.out (GOK.below hG (below_step HX.out hC_))).mono ?_); (case s1 => exact (Kd.C_below HOs0.out hC_)); (case s2 => exact HCs0.out); (case s3 => exact Kd.C_nil _ _); (case s4 => exact Nat.le_refl _); rintro e wc7 ⟨v0_, v2_, rfl, hs0, hr1, hb⟩; refine ⟨_, rfl, ?_⟩; have hs_ := below_step hC_ hb; obtain ⟨A0d, c0d, rfl⟩ := Kd.S_slice hs0; obtain ⟨A2d, c2d, rfl⟩ := Kd.R_slice hr1; have HOd0 := a_ (Kd.S_reads' hs0).2.2; have HCd0 := a_ (Kd.S_reads' hs0).2.1; have HOd2 := a_ (Kd.R_reads' hr1).2.2; have HCd2 := a_ (Kd.R_reads' hr1).2.1; replace HOs0 := a_ (Kd.C_below HOs0.out hs_); replace HOa0 := a_ (Kd.C_below HOa0.out hs_); replace HOa2 := a_ (Kd.C_below HOa2.out hs_); replace HOb0 := a_ (Kd.C_below HOb0.out hs_); replace HOb2 := a_ (Kd.C_below HOb2.out hs_); replace HOc0 := a_ (Kd.C_below HOc0.out hs_); replace HOc2 := a_ (Kd.C_below HOc2.out hs_); replace HOh0 := a_ (Kd.C_below HOh0.out hs_); replace HOh2 := a_ (Kd.C_below HOh2.out hs_); replace HOi0 := a_ (Kd.C_below HOi0.out hs_); replace HOi2 := a_ (Kd.C_below HOi2.out hs_); replace B8 := a_ (blk_below B8.out hs_); replace B9 := a_ (blk_below B9.out hs_); replace BK4 := a_ (blk_below BK4.out hs_); replace BK6 := a_ (blk_below BK6.out hs_); replace BK8 := a_ (blk_below BK8.out hs_); replace B10 := a_ (blk_below (g := g5) (o := .cells #[.slice A0i l0i.length c0i, .int .i64 ni, .slice A2i l2i.length c2i] 25 (0, 0)) (by (with_reducible repeat (first | refine blk_drewN ?_ _ | refine blk_drew ?_ | refine blk_alloc ?_ _)); exact (bP_ (bP_ (bP_ (hK_ B10.out))))) hb); replace HX := a_ (below_step HX.out hs_); replace HB := a_ (Below.refl wc7.heap.size wc7); clear hs_ hb hs0 hr1; (try clear z0 f0 z1 f1 z2 f2); obtain ⟨z0, z1, z2, f0, f1, f2⟩ := bx3_ B8.out; (try clear z3 f3 z4 f4 z5 f5); obtain ⟨z3, z4, z5, f3, f4, f5⟩ := bx3_ B9.out; (try clear z6 f6 z7 f7 z8 f8); obtain ⟨z6, z7, z8, f6, f7, f8⟩ := bx3_ BK4.out; (try clear z9 f9 z10 f10 z11 f11); obtain ⟨z9, z10, z11, f9, f10, f11⟩ := bx3_ BK6.out; (try clear z12 f12 z13 f13 z14 f14); obtain ⟨z12, z13, z14, f12, f13, f14⟩ := bx3_ BK8.out; (try clear z15 f15 z16 f16 z17 f17); obtain ⟨z15, z16, z17, f15, f16, f17⟩ := bx3_ B10.out)
  | ((with_reducible refine gate_dst (N := 12) rfl ?_); refine boxE_ 12 #[.slice none 0 0, .int .i64 0, .slice none 0 0] 25 ?_; intro g6 hg wb12 hbox hb; have E6 := a_ (gE_ hg : wc7.heap.size ≤ g6); have m30 := (bL_ B8.out hg : g0 ≠ g6); have m31 := (bG_ B8.out hg : g6 ≠ g0); have m32 := (bL_ B9.out hg : g1 ≠ g6); have m33 := (bG_ B9.out hg : g6 ≠ g1); have m34 := (bL_ BK4.out hg : g2 ≠ g6); have m35 := (bG_ BK4.out hg : g6 ≠ g2); have m36 := (bL_ BK6.out hg : g3 ≠ g6); have m37 := (bG_ BK6.out hg : g6 ≠ g3); have m38 := (bL_ BK8.out hg : g4 ≠ g6); have m39 := (bG_ BK8.out hg : g6 ≠ g4); have m40 := (bL_ B10.out hg : g5 ≠ g6); have m41 := (bG_ B10.out hg : g6 ≠ g5); have B11 := a_ hbox; (try clear z0 f0 z1 f1 z2 f2); obtain ⟨z0, z1, z2, f0, f1, f2⟩ := bx3_ (bB_ B8.out hb); (try clear z3 f3 z4 f4 z5 f5); obtain ⟨z3, z4, z5, f3, f4, f5⟩ := bx3_ (bB_ B9.out hb); (try clear z6 f6 z7 f7 z8 f8); obtain ⟨z6, z7, z8, f6, f7, f8⟩ := bx3_ (bB_ BK4.out hb); (try clear z9 f9 z10 f10 z11 f11); obtain ⟨z9, z10, z11, f9, f10, f11⟩ := bx3_ (bB_ BK6.out hb); (try clear z12 f12 z13 f13 z14 f14); obtain ⟨z12, z13, z14, f12, f13, f14⟩ := bx3_ (bB_ BK8.out hb); (try clear z15 f15 z16 f16 z17 f17); obtain ⟨z15, z16, z17, f15, f16, f17⟩ := bx3_ (bB_ B10.out hb); (try clear z18 f18 z19 f19 z20 f20); obtain ⟨z18, z19, z20, f18, f19, f20⟩ := bx3_ B11.out; have hs_ := below_step hC_ hb; replace HB := a_ hs_; clear hs_ hb hbox hg)
  | ((with_reducible refine gate_callee (f := 8) rfl ?_); refine goesL_ _ rfl rfl Tryz.func8 (by kernel_rfl) rfl #[.agg #[.slice A0d l0d.length c0d, .int .i64 nd, .slice A2d l2d.length c2d], .int .i64 1] rfl hL_ ?_; (with_reducible refine (answer_Put.calls k _ _ l0d nd _ _ l2d 1 l0j nj l2j ej _ ?s1 ?s2 ?s3 ?s4 B7.out (GOK.below hG (below_step HX.out hC_))).mono ?_); (case s1 => exact (Kd.C_below HOd0.out hC_)); (case s2 => exact HCd0.out); (case s3 => exact (Kd.C_below HOd2.out hC_)); (case s4 => exact HCd2.out); rintro e wc8 ⟨v0_, v2_, rfl, hs0, hr1, hb⟩; refine ⟨_, rfl, ?_⟩; have hs_ := below_step hC_ hb; obtain ⟨A0j, c0j, rfl⟩ := Kd.S_slice hs0; obtain ⟨A2j, c2j, rfl⟩ := Kd.R_slice hr1; have HOj0 := a_ (Kd.S_reads' hs0).2.2; have HCj0 := a_ (Kd.S_reads' hs0).2.1; have HOj2 := a_ (Kd.R_reads' hr1).2.2; have HCj2 := a_ (Kd.R_reads' hr1).2.1; replace HOs0 := a_ (Kd.C_below HOs0.out hs_); replace HOa0 := a_ (Kd.C_below HOa0.out hs_); replace HOa2 := a_ (Kd.C_below HOa2.out hs_); replace HOb0 := a_ (Kd.C_below HOb0.out hs_); replace HOb2 := a_ (Kd.C_below HOb2.out hs_); replace HOc0 := a_ (Kd.C_below HOc0.out hs_); replace HOc2 := a_ (Kd.C_below HOc2.out hs_); replace HOh0 := a_ (Kd.C_below HOh0.out hs_); replace HOh2 := a_ (Kd.C_below HOh2.out hs_); replace HOi0 := a_ (Kd.C_below HOi0.out hs_); replace HOi2 := a_ (Kd.C_below HOi2.out hs_); replace HOd0 := a_ (Kd.C_below HOd0.out hs_); replace HOd2 := a_ (Kd.C_below HOd2.out hs_); replace B8 := a_ (blk_below B8.out hs_); replace B9 := a_ (blk_below B9.out hs_); replace BK4 := a_ (blk_below BK4.out hs_); replace BK6 := a_ (blk_below BK6.out hs_); replace BK8 := a_ (blk_below BK8.out hs_); replace B10 := a_ (blk_below B10.out hs_); replace B11 := a_ (blk_below (g := g6) (o := .cells #[.slice A0d l0d.length c0d, .int .i64 nd, .slice A2d l2d.length c2d] 25 (0, 0)) (by (with_reducible repeat (first | refine blk_drewN ?_ _ | refine blk_drew ?_ | refine blk_alloc ?_ _)); exact (bP_ (bP_ (bP_ (hK_ B11.out))))) hb); replace HX := a_ (below_step HX.out hs_); replace HB := a_ (Below.refl wc8.heap.size wc8); clear hs_ hb hs0 hr1; (try clear z0 f0 z1 f1 z2 f2); obtain ⟨z0, z1, z2, f0, f1, f2⟩ := bx3_ B8.out; (try clear z3 f3 z4 f4 z5 f5); obtain ⟨z3, z4, z5, f3, f4, f5⟩ := bx3_ B9.out; (try clear z6 f6 z7 f7 z8 f8); obtain ⟨z6, z7, z8, f6, f7, f8⟩ := bx3_ BK4.out; (try clear z9 f9 z10 f10 z11 f11); obtain ⟨z9, z10, z11, f9, f10, f11⟩ := bx3_ BK6.out; (try clear z12 f12 z13 f13 z14 f14); obtain ⟨z12, z13, z14, f12, f13, f14⟩ := bx3_ BK8.out; (try clear z15 f15 z16 f16 z17 f17); obtain ⟨z15, z16, z17, f15, f16, f17⟩ := bx3_ B10.out; (try clear z18 f18 z19 f19 z20 f20); obtain ⟨z18, z19, z20, f18, f19, f20⟩ := bx3_ B11.out)
  | ((with_reducible refine gate_dst (N := 14) rfl ?_); refine boxE_ 14 #[.slice none 0 0, .int .i64 0, .slice none 0 0] 25 ?_; intro g7 hg wb14 hbox hb; have E7 := a_ (gE_ hg : wc8.heap.size ≤ g7); have m42 := (bL_ B8.out hg : g0 ≠ g7); have m43 := (bG_ B8.out hg : g7 ≠ g0); have m44 := (bL_ B9.out hg : g1 ≠ g7); have m45 := (bG_ B9.out hg : g7 ≠ g1); have m46 := (bL_ BK4.out hg : g2 ≠ g7); have m47 := (bG_ BK4.out hg : g7 ≠ g2); have m48 := (bL_ BK6.out hg : g3 ≠ g7); have m49 := (bG_ BK6.out hg : g7 ≠ g3); have m50 := (bL_ BK8.out hg : g4 ≠ g7); have m51 := (bG_ BK8.out hg : g7 ≠ g4); have m52 := (bL_ B10.out hg : g5 ≠ g7); have m53 := (bG_ B10.out hg : g7 ≠ g5); have m54 := (bL_ B11.out hg : g6 ≠ g7); have m55 := (bG_ B11.out hg : g7 ≠ g6); have B12 := a_ hbox; (try clear z0 f0 z1 f1 z2 f2); obtain ⟨z0, z1, z2, f0, f1, f2⟩ := bx3_ (bB_ B8.out hb); (try clear z3 f3 z4 f4 z5 f5); obtain ⟨z3, z4, z5, f3, f4, f5⟩ := bx3_ (bB_ B9.out hb); (try clear z6 f6 z7 f7 z8 f8); obtain ⟨z6, z7, z8, f6, f7, f8⟩ := bx3_ (bB_ BK4.out hb); (try clear z9 f9 z10 f10 z11 f11); obtain ⟨z9, z10, z11, f9, f10, f11⟩ := bx3_ (bB_ BK6.out hb); (try clear z12 f12 z13 f13 z14 f14); obtain ⟨z12, z13, z14, f12, f13, f14⟩ := bx3_ (bB_ BK8.out hb); (try clear z15 f15 z16 f16 z17 f17); obtain ⟨z15, z16, z17, f15, f16, f17⟩ := bx3_ (bB_ B10.out hb); (try clear z18 f18 z19 f19 z20 f20); obtain ⟨z18, z19, z20, f18, f19, f20⟩ := bx3_ (bB_ B11.out hb); (try clear z21 f21 z22 f22 z23 f23); obtain ⟨z21, z22, z23, f21, f22, f23⟩ := bx3_ B12.out; have hs_ := below_step hC_ hb; replace HB := a_ hs_; clear hs_ hb hbox hg)
  | ((with_reducible refine gate_dst (N := 57) rfl ?_); refine Kd.R_lit k53 _ 53 ?hg (N := 57) ?hd (xs := ([(⟨0, 2⟩ : S53), (⟨1, 1⟩ : S53)] : List S53)) (inner := [.int .i64 0, .int .i64 2, .int .i64 1, .int .i64 1]) (ok := fun _ => True) (okp := fun _ => True) ?hr ?hp (fun _ hk => hk) trivial (Below.refl _ _) (Nat.le_refl _) (by simp) ?_; (case hd => rfl); (case hg => rfl); (case hr => first | (go_simp; done) | (go_simp; rfl)); (case hp => exact (Reps.c2 (show Kd.M k53 _ _ _ (⟨0, 2⟩ : S53) [.int .i64 0, .int .i64 2] from (k53_mkM _ _ _ (⟨0, 2⟩ : S53) )) (Reps.c2 (show Kd.M k53 _ _ _ (⟨1, 1⟩ : S53) [.int .i64 1, .int .i64 1] from (k53_mkM _ _ _ (⟨1, 1⟩ : S53) )) (Reps.none _ _)))); intro v_ wc9 hr1 hb hg_ hnew_; clear hg_ hnew_; (first | rw [← Nyl.out] at hr1 | (simp only [Int.reduceToNat] at hr1; rw [← Nyl.out] at hr1)); have hs_ := below_step hC_ hb; obtain ⟨AL, cL, rfl⟩ := Kd.R_slice hr1; have HOL := a_ (Kd.R_reads' hr1).2.2; have HCL := a_ (Kd.R_reads' hr1).2.1; replace HOs0 := a_ (Kd.C_below HOs0.out hs_); replace HOa0 := a_ (Kd.C_below HOa0.out hs_); replace HOa2 := a_ (Kd.C_below HOa2.out hs_); replace HOb0 := a_ (Kd.C_below HOb0.out hs_); replace HOb2 := a_ (Kd.C_below HOb2.out hs_); replace HOc0 := a_ (Kd.C_below HOc0.out hs_); replace HOc2 := a_ (Kd.C_below HOc2.out hs_); replace HOh0 := a_ (Kd.C_below HOh0.out hs_); replace HOh2 := a_ (Kd.C_below HOh2.out hs_); replace HOi0 := a_ (Kd.C_below HOi0.out hs_); replace HOi2 := a_ (Kd.C_below HOi2.out hs_); replace HOd0 := a_ (Kd.C_below HOd0.out hs_); replace HOd2 := a_ (Kd.C_below HOd2.out hs_); replace HOj0 := a_ (Kd.C_below HOj0.out hs_); replace HOj2 := a_ (Kd.C_below HOj2.out hs_); replace B8 := a_ (blk_below B8.out hs_); replace B9 := a_ (blk_below B9.out hs_); replace BK4 := a_ (blk_below BK4.out hs_); replace BK6 := a_ (blk_below BK6.out hs_); replace BK8 := a_ (blk_below BK8.out hs_); replace B10 := a_ (blk_below B10.out hs_); replace B11 := a_ (blk_below B11.out hs_); replace B12 := a_ (blk_below (g := g7) (o := .cells #[.slice A0j l0j.length c0j, .int .i64 nj, .slice A2j l2j.length c2j] 25 (0, 0)) (by (with_reducible repeat (first | refine blk_drewN ?_ _ | refine blk_drew ?_ | refine blk_alloc ?_ _)); exact (bP_ (bP_ (bP_ (hK_ B12.out))))) hb); replace HX := a_ (below_step HX.out hs_); replace HB := a_ (Below.refl wc9.heap.size wc9); clear hs_ hb hr1; (try clear z0 f0 z1 f1 z2 f2); obtain ⟨z0, z1, z2, f0, f1, f2⟩ := bx3_ B8.out; (try clear z3 f3 z4 f4 z5 f5); obtain ⟨z3, z4, z5, f3, f4, f5⟩ := bx3_ B9.out; (try clear z6 f6 z7 f7 z8 f8); obtain ⟨z6, z7, z8, f6, f7, f8⟩ := bx3_ BK4.out; (try clear z9 f9 z10 f10 z11 f11); obtain ⟨z9, z10, z11, f9, f10, f11⟩ := bx3_ BK6.out; (try clear z12 f12 z13 f13 z14 f14); obtain ⟨z12, z13, z14, f12, f13, f14⟩ := bx3_ BK8.out; (try clear z15 f15 z16 f16 z17 f17); obtain ⟨z15, z16, z17, f15, f16, f17⟩ := bx3_ B10.out; (try clear z18 f18 z19 f19 z20 f20); obtain ⟨z18, z19, z20, f18, f19, f20⟩ := bx3_ B11.out; (try clear z21 f21 z22 f22 z23 f23); obtain ⟨z21, z22, z23, f21, f22, f23⟩ := bx3_ B12.out)
  | ((with_reducible refine gate_callee (f := 29) rfl ?_); refine goesL_ _ rfl rfl Tryz.func29 (by kernel_rfl) rfl #[.slice A2b l2b.length c2b, .slice AL yl.length cL] rfl hL_ ?_; (with_reducible refine (sleuthlaw0_SameAnswers.calls k _ _ l2b _ _ yl true _ ((Kd.C_below HOb2.out hC_)) (HCb2.out) ((Kd.C_below HOL.out hC_)) (HCL.out) T0.out).mono ?_); rintro e w' ⟨rfl, ⟨nq_, rfl⟩⟩; refine ⟨_, rfl, ?_⟩)
  | (go_at_call 13; (with_reducible refine (sleuthlaw0_Num.calls ea t1 _ T1.out).mono ?_); rintro e w' ⟨rfl, ⟨nq_, rfl⟩⟩)
  | (go_at_call 13; (with_reducible refine (sleuthlaw0_Num.calls eb t2 _ T2.out).mono ?_); rintro e w' ⟨rfl, ⟨nq_, rfl⟩⟩)
  | (go_at_call 12; (with_reducible refine (sleuthlaw0_SameSession.calls k _ _ l0a na _ _ l2a _ _ l0c nc _ _ l2c true _ ?s1 ?s2 ?s3 ?s4 ?s5 ?s6 ?s7 ?s8 T3.out).mono ?_); (case s1 => exact (Kd.C_below HOa0.out hC_)); (case s2 => exact HCa0.out); (case s3 => exact (Kd.C_below HOa2.out hC_)); (case s4 => exact HCa2.out); (case s5 => exact (Kd.C_below HOc0.out hC_)); (case s6 => exact HCc0.out); (case s7 => exact (Kd.C_below HOc2.out hC_)); (case s8 => exact HCc2.out); rintro e wc10 ⟨rfl, hb⟩; have hs_ := below_step hC_ hb; replace HOs0 := a_ (Kd.C_below HOs0.out hs_); replace HOa0 := a_ (Kd.C_below HOa0.out hs_); replace HOa2 := a_ (Kd.C_below HOa2.out hs_); replace HOb0 := a_ (Kd.C_below HOb0.out hs_); replace HOb2 := a_ (Kd.C_below HOb2.out hs_); replace HOc0 := a_ (Kd.C_below HOc0.out hs_); replace HOc2 := a_ (Kd.C_below HOc2.out hs_); replace HOh0 := a_ (Kd.C_below HOh0.out hs_); replace HOh2 := a_ (Kd.C_below HOh2.out hs_); replace HOi0 := a_ (Kd.C_below HOi0.out hs_); replace HOi2 := a_ (Kd.C_below HOi2.out hs_); replace HOd0 := a_ (Kd.C_below HOd0.out hs_); replace HOd2 := a_ (Kd.C_below HOd2.out hs_); replace HOj0 := a_ (Kd.C_below HOj0.out hs_); replace HOj2 := a_ (Kd.C_below HOj2.out hs_); replace HOL := a_ (Kd.C_below HOL.out hs_); replace B8 := a_ (blk_below B8.out hs_); replace B9 := a_ (blk_below B9.out hs_); replace BK4 := a_ (blk_below BK4.out hs_); replace BK6 := a_ (blk_below BK6.out hs_); replace BK8 := a_ (blk_below BK8.out hs_); replace B10 := a_ (blk_below B10.out hs_); replace B11 := a_ (blk_below B11.out hs_); replace B12 := a_ (blk_below B12.out hs_); replace HX := a_ (below_step HX.out hs_); replace HB := a_ (Below.refl wc10.heap.size wc10); clear hs_ hb; (try clear z0 f0 z1 f1 z2 f2); obtain ⟨z0, z1, z2, f0, f1, f2⟩ := bx3_ B8.out; (try clear z3 f3 z4 f4 z5 f5); obtain ⟨z3, z4, z5, f3, f4, f5⟩ := bx3_ B9.out; (try clear z6 f6 z7 f7 z8 f8); obtain ⟨z6, z7, z8, f6, f7, f8⟩ := bx3_ BK4.out; (try clear z9 f9 z10 f10 z11 f11); obtain ⟨z9, z10, z11, f9, f10, f11⟩ := bx3_ BK6.out; (try clear z12 f12 z13 f13 z14 f14); obtain ⟨z12, z13, z14, f12, f13, f14⟩ := bx3_ BK8.out; (try clear z15 f15 z16 f16 z17 f17); obtain ⟨z15, z16, z17, f15, f16, f17⟩ := bx3_ B10.out; (try clear z18 f18 z19 f19 z20 f20); obtain ⟨z18, z19, z20, f18, f19, f20⟩ := bx3_ B11.out; (try clear z21 f21 z22 f22 z23 f23); obtain ⟨z21, z22, z23, f21, f22, f23⟩ := bx3_ B12.out)
  | (go_at_call 13; (with_reducible refine (sleuthlaw0_Num.calls ec t4 _ T4.out).mono ?_); rintro e w' ⟨rfl, ⟨nq_, rfl⟩⟩)
  | (go_at_call 13; (with_reducible refine (sleuthlaw0_Num.calls eh t5 _ T5.out).mono ?_); rintro e w' ⟨rfl, ⟨nq_, rfl⟩⟩)
  | (go_at_call 13; (with_reducible refine (sleuthlaw0_Num.calls ei t6 _ T6.out).mono ?_); rintro e w' ⟨rfl, ⟨nq_, rfl⟩⟩)
  | (go_at_call 13; (with_reducible refine (sleuthlaw0_Num.calls ed t7 _ T7.out).mono ?_); rintro e w' ⟨rfl, ⟨nq_, rfl⟩⟩)
  | (go_at_call 13; (with_reducible refine (sleuthlaw0_Num.calls ej t8 _ T8.out).mono ?_); rintro e w' ⟨rfl, ⟨nq_, rfl⟩⟩))
 go_ret
 exact ⟨hV_, below_step HX.out hC_⟩

end Go.Proofs.YtbnljapgnfmmoaaGreatDoor.G
end
section
namespace Go.Proofs.YtbnljapgnfmmoaaGreatDoor.G
open Go.RowKit Go.Proofs.YtbnljapgnfmmoaaGreatDoorW.PrintWords Go.Proofs.YtbnljapgnfmmoaaGreatDoorW.PrintLast Go.Proofs.YtbnljapgnfmmoaaGreatDoorW.PrintMore
set_option linter.unusedVariables false
set_option linter.unusedSimpArgs false
def ansSome : List Nd := [(⟨0, (-1), ([] : List ByteArray), (⟨#[57]⟩ : ByteArray)⟩ : Nd), (⟨1, 0, (([(⟨#[64, 55, 40, 95, 32, 52, 41]⟩ : ByteArray), (⟨#[53]⟩ : ByteArray)] : List ByteArray)), (⟨#[57]⟩ : ByteArray)⟩ : Nd), (⟨2, 0, ([] : List ByteArray), (⟨#[33]⟩ : ByteArray)⟩ : Nd), (⟨1, 1, (([(⟨#[49]⟩ : ByteArray), (⟨#[95]⟩ : ByteArray)] : List ByteArray)), (⟨#[95]⟩ : ByteArray)⟩ : Nd), (⟨1, 2, (([(⟨#[49]⟩ : ByteArray), (⟨#[95]⟩ : ByteArray)] : List ByteArray)), (⟨#[95]⟩ : ByteArray)⟩ : Nd)]
theorem ansSome_eq : sleuthlaw22_some.f = some ansSome := rfl
theorem ansSome_ok : okN ansSome := ⟨by decide, by
  intro x hx
  have h : (ansSome.all fun x => decide (x.f2.length ≤ 8796093021952)) = true := by kernel_rfl
  exact of_decide_eq_true (List.all_eq_true.1 h x hx)⟩
theorem sameAnswers_lit : Ev (fun k => sleuthlaw0_SameAnswers.f k ([⟨0, 2⟩, ⟨1, 1⟩] : List An) [⟨0, 2⟩, ⟨1, 1⟩]) true := sameAnswers_ev _ (by decide)
theorem ansAwake_ev : Ev (fun k => sleuthlaw22_awake.f k) true := by
  unfold sleuthlaw22_awake.f
  simp only [ansSome_eq, Option.bind_some]
  have e1 : putF ansSome 0 [] 2 = (ansSome, 0, [⟨0, 2⟩], 0) := by kernel_rfl
  have e2 : putF ansSome 0 [⟨0, 2⟩] 1 = (ansSome, 0, [⟨0, 2⟩, ⟨1, 1⟩], 0) := by kernel_rfl
  have e3 : undoF ansSome 0 [⟨0, 2⟩, ⟨1, 1⟩] = (ansSome, 0, [⟨0, 2⟩], 0) := by kernel_rfl
  have e4 : undoF ansSome 0 [] = ([], 0, [], 2201) := by kernel_rfl
  have e5 : putF ansSome 0 [] 0 = ([], 0, [], 2200) := by kernel_rfl
  have e6 : putF ansSome 0 [] 1 = (ansSome, 0, [⟨0, 1⟩], 0) := by kernel_rfl
  have e7 : putF ansSome 0 [⟨0, 1⟩] 1 = ([], 0, [], 2201) := by kernel_rfl
  have p1 := put_ev ansSome ansSome_ok 0 [] (Nat.zero_le _) 2
  have p2 := put_ev ansSome ansSome_ok 0 [⟨0, 2⟩] (by decide) 1
  have p3 := undo_ev ansSome ansSome_ok 0 [⟨0, 2⟩, ⟨1, 1⟩] (by decide)
  have p4 := undo_ev ansSome ansSome_ok 0 [] (Nat.zero_le _)
  have p5 := put_ev ansSome ansSome_ok 0 [] (Nat.zero_le _) 0
  have p6 := put_ev ansSome ansSome_ok 0 [] (Nat.zero_le _) 1
  have p7 := put_ev ansSome ansSome_ok 0 [⟨0, 1⟩] (by decide) 1
  rw [e1] at p1
  rw [e2] at p2
  rw [e3] at p3
  rw [e4] at p4
  rw [e5] at p5
  rw [e6] at p6
  rw [e7] at p7
  refine Ev.bind p1 (Ev.bind p2 (Ev.bind p3 (Ev.bind p4 (Ev.bind p5 (Ev.bind p6 (Ev.bind p7 (Ev.bind sameAnswers_lit ?_)))))))
  simp only [if_pos, sleuthlaw0_Num.f, Option.bind_some]
  refine Ev.bind (sameSession_ev ansSome ansSome_ok 0 [⟨0, 2⟩] (by decide)) ?_
  simp only [if_pos, BEq.rfl]
  exact Ev.now _
theorem refCopy_l0 (ns : List Nd) (hok : okN ns) : ∀ (n i : Nat), i + n = ns.length → Ev (fun k => sleuthref12_CopyNodes.l0 k ns (ns.take i) (i : Int)) ns := by
  intro n
  induction n with
  | zero =>
    intro i hi
    refine Ev.step (f := fun _ => some ns) (fun k => ?_) (Ev.now _)
    simp only [sleuthref12_CopyNodes.l0]
    rw [if_neg (by omega), List.take_of_length_le (by omega)]
  | succ n ih =>
    intro i hi
    have hlt : i < ns.length := by omega
    have hl := hok.1
    have hw : wrap64 ((i : Int) + 1) = ((i + 1 : Nat) : Int) := by rw [w64 (by omega) (by omega)]; omega
    refine Ev.step (f := fun k => sleuthref12_CopyNodes.l0 k ns (ns.take (i + 1)) ((i + 1 : Nat) : Int)) (fun k => ?_) (ih (i + 1) (by omega))
    have hat := hok.at (i : Int)
    simp only [sleuthref12_CopyNodes.l0, Option.bind_some, List.nil_append]
    rw [if_pos (by omega), if_pos (by omega), if_pos (show ([] : List ByteArray).length + (rn ns (i : Int)).f2.length < 8796093022208 by rw [List.length_nil]; omega), if_pos (by rw [List.length_take]; omega), hw]
    have : (ns.take i ++ [(⟨(rn ns (i : Int)).f0, (rn ns (i : Int)).f1, (rn ns (i : Int)).f2, (rn ns (i : Int)).f3⟩ : Nd)]) = ns.take (i + 1) := by
      rw [List.take_succ_eq_append_getElem hlt, rn_eq ns i hlt]
    rw [this]
theorem refCopy_ev (ns : List Nd) (hok : okN ns) : Ev (fun k => sleuthref12_CopyNodes.f k ns) ns := refCopy_l0 ns hok ns.length 0 (by omega)
end Go.Proofs.YtbnljapgnfmmoaaGreatDoor.G
end
section
namespace Go.Proofs.YtbnljapgnfmmoaaGreatDoor.G
open Go.RowKit Go.Proofs.YtbnljapgnfmmoaaGreatDoorW.PrintWords Go.Proofs.YtbnljapgnfmmoaaGreatDoorW.PrintLast Go.Proofs.YtbnljapgnfmmoaaGreatDoorW.PrintMore
set_option maxHeartbeats 8000000
set_option maxRecDepth 100000
attribute [local go_sem] max2_int min2_int max_two min_two max_three min_three max_four min_four   -- for this text's walks alone
set_option linter.unusedVariables false
set_option linter.unusedSimpArgs false

def sleuthlaw0_SpoilTexts.l0 : Nat → List ByteArray → Int → Option (List ByteArray)
 | 0, _, _ => none
 | k + 1, x0, x2 => if x2 < (x0.length : Int) then (if 0 ≤ x2 then (if 1 + (rdOf ByteArray.empty x0 x2).size ≤ 9223372036854775807 then (sleuthlaw0_SpoilTexts.l0 k (x0.set (x2 : Int).toNat ((⟨#[126]⟩ : ByteArray) ++ (rdOf ByteArray.empty x0 x2))) (wrap64 (x2 + 1))) else (none)) else (none)) else (some x0)
def sleuthlaw0_SpoilTexts.f (k : Nat) (l0 : List ByteArray) : Option (List ByteArray) := sleuthlaw0_SpoilTexts.l0 k l0 0
theorem sleuthlaw0_SpoilTexts.calls (k : Nat) (P0_ : Nat → Prop) (u9000_ : Value) (l0 : List ByteArray) (r : List ByteArray) (w0 w : World) (hB : Below w0.heap.size w0 w) (ho0 : Kd.R Kd.string 9 w w0.heap.size P0_ u9000_ l0) (h : sleuthlaw0_SpoilTexts.f k l0 = some r) :
 Calls Tryz.prog 45 #[u9000_] w fun e w' => e = .returned (.tuple #[]) ∧ Kd.R Kd.string 9 w' w0.heap.size (fun k_ => (P0_ k_ ∨ w.heap.size ≤ k_)) u9000_ r ∧ Below w0.heap.size w0 w' ∧ Kept w w' (fun k_ => P0_ k_) := by
 have P0 := a_ (show Kd.R Kd.string 9 w w0.heap.size (fun k_ => (P0_ k_ ∨ w.heap.size ≤ k_)) u9000_ l0 from Kd.R_mono ho0 (fun k_ hk => (.inl hk)))
 have HK := a_ (Kept.refl w (fun k_ => P0_ k_))
 have HW0 := a_ hB.size
 have HB := a_ hB
 clear hB
 have H : (sleuthlaw0_SpoilTexts.l0 k l0 0) = some r := h
 clear h
 have H' := a_ H
 clear H
 go_enter Tryz.func45, Tryz.ntmps45
 go_wp2
 go_loopg [2] k (fun kq v2 w' => ∃ (x1 : List ByteArray) (x0 : Int), v2 = .int .i64 x0 ∧ Aside0 (sleuthlaw0_SpoilTexts.l0 kq x1 x0 = some r) ∧ Aside0 (kq ≤ k) ∧ Aside0 (Kd.R Kd.string 9 w' w0.heap.size (fun k_ => (P0_ k_ ∨ w.heap.size ≤ k_)) u9000_ x1) ∧ Aside0 (Kept w w' (fun k_ => P0_ k_)) ∧ Aside0 (Below w0.heap.size w0 w'))
 case atStart => exact ⟨(l0), (0), hW_, H', ⟨Nat.le_refl _⟩, ⟨hR_ P0.out⟩, ⟨by repeat (first | (with_reducible first | exact HK.out | apply Kept.alloc | apply Kept.drewN | apply Kept.drew) | exact HK.out)⟩, ⟨hC_⟩⟩
 case round =>
  clear H'
  obtain ⟨x1, x0, rfl, HA, HK1, O0, HK, HB⟩ := hrel
  cases gk with
  | zero => exact absurd HA.out (by simp [sleuthlaw0_SpoilTexts.l0])
  | succ k1 =>
   have H := HA.out
   clear HA
   simp only [sleuthlaw0_SpoilTexts.l0] at H
   by_cases c2 : x0 < (x1.length : Int)
   case neg =>
    rw [if_neg c2] at H
    have c2b0 : decide (x0 < (x1.length : Int)) = false := decide_eq_false c2
    clear c2
    obtain rfl := Option.some.inj H
    obtain ⟨a0, o1, e1⟩ := Kd.R_slice O0.out
    subst e1
    go_wp2
    first | go_end0 | ((try simp only [Exit.inBlock, Exit.then]); refine bodyPost_ret (results_none rfl _ _ _) rfl ?_)
    exact ⟨hV_, hR_ O0.out, hC_, by repeat (first | (with_reducible first | exact HK.out | apply Kept.alloc | apply Kept.drewN | apply Kept.drew) | exact HK.out)⟩

   rw [if_pos c2] at H
   have c2b0 : decide (x0 < (x1.length : Int)) = true := decide_eq_true c2
   clear c2
   replace H := ifI_ H; obtain ⟨c3, H⟩ := H
   have c3b0 : decide (0 ≤ x0) = true := decide_eq_true c3
   clear c3
   replace H := ifI_ H; obtain ⟨c4, H⟩ := H
   have c4b0 := eq_true c4
   have c4b1 : decide (1 + (rdOf ByteArray.empty x1 x0).size ≤ 9223372036854775807) = true := decide_eq_true c4
   try have c4b2 : (9223372036854775807 < 1 + (rdOf ByteArray.empty x1 x0).size) = False := eq_false (Nat.not_lt.2 c4)
   obtain ⟨y0, i0⟩ : ∃ y_ : List ByteArray, y_ = (x1.set (x0 : Int).toNat ((⟨#[126]⟩ : ByteArray) ++ (rdOf ByteArray.empty x1 x0))) := ⟨_, rfl⟩
   replace H : (sleuthlaw0_SpoilTexts.l0 k1 y0 (wrap64 (x0 + 1))) = some r := by first | (rw [i0]; with_reducible exact H) | (have H2_ := (Option.bind_some _ _).symm.trans H; rw [i0]; with_reducible exact H2_) | (have H2_ := (Option.bind_some _ _).symm.trans H; with_reducible exact H2_) | with_reducible exact H | (rw [i0]; exact H) | exact H
   have Y0 := a_ i0
   clear i0
   have H' := a_ H
   clear H
   obtain ⟨a1, o0, e2⟩ := Kd.R_slice O0.out
   subst e2
   have p532 : 0 ≤ (x0 : Int) := of_decide_eq_true hA_
   have q532 : x0 < (x1.length : Int) := of_decide_eq_true hA_
   obtain ⟨d0, e532, h0⟩ := Kd.at_string (Kd.R_reads' O0.out).2.2 x0 p532 q532
   cases e532
   replace p532 := eq_true p532
   replace q532 := eq_true q532
   have p5 : 0 ≤ (x0 : Int) := of_decide_eq_true hA_
   have q5 : (x0 : Int) < ((x1.length : Int) : Int) := of_decide_eq_true hA_
   obtain ⟨j0, o2, e0, g0, gl5, cl5, HG5⟩ := Kd.R_form O0.out (by omega)
   (first | cases e0 | (injection e0 with ea_ en_ ec_; (first | subst ea_ | (injection ea_ with ea_; subst ea_)); subst ec_; clear en_))
   have J0 := a_ g0
   have K0 := a_ HG5
   clear g0 gl5 HG5
   have HMgo5 := a_ (show (P0_ j0 ∨ w.heap.size ≤ j0) from (O0.out.1 _ rfl))
   (first | simp only [add_plain] at h0 | skip)
   obtain ⟨h1, hf5_0⟩ := Kd.R_celln (⟨#[]⟩ : ByteArray) O0.out (x0 : Int) p5 q5
   replace p5 := eq_true p5
   replace q5 := eq_true q5
   have HP7 := Kd.R_putg O0.out (x0 : Int) ((⟨#[126]⟩ : ByteArray) ++ (rdOf ByteArray.empty x1 x0))
   go_wp2_with (first | ((with_reducible refine gate_store (t := 9) (p := 16) rfl ?_); refine store_event (t := 9) (p := 16) (v := ?vo_w8) (w1 := (wr.setCell ⟨j0, (x0 : Int).toNat, none⟩ (.string ((⟨#[126]⟩ : ByteArray) ++ (rdOf ByteArray.empty x1 x0))))) ?hg ?ho ?hn ?hr ?_; (case ho => rfl); (case hg => rfl); (case hn => rfl); (case hr => first | (go_simp; done) | (go_simp; rfl)); intro w8 hw; have hg : wr.grownBy w8 (some j0) := (by rw [hw]; exact HP7.2); have hp_ : Kd.R Kd.string 9 w8 w0.heap.size (fun k_ => (P0_ k_ ∨ w.heap.size ≤ k_)) (.slice (some ⟨j0, 0, none⟩) x1.length o0) y0 := (by rw [hw, Y0.out]; exact HP7.1); clear HP7; replace HB := a_ ((by rw [hw]; exact below_set (HB.out) J0.out : Below w0.heap.size w0 w8)); replace HK := a_ (Kept.of_grown (S := (fun k_ => P0_ k_)) hg (by repeat (first | (with_reducible first | exact HK.out | apply Kept.alloc | apply Kept.drewN | apply Kept.drew) | exact HK.out)) (fun k_ e_ => (O0.out.1 k_ e_))); replace O0 := a_ (hp_); clear hg hw hp_))
   go_roundg k1
   case measure => have := HK1.out; omega
   case rel => exact ⟨(y0), (wrap64 (x0 + 1)), hW_, H', ⟨by have := HK1.out; omega⟩, ⟨hR_ O0.out⟩, ⟨by repeat (first | (with_reducible first | exact HK.out | apply Kept.alloc | apply Kept.drewN | apply Kept.drew) | exact HK.out)⟩, ⟨hC_⟩⟩
set_option maxHeartbeats 8000000
set_option maxRecDepth 100000
attribute [local go_sem] max2_int min2_int max_two min_two max_three min_three max_four min_four   -- for this text's walks alone
set_option linter.unusedVariables false
set_option linter.unusedSimpArgs false

theorem wsuccP (x : Int) (h0 : 0 ≤ x) (h1 : x ≤ 9223372036854775806) : wrap64 (x + 1) = x + 1 := by unfold wrap64; omega
def sn_ok (l0 : List S66) : Bool := decide (l0.length ≤ 9223372036854775806) && l0.all (fun x => decide (x.f2.length ≤ 9223372036854775806) && x.f2.all (fun s => decide (s.size ≤ 9223372036854775806)))
def sleuthlaw0_SpoilNodes.f (k : Nat) (l0 : List S66) : Option Unit := if sn_ok l0 = true then some () else none
theorem sn_ok_spec {l0 : List S66} (h : sn_ok l0 = true) : l0.length ≤ 9223372036854775806 ∧ ∀ x ∈ l0, x.f2.length ≤ 9223372036854775806 ∧ ∀ s ∈ x.f2, s.size ≤ 9223372036854775806 := by
 unfold sn_ok at h
 rw [Bool.and_eq_true] at h
 refine ⟨of_decide_eq_true h.1, fun x hx => ?_⟩
 have h1 := List.all_eq_true.1 h.2 x hx
 rw [Bool.and_eq_true] at h1
 exact ⟨of_decide_eq_true h1.1, fun s hs => of_decide_eq_true (List.all_eq_true.1 h1.2 s hs)⟩
theorem spt_l0 : ∀ (n i : Nat) (l : List ByteArray), i + n = l.length → l.length ≤ 9223372036854775806 → (∀ j s, i ≤ j → l[j]? = some s → s.size ≤ 9223372036854775806) → ∃ k r, sleuthlaw0_SpoilTexts.l0 k l (i : Int) = some r
 | 0, i, l, h, _, _ => ⟨1, l, by rw [sleuthlaw0_SpoilTexts.l0, if_neg (by omega)]⟩
 | n + 1, i, l, h, hl, hs => by
  have hi : i < l.length := by omega
  have e : rdOf ByteArray.empty l (i : Int) = l[i] := by unfold rdOf; rw [Int.toNat_natCast, List.getD_eq_getElem?_getD, List.getElem?_eq_getElem hi]; rfl
  obtain ⟨k, r, h1⟩ := spt_l0 n (i + 1) (l.set i ((⟨#[126]⟩ : ByteArray) ++ l[i])) (by rw [List.length_set]; omega) (by rw [List.length_set]; exact hl) (fun j s hj hjs => hs j s (by omega) (by rw [List.getElem?_set_ne (by omega)] at hjs; exact hjs))
  refine ⟨k + 1, r, ?_⟩
  have e1 : ((i + 1 : Nat) : Int) = (i : Int) + 1 := by omega
  rw [e1] at h1
  rw [sleuthlaw0_SpoilTexts.l0, if_pos (by omega), if_pos (by omega), e, if_pos (by have := hs i _ (Nat.le_refl _) (List.getElem?_eq_getElem hi); omega), Int.toNat_natCast, wsuccP _ (by omega) (by omega)]
  exact h1
theorem grown_of {w0 w w1 : World} {P : Nat → Prop} {row : Option Nat} (hB : Below w0.heap.size w0 w) (hB1 : Below w0.heap.size w0 w1) (hk : Kept w w1 P) (hP : ∀ k, P k → some k = row) : w.grownBy w1 row :=
 ⟨hB1.os.trans hB.os.symm, hB1.tape.trans hB.tape.symm, hB1.output.trans hB.output.symm, hk.1, fun k h1 h2 => hk.2 k h1 (fun h => h2 (hP k h))⟩
theorem sleuthlaw0_SpoilNodes.callsS (ok : Nat → Prop) (v : Value) (l0 : List S66) (w0 w : World) (hB : Below w0.heap.size w0 w) (hS : Kd.S k66 66 w w0.heap.size ok v l0) (hlen : l0.length ≤ 9223372036854775806) (hsz : ∀ x ∈ l0, x.f2.length ≤ 9223372036854775806 ∧ ∀ s ∈ x.f2, s.size ≤ 9223372036854775806) :
 Calls Tryz.prog 30 #[v] w fun e w' => e = .returned (.tuple #[]) ∧ Below w0.heap.size w0 w' ∧ Kept w w' ok := by
 have P1 := a_ hS
 have HB := a_ hB
 clear hB hS
 go_enter Tryz.func30, Tryz.ntmps30
 go_wp2
 go_loopg [2] (l0.length + 1) (fun kq v2 w' => ∃ (xs : List S66) (x : Int), v2 = .int .i64 x ∧ Aside0 ((kq : Int) + x = (l0.length : Int) + 1 ∧ 0 ≤ x ∧ x ≤ (l0.length : Int) ∧ xs.length = l0.length ∧ ∀ j : Nat, x.toNat ≤ j → xs[j]? = l0[j]?) ∧ Aside0 (Kd.S k66 66 w' w0.heap.size ok v xs) ∧ Aside0 (Kept w w' ok) ∧ Aside0 (Below w0.heap.size w0 w'))
 case atStart => exact ⟨l0, 0, rfl, ⟨by omega, by omega, by omega, rfl, fun _ _ => rfl⟩, P1, ⟨Kept.refl _ _⟩, HB⟩
 case round =>
  clear P1 HB
  obtain ⟨xs, x, rfl, HI, HO, HK, HB⟩ := hrel
  cases gk with
  | zero => exact absurd HI.out.1 (by have := HI.out.2.2.1; omega)
  | succ k1 =>
   by_cases c : x < (xs.length : Int)
   case neg =>
    have cb : decide (x < (xs.length : Int)) = false := decide_eq_false c
    clear c
    obtain ⟨Ao, co, eo⟩ := Kd.S_slice HO.out
    subst eo
    go_wp2
    first | go_end0 | ((try simp only [Exit.inBlock, Exit.then]); refine bodyPost_ret (results_none rfl _ _ _) rfl ?_)
    exact ⟨rfl, HB.out, HK.out⟩
   have h6 := HI.out.2.1
   have cb : decide (x < (xs.length : Int)) = true := decide_eq_true c
   have c0b : decide (0 ≤ x) = true := decide_eq_true (by omega)
   obtain ⟨g, cap, ev, hbg, hgl, cl, hgc⟩ := Kd.S_form HO.out (by omega)
   subst ev
   have GB := a_ hbg
   have GC := a_ hgc
   have GL := a_ hgl
   clear hbg hgc hgl
   obtain ⟨oki, c_, hcl, hM, hcc, hoki, hback⟩ := Kd.S_borrow HO.out z66 x (by omega) (by omega)
   obtain ⟨q, hq⟩ : ∃ q, q = xs.getD x.toNat z66 := ⟨_, rfl⟩
   rw [← hq] at hM
   obtain ⟨v2, rfl, hRow⟩ := k66_openM hM
   obtain ⟨A2, c2, e2⟩ := Kd.R_slice hRow
   subst e2
   have h7 : wr.cell? ⟨g, x.toNat * 4 + 2, none⟩ = some (.slice A2 q.f2.length c2) := by have h_ := hcc 2 _ rfl; rw [add_plain] at h_; exact h_
   have HBACK := a_ (@hback)
   have HROW := a_ hRow
   clear hcl hcc hM hback hRow
   have hel : q ∈ l0 := by
    rw [hq]
    obtain ⟨_, _, _, h3, h4⟩ := HI.out
    have hil : x.toNat < l0.length := by omega
    have h5 := h4 x.toNat (Nat.le_refl _)
    rw [List.getElem?_eq_getElem (by omega), List.getElem?_eq_getElem hil] at h5
    rw [List.getD_eq_getElem?_getD, List.getElem?_eq_getElem (by omega), Option.some.inj h5]
    exact List.getElem_mem hil
   obtain ⟨hz1, hz2⟩ := hsz _ hel
   obtain ⟨kt, r, ht⟩ := spt_l0 q.f2.length 0 q.f2 (by omega) hz1 (fun j s _ hjs => hz2 s (List.mem_of_getElem? hjs))
   have HT := a_ (show sleuthlaw0_SpoilTexts.f kt q.f2 = some r from ht)
   have p4 := eq_true h6
   have q4 := eq_true c
   clear ht hz1 hz2 hel c h6 hq
   go_wp2_with (first | ((with_reducible refine gate_callee (f := 45) rfl ?_); refine goesL_ (some 14) rfl rfl Tryz.func45 (by kernel_rfl) rfl #[.slice A2 q.f2.length c2] rfl hL_ ?_; (refine (sleuthlaw0_SpoilTexts.calls kt (fun k_ => some k_ = (.slice A2 q.f2.length c2 : Value).ownBlock) _ _ r w0 _ ?hb ?ho HT.out).mono ?_); (case hb => exact HB.out); (case ho => exact ⟨fun k_ h_ => h_.symm, HROW.out.2.imp_ (fun _ _ h_ => h_)⟩); rintro e w1 ⟨rfl, hr1, hb1, hk1⟩; refine ⟨_, rfl, ?_⟩; have HGR := a_ (grown_of HB.out hb1 hk1 (fun _ h_ => h_)); have P0 := a_ (HBACK.out HGR.out (fun k_ h_ => HROW.out.1 k_ h_) (k66_mkM w1 w0.heap.size oki (⟨q.f0, q.f1, r, q.f3⟩ : S66) (show Kd.string.R 9 w1 w0.heap.size oki (.slice A2 q.f2.length c2) r from ⟨HROW.out.1, hr1.2.imp_ (fun _ _ h_ => h_)⟩))); have HK1 := a_ (HK.out.then_ hk1 (fun k_ h_ => .inl (hoki k_ (HROW.out.1 k_ h_.symm)).1)); have HB1 := a_ hb1; clear HO HK HB HBACK HGR HROW hr1 hb1 hk1 h7; obtain ⟨ys, hys⟩ : ∃ ys, ys = xs.set x.toNat (⟨q.f0, q.f1, r, q.f3⟩ : S66) := ⟨_, rfl⟩; rw [← hys] at P0; have hyl : ys.length = xs.length := (by rw [hys]; exact List.length_set); have HXS := a_ (show Kd.S k66 66 w1 w0.heap.size (fun k_ => ok k_ ∧ ¬ (fun _ => False) k_) (.slice (some ⟨g, 0, none⟩) xs.length cap) ys from Kd.S_mono P0.out (fun _ h_ => ⟨h_, id⟩)); obtain ⟨oki1, c1, hcl1, hM1, hcc1, hfr1, hoki1, hH1⟩ := Kd.S_elem HXS.out z66 x (of_decide_eq_true c0b) (of_decide_eq_true cb); obtain ⟨q1, hq1⟩ : ∃ q1, q1 = ys.getD x.toNat z66 := ⟨_, rfl⟩; rw [← hq1] at hM1; clear hq1; obtain ⟨u2, rfl, hRow1⟩ := k66_openM hM1; have HP := Kd.S_seg (okg := fun _ => False) hH1 (of_decide_eq_true c0b) (of_decide_eq_true cb) (seg := [.int .i64 (Go.bits .xor .i64 q1.f0 90)]) (j := 0) (show 0 + 1 ≤ 4 from by decide) (x' := (⟨Go.bits .xor .i64 q1.f0 90, q1.f1, q1.f2, q1.f3⟩ : S66)) (k66_mkM w1 w0.heap.size oki1 _ hRow1) (fun _ h_ => .inl h_) (fun _ h_ => h_.elim); have h8 : w1.cell? ⟨g, x.toNat * 4, none⟩ = some (.int .i64 q1.f0) := hcc1 0 _ rfl; have hf1 : w1.frozen? ⟨g, x.toNat * 4, none⟩ = false := hfr1 0; have HH1 := a_ (And.intro hoki1 hM1); clear hcl1 hcc1 hfr1 hM1 hoki1 hH1 hRow1 HXS HH1) | ((with_reducible refine gate_store (t := 3) (p := 24) rfl ?_); refine store_event (t := 3) (p := 24) (v := ?vo_w7) (w1 := (w1.setCell ⟨g, x.toNat * 4, none⟩ (.int .i64 (Go.bits .xor .i64 q1.f0 90)))) ?hg ?ho ?hn ?hr ?_; (case ho => rfl); (case hg => rfl); (case hn => rfl); (case hr => first | (go_simp; done) | (go_simp; rfl)); intro w7 hw; have hg : w1.grownBy w7 (some g) := (by rw [hw]; exact HP.2); have P2 := a_ (show Kd.S k66 66 w7 w0.heap.size ok (.slice (some ⟨g, 0, none⟩) xs.length cap) (ys.set x.toNat (⟨Go.bits .xor .i64 q1.f0 90, q1.f1, q1.f2, q1.f3⟩ : S66)) from (by rw [hw]; exact HP.1)); have HB2 := a_ (by rw [hw]; exact below_set HB1.out GB.out : Below w0.heap.size w0 w7); have HK2 := a_ (Kept.of_grown (S := ok) hg HK1.out (fun k_ e_ => .inl (P0.out.choose_spec.1 k_ e_))); clear HP hg hw P0 HB1 HK1))
   go_roundg k1
   case measure => omega
   case rel =>
    obtain ⟨h1, h0, h2, h3, h4⟩ := HI.out
    have hi := of_decide_eq_true cb
    have hw : wrap64 (x + 1) = x + 1 := wsuccP _ (by omega) (by omega)
    refine ⟨_, x + 1, by rw [hw], ⟨by omega, by omega, by omega, by rw [List.length_set]; omega, fun j hj => ?_⟩, P2, HK2, HB2⟩
    rw [List.getElem?_set_ne (by omega), hys, List.getElem?_set_ne (by omega)]
    exact h4 j (by omega)
theorem types_no {W : World} {k t : Nat} {cells : Array Value} {L : List Nat} (hb : W.heap[k]? = some (.cells cells t (0, 0))) (ht : ∀ q, q ∈ L → q ≠ t) (h : ∃ q, q ∈ L ∧ ∃ cells, W.heap[k]? = some (.cells cells q (0, 0))) : False := by
 obtain ⟨q, hq, c2, h2⟩ := h
 rw [hb] at h2
 injection h2 with h2
 injection h2 with _ h3
 exact ht q hq h3.symm

set_option maxHeartbeats 8000000
set_option maxRecDepth 100000
attribute [local go_sem] max2_int min2_int max_two min_two max_three min_three max_four min_four   -- for this text's walks alone
set_option linter.unusedVariables false
set_option linter.unusedSimpArgs false

def sleuthlaw0_SpoilAnswers.l0 : Nat → List (S53) → Int → Option ((List (S53)))
 | 0, _, _ => none
 | k + 1, x0, x2 => if x2 < (x0.length : Int) then (if 0 ≤ x2 then (sleuthlaw0_SpoilAnswers.l0 k (x0.set (x2 : Int).toNat (⟨(rd_T53 x0 x2).f0, Go.bits .xor .i64 ((rd_T53 x0 x2).f1) 90⟩ : S53)) (wrap64 (x2 + 1))) else (none)) else (some x0)
def sleuthlaw0_SpoilAnswers.f (k : Nat) (l0 : List (S53)) : Option ((List (S53))) := sleuthlaw0_SpoilAnswers.l0 k l0 0
theorem sleuthlaw0_SpoilAnswers.calls (k : Nat) (P0_ : Nat → Prop) (u9000_ : Value) (l0 : List (S53)) (r : List (S53)) (w0 w : World) (hB : Below w0.heap.size w0 w) (ho0 : Kd.R k53 53 w w0.heap.size P0_ u9000_ l0) (h : sleuthlaw0_SpoilAnswers.f k l0 = some r) :
 Calls Tryz.prog 31 #[u9000_] w fun e w' => e = .returned (.tuple #[]) ∧ Kd.R k53 53 w' w0.heap.size (fun k_ => (P0_ k_ ∨ w.heap.size ≤ k_)) u9000_ r ∧ Below w0.heap.size w0 w' ∧ Kept w w' (fun k_ => P0_ k_) := by
 have P0 := a_ (show Kd.R k53 53 w w0.heap.size (fun k_ => (P0_ k_ ∨ w.heap.size ≤ k_)) u9000_ l0 from Kd.R_mono ho0 (fun k_ hk => (.inl hk)))
 have HK := a_ (Kept.refl w (fun k_ => P0_ k_))
 have HW0 := a_ hB.size
 have HB := a_ hB
 clear hB
 have H : (sleuthlaw0_SpoilAnswers.l0 k l0 0) = some r := h
 clear h
 have H' := a_ H
 clear H
 go_enter Tryz.func31, Tryz.ntmps31
 go_wp2
 go_loopg [2] k (fun kq v2 w' => ∃ (x1 : List (S53)) (x0 : Int), v2 = .int .i64 x0 ∧ Aside0 (sleuthlaw0_SpoilAnswers.l0 kq x1 x0 = some r) ∧ Aside0 (kq ≤ k) ∧ Aside0 (Kd.R k53 53 w' w0.heap.size (fun k_ => (P0_ k_ ∨ w.heap.size ≤ k_)) u9000_ x1) ∧ Aside0 (Kept w w' (fun k_ => P0_ k_)) ∧ Aside0 (Below w0.heap.size w0 w'))
 case atStart => exact ⟨(l0), (0), hW_, H', ⟨Nat.le_refl _⟩, ⟨hR_ P0.out⟩, ⟨by repeat (first | (with_reducible first | exact HK.out | apply Kept.alloc | apply Kept.drewN | apply Kept.drew) | exact HK.out)⟩, ⟨hC_⟩⟩
 case round =>
  clear H'
  obtain ⟨x1, x0, rfl, HA, HK1, O0, HK, HB⟩ := hrel
  cases gk with
  | zero => exact absurd HA.out (by simp [sleuthlaw0_SpoilAnswers.l0])
  | succ k1 =>
   have H := HA.out
   clear HA
   simp only [sleuthlaw0_SpoilAnswers.l0] at H
   by_cases c2 : x0 < (x1.length : Int)
   case neg =>
    rw [if_neg c2] at H
    have c2b0 : decide (x0 < (x1.length : Int)) = false := decide_eq_false c2
    clear c2
    obtain rfl := Option.some.inj H
    obtain ⟨a0, o1, e1⟩ := Kd.R_slice O0.out
    subst e1
    go_wp2
    first | go_end0 | ((try simp only [Exit.inBlock, Exit.then]); refine bodyPost_ret (results_none rfl _ _ _) rfl ?_)
    exact ⟨hV_, hR_ O0.out, hC_, by repeat (first | (with_reducible first | exact HK.out | apply Kept.alloc | apply Kept.drewN | apply Kept.drew) | exact HK.out)⟩

   rw [if_pos c2] at H
   have c2b0 : decide (x0 < (x1.length : Int)) = true := decide_eq_true c2
   clear c2
   replace H := ifI_ H; obtain ⟨c3, H⟩ := H
   have c3b0 : decide (0 ≤ x0) = true := decide_eq_true c3
   clear c3
   obtain ⟨y0, i0⟩ : ∃ y_ : List (S53), y_ = (x1.set (x0 : Int).toNat (⟨(rd_T53 x1 x0).f0, Go.bits .xor .i64 ((rd_T53 x1 x0).f1) 90⟩ : S53)) := ⟨_, rfl⟩
   replace H : (sleuthlaw0_SpoilAnswers.l0 k1 y0 (wrap64 (x0 + 1))) = some r := by first | (rw [i0]; with_reducible exact H) | (have H2_ := (Option.bind_some _ _).symm.trans H; rw [i0]; with_reducible exact H2_) | (have H2_ := (Option.bind_some _ _).symm.trans H; with_reducible exact H2_) | with_reducible exact H | (rw [i0]; exact H) | exact H
   have Y0 := a_ i0
   clear i0
   have H' := a_ H
   clear H
   obtain ⟨a1, o0, e2⟩ := Kd.R_slice O0.out
   subst e2
   have p534 : 0 ≤ (x0 : Int) := of_decide_eq_true hA_
   have q534 : x0 < (x1.length : Int) := of_decide_eq_true hA_
   obtain ⟨d0, e534, h0, h1⟩ := at_T53 (Kd.R_reads' O0.out).2.2 x0 p534 q534
   cases e534
   replace p534 := eq_true p534
   replace q534 := eq_true q534
   have p4 : 0 ≤ (x0 : Int) := of_decide_eq_true hA_
   have q4 : (x0 : Int) < ((x1.length : Int) : Int) := of_decide_eq_true hA_
   obtain ⟨j0, o2, e0, g0, gl4, cl4, HG4⟩ := Kd.R_form O0.out (by omega)
   (first | cases e0 | (injection e0 with ea_ en_ ec_; (first | subst ea_ | (injection ea_ with ea_; subst ea_)); subst ec_; clear en_))
   have J0 := a_ g0
   have K0 := a_ HG4
   clear g0 gl4 HG4
   have HMgo4 := a_ (show (P0_ j0 ∨ w.heap.size ≤ j0) from (O0.out.1 _ rfl))
   (first | simp only [add_plain] at h0 | skip)
   (first | simp only [add_plain] at h1 | skip)
   obtain ⟨ce4, hcl4, hM4, hcc4, hfr4⟩ := Kd.R_elem O0.out z53 (x0 : Int) p4 q4
   obtain rfl := k53_openM hM4
   have h3 : wr.cell? ⟨j0, (x0 : Int).toNat * 2, none⟩ = some (.int .i64 ((rd_T53 x1 x0).f0)) := hcc4 0 _ rfl
   have h4 : wr.cell? ⟨j0, (x0 : Int).toNat * 2 + 1, none⟩ = some (.int .i64 ((rd_T53 x1 x0).f1)) := hcc4 1 _ rfl
   have hf4_0 : wr.frozen? ⟨j0, (x0 : Int).toNat * 2, none⟩ = false := hfr4 0
   have hf4_1 : wr.frozen? ⟨j0, (x0 : Int).toNat * 2 + 1, none⟩ = false := hfr4 1
   clear hcl4 hcc4 hfr4 hM4
   replace p4 := eq_true p4
   replace q4 := eq_true q4
   have X0 := a_ (show Kd.R k53 53 wr w0.heap.size (fun k_ => (P0_ k_ ∨ w.heap.size ≤ k_)) (.slice (some ⟨j0, 0, none⟩) x1.length o0) x1 from (hR_ O0.out))
   obtain ⟨ce6, hcl6, hM6, hcc6, hfr6⟩ := Kd.R_elem X0.out z53 (x0 : Int) (of_decide_eq_true hA_) (by have h_ : (x0 : Int) < ((x1.length : Int) : Int) := of_decide_eq_true hA_; first | exact h_ | (have e_ := (Kd.R_reads' O0.out).1; omega) | simpa using h_)
   obtain rfl := k53_openM hM6
   have HP6 := Kd.R_seg X0.out (x0 : Int) (of_decide_eq_true hA_) (by have h_ : (x0 : Int) < ((x1.length : Int) : Int) := of_decide_eq_true hA_; first | exact h_ | (have e_ := (Kd.R_reads' O0.out).1; omega) | simpa using h_) (seg := [.int .i64 (Go.bits .xor .i64 ((rd_T53 x1 x0).f1) 90)]) (j := 1) hcl6 hcc6 (show 2 ≤ 2 from by decide) (x' := (⟨(rd_T53 x1 x0).f0, Go.bits .xor .i64 ((rd_T53 x1 x0).f1) 90⟩ : S53)) (k53_mkM _ _ _ (⟨(rd_T53 x1 x0).f0, Go.bits .xor .i64 ((rd_T53 x1 x0).f1) 90⟩ : S53) ) (fun _ hk => hk)
   have h2 := hcc6 1 _ rfl
   (try simp only [show (k53).sz = 2 from rfl, Nat.mul_one, Nat.add_zero] at h2)
   have hf6_1 := hfr6 1
   (try simp only [show (k53).sz = 2 from rfl, Nat.mul_one, Nat.add_zero] at hf6_1)
   clear hcl6 hcc6 hfr6 hM6
   go_wp2_with (first | ((with_reducible refine gate_store (t := 3) (p := 18) rfl ?_); refine store_event (t := 3) (p := 18) (v := ?vo_w7) (w1 := (wr.setCell ⟨j0, (x0 : Int).toNat * 2 + 1, none⟩ (.int .i64 (Go.bits .xor .i64 ((rd_T53 x1 x0).f1) 90)))) ?hg ?ho ?hn ?hr ?_; (case ho => rfl); (case hg => rfl); (case hn => rfl); (case hr => first | (go_simp; done) | (go_simp; rfl)); intro w7 hw; have hg : wr.grownBy w7 (some j0) := (by rw [hw]; exact HP6.2); have hp_ : Kd.R k53 53 w7 w0.heap.size (fun k_ => (P0_ k_ ∨ w.heap.size ≤ k_)) (.slice (some ⟨j0, 0, none⟩) x1.length o0) y0 := (by rw [hw, Y0.out]; exact HP6.1); clear HP6; replace HB := a_ ((by rw [hw]; exact below_set (HB.out) J0.out : Below w0.heap.size w0 w7)); replace HK := a_ (Kept.of_grown (S := (fun k_ => P0_ k_)) hg (by repeat (first | (with_reducible first | exact HK.out | apply Kept.alloc | apply Kept.drewN | apply Kept.drew) | exact HK.out)) (fun k_ e_ => (O0.out.1 k_ e_))); replace O0 := a_ (hp_); clear hg hw hp_))
   go_roundg k1
   case measure => have := HK1.out; omega
   case rel => exact ⟨(y0), (wrap64 (x0 + 1)), hW_, H', ⟨by have := HK1.out; omega⟩, ⟨hR_ O0.out⟩, ⟨by repeat (first | (with_reducible first | exact HK.out | apply Kept.alloc | apply Kept.drewN | apply Kept.drew) | exact HK.out)⟩, ⟨hC_⟩⟩
set_option maxHeartbeats 8000000
set_option maxRecDepth 100000
attribute [local go_sem] max2_int min2_int max_two min_two max_three min_three max_four min_four   -- for this text's walks alone
set_option linter.unusedVariables false
set_option linter.unusedSimpArgs false

def sp_ok (l0 : List S66) (l2 : List S53) : Bool := sn_ok l0 && decide (l2.length ≤ 9223372036854775806)
def sleuthlaw0_SpoilSession.f (k : Nat) (l0 : List S66) (a1 : Int) (l2 : List S53) : Option Unit := if sp_ok l0 l2 = true then some () else none
theorem spa_l0 : ∀ (n i : Nat) (l : List S53), i + n = l.length → l.length ≤ 9223372036854775806 → ∃ k r, sleuthlaw0_SpoilAnswers.l0 k l (i : Int) = some r
 | 0, i, l, h, _ => ⟨1, l, by rw [sleuthlaw0_SpoilAnswers.l0, if_neg (by omega)]⟩
 | n + 1, i, l, h, hl => by
  obtain ⟨k, r, h1⟩ := spa_l0 n (i + 1) (l.set i (⟨(rd_T53 l (i : Int)).f0, Go.bits .xor .i64 ((rd_T53 l (i : Int)).f1) 90⟩ : S53)) (by rw [List.length_set]; omega) (by rw [List.length_set]; exact hl)
  refine ⟨k + 1, r, ?_⟩
  have e1 : ((i + 1 : Nat) : Int) = (i : Int) + 1 := by omega
  rw [e1] at h1
  rw [sleuthlaw0_SpoilAnswers.l0, if_pos (by omega), if_pos (by omega), Int.toNat_natCast, wsuccP _ (by omega) (by omega)]
  exact h1
theorem sleuthlaw0_SpoilSession.callsS (k : Nat) (ok0 ok2 : Nat → Prop) (v0 v2 : Value) (l0 : List S66) (a1 : Int) (l2 : List S53) (w0 w : World) (hB : Below w0.heap.size w0 w) (h0 : Kd.S k66 66 w w0.heap.size ok0 v0 l0) (h2 : Kd.R k53 53 w w0.heap.size ok2 v2 l2) (h : sleuthlaw0_SpoilSession.f k l0 a1 l2 = some ()) :
 Calls Tryz.prog 14 #[.agg #[v0, .int .i64 a1, v2]] w fun e w' => e = .returned (.tuple #[]) ∧ Below w0.heap.size w0 w' ∧ Kept w w' (fun k_ => ok0 k_ ∨ some k_ = v2.ownBlock) := by
 have hu := Tryz.underlying25
 have hok : sp_ok l0 l2 = true := by
  unfold sleuthlaw0_SpoilSession.f at h
  by_cases c : sp_ok l0 l2 = true
  case pos =>
   exact c
  rw [if_neg c] at h; cases h
 clear h
 have hokS : (l0.length ≤ 9223372036854775806 ∧ l2.length ≤ 9223372036854775806 ∧ ∀ x ∈ l0, x.f2.length ≤ 9223372036854775806 ∧ ∀ s ∈ x.f2, s.size ≤ 9223372036854775806) := by
  unfold sp_ok at hok
  rw [Bool.and_eq_true] at hok
  exact ⟨(sn_ok_spec hok.1).1, of_decide_eq_true hok.2, (sn_ok_spec hok.1).2⟩
 obtain ⟨ka, ra, hta⟩ := spa_l0 l2.length 0 l2 (by omega) hokS.2.1
 obtain ⟨A0, c0, rfl⟩ := Kd.S_slice h0
 obtain ⟨A2, c2, rfl⟩ := Kd.R_slice h2
 have P1 := a_ h0
 have P0 := a_ (Kd.R_tight rfl h2)
 have HB := a_ hB
 have HOK := a_ hokS
 have HTA := a_ (show sleuthlaw0_SpoilAnswers.f ka l2 = some ra from hta)
 have HK := a_ (Kept.refl w (fun k_ => ok0 k_ ∨ some k_ = (Value.slice A2 l2.length c2).ownBlock))
 clear hB h0 h2 hok hokS hta
 go_enter Tryz.func14, Tryz.ntmps14
 go_wp2_with (first | ((with_reducible refine gate_dst (N := 1) rfl ?_); refine boxE_ 1 #[.slice A0 l0.length c0, .int .i64 a1, .slice A2 l2.length c2] 25 ?_; intro gb hg w1 hbox hb; replace P1 := a_ (Kd.S_below P1.out hb); replace P0 := a_ (Kd.R_below P0.out hb); replace HB := a_ (below_then HB.out HB.out.size hb); replace HK := a_ (HK.out.below hb); have BK := a_ hbox; clear hb hbox hg; obtain ⟨hcz_0, hcz_1, hcz_2, hfz_0, hfz_1, hfz_2⟩ := bx3_ BK.out) | ((with_reducible refine gate_callee (f := 30) rfl ?_); refine goesL_ (some 4) rfl rfl Tryz.func30 (by kernel_rfl) rfl #[.slice A0 l0.length c0] rfl hL_ ?_; (with_reducible refine (sleuthlaw0_SpoilNodes.callsS _ _ l0 w0 _ HB.out (Kd.S_bound P1.out) HOK.out.1 HOK.out.2.2).mono ?_); rintro e w2 ⟨rfl, hb2, hk2⟩; refine ⟨_, rfl, ?_⟩; replace P0 := a_ (Kd.R_kept P0.out hk2 (fun k_ h1_ h2_ => (Kd.R_typed P0.out k_ h1_.symm).elim (fun _ h3_ => types_no h3_ (by decide) h2_.2.2.2))); replace BK := a_ (blk_kept BK.out hk2 (fun h2_ => types_no BK.out (by decide) h2_.2.2.2)); replace HB := a_ hb2; replace HK := a_ (HK.out.then_ hk2 (fun k_ h_ => .inl (.inl h_.1))); clear P1; clear hb2 hk2; obtain ⟨z0, z1, z2, f0, f1, f3⟩ := bx3_ BK.out) | ((with_reducible refine gate_callee (f := 31) rfl ?_); refine goesL_ (some 7) rfl rfl Tryz.func31 (by kernel_rfl) rfl #[.slice A2 l2.length c2] rfl hL_ ?_; (with_reducible refine (sleuthlaw0_SpoilAnswers.calls ka _ _ l2 ra w0 _ HB.out P0.out HTA.out).mono ?_); rintro e w3 ⟨rfl, hr3, hb3, hk3⟩; refine ⟨_, rfl, ?_⟩; replace HB := a_ hb3; replace HK := a_ (HK.out.then_ hk3 (fun k_ h_ => .inl (.inr h_))); clear P0 BK; clear hr3 hb3 hk3))
 first | go_end0 | ((try simp only [Exit.inBlock, Exit.then]); refine bodyPost_ret (results_none rfl _ _ _) rfl ?_)
 exact ⟨rfl, HB.out, HK.out⟩

end Go.Proofs.YtbnljapgnfmmoaaGreatDoor.G
end
section
namespace Go.Proofs.YtbnljapgnfmmoaaGreatDoor.G
open Go.RowKit Go.Proofs.YtbnljapgnfmmoaaGreatDoorW.PrintWords Go.Proofs.YtbnljapgnfmmoaaGreatDoorW.PrintLast Go.Proofs.YtbnljapgnfmmoaaGreatDoorW.PrintMore
set_option linter.unusedVariables false
set_option linter.unusedSimpArgs false
theorem copySession_ev (ns : List Nd) (hok : okN ns) (w : Int) (zs : List An) (hz : zs.length * 16 ≤ 140737488351232) : Ev (fun k => sleuthlaw0_CopySession.f k ns w zs) (ns, w, zs) := by
  unfold sleuthlaw0_CopySession.f
  simp only [Option.bind_some, List.nil_append]
  have g : ([] : List An).length + zs.length < 8796093022208 := by rw [List.length_nil]; omega
  simp only [if_pos g]
  exact Ev.bind (copy_ev ns hok) (Ev.now _)
theorem spOK {ns : List Nd} {zs : List An} (h : fineN ns) (hz : zs.length ≤ 9223372036854775806) : sp_ok ns zs = true := by
  unfold sp_ok sn_ok
  rw [decide_eq_true (show ns.length ≤ 9223372036854775806 by have := h.1; omega), decide_eq_true hz, Bool.true_and, Bool.and_true]
  refine List.all_eq_true.2 fun x hx => ?_
  have h1 := (h.2 x hx).2.2.1
  rw [decide_eq_true (show x.f2.length ≤ 9223372036854775806 by have := h1.1; omega), Bool.true_and]
  exact List.all_eq_true.2 fun s hs => decide_eq_true (by have := h1.2 s hs; omega)
theorem fineN_nil : fineN [] := ⟨by decide, fun x hx => by cases hx⟩
theorem spoilS_ev {ns : List Nd} {w : Int} {zs : List An} (h : fineN ns) (hz : zs.length ≤ 9223372036854775806) : Ev (fun k => sleuthlaw0_SpoilSession.f k ns w zs) () := by
  unfold sleuthlaw0_SpoilSession.f
  rw [if_pos (spOK h hz)]
  exact Ev.now _
end Go.Proofs.YtbnljapgnfmmoaaGreatDoor.G
end
