-- Laid by the session's own driver gp.py over the kit's printer. Not trusted: Lean checks it.
import Derived.Test.YtnhmmbgnaogokaaGreatDoorU2
import Derived.Test.YtnhmmbgnaogokaaGreatDoorG0
import Derived.Test.YtnhmmbgnaogokaaGreatDoorU10
import Derived.Test.YtnhmmbgnaogokaaGreatDoorU9
import Derived.Test.YtnhmmbgnaogokaaGreatDoorG40
import Derived.Test.YtnhmmbgnaogokaaGreatDoorU11
namespace Go.Proofs.YtnhmmbgnaogokaaGreatDoor.G
open Go.RowKit Go.Proofs.YtnhmmbgnaogokaaGreatDoorW.PrintWords Go.Proofs.YtnhmmbgnaogokaaGreatDoorW.PrintLast Go.Proofs.YtnhmmbgnaogokaaGreatDoorW.PrintMore
set_option maxHeartbeats 8000000
set_option maxRecDepth 100000
attribute [local go_sem] max2_int min2_int max_two min_two max_three min_three max_four min_four   -- for this text's walks alone
set_option linter.unusedVariables false
set_option linter.unusedSimpArgs false

def sleuthlaw17_Files.j0 : Nat → List (S41) → List (S41) → List (S41) → Bool → Option (Bool)
 | 0, _, _, _, _ => none
 | k + 1, x0, x5, x10, x79 => if x79 = true then (none) else ((sleuthlaw0_SpoilNodes.f k x10).bind fun _ => ((sleuthlaw0_SameNodes.f k x5 x0).bind fun t397 => (if t397 = true then ((sleuthlaw17_awake.f k).bind fun t398 => (some t398)) else (none))))
def sleuthlaw17_Files.f (k : Nat) (l0 : List (S41)) (a1 : ByteArray) : Option (Bool) := (sleuthlaw0_CopyNodes.f k l0).bind fun t375 => ((file_Text.f k t375).bind fun bt378 => ((sleuthref12_FileText.f k l0).bind fun bt380 => ((file_Load.f k a1).bind fun bt382 => ((sleuthref12_LoadFile.f k a1).bind fun bt386 => ((file_Load.f k bt378.1).bind fun bt390 => (if bt378.1.toList = bt380.1.toList then ((sleuthlaw0_Num.f bt378.2).bind fun t394 => (if t394 = bt380.2 then ((sleuthlaw0_SameNodes.f k bt382.1 bt386.1).bind fun t395 => (if t395 = true then (if bt382.2 = bt386.2 then (if t394 = 0 then ((sleuthlaw0_SameNodes.f k bt390.1 l0).bind fun t396 => (if t396 = true then (sleuthlaw17_Files.j0 k l0 t375 bt382.1 (bt390.2 != (bt378.1.size : Int))) else (sleuthlaw17_Files.j0 k l0 t375 bt382.1 true))) else (sleuthlaw17_Files.j0 k l0 t375 bt382.1 false)) else (sleuthlaw17_Files.j0 k l0 t375 bt382.1 true)) else (sleuthlaw17_Files.j0 k l0 t375 bt382.1 true))) else (sleuthlaw17_Files.j0 k l0 t375 bt382.1 true))) else (sleuthlaw17_Files.j0 k l0 t375 bt382.1 true)))))))
theorem spoil_ok17 {k : Nat} {l : List S41} (h : sleuthlaw0_SpoilNodes.f k l = some ()) : sn_ok l = true := by
 unfold sleuthlaw0_SpoilNodes.f at h
 by_cases c : sn_ok l = true
 · exact c
 · rw [if_neg c] at h; cases h
theorem sleuthlaw17_Files.calls (k : Nat) (A0 : Option Addr) (c0 : Nat) (l0 : List (S41)) (a1 : ByteArray) (r : Bool) (w : World) (hr0 : Kd.C k41 w A0 l0.length l0) (hc0 : l0.length ≤ c0) (h : sleuthlaw17_Files.f k l0 a1 = some r) (hG : GOK w) :
 Calls Tryz.prog 3 #[.slice A0 l0.length c0, .string a1] w fun e w' => e = .returned (.bool r) ∧ Below w.heap.size w w' := by
 have HR0 := a_ hr0
 have HC0 := a_ hc0
 clear hr0 hc0
 have HB := a_ (Below.refl w.heap.size w)
 have H := h; unfold sleuthlaw17_Files.f at H
 clear h
 replace H := Option.bind_eq_some_iff.mp H
 obtain ⟨t2, A30, H⟩ := H
 try dsimp only at H
 have A3 := a_ A30
 clear A30
 replace H := Option.bind_eq_some_iff.mp H
 obtain ⟨⟨t3, t4⟩, A40, H⟩ := H
 try dsimp only at H
 have A4 := a_ A40
 clear A40
 replace H := Option.bind_eq_some_iff.mp H
 obtain ⟨⟨t5, t6⟩, A50, H⟩ := H
 try dsimp only at H
 have A5 := a_ A50
 clear A50
 replace H := Option.bind_eq_some_iff.mp H
 obtain ⟨⟨t1, t7⟩, A60, H⟩ := H
 try dsimp only at H
 have A6 := a_ A60
 clear A60
 replace H := Option.bind_eq_some_iff.mp H
 obtain ⟨⟨t8, t9⟩, A70, H⟩ := H
 try dsimp only at H
 have A7 := a_ A70
 clear A70
 replace H := Option.bind_eq_some_iff.mp H
 obtain ⟨⟨t10, t11⟩, A80, H⟩ := H
 try dsimp only at H
 have A8 := a_ A80
 clear A80
 have HC9 := a_ H
 clear H
 go_enter Tryz.func3, Tryz.ntmps3
 go_upto_region 7 with (first | ((with_reducible refine gate_callee (f := 5) rfl ?_); refine goesL_ (some 17) rfl rfl Tryz.func5 (by kernel_rfl) rfl #[.slice A0 l0.length c0] rfl hL_ ?_; (with_reducible refine (sleuthlaw0_CopyNodes.calls k _ _ l0 t2 _ ?s1 ?s2 A3.out).mono ?_); (case s1 => repeat (first | exact HR0.out | (with_reducible refine Kd.C_alloc ?_ _) | (with_reducible refine Kd.C_drewN ?_ _) | (with_reducible refine Kd.C_drew ?_))); (case s2 => exact HC0.out); rintro e w1 ⟨v2, rfl, ho0, hb⟩; refine ⟨_, rfl, ?_⟩; have P1 := a_ (Kd.S_lower ho0 hS_); replace HB := a_ (below_step hB_ hb); (try clear hb); (try clear hb2); (try clear hk); (try clear hi); (try clear ho0); (try (obtain ⟨a0, o0, e0⟩ := Kd.S_slice P1.out; subst e0))) | ((with_reducible refine gate_callee (f := 6) rfl ?_); refine goesL_ (some 20) rfl rfl Tryz.func6 (by kernel_rfl) rfl #[.slice a0 t2.length o0] rfl hL_ ?_; (with_reducible refine (file_Text.calls k _ _ t2 t3 t4 _ ?s1 ?s2 A4.out hG_).mono ?_); (case s1 => repeat (first | exact (Kd.S_reads' P1.out).2.2 | (with_reducible refine Kd.C_alloc ?_ _) | (with_reducible refine Kd.C_drewN ?_ _) | (with_reducible refine Kd.C_drew ?_))); (case s2 => exact (Kd.S_reads' P1.out).2.1); rintro e w2 ⟨rfl, hb⟩; refine ⟨_, rfl, ?_⟩; replace P1 := a_ (Kd.S_below (by (with_reducible repeat (first | apply Kd.S_alloc | apply Kd.S_drewN | apply Kd.S_drew)); exact P1.out) hb); replace HB := a_ (below_step hB_ hb); (try clear hb); (try clear hb2); (try clear hk); (try clear hi)) | ((with_reducible refine gate_callee (f := 7) rfl ?_); refine goesL_ (some 25) rfl rfl Tryz.func7 (by kernel_rfl) rfl #[.slice A0 l0.length c0] rfl hL_ ?_; (with_reducible refine (sleuthref12_FileText.calls k _ _ l0 t5 t6 _ ?s1 ?s2 A5.out).mono ?_); (case s1 => exact cB_ HR0.out); (case s2 => exact HC0.out); rintro e w3 ⟨rfl, hb⟩; refine ⟨_, rfl, ?_⟩; replace P1 := a_ (Kd.S_below (by (with_reducible repeat (first | apply Kd.S_alloc | apply Kd.S_drewN | apply Kd.S_drew)); exact P1.out) hb); replace HB := a_ (below_step hB_ hb); (try clear hb); (try clear hb2); (try clear hk); (try clear hi)) | ((with_reducible refine gate_callee (f := 8) rfl ?_); refine goesL_ (some 30) rfl rfl Tryz.func8 (by kernel_rfl) rfl #[.string a1] rfl hL_ ?_; (with_reducible refine (file_Load.calls k a1 t1 t7 _ A6.out hG_).mono ?_); rintro e w0 ⟨v0, rfl, ho0, hb⟩; refine ⟨_, rfl, ?_⟩; obtain ⟨N0, sa_, sb_⟩ : ∃ N0 : Nat, Kd.S k41 41 w0 w.heap.size (fun k_ => k_ < N0) (.slice a0 t2.length o0) t2 ∧ Kd.S k41 41 w0 w.heap.size (fun k_ => N0 ≤ k_) v0 t1 := ⟨_, Kd.S_mono (Kd.S_below (Kd.S_bound (by (with_reducible repeat (first | apply Kd.S_alloc | apply Kd.S_drewN | apply Kd.S_drew)); exact P1.out)) hb) (fun _ hk => hk.2.2.1), Kd.S_mono (Kd.S_lower (Kd.S_bound ho0) hS_) (fun _ hk => hk.2.1)⟩; have n0_ := a_ sa_; have n1_ := a_ sb_; clear sa_ sb_; have n2_ := a_ (below_step hB_ hb); clear P1 HB; have P1 := n0_; have P0 := n1_; have HB := n2_; clear n0_ n1_ n2_; (try clear hb); (try clear hb2); (try clear hk); (try clear hi); (try clear ho0)) | ((with_reducible refine gate_callee (f := 9) rfl ?_); refine goesL_ (some 35) rfl rfl Tryz.func9 (by kernel_rfl) rfl #[.string a1] rfl hL_ ?_; (with_reducible refine (sleuthref12_LoadFile.calls k a1 t8 t9 _ A7.out).mono ?_); rintro e w4 ⟨v3, rfl, ho0, hb⟩; refine ⟨_, rfl, ?_⟩; have P2 := a_ (Kd.S_lower (Kd.S_new' (Kd.S_new' ho0 (Kd.S_lt (by (with_reducible repeat (first | apply Kd.S_alloc | apply Kd.S_drewN | apply Kd.S_drew)); exact P1.out))) (Kd.S_lt (by (with_reducible repeat (first | apply Kd.S_alloc | apply Kd.S_drewN | apply Kd.S_drew)); exact P0.out))) hS_); replace P1 := a_ (Kd.S_elder' (by (with_reducible repeat (first | apply Kd.S_alloc | apply Kd.S_drewN | apply Kd.S_drew)); exact P1.out) (Kd.S_base ho0) hb); replace P0 := a_ (Kd.S_elder' (by (with_reducible repeat (first | apply Kd.S_alloc | apply Kd.S_drewN | apply Kd.S_drew)); exact P0.out) (Kd.S_base ho0) hb); replace HB := a_ (below_step hB_ hb); (try clear hb); (try clear hb2); (try clear hk); (try clear hi); (try clear ho0)) | ((with_reducible refine gate_callee (f := 8) rfl ?_); refine goesL_ (some 40) rfl rfl Tryz.func8 (by kernel_rfl) rfl #[.string t3] rfl hL_ ?_; (with_reducible refine (file_Load.calls k t3 t10 t11 _ A8.out hG_).mono ?_); rintro e w5 ⟨v4, rfl, ho0, hb⟩; refine ⟨_, rfl, ?_⟩; have P3 := a_ (Kd.S_lower (Kd.S_new' (Kd.S_new' (Kd.S_new' ho0 (Kd.S_lt (by (with_reducible repeat (first | apply Kd.S_alloc | apply Kd.S_drewN | apply Kd.S_drew)); exact P1.out))) (Kd.S_lt (by (with_reducible repeat (first | apply Kd.S_alloc | apply Kd.S_drewN | apply Kd.S_drew)); exact P0.out))) (Kd.S_lt (by (with_reducible repeat (first | apply Kd.S_alloc | apply Kd.S_drewN | apply Kd.S_drew)); exact P2.out))) hS_); replace P1 := a_ (Kd.S_elder' (by (with_reducible repeat (first | apply Kd.S_alloc | apply Kd.S_drewN | apply Kd.S_drew)); exact P1.out) (Kd.S_base ho0) hb); replace P0 := a_ (Kd.S_elder' (by (with_reducible repeat (first | apply Kd.S_alloc | apply Kd.S_drewN | apply Kd.S_drew)); exact P0.out) (Kd.S_base ho0) hb); replace P2 := a_ (Kd.S_elder' (by (with_reducible repeat (first | apply Kd.S_alloc | apply Kd.S_drewN | apply Kd.S_drew)); exact P2.out) (Kd.S_base ho0) hb); replace HB := a_ (below_step hB_ hb); (try clear hb); (try clear hb2); (try clear hk); (try clear hi); (try clear ho0)))
 (try simp only [Act.put, List.setIfInBounds_toArray, List.set_cons_zero, List.set_cons_succ])
 go_cut [79] (fun v1 wc => ∃ (kq : Nat) (x0 : Bool), v1 = .bool x0 ∧ Aside0 (sleuthlaw17_Files.j0 kq l0 t2 t1 x0 = some r) ∧ Aside0 (kq ≤ k) ∧ Aside0 (Kd.S k41 41 wc w.heap.size (fun k_ => k_ < N0) (.slice a0 t2.length o0) t2) ∧ Aside0 (Kd.S k41 41 wc w.heap.size (fun k_ => N0 ≤ k_) v0 t1) ∧ Aside0 (Below w.heap.size w wc))
 case first =>
  have H := HC9.out
  clear HC9
  by_cases c17 : t3.toList = t5.toList
  case neg =>
   rw [if_neg c17] at H
   have c17b0 : (t3.toList == t5.toList) = false := beq_eq_false_iff_ne.mpr c17
   have c17b1 : (t3.toList != t5.toList) = true := bne_iff_ne.mpr c17
   (first | rw [c17b0] | (simp only [i64_w, i32_w]; rw [c17b0]) | skip)
   have H' := a_ H
   clear H
   go_wp2
   go_meet
   case rel => exact ⟨_, (true), hW_, H', ⟨by first | omega | exact Nat.le_refl _⟩, ⟨by (with_reducible repeat (first | apply Kd.S_alloc | apply Kd.S_drewN | apply Kd.S_drew)); exact Kd.S_mono P1.out (fun _ hk => hk.1.1)⟩, ⟨by (with_reducible repeat (first | apply Kd.S_alloc | apply Kd.S_drewN | apply Kd.S_drew)); exact Kd.S_mono P0.out (fun _ hk => hk.1.1)⟩, ⟨hC_⟩⟩
  rw [if_pos c17] at H
  have c17b0 : (t3.toList == t5.toList) = true := beq_iff_eq.mpr c17
  have c17b1 : (t3.toList != t5.toList) = false := bne_eq_false_iff_eq.mpr c17
  clear c17
  (first | rw [c17b0] | (simp only [i64_w, i32_w]; rw [c17b0]) | skip)
  replace H := Option.bind_eq_some_iff.mp H
  obtain ⟨t0, A180, H⟩ := H
  try dsimp only at H
  have A18 := a_ A180
  clear A180
  by_cases c19 : t0 = t6
  case neg =>
   rw [if_neg c19] at H
   have c19b0 : (t0 == t6) = false := beq_eq_false_iff_ne.mpr c19
   have c19b1 : (t0 != t6) = true := bne_iff_ne.mpr c19
   have H' := a_ H
   clear H
   go_wp2_with (first | (go_at_call 10; (with_reducible refine (sleuthlaw0_Num.calls t4 t0 _ A18.out).mono ?_); rintro e w' ⟨rfl, ⟨nd, rfl⟩⟩))
   go_meet
   case rel => exact ⟨_, (true), hW_, H', ⟨by first | omega | exact Nat.le_refl _⟩, ⟨by (with_reducible repeat (first | apply Kd.S_alloc | apply Kd.S_drewN | apply Kd.S_drew)); exact Kd.S_mono P1.out (fun _ hk => hk.1.1)⟩, ⟨by (with_reducible repeat (first | apply Kd.S_alloc | apply Kd.S_drewN | apply Kd.S_drew)); exact Kd.S_mono P0.out (fun _ hk => hk.1.1)⟩, ⟨hC_⟩⟩
  rw [if_pos c19] at H
  have c19b0 : (t0 == t6) = true := beq_iff_eq.mpr c19
  have c19b1 : (t0 != t6) = false := bne_eq_false_iff_eq.mpr c19
  clear c19
  replace H := Option.bind_eq_some_iff.mp H
  obtain ⟨t12, A200, H⟩ := H
  try dsimp only at H
  have A20 := a_ A200
  clear A200
  by_cases c21 : t12 = true
  case neg =>
   replace c21 := Bool.eq_false_iff.mpr c21
   subst c21
   rw [if_neg (show ¬ (false = true) by decide)] at H
   have H' := a_ H
   clear H
   go_wp2_with (first | (go_at_call 10; (with_reducible refine (sleuthlaw0_Num.calls t4 t0 _ A18.out).mono ?_); rintro e w' ⟨rfl, ⟨nd, rfl⟩⟩; (try (obtain ⟨a3, o2, e1⟩ := Kd.S_slice P0.out; subst e1)); (try (obtain ⟨a4, o3, e2⟩ := Kd.S_slice P2.out; subst e2))) | (go_at_call 11; (with_reducible refine (sleuthlaw0_SameNodes.calls k _ _ t1 _ _ t8 false _ ?s1 ?s2 ?s3 ?s4 A20.out).mono ?_); (case s1 => repeat (first | exact (Kd.S_reads' P0.out).2.2 | (with_reducible refine Kd.C_alloc ?_ _) | (with_reducible refine Kd.C_drewN ?_ _) | (with_reducible refine Kd.C_drew ?_))); (case s2 => exact (Kd.S_reads' P0.out).2.1); (case s3 => repeat (first | exact (Kd.S_reads' P2.out).2.2 | (with_reducible refine Kd.C_alloc ?_ _) | (with_reducible refine Kd.C_drewN ?_ _) | (with_reducible refine Kd.C_drew ?_))); (case s4 => exact (Kd.S_reads' P2.out).2.1); rintro e w6 ⟨rfl, hb⟩; replace P1 := a_ (Kd.S_below (by (with_reducible repeat (first | apply Kd.S_alloc | apply Kd.S_drewN | apply Kd.S_drew)); exact P1.out) hb); replace P0 := a_ (Kd.S_below (by (with_reducible repeat (first | apply Kd.S_alloc | apply Kd.S_drewN | apply Kd.S_drew)); exact P0.out) hb); replace P2 := a_ (Kd.S_below (by (with_reducible repeat (first | apply Kd.S_alloc | apply Kd.S_drewN | apply Kd.S_drew)); exact P2.out) hb); replace P3 := a_ (Kd.S_below (by (with_reducible repeat (first | apply Kd.S_alloc | apply Kd.S_drewN | apply Kd.S_drew)); exact P3.out) hb); replace HB := a_ (below_step hB_ hb); (try clear hb); (try clear hb2); (try clear hk); (try clear hi)))
   go_meet
   case rel => exact ⟨_, (true), hW_, H', ⟨by first | omega | exact Nat.le_refl _⟩, ⟨by (with_reducible repeat (first | apply Kd.S_alloc | apply Kd.S_drewN | apply Kd.S_drew)); exact Kd.S_mono P1.out (fun _ hk => hk.1.1)⟩, ⟨by (with_reducible repeat (first | apply Kd.S_alloc | apply Kd.S_drewN | apply Kd.S_drew)); exact Kd.S_mono P0.out (fun _ hk => hk.1.1)⟩, ⟨hC_⟩⟩
  subst c21
  rw [if_pos rfl] at H
  by_cases c22 : t7 = t9
  case neg =>
   rw [if_neg c22] at H
   have c22b0 : (t7 == t9) = false := beq_eq_false_iff_ne.mpr c22
   have c22b1 : (t7 != t9) = true := bne_iff_ne.mpr c22
   have H' := a_ H
   clear H
   go_wp2_with (first | (go_at_call 10; (with_reducible refine (sleuthlaw0_Num.calls t4 t0 _ A18.out).mono ?_); rintro e w' ⟨rfl, ⟨nd, rfl⟩⟩; (try (obtain ⟨a5, o4, e3⟩ := Kd.S_slice P0.out; subst e3)); (try (obtain ⟨a6, o5, e4⟩ := Kd.S_slice P2.out; subst e4))) | (go_at_call 11; (with_reducible refine (sleuthlaw0_SameNodes.calls k _ _ t1 _ _ t8 true _ ?s1 ?s2 ?s3 ?s4 A20.out).mono ?_); (case s1 => repeat (first | exact (Kd.S_reads' P0.out).2.2 | (with_reducible refine Kd.C_alloc ?_ _) | (with_reducible refine Kd.C_drewN ?_ _) | (with_reducible refine Kd.C_drew ?_))); (case s2 => exact (Kd.S_reads' P0.out).2.1); (case s3 => repeat (first | exact (Kd.S_reads' P2.out).2.2 | (with_reducible refine Kd.C_alloc ?_ _) | (with_reducible refine Kd.C_drewN ?_ _) | (with_reducible refine Kd.C_drew ?_))); (case s4 => exact (Kd.S_reads' P2.out).2.1); rintro e w7 ⟨rfl, hb⟩; replace P1 := a_ (Kd.S_below (by (with_reducible repeat (first | apply Kd.S_alloc | apply Kd.S_drewN | apply Kd.S_drew)); exact P1.out) hb); replace P0 := a_ (Kd.S_below (by (with_reducible repeat (first | apply Kd.S_alloc | apply Kd.S_drewN | apply Kd.S_drew)); exact P0.out) hb); replace P2 := a_ (Kd.S_below (by (with_reducible repeat (first | apply Kd.S_alloc | apply Kd.S_drewN | apply Kd.S_drew)); exact P2.out) hb); replace P3 := a_ (Kd.S_below (by (with_reducible repeat (first | apply Kd.S_alloc | apply Kd.S_drewN | apply Kd.S_drew)); exact P3.out) hb); replace HB := a_ (below_step hB_ hb); (try clear hb); (try clear hb2); (try clear hk); (try clear hi)))
   go_meet
   case rel => exact ⟨_, (true), hW_, H', ⟨by first | omega | exact Nat.le_refl _⟩, ⟨by (with_reducible repeat (first | apply Kd.S_alloc | apply Kd.S_drewN | apply Kd.S_drew)); exact Kd.S_mono P1.out (fun _ hk => hk.1.1)⟩, ⟨by (with_reducible repeat (first | apply Kd.S_alloc | apply Kd.S_drewN | apply Kd.S_drew)); exact Kd.S_mono P0.out (fun _ hk => hk.1.1)⟩, ⟨hC_⟩⟩
  rw [if_pos c22] at H
  have c22b0 : (t7 == t9) = true := beq_iff_eq.mpr c22
  have c22b1 : (t7 != t9) = false := bne_eq_false_iff_eq.mpr c22
  clear c22
  by_cases c23 : t0 = 0
  case neg =>
   rw [if_neg c23] at H
   have c23b0 : (t0 == 0) = false := beq_eq_false_iff_ne.mpr c23
   have c23b1 : (t0 != 0) = true := bne_iff_ne.mpr c23
   have H' := a_ H
   clear H
   go_wp2_with (first | (go_at_call 10; (with_reducible refine (sleuthlaw0_Num.calls t4 t0 _ A18.out).mono ?_); rintro e w' ⟨rfl, ⟨nd, rfl⟩⟩; (try (obtain ⟨a7, o6, e5⟩ := Kd.S_slice P0.out; subst e5)); (try (obtain ⟨a8, o7, e6⟩ := Kd.S_slice P2.out; subst e6))) | (go_at_call 11; (with_reducible refine (sleuthlaw0_SameNodes.calls k _ _ t1 _ _ t8 true _ ?s1 ?s2 ?s3 ?s4 A20.out).mono ?_); (case s1 => repeat (first | exact (Kd.S_reads' P0.out).2.2 | (with_reducible refine Kd.C_alloc ?_ _) | (with_reducible refine Kd.C_drewN ?_ _) | (with_reducible refine Kd.C_drew ?_))); (case s2 => exact (Kd.S_reads' P0.out).2.1); (case s3 => repeat (first | exact (Kd.S_reads' P2.out).2.2 | (with_reducible refine Kd.C_alloc ?_ _) | (with_reducible refine Kd.C_drewN ?_ _) | (with_reducible refine Kd.C_drew ?_))); (case s4 => exact (Kd.S_reads' P2.out).2.1); rintro e w8 ⟨rfl, hb⟩; replace P1 := a_ (Kd.S_below (by (with_reducible repeat (first | apply Kd.S_alloc | apply Kd.S_drewN | apply Kd.S_drew)); exact P1.out) hb); replace P0 := a_ (Kd.S_below (by (with_reducible repeat (first | apply Kd.S_alloc | apply Kd.S_drewN | apply Kd.S_drew)); exact P0.out) hb); replace P2 := a_ (Kd.S_below (by (with_reducible repeat (first | apply Kd.S_alloc | apply Kd.S_drewN | apply Kd.S_drew)); exact P2.out) hb); replace P3 := a_ (Kd.S_below (by (with_reducible repeat (first | apply Kd.S_alloc | apply Kd.S_drewN | apply Kd.S_drew)); exact P3.out) hb); replace HB := a_ (below_step hB_ hb); (try clear hb); (try clear hb2); (try clear hk); (try clear hi)))
   go_meet
   case rel => exact ⟨_, (false), hW_, H', ⟨by first | omega | exact Nat.le_refl _⟩, ⟨by (with_reducible repeat (first | apply Kd.S_alloc | apply Kd.S_drewN | apply Kd.S_drew)); exact Kd.S_mono P1.out (fun _ hk => hk.1.1)⟩, ⟨by (with_reducible repeat (first | apply Kd.S_alloc | apply Kd.S_drewN | apply Kd.S_drew)); exact Kd.S_mono P0.out (fun _ hk => hk.1.1)⟩, ⟨hC_⟩⟩
  rw [if_pos c23] at H
  have c23b0 : (t0 == 0) = true := beq_iff_eq.mpr c23
  have c23b1 : (t0 != 0) = false := bne_eq_false_iff_eq.mpr c23
  clear c23
  replace H := Option.bind_eq_some_iff.mp H
  obtain ⟨t13, A240, H⟩ := H
  try dsimp only at H
  have A24 := a_ A240
  clear A240
  by_cases c25 : t13 = true
  case pos =>
   subst c25
   rw [if_pos rfl] at H
   have H' := a_ H
   clear H
   go_wp2_with (first | (go_at_call 10; (with_reducible refine (sleuthlaw0_Num.calls t4 t0 _ A18.out).mono ?_); rintro e w' ⟨rfl, ⟨nd, rfl⟩⟩; (try (obtain ⟨a9, o8, e7⟩ := Kd.S_slice P0.out; subst e7)); (try (obtain ⟨a10, o9, e8⟩ := Kd.S_slice P2.out; subst e8))) | (go_at_call 11; (with_reducible refine (sleuthlaw0_SameNodes.calls k _ _ t1 _ _ t8 true _ ?s1 ?s2 ?s3 ?s4 A20.out).mono ?_); (case s1 => repeat (first | exact (Kd.S_reads' P0.out).2.2 | (with_reducible refine Kd.C_alloc ?_ _) | (with_reducible refine Kd.C_drewN ?_ _) | (with_reducible refine Kd.C_drew ?_))); (case s2 => exact (Kd.S_reads' P0.out).2.1); (case s3 => repeat (first | exact (Kd.S_reads' P2.out).2.2 | (with_reducible refine Kd.C_alloc ?_ _) | (with_reducible refine Kd.C_drewN ?_ _) | (with_reducible refine Kd.C_drew ?_))); (case s4 => exact (Kd.S_reads' P2.out).2.1); rintro e w9 ⟨rfl, hb⟩; replace P1 := a_ (Kd.S_below (by (with_reducible repeat (first | apply Kd.S_alloc | apply Kd.S_drewN | apply Kd.S_drew)); exact P1.out) hb); replace P0 := a_ (Kd.S_below (by (with_reducible repeat (first | apply Kd.S_alloc | apply Kd.S_drewN | apply Kd.S_drew)); exact P0.out) hb); replace P2 := a_ (Kd.S_below (by (with_reducible repeat (first | apply Kd.S_alloc | apply Kd.S_drewN | apply Kd.S_drew)); exact P2.out) hb); replace P3 := a_ (Kd.S_below (by (with_reducible repeat (first | apply Kd.S_alloc | apply Kd.S_drewN | apply Kd.S_drew)); exact P3.out) hb); replace HB := a_ (below_step hB_ hb); (try clear hb); (try clear hb2); (try clear hk); (try clear hi); (try (obtain ⟨a11, o10, e9⟩ := Kd.S_slice P3.out; subst e9))) | (go_at_call 11; (with_reducible refine (sleuthlaw0_SameNodes.calls k _ _ t10 _ _ l0 true _ ?s1 ?s2 ?s3 ?s4 A24.out).mono ?_); (case s1 => repeat (first | exact (Kd.S_reads' P3.out).2.2 | (with_reducible refine Kd.C_alloc ?_ _) | (with_reducible refine Kd.C_drewN ?_ _) | (with_reducible refine Kd.C_drew ?_))); (case s2 => exact (Kd.S_reads' P3.out).2.1); (case s3 => exact cB_ HR0.out); (case s4 => exact HC0.out); rintro e w30 ⟨rfl, hb⟩; replace P1 := a_ (Kd.S_below (by (with_reducible repeat (first | apply Kd.S_alloc | apply Kd.S_drewN | apply Kd.S_drew)); exact P1.out) hb); replace P0 := a_ (Kd.S_below (by (with_reducible repeat (first | apply Kd.S_alloc | apply Kd.S_drewN | apply Kd.S_drew)); exact P0.out) hb); replace P2 := a_ (Kd.S_below (by (with_reducible repeat (first | apply Kd.S_alloc | apply Kd.S_drewN | apply Kd.S_drew)); exact P2.out) hb); replace P3 := a_ (Kd.S_below (by (with_reducible repeat (first | apply Kd.S_alloc | apply Kd.S_drewN | apply Kd.S_drew)); exact P3.out) hb); replace HB := a_ (below_step hB_ hb); (try clear hb); (try clear hb2); (try clear hk); (try clear hi)))
   go_meet
   case rel => exact ⟨_, ((t11 != (t3.size : Int))), hW_, H', ⟨by first | omega | exact Nat.le_refl _⟩, ⟨by (with_reducible repeat (first | apply Kd.S_alloc | apply Kd.S_drewN | apply Kd.S_drew)); exact Kd.S_mono P1.out (fun _ hk => hk.1.1)⟩, ⟨by (with_reducible repeat (first | apply Kd.S_alloc | apply Kd.S_drewN | apply Kd.S_drew)); exact Kd.S_mono P0.out (fun _ hk => hk.1.1)⟩, ⟨hC_⟩⟩
  replace c25 := Bool.eq_false_iff.mpr c25
  subst c25
  rw [if_neg (show ¬ (false = true) by decide)] at H
  have H' := a_ H
  clear H
  go_wp2_with (first | (go_at_call 10; (with_reducible refine (sleuthlaw0_Num.calls t4 t0 _ A18.out).mono ?_); rintro e w' ⟨rfl, ⟨nd, rfl⟩⟩; (try (obtain ⟨a12, o11, e10⟩ := Kd.S_slice P0.out; subst e10)); (try (obtain ⟨a13, o12, e11⟩ := Kd.S_slice P2.out; subst e11))) | (go_at_call 11; (with_reducible refine (sleuthlaw0_SameNodes.calls k _ _ t1 _ _ t8 true _ ?s1 ?s2 ?s3 ?s4 A20.out).mono ?_); (case s1 => repeat (first | exact (Kd.S_reads' P0.out).2.2 | (with_reducible refine Kd.C_alloc ?_ _) | (with_reducible refine Kd.C_drewN ?_ _) | (with_reducible refine Kd.C_drew ?_))); (case s2 => exact (Kd.S_reads' P0.out).2.1); (case s3 => repeat (first | exact (Kd.S_reads' P2.out).2.2 | (with_reducible refine Kd.C_alloc ?_ _) | (with_reducible refine Kd.C_drewN ?_ _) | (with_reducible refine Kd.C_drew ?_))); (case s4 => exact (Kd.S_reads' P2.out).2.1); rintro e w33 ⟨rfl, hb⟩; replace P1 := a_ (Kd.S_below (by (with_reducible repeat (first | apply Kd.S_alloc | apply Kd.S_drewN | apply Kd.S_drew)); exact P1.out) hb); replace P0 := a_ (Kd.S_below (by (with_reducible repeat (first | apply Kd.S_alloc | apply Kd.S_drewN | apply Kd.S_drew)); exact P0.out) hb); replace P2 := a_ (Kd.S_below (by (with_reducible repeat (first | apply Kd.S_alloc | apply Kd.S_drewN | apply Kd.S_drew)); exact P2.out) hb); replace P3 := a_ (Kd.S_below (by (with_reducible repeat (first | apply Kd.S_alloc | apply Kd.S_drewN | apply Kd.S_drew)); exact P3.out) hb); replace HB := a_ (below_step hB_ hb); (try clear hb); (try clear hb2); (try clear hk); (try clear hi); (try (obtain ⟨a14, o13, e12⟩ := Kd.S_slice P3.out; subst e12))) | (go_at_call 11; (with_reducible refine (sleuthlaw0_SameNodes.calls k _ _ t10 _ _ l0 false _ ?s1 ?s2 ?s3 ?s4 A24.out).mono ?_); (case s1 => repeat (first | exact (Kd.S_reads' P3.out).2.2 | (with_reducible refine Kd.C_alloc ?_ _) | (with_reducible refine Kd.C_drewN ?_ _) | (with_reducible refine Kd.C_drew ?_))); (case s2 => exact (Kd.S_reads' P3.out).2.1); (case s3 => exact cB_ HR0.out); (case s4 => exact HC0.out); rintro e w35 ⟨rfl, hb⟩; replace P1 := a_ (Kd.S_below (by (with_reducible repeat (first | apply Kd.S_alloc | apply Kd.S_drewN | apply Kd.S_drew)); exact P1.out) hb); replace P0 := a_ (Kd.S_below (by (with_reducible repeat (first | apply Kd.S_alloc | apply Kd.S_drewN | apply Kd.S_drew)); exact P0.out) hb); replace P2 := a_ (Kd.S_below (by (with_reducible repeat (first | apply Kd.S_alloc | apply Kd.S_drewN | apply Kd.S_drew)); exact P2.out) hb); replace P3 := a_ (Kd.S_below (by (with_reducible repeat (first | apply Kd.S_alloc | apply Kd.S_drewN | apply Kd.S_drew)); exact P3.out) hb); replace HB := a_ (below_step hB_ hb); (try clear hb); (try clear hb2); (try clear hk); (try clear hi)))
  go_meet
  case rel => exact ⟨_, (true), hW_, H', ⟨by first | omega | exact Nat.le_refl _⟩, ⟨by (with_reducible repeat (first | apply Kd.S_alloc | apply Kd.S_drewN | apply Kd.S_drew)); exact Kd.S_mono P1.out (fun _ hk => hk.1.1)⟩, ⟨by (with_reducible repeat (first | apply Kd.S_alloc | apply Kd.S_drewN | apply Kd.S_drew)); exact Kd.S_mono P0.out (fun _ hk => hk.1.1)⟩, ⟨hC_⟩⟩
 case rest =>
  clear HC9
  try clear c1
  try clear c2
  try clear p2
  try clear c3
  try clear c5
  try clear c6
  try clear c7
  try clear c8
  try clear c9
  try clear c17
  try clear c17b0
  try clear c17b1
  try clear c19
  try clear c19b0
  try clear c19b1
  try clear c21
  try clear c22
  try clear c22b0
  try clear c22b1
  try clear c23
  try clear c23b0
  try clear c23b1
  try clear c25
  obtain ⟨kq, x0, rfl, HA, HJ8, O0, O1, HB⟩ := hcut
  cases kq with
  | zero => exact absurd HA.out (by simp [sleuthlaw17_Files.j0])
  | succ kj8 =>
   have H := HA.out
   clear HA
   simp only [sleuthlaw17_Files.j0] at H
   by_cases c45 : x0 = true
   case pos =>
    subst c45
    rw [if_pos rfl] at H
    cases H
   replace c45 := Bool.eq_false_iff.mpr c45
   subst c45
   rw [if_neg (show ¬ (false = true) by decide)] at H
   replace H := Option.bind_eq_some_iff.mp H
   obtain ⟨_, A460, H⟩ := H
   try dsimp only at H
   have A46 := a_ A460
   clear A460
   replace H := Option.bind_eq_some_iff.mp H
   obtain ⟨t14, A470, H⟩ := H
   try dsimp only at H
   have A47 := a_ A470
   clear A470
   by_cases c48 : t14 = true
   case neg =>
    replace c48 := Bool.eq_false_iff.mpr c48
    subst c48
    rw [if_neg (show ¬ (false = true) by decide)] at H
    cases H
   subst c48
   rw [if_pos rfl] at H
   replace H := Option.bind_eq_some_iff.mp H
   obtain ⟨t15, A490, H⟩ := H
   try dsimp only at H
   have A49 := a_ A490
   clear A490
   obtain rfl := Option.some.inj H
   obtain ⟨a2, o1, e13⟩ := Kd.S_slice O1.out
   subst e13
   go_wp2_with (first | ((with_reducible refine gate_callee (f := 12) rfl ?_); refine goesL_ (some 81) rfl rfl Tryz.func12 (by kernel_rfl) rfl #[.slice a2 t1.length o1] rfl hL_ ?_; (refine (sleuthlaw0_SpoilNodes.callsS (fun k_ => N0 ≤ k_) _ t1 w _ hC_ (by (with_reducible repeat (first | apply Kd.S_alloc | apply Kd.S_drewN | apply Kd.S_drew)); exact O1.out) ?l1 ?l2).mono ?_); (case l1 => exact (sn_ok_spec (spoil_ok17 A46.out)).1); (case l2 => exact (sn_ok_spec (spoil_ok17 A46.out)).2); rintro e w51 ⟨rfl, hb, hk⟩; refine ⟨_, rfl, ?_⟩; have n0_ := a_ (Kd.S_kept (by (with_reducible repeat (first | apply Kd.S_alloc | apply Kd.S_drewN | apply Kd.S_drew)); exact O0.out) hk (fun k_ h1_ h2_ => Nat.not_le.2 h1_ h2_)); have n1_ := a_ hb; clear O0 O1 HB; have O0 := n0_; have O1 := n0_; have HB := n1_; clear n0_ n1_; (try clear hb); (try clear hk)) | ((with_reducible refine gate_callee (f := 11) rfl ?_); refine goesL_ (some 84) rfl rfl Tryz.func11 (by kernel_rfl) rfl #[.slice a0 t2.length o0, .slice A0 l0.length c0] rfl hL_ ?_; (with_reducible refine (sleuthlaw0_SameNodes.calls kj8 _ _ t2 _ _ l0 true _ ?s1 ?s2 ?s3 ?s4 A47.out).mono ?_); (case s1 => repeat (first | exact (Kd.S_reads' O0.out).2.2 | (with_reducible refine Kd.C_alloc ?_ _) | (with_reducible refine Kd.C_drewN ?_ _) | (with_reducible refine Kd.C_drew ?_))); (case s2 => exact (Kd.S_reads' O0.out).2.1); (case s3 => exact cB_ HR0.out); (case s4 => exact HC0.out); rintro e w52 ⟨rfl, hb⟩; refine ⟨_, rfl, ?_⟩; replace O0 := a_ (Kd.S_below (by (with_reducible repeat (first | apply Kd.S_alloc | apply Kd.S_drewN | apply Kd.S_drew)); exact O0.out) hb); replace O1 := a_ (Kd.S_below (by (with_reducible repeat (first | apply Kd.S_alloc | apply Kd.S_drewN | apply Kd.S_drew)); exact O1.out) hb); replace HB := a_ (below_step hB_ hb); (try clear hb); (try clear hb2); (try clear hk); (try clear hi)) | (go_at_call 13; (with_reducible refine (sleuthlaw17_awake.calls kj8  t15 _ A49.out hG_).mono ?_); rintro e w53 ⟨rfl, hb⟩; replace O0 := a_ (Kd.S_below (by (with_reducible repeat (first | apply Kd.S_alloc | apply Kd.S_drewN | apply Kd.S_drew)); exact O0.out) hb); replace O1 := a_ (Kd.S_below (by (with_reducible repeat (first | apply Kd.S_alloc | apply Kd.S_drewN | apply Kd.S_drew)); exact O1.out) hb); replace HB := a_ (below_step hB_ hb); (try clear hb); (try clear hb2); (try clear hk); (try clear hi)))
   go_ret
   exact ⟨hV_, hC_⟩
end Go.Proofs.YtnhmmbgnaogokaaGreatDoor.G
