-- Laid by the session's own driver gp.py over the kit's printer. Not trusted: Lean checks it.
import Derived.Test.YtnhmmbgnaogokaaDoorU2
import Derived.Test.YtnhmmbgnaogokaaDoorG0
import Derived.Test.YtnhmmbgnaogokaaDoorU6
import Derived.Test.YtnhmmbgnaogokaaDoorU7
import Derived.Test.YtnhmmbgnaogokaaDoorU9
namespace Go.Proofs.YtnhmmbgnaogokaaDoor.G
open Go.RowKit Go.Proofs.YtnhmmbgnaogokaaDoorW.PrintWords Go.Proofs.YtnhmmbgnaogokaaDoorW.PrintLast Go.Proofs.YtnhmmbgnaogokaaDoorW.PrintMore
set_option maxHeartbeats 8000000
set_option maxRecDepth 100000
attribute [local go_sem] max2_int min2_int max_two min_two max_three min_three max_four min_four   -- for this text's walks alone
set_option linter.unusedVariables false
set_option linter.unusedSimpArgs false

def sleuthlaw17_FileMay.f (k : Nat) (a0 : ByteArray) : Option (Bool) := (sleuthlaw17_awake.f k).bind fun t319 => (if t319 = true then ((file_Load.f k a0).bind fun bt320 => (if (bt320.1.length : Int) = 0 then (some (bt320.2 == 0)) else ((file_Text.f k bt320.1).bind fun bt324 => ((sleuthref12_TrailMay.f k bt320.1).bind fun t326 => (if t326 = true then ((sleuthlaw0_Num.f bt324.2).bind fun t327 => (if t327 = 0 then (if bt320.2 = (bt324.1.size : Int) then (if bt320.2 ≤ (a0.size : Int) then (if 0 ≤ bt320.2 then (some ((a0.extract 0 (bt320.2 : Int).toNat).toList == bt324.1.toList)) else (none)) else (none)) else (none)) else (none))) else (none)))))) else (none))
theorem sleuthlaw17_FileMay.calls (k : Nat) (a0 : ByteArray) (r : Bool) (w : World) (h : sleuthlaw17_FileMay.f k a0 = some r) (hG : GOK w) :
 Calls Tryd.prog 5 #[.string a0] w fun e w' => e = .returned (.bool r) ∧ Below w.heap.size w w' := by
 have HB := a_ (Below.refl w.heap.size w)
 have H := h; unfold sleuthlaw17_FileMay.f at H
 clear h
 replace H := Option.bind_eq_some_iff.mp H
 obtain ⟨t5, A20, H⟩ := H
 try dsimp only at H
 have A2 := a_ A20
 clear A20
 by_cases c3 : t5 = true
 case neg =>
  replace c3 := Bool.eq_false_iff.mpr c3
  subst c3
  rw [if_neg (show ¬ (false = true) by decide)] at H
  cases H
 subst c3
 rw [if_pos rfl] at H
 replace H := Option.bind_eq_some_iff.mp H
 obtain ⟨⟨t0, t1⟩, A40, H⟩ := H
 try dsimp only at H
 have A4 := a_ A40
 clear A40
 by_cases c5 : (t0.length : Int) = 0
 case pos =>
  rw [if_pos c5] at H
  have c5b0 : ((t0.length : Int) == 0) = true := beq_iff_eq.mpr c5
  have c5b1 : ((t0.length : Int) != 0) = false := bne_eq_false_iff_eq.mpr c5
  clear c5
  obtain rfl := Option.some.inj H
  go_enter Tryd.func5, Tryd.ntmps5
  go_wp2_with (first | ((with_reducible refine gate_callee (f := 7) rfl ?_); refine goesL_ (some 7) rfl rfl Tryd.func7 (by kernel_rfl) rfl #[] rfl hL_ ?_; (with_reducible refine (sleuthlaw17_awake.calls k  true _ A2.out hG_).mono ?_); rintro e w6 ⟨rfl, hb⟩; refine ⟨_, rfl, ?_⟩; replace HB := a_ (below_step hB_ hb); (try clear hb); (try clear hb2); (try clear hk); (try clear hi)) | ((with_reducible refine gate_callee (f := 10) rfl ?_); refine goesL_ (some 11) rfl rfl Tryd.func10 (by kernel_rfl) rfl #[.string a0] rfl hL_ ?_; (with_reducible refine (file_Load.calls k a0 t0 t1 _ A4.out hG_).mono ?_); rintro e w7 ⟨v0, rfl, ho0, hb⟩; refine ⟨_, rfl, ?_⟩; have P0 := a_ (Kd.S_lower ho0 hS_); replace HB := a_ (below_step hB_ hb); (try clear hb); (try clear hb2); (try clear hk); (try clear hi); (try clear ho0); obtain ⟨a2, o1, e0⟩ := Kd.S_slice P0.out; subst e0))
  go_ret
  exact ⟨hV_, hC_⟩
 rw [if_neg c5] at H
 have c5b0 : ((t0.length : Int) == 0) = false := beq_eq_false_iff_ne.mpr c5
 have c5b1 : ((t0.length : Int) != 0) = true := bne_iff_ne.mpr c5
 have c5b2 : ¬ (t0 = []) := fun h_ => c5 (by rw [h_]; rfl)
 replace H := Option.bind_eq_some_iff.mp H
 obtain ⟨⟨t2, t4⟩, A90, H⟩ := H
 try dsimp only at H
 have A9 := a_ A90
 clear A90
 replace H := Option.bind_eq_some_iff.mp H
 obtain ⟨t6, A100, H⟩ := H
 try dsimp only at H
 have A10 := a_ A100
 clear A100
 by_cases c11 : t6 = true
 case neg =>
  replace c11 := Bool.eq_false_iff.mpr c11
  subst c11
  rw [if_neg (show ¬ (false = true) by decide)] at H
  cases H
 subst c11
 rw [if_pos rfl] at H
 replace H := Option.bind_eq_some_iff.mp H
 obtain ⟨t3, A120, H⟩ := H
 try dsimp only at H
 have A12 := a_ A120
 clear A120
 by_cases c13 : t3 = 0
 case neg =>
  rw [if_neg c13] at H
  have c13b0 : (t3 == 0) = false := beq_eq_false_iff_ne.mpr c13
  have c13b1 : (t3 != 0) = true := bne_iff_ne.mpr c13
  cases H
 rw [if_pos c13] at H
 have c13b0 : (t3 == 0) = true := beq_iff_eq.mpr c13
 have c13b1 : (t3 != 0) = false := bne_eq_false_iff_eq.mpr c13
 clear c13
 by_cases c14 : t1 = (t2.size : Int)
 case neg =>
  rw [if_neg c14] at H
  have c14b0 : (t1 == (t2.size : Int)) = false := beq_eq_false_iff_ne.mpr c14
  have c14b1 : (t1 != (t2.size : Int)) = true := bne_iff_ne.mpr c14
  cases H
 rw [if_pos c14] at H
 have c14b0 : (t1 == (t2.size : Int)) = true := beq_iff_eq.mpr c14
 have c14b1 : (t1 != (t2.size : Int)) = false := bne_eq_false_iff_eq.mpr c14
 clear c14
 by_cases c15 : t1 ≤ (a0.size : Int)
 case neg =>
  rw [if_neg c15] at H
  have c15b0 : decide (t1 ≤ (a0.size : Int)) = false := decide_eq_false c15
  clear c15
  cases H
 rw [if_pos c15] at H
 have c15b0 : decide (t1 ≤ (a0.size : Int)) = true := decide_eq_true c15
 clear c15
 replace H := ifI_ H; obtain ⟨c16, H⟩ := H
 have c16b0 := eq_true c16
 have c16b1 : decide (0 ≤ t1) = true := decide_eq_true c16
 clear c16
 have c17b0 := eq_true (of_decide_eq_true hA_ : t1 ≤ (a0.size : Int))
 obtain rfl := Option.some.inj H
 go_enter Tryd.func5, Tryd.ntmps5
 go_wp2_with (first | ((with_reducible refine gate_callee (f := 7) rfl ?_); refine goesL_ (some 7) rfl rfl Tryd.func7 (by kernel_rfl) rfl #[] rfl hL_ ?_; (with_reducible refine (sleuthlaw17_awake.calls k  true _ A2.out hG_).mono ?_); rintro e w0 ⟨rfl, hb⟩; refine ⟨_, rfl, ?_⟩; replace HB := a_ (below_step hB_ hb); (try clear hb); (try clear hb2); (try clear hk); (try clear hi)) | ((with_reducible refine gate_callee (f := 10) rfl ?_); refine goesL_ (some 11) rfl rfl Tryd.func10 (by kernel_rfl) rfl #[.string a0] rfl hL_ ?_; (with_reducible refine (file_Load.calls k a0 t0 t1 _ A4.out hG_).mono ?_); rintro e w1 ⟨v0, rfl, ho0, hb⟩; refine ⟨_, rfl, ?_⟩; have P0 := a_ (Kd.S_lower ho0 hS_); replace HB := a_ (below_step hB_ hb); (try clear hb); (try clear hb2); (try clear hk); (try clear hi); (try clear ho0); obtain ⟨a1, o0, e1⟩ := Kd.S_slice P0.out; subst e1) | ((with_reducible refine gate_callee (f := 8) rfl ?_); refine goesL_ (some 21) rfl rfl Tryd.func8 (by kernel_rfl) rfl #[.slice a1 t0.length o0] rfl hL_ ?_; (with_reducible refine (file_Text.calls k _ _ t0 t2 t4 _ ?s1 ?s2 A9.out hG_).mono ?_); (case s1 => repeat (first | exact (Kd.S_reads' P0.out).2.2 | (with_reducible refine Kd.C_alloc ?_ _) | (with_reducible refine Kd.C_drewN ?_ _) | (with_reducible refine Kd.C_drew ?_))); (case s2 => exact (Kd.S_reads' P0.out).2.1); rintro e w2 ⟨rfl, hb⟩; refine ⟨_, rfl, ?_⟩; replace P0 := a_ (Kd.S_below (by (with_reducible repeat (first | apply Kd.S_alloc | apply Kd.S_drewN | apply Kd.S_drew)); exact P0.out) hb); replace HB := a_ (below_step hB_ hb); (try clear hb); (try clear hb2); (try clear hk); (try clear hi)) | ((with_reducible refine gate_callee (f := 12) rfl ?_); refine goesL_ _ rfl rfl Tryd.func12 (by kernel_rfl) rfl #[.slice a1 t0.length o0] rfl hL_ ?_; (with_reducible refine (sleuthref12_TrailMay.calls k _ _ t0 true _ ?s1 ?s2 A10.out).mono ?_); (case s1 => repeat (first | exact (Kd.S_reads' P0.out).2.2 | (with_reducible refine Kd.C_alloc ?_ _) | (with_reducible refine Kd.C_drewN ?_ _) | (with_reducible refine Kd.C_drew ?_))); (case s2 => exact (Kd.S_reads' P0.out).2.1); rintro e w3 ⟨rfl, hb⟩; refine ⟨_, rfl, ?_⟩; replace P0 := a_ (Kd.S_below (by (with_reducible repeat (first | apply Kd.S_alloc | apply Kd.S_drewN | apply Kd.S_drew)); exact P0.out) hb); replace HB := a_ (below_step hB_ hb); (try clear hb); (try clear hb2); (try clear hk); (try clear hi)) | (go_at_call 9; (with_reducible refine (sleuthlaw0_Num.calls t4 t3 _ A12.out).mono ?_); rintro e w' ⟨rfl, ⟨nd, rfl⟩⟩))
 go_ret
 exact ⟨hV_, hC_⟩
end Go.Proofs.YtnhmmbgnaogokaaDoor.G
