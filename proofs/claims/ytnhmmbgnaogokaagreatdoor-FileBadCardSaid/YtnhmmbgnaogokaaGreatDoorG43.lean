-- Laid by the session's own driver gp.py over the kit's printer. Not trusted: Lean checks it.
import Derived.Test.YtnhmmbgnaogokaaGreatDoorU2
import Derived.Test.YtnhmmbgnaogokaaGreatDoorG0
import Derived.Test.YtnhmmbgnaogokaaGreatDoorU8
namespace Go.Proofs.YtnhmmbgnaogokaaGreatDoor.G
open Go.RowKit Go.Proofs.YtnhmmbgnaogokaaGreatDoorW.PrintWords Go.Proofs.YtnhmmbgnaogokaaGreatDoorW.PrintLast Go.Proofs.YtnhmmbgnaogokaaGreatDoorW.PrintMore
set_option maxHeartbeats 8000000
set_option maxRecDepth 100000
attribute [local go_sem] max2_int min2_int max_two min_two max_three min_three max_four min_four   -- for this text's walks alone
set_option linter.unusedVariables false
set_option linter.unusedSimpArgs false

def sleuthlaw17_odd.f (k : Nat) (a0 : Int) (a1 : Int) : Option (ByteArray) := if (Int.tmod (IntKind.u64.wrap (a0)) 5) = 0 then (some (⟨#[255, 255]⟩ : ByteArray)) else (if (Int.tmod (IntKind.u64.wrap (a0)) 5) = 1 then (some (⟨#[0, 0, 0, 0, 0, 1]⟩ : ByteArray)) else (if (Int.tmod (IntKind.u64.wrap (a0)) 5) = 2 then ((sleuthref12_PutFrame.f k (⟨#[110, 111, 32, 114, 101, 99, 111, 114, 100]⟩ : ByteArray)).bind fun bt399 => (some bt399.1)) else (if (Int.tmod (IntKind.u64.wrap (a0)) 5) = 3 then ((sleuthref12_PutRecord.f k 0 a1 ([] : List ByteArray) (⟨#[49]⟩ : ByteArray)).bind fun bt401 => ((sleuthref12_PutFrame.f k bt401.1).bind fun bt403 => (some bt403.1))) else (if a1 = 0 then ((sleuthref12_PutRecord.f k 0 0 ([] : List ByteArray) (⟨#[49]⟩ : ByteArray)).bind fun bt405 => ((sleuthref12_PutFrame.f k bt405.1).bind fun bt407 => (some bt407.1))) else ((sleuthref12_PutRecord.f k 0 (-1) ([] : List ByteArray) (⟨#[49]⟩ : ByteArray)).bind fun bt409 => ((sleuthref12_PutFrame.f k bt409.1).bind fun bt411 => (some bt411.1)))))))
theorem sleuthlaw17_odd.calls (k : Nat) (a0 : Int) (a1 : Int) (r : ByteArray) (w : World) (h : sleuthlaw17_odd.f k a0 a1 = some r) :
 Calls Tryz.prog 14 #[.int .i64 a0, .int .i64 a1] w fun e w' => e = .returned (.string r) ∧ Below w.heap.size w w' := by
 have hu41 := Tryz.underlying41
 have HB := a_ (Below.refl w.heap.size w)
 have H := h; unfold sleuthlaw17_odd.f at H
 clear h
 by_cases c3 : (Int.tmod (IntKind.u64.wrap (a0)) 5) = 0
 case pos =>
  rw [if_pos c3] at H
  have c3b0 : ((Int.tmod (IntKind.u64.wrap (a0)) 5) == 0) = true := beq_iff_eq.mpr c3
  have c3b1 : ((Int.tmod (IntKind.u64.wrap (a0)) 5) != 0) = false := bne_eq_false_iff_eq.mpr c3
  clear c3
  obtain rfl := Option.some.inj H
  go_enter Tryz.func14, Tryz.ntmps14
  go_wp2
  go_ret
  exact ⟨hV_, hC_⟩
 rw [if_neg c3] at H
 have c3b0 : ((Int.tmod (IntKind.u64.wrap (a0)) 5) == 0) = false := beq_eq_false_iff_ne.mpr c3
 have c3b1 : ((Int.tmod (IntKind.u64.wrap (a0)) 5) != 0) = true := bne_iff_ne.mpr c3
 by_cases c4 : (Int.tmod (IntKind.u64.wrap (a0)) 5) = 1
 case pos =>
  rw [if_pos c4] at H
  have c4b0 : ((Int.tmod (IntKind.u64.wrap (a0)) 5) == 1) = true := beq_iff_eq.mpr c4
  have c4b1 : ((Int.tmod (IntKind.u64.wrap (a0)) 5) != 1) = false := bne_eq_false_iff_eq.mpr c4
  clear c4
  obtain rfl := Option.some.inj H
  go_enter Tryz.func14, Tryz.ntmps14
  go_wp2
  go_ret
  exact ⟨hV_, hC_⟩
 rw [if_neg c4] at H
 have c4b0 : ((Int.tmod (IntKind.u64.wrap (a0)) 5) == 1) = false := beq_eq_false_iff_ne.mpr c4
 have c4b1 : ((Int.tmod (IntKind.u64.wrap (a0)) 5) != 1) = true := bne_iff_ne.mpr c4
 by_cases c5 : (Int.tmod (IntKind.u64.wrap (a0)) 5) = 2
 case pos =>
  rw [if_pos c5] at H
  have c5b0 : ((Int.tmod (IntKind.u64.wrap (a0)) 5) == 2) = true := beq_iff_eq.mpr c5
  have c5b1 : ((Int.tmod (IntKind.u64.wrap (a0)) 5) != 2) = false := bne_eq_false_iff_eq.mpr c5
  clear c5
  replace H := Option.bind_eq_some_iff.mp H
  obtain ⟨⟨t3, t4⟩, A60, H⟩ := H
  try dsimp only at H
  have A6 := a_ A60
  clear A60
  obtain rfl := Option.some.inj H
  go_enter Tryz.func14, Tryz.ntmps14
  go_wp2_with (first | ((with_reducible refine gate_callee (f := 17) rfl ?_); refine goesL_ (some 36) rfl rfl Tryz.func17 (by kernel_rfl) rfl #[.string (⟨#[110, 111, 32, 114, 101, 99, 111, 114, 100]⟩ : ByteArray)] rfl hL_ ?_; (with_reducible refine (sleuthref12_PutFrame.calls k (⟨#[110, 111, 32, 114, 101, 99, 111, 114, 100]⟩ : ByteArray) t3 t4 _ A6.out).mono ?_); rintro e w7 ⟨rfl, hb⟩; refine ⟨_, rfl, ?_⟩; replace HB := a_ (below_step hB_ hb); (try clear hb); (try clear hb2); (try clear hk); (try clear hi)))
  go_ret
  exact ⟨hV_, hC_⟩
 rw [if_neg c5] at H
 have c5b0 : ((Int.tmod (IntKind.u64.wrap (a0)) 5) == 2) = false := beq_eq_false_iff_ne.mpr c5
 have c5b1 : ((Int.tmod (IntKind.u64.wrap (a0)) 5) != 2) = true := bne_iff_ne.mpr c5
 by_cases c8 : (Int.tmod (IntKind.u64.wrap (a0)) 5) = 3
 case pos =>
  rw [if_pos c8] at H
  have c8b0 : ((Int.tmod (IntKind.u64.wrap (a0)) 5) == 3) = true := beq_iff_eq.mpr c8
  have c8b1 : ((Int.tmod (IntKind.u64.wrap (a0)) 5) != 3) = false := bne_eq_false_iff_eq.mpr c8
  clear c8
  replace H := Option.bind_eq_some_iff.mp H
  obtain ⟨⟨t0, t5⟩, A90, H⟩ := H
  try dsimp only at H
  have A9 := a_ A90
  clear A90
  replace H := Option.bind_eq_some_iff.mp H
  obtain ⟨⟨t6, t7⟩, A100, H⟩ := H
  try dsimp only at H
  have A10 := a_ A100
  clear A100
  obtain rfl := Option.some.inj H
  go_enter Tryz.func14, Tryz.ntmps14
  go_wp2_with (first | ((with_reducible refine gate_callee (f := 15) rfl ?_); refine goesL_ (some 31) rfl rfl Tryz.func15 (by kernel_rfl) rfl #[.agg #[.int .i64 0, .int .i64 a1, .slice none 0 0, .string (⟨#[49]⟩ : ByteArray)]] rfl hL_ ?_; (refine (sleuthref12_PutRecord.calls k 0 a1 _ _ ([] : List ByteArray) (⟨#[49]⟩ : ByteArray) t0 t5 _ ?s1 ?s2 A9.out).mono ?_); (case s1 => exact Kd.C_nil _ _); (case s2 => exact Nat.le_refl _); rintro e w0 ⟨rfl, hb⟩; refine ⟨_, rfl, ?_⟩; replace HB := a_ (below_step hB_ hb); (try clear hb); (try clear hb2); (try clear hk); (try clear hi)) | ((with_reducible refine gate_callee (f := 17) rfl ?_); refine goesL_ (some 36) rfl rfl Tryz.func17 (by kernel_rfl) rfl #[.string t0] rfl hL_ ?_; (with_reducible refine (sleuthref12_PutFrame.calls k t0 t6 t7 _ A10.out).mono ?_); rintro e w1 ⟨rfl, hb⟩; refine ⟨_, rfl, ?_⟩; replace HB := a_ (below_step hB_ hb); (try clear hb); (try clear hb2); (try clear hk); (try clear hi)))
  go_ret
  exact ⟨hV_, hC_⟩
 rw [if_neg c8] at H
 have c8b0 : ((Int.tmod (IntKind.u64.wrap (a0)) 5) == 3) = false := beq_eq_false_iff_ne.mpr c8
 have c8b1 : ((Int.tmod (IntKind.u64.wrap (a0)) 5) != 3) = true := bne_iff_ne.mpr c8
 by_cases c13 : a1 = 0
 case neg =>
  rw [if_neg c13] at H
  have c13b0 : (a1 == 0) = false := beq_eq_false_iff_ne.mpr c13
  have c13b1 : (a1 != 0) = true := bne_iff_ne.mpr c13
  replace H := Option.bind_eq_some_iff.mp H
  obtain ⟨⟨t1, t8⟩, A180, H⟩ := H
  try dsimp only at H
  have A18 := a_ A180
  clear A180
  replace H := Option.bind_eq_some_iff.mp H
  obtain ⟨⟨t9, t10⟩, A190, H⟩ := H
  try dsimp only at H
  have A19 := a_ A190
  clear A190
  obtain rfl := Option.some.inj H
  go_enter Tryz.func14, Tryz.ntmps14
  go_wp2_with (first | ((with_reducible refine gate_callee (f := 15) rfl ?_); refine goesL_ (some 17) rfl rfl Tryz.func15 (by kernel_rfl) rfl #[.agg #[.int .i64 0, .int .i64 (-1), .slice none 0 0, .string (⟨#[49]⟩ : ByteArray)]] rfl hL_ ?_; (refine (sleuthref12_PutRecord.calls k 0 (-1) _ _ ([] : List ByteArray) (⟨#[49]⟩ : ByteArray) t1 t8 _ ?s1 ?s2 A18.out).mono ?_); (case s1 => exact Kd.C_nil _ _); (case s2 => exact Nat.le_refl _); rintro e w2 ⟨rfl, hb⟩; refine ⟨_, rfl, ?_⟩; replace HB := a_ (below_step hB_ hb); (try clear hb); (try clear hb2); (try clear hk); (try clear hi)) | ((with_reducible refine gate_callee (f := 17) rfl ?_); refine goesL_ (some 36) rfl rfl Tryz.func17 (by kernel_rfl) rfl #[.string t1] rfl hL_ ?_; (with_reducible refine (sleuthref12_PutFrame.calls k t1 t9 t10 _ A19.out).mono ?_); rintro e w3 ⟨rfl, hb⟩; refine ⟨_, rfl, ?_⟩; replace HB := a_ (below_step hB_ hb); (try clear hb); (try clear hb2); (try clear hk); (try clear hi)))
  go_ret
  exact ⟨hV_, hC_⟩

 rw [if_pos c13] at H
 have c13b0 : (a1 == 0) = true := beq_iff_eq.mpr c13
 have c13b1 : (a1 != 0) = false := bne_eq_false_iff_eq.mpr c13
 clear c13
 replace H := Option.bind_eq_some_iff.mp H
 obtain ⟨⟨t2, t11⟩, A140, H⟩ := H
 try dsimp only at H
 have A14 := a_ A140
 clear A140
 replace H := Option.bind_eq_some_iff.mp H
 obtain ⟨⟨t12, t13⟩, A150, H⟩ := H
 try dsimp only at H
 have A15 := a_ A150
 clear A150
 obtain rfl := Option.some.inj H
 go_enter Tryz.func14, Tryz.ntmps14
 go_wp2_with (first | ((with_reducible refine gate_callee (f := 15) rfl ?_); refine goesL_ (some 17) rfl rfl Tryz.func15 (by kernel_rfl) rfl #[.agg #[.int .i64 0, .int .i64 0, .slice none 0 0, .string (⟨#[49]⟩ : ByteArray)]] rfl hL_ ?_; (refine (sleuthref12_PutRecord.calls k 0 0 _ _ ([] : List ByteArray) (⟨#[49]⟩ : ByteArray) t2 t11 _ ?s1 ?s2 A14.out).mono ?_); (case s1 => exact Kd.C_nil _ _); (case s2 => exact Nat.le_refl _); rintro e w4 ⟨rfl, hb⟩; refine ⟨_, rfl, ?_⟩; replace HB := a_ (below_step hB_ hb); (try clear hb); (try clear hb2); (try clear hk); (try clear hi)) | ((with_reducible refine gate_callee (f := 17) rfl ?_); refine goesL_ (some 36) rfl rfl Tryz.func17 (by kernel_rfl) rfl #[.string t2] rfl hL_ ?_; (with_reducible refine (sleuthref12_PutFrame.calls k t2 t12 t13 _ A15.out).mono ?_); rintro e w5 ⟨rfl, hb⟩; refine ⟨_, rfl, ?_⟩; replace HB := a_ (below_step hB_ hb); (try clear hb); (try clear hb2); (try clear hk); (try clear hi)))
 go_ret
 exact ⟨hV_, hC_⟩
end Go.Proofs.YtnhmmbgnaogokaaGreatDoor.G
