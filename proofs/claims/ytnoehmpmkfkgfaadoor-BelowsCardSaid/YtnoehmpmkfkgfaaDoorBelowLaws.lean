/- The laws Belows, BelowRow, BelowForms, BelowOthers, as plain statements about what the program and the document compute. -/
import Derived.Test.YtnoehmpmkfkgfaaDoorTBelow
import Derived.Test.YtnoehmpmkfkgfaaDoorG17
import Derived.Test.YtnoehmpmkfkgfaaDoorG19
import Derived.Test.YtnoehmpmkfkgfaaDoorG24
namespace Go.Proofs.YtnoehmpmkfkgfaaDoor.G
open Go.RowKit Go.Proofs.YtnoehmpmkfkgfaaDoorW.PrintWords Go.Proofs.YtnoehmpmkfkgfaaDoorW.PrintLast Go.Proofs.YtnoehmpmkfkgfaaDoorW.PrintMore
theorem belows_pure : sleuthlaw3_Belows.Pure := by
  intro a0 a1 _ _
  refine Ev.rounds (g := fun k => sleuthlaw3_Belows.f k a0 a1) ?_
  unfold sleuthlaw3_Belows.f
  refine Ev.bind (is_ev a0 a1) (Ev.bind (refBelow_ev a0 a1) ?_)
  have e : (((isS a0 a1).1 == (isS a0 a1).1) = true) := by simp
  simp only [if_pos e]
  refine Ev.bind (num_ev _) ?_
  simp only [if_pos]
  exact Ev.bind awake_ev (Ev.now _)
theorem rd_nat (ys : List ByteArray) (m : Nat) : rdOf ByteArray.empty ys (m : Int) = ys.getD m ByteArray.empty := rfl
def nine : List ByteArray := [(⟨#[33]⟩ : ByteArray), (⟨#[48]⟩ : ByteArray), (⟨#[55]⟩ : ByteArray), (⟨#[64, 48]⟩ : ByteArray), (⟨#[64, 55]⟩ : ByteArray), (⟨#[64, 55, 40, 48, 41]⟩ : ByteArray), (⟨#[64, 55, 40, 48, 32, 48, 41]⟩ : ByteArray), (⟨#[64, 56, 40, 48, 41]⟩ : ByteArray), (⟨#[45, 55]⟩ : ByteArray)]
def othersOk (i j : Nat) : Bool := (isS (nine.getD i ByteArray.empty) (nine.getD j ByteArray.empty)).2 == 0 && ((isS (nine.getD i ByteArray.empty) (nine.getD j ByteArray.empty)).1 == (i == j)) && (isS (nine.getD i ByteArray.empty) (⟨#[95]⟩ : ByteArray)).2 == 0 && !(isS (nine.getD i ByteArray.empty) (⟨#[95]⟩ : ByteArray)).1
theorem others_all : ((List.range 9).all fun i => (List.range 9).all fun j => othersOk i j) = true := by kernel_rfl
theorem mod9 (x : Int) : ∃ i : Nat, i < 9 ∧ wrap64 (Int.tmod (IntKind.u64.wrap x) 9) = (i : Int) := by
  have h0 : 0 ≤ IntKind.u64.wrap x ∧ IntKind.u64.wrap x < 18446744073709551616 := by
    show 0 ≤ x % 18446744073709551616 ∧ x % 18446744073709551616 < 18446744073709551616
    omega
  generalize IntKind.u64.wrap x = y at h0
  refine ⟨(y.toNat % 9), Nat.mod_lt _ (by omega), ?_⟩
  rw [Int.tmod_eq_emod_of_nonneg h0.1, w64 (by omega) (by omega)]
  omega
theorem belowOthers_pure : sleuthlaw3_BelowOthers.Pure := by
  intro a0 a1 _ _
  refine Ev.rounds (g := fun k => sleuthlaw3_BelowOthers.f k a0 a1) ?_
  unfold sleuthlaw3_BelowOthers.f
  refine Ev.bind awake_ev ?_
  obtain ⟨i, hi, ei⟩ := mod9 a0
  obtain ⟨j, hj, ej⟩ := mod9 a1
  have h := List.all_eq_true.1 (List.all_eq_true.1 others_all i (List.mem_range.2 hi)) j (List.mem_range.2 hj)
  unfold othersOk at h
  simp only [Bool.and_eq_true, beq_iff_eq, Bool.not_eq_true'] at h
  obtain ⟨⟨⟨h1, h2⟩, h3⟩, h4⟩ := h
  simp only [ei, ej, if_pos]
  refine Ev.bind (a := nine) (Ev.now _) ?_
  have g1 : (0 : Int) ≤ (i : Int) := by omega
  have g2 : (i : Int) < (nine.length : Int) := by show (i : Int) < 9; omega
  have g3 : (0 : Int) ≤ (j : Int) := by omega
  have g4 : (j : Int) < (nine.length : Int) := by show (j : Int) < 9; omega
  simp only [if_pos g1, if_pos g2, if_pos g3, if_pos g4]
  refine Ev.bind (is_ev (nine.getD i ByteArray.empty) (nine.getD j ByteArray.empty)) (Ev.bind (is_ev (nine.getD i ByteArray.empty) _) (Ev.bind (num_ev _) ?_))
  have hij : ((i : Int) == (j : Int)) = (i == j) := by rw [Bool.eq_iff_iff, beq_iff_eq, beq_iff_eq]; constructor <;> intro h <;> omega
  simp only [h1, h2, h3, h4, hij, if_pos, beq_self_eq_true]
  exact Ev.now _
theorem and_range (x : Int) (m : Nat) (hm : m < 9223372036854775808) : 0 ≤ Go.bits .and .i64 x (m : Int) ∧ Go.bits .and .i64 x (m : Int) ≤ m := by
  have h : (BitVec.ofInt IntKind.i64.bits x &&& BitVec.ofInt IntKind.i64.bits (m : Int)).toNat ≤ m := by
    rw [BitVec.toNat_and, BitVec.ofInt_natCast, BitVec.toNat_ofNat]
    exact Nat.le_trans Nat.and_le_right (Nat.mod_le _ _)
  unfold Go.bits
  simp only [IntKind.wrap_i64]
  omega
def four : List ByteArray := [(⟨#[]⟩ : ByteArray), (⟨#[48, 49]⟩ : ByteArray), (⟨#[64, 49, 40]⟩ : ByteArray), (⟨#[120]⟩ : ByteArray)]
def formsOk (i : Nat) : Bool := (isS (four.getD i ByteArray.empty) (⟨#[95]⟩ : ByteArray)).2 == 300 && (isS (⟨#[95]⟩ : ByteArray) (four.getD i ByteArray.empty)).2 == 300 && (isS (four.getD i ByteArray.empty) (four.getD i ByteArray.empty)).2 == 300
theorem forms_all : ((List.range 4).all fun i => formsOk i) = true := by kernel_rfl
theorem belowForms_pure : sleuthlaw3_BelowForms.Pure := by
  intro a0 _
  refine Ev.rounds (g := fun k => sleuthlaw3_BelowForms.f k a0) ?_
  unfold sleuthlaw3_BelowForms.f
  refine Ev.bind awake_ev ?_
  obtain ⟨i, hi, ei⟩ : ∃ i : Nat, i < 4 ∧ Go.bits .and .i64 a0 3 = (i : Int) := by
    have h := and_range a0 3 (by omega)
    have e : ((3 : Nat) : Int) = 3 := rfl
    rw [e] at h
    exact ⟨(Go.bits .and .i64 a0 3).toNat, by omega, by omega⟩
  have h := List.all_eq_true.1 forms_all i (List.mem_range.2 hi)
  unfold formsOk at h
  simp only [Bool.and_eq_true, beq_iff_eq] at h
  obtain ⟨⟨h1, h2⟩, h3⟩ := h
  simp only [ei, if_pos]
  refine Ev.bind (a := four) (Ev.now _) ?_
  have g1 : (0 : Int) ≤ (i : Int) := by omega
  have g2 : (i : Int) < (four.length : Int) := by show (i : Int) < 4; omega
  simp only [if_pos g1, if_pos g2]
  refine Ev.bind (is_ev (four.getD i ByteArray.empty) _) (Ev.bind (is_ev _ (four.getD i ByteArray.empty)) (Ev.bind (is_ev (four.getD i ByteArray.empty) (four.getD i ByteArray.empty)) (Ev.bind (num_ev _) ?_)))
  simp only [h1, if_pos]
  refine Ev.bind (num_ev _) ?_
  simp only [h2, if_pos]
  refine Ev.bind (num_ev _) ?_
  simp only [h3]
  exact Ev.now _
end Go.Proofs.YtnoehmpmkfkgfaaDoor.G
