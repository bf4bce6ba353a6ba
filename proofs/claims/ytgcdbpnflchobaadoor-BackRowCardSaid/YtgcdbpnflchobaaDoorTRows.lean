/- Rows of small nodes, and remainders: what the laws that make a trail of their own share. -/
import Derived.Test.YtgcdbpnflchobaaDoorTQ
namespace Go.Proofs.YtgcdbpnflchobaaDoor.G
open Go.RowKit Go.Proofs.YtgcdbpnflchobaaDoorW.PrintWords Go.Proofs.YtgcdbpnflchobaaDoorW.PrintLast Go.Proofs.YtgcdbpnflchobaaDoorW.PrintMore
set_option linter.unusedVariables false
set_option linter.unusedSimpArgs false
theorem and_range (x : Int) (m : Nat) (hm : m < 9223372036854775808) : 0 ≤ Go.bits .and .i64 x (m : Int) ∧ Go.bits .and .i64 x (m : Int) ≤ m := by
  have h : (BitVec.ofInt IntKind.i64.bits x &&& BitVec.ofInt IntKind.i64.bits (m : Int)).toNat ≤ m := by
    rw [BitVec.toNat_and, BitVec.ofInt_natCast, BitVec.toNat_ofNat]
    exact Nat.le_trans Nat.and_le_right (Nat.mod_le _ _)
  unfold Go.bits
  simp only [IntKind.wrap_i64]
  omega
def one (p : Int) : Nd := ⟨0, p, [], (⟨#[49]⟩ : ByteArray)⟩
theorem eqS_one (p : Int) : eqS (one p) = true := by
  have h : mayS (⟨#[49]⟩ : ByteArray) = true := by kernel_rfl
  unfold eqS one
  simp only [h]
  rfl
theorem rn_map (k : Nat) (f : Nat → Nd) (j : Nat) (h : j < k) : rn ((List.range k).map f) (j : Int) = f j := by
  rw [rn_eq _ j (by simpa using h)]
  simp
theorem may_map (k : Nat) (h0 : 0 < k) (h1 : k ≤ 512) (f : Nat → Int) (hf : ∀ j, j < k → (0 ≤ f j ∧ f j < (j : Int)) ∨ (j = 0 ∧ f j = -1)) : mayT ((List.range k).map fun j => one (f j)) = true := by
  unfold mayT
  rw [Bool.and_eq_true, decide_eq_true_iff, List.length_map, List.length_range]
  refine ⟨h0, List.all_eq_true.2 fun i hi => ?_⟩
  have hi := List.mem_range.1 hi
  rw [rn_map k _ i hi]
  unfold nextS
  rw [eqS_one, Bool.and_true, Bool.and_eq_true, Bool.or_eq_true, decide_eq_true_iff, decide_eq_true_iff, decide_eq_true_iff]
  refine ⟨by omega, ?_⟩
  show (0 ≤ f i ∧ f i < (i : Int)) ∨ ((i : Int) = 0 ∧ f i = -1)
  have := hf i hi
  omega
def rowI (k i : Nat) (f : Nat → Nd) : List Nd := (List.range k).map fun j => if j < i then f j else z44
theorem rowI_set (k i : Nat) (f : Nat → Nd) (h : i < k) : (rowI k i f).set i (f i) = rowI k (i + 1) f := by
  apply List.ext_getElem
  · simp [rowI]
  · intro j h1 h2
    rw [List.getElem_set]
    simp only [rowI, List.getElem_map, List.getElem_range]
    by_cases c : i = j
    · subst c; rw [if_pos rfl, if_pos (by omega)]
    · rw [if_neg c]
      by_cases d : j < i
      · rw [if_pos d, if_pos (by omega)]
      · rw [if_neg d, if_neg (by omega)]
theorem rowI_zero (k : Nat) (f : Nat → Nd) : rowI k 0 f = List.replicate k z44 := by
  apply List.ext_getElem
  · simp [rowI]
  · intro j h1 h2
    simp [rowI]
theorem rowI_full (k : Nat) (f : Nat → Nd) : rowI k k f = (List.range k).map f := by
  unfold rowI
  apply List.map_congr_left
  intro j hj
  rw [if_pos (List.mem_range.1 hj)]
theorem umod (a : Int) (k : Nat) (h0 : 0 < k) (h1 : k ≤ 512) : IntKind.u64.wrap (k : Int) = (k : Int) ∧ ∃ m : Nat, m < k ∧ wrap64 (Int.tmod (IntKind.u64.wrap a) (k : Int)) = (m : Int) := by
  have e1 : IntKind.u64.wrap (k : Int) = (k : Int) := by
    show (k : Int) % 18446744073709551616 = _
    omega
  refine ⟨e1, ?_⟩
  have h2 : 0 ≤ IntKind.u64.wrap a ∧ IntKind.u64.wrap a < 18446744073709551616 := by
    show 0 ≤ a % 18446744073709551616 ∧ a % 18446744073709551616 < 18446744073709551616
    omega
  generalize IntKind.u64.wrap a = y at h2
  refine ⟨(y % (k : Int)).toNat, ?_, ?_⟩
  · have := Int.emod_lt_of_pos y (show (0 : Int) < k by omega)
    have := Int.emod_nonneg y (show (k : Int) ≠ 0 by omega)
    omega
  · have := Int.emod_lt_of_pos y (show (0 : Int) < k by omega)
    have := Int.emod_nonneg y (show (k : Int) ≠ 0 by omega)
    rw [Int.tmod_eq_emod_of_nonneg h2.1, w64 (by omega) (by omega)]
    omega
end Go.Proofs.YtgcdbpnflchobaaDoor.G
