/- The law HalfTable of package half, as a plain statement about what the program computes. -/
import Derived.Test.YtpbobdgenjhjoaaDoorHalfWake
import Derived.Test.YtpbobdgenjhjoaaDoorG36
namespace Go.Proofs.YtpbobdgenjhjoaaDoor.G
open Go.RowKit Go.Proofs.YtpbobdgenjhjoaaDoorW.PrintWords Go.Proofs.YtpbobdgenjhjoaaDoorW.PrintLast Go.Proofs.YtpbobdgenjhjoaaDoorW.PrintMore
set_option linter.unusedVariables false
set_option linter.unusedSimpArgs false
def tabHM : List (List Int) := [[1, 2, 2, 2, 2], [3, 2, 2, 2, 2], [2, 0, 0, 0, 0], [2, 1, 0, 0, 0], [2, 3, 1, 0, 0], [2, 0, 0, 2, 0], [2, 1, 2, 0, 3], [2, 1, 1, 0, 0]]
def tabHW : List (S27) := [⟨2, 0⟩, ⟨3, 0⟩, ⟨0, 1⟩, ⟨0, 4⟩, ⟨0, 3⟩, ⟨1, 3⟩, ⟨3, 0⟩, ⟨1, 0⟩]
theorem tabH_all : ((List.range 8).all fun i => decide (nextH halfSome (rd_L6 tabHM (i : Int)) = ((rd_T27 tabHW (i : Int)).f0, (rd_T27 tabHW (i : Int)).f1, 0))) = true := by kernel_rfl
theorem halfTable_pure : sleuthlaw19_HalfTable.Pure := by
  intro a0 _
  refine evRounds (g := fun k => sleuthlaw19_HalfTable.f k a0) ?_
  unfold sleuthlaw19_HalfTable.f
  refine Ev.bind halfAwake_ev ?_
  obtain ⟨i, hi, ei⟩ := bits_nat a0 7 (by omega)
  rw [show ((7 : Nat) : Int) = 7 from rfl] at ei
  have g0 : (0 : Int) ≤ (i : Int) := by omega
  have g1 : (i : Int) < (tabHM.length : Int) := by show (i : Int) < 8; omega
  have g2 : (i : Int) < (tabHW.length : Int) := by show (i : Int) < 8; omega
  have hall := List.all_eq_true.1 tabH_all i (List.mem_range.2 (by omega))
  rw [decide_eq_true_iff] at hall
  have e1 := next_half_ev halfSome (rd_L6 tabHM (i : Int))
  rw [hall] at e1
  simp only [tabHM, tabHW] at g1 g2 e1
  simp only [if_pos, Option.bind_some, ei, if_pos g0, if_pos g1, if_pos g2, halfSome_eq]
  refine Ev.bind e1 ?_
  simp only [sleuthlaw0_Num.f, Option.bind_some, if_pos, BEq.rfl, Bool.and_self]
  exact Ev.now _
end Go.Proofs.YtpbobdgenjhjoaaDoor.G
