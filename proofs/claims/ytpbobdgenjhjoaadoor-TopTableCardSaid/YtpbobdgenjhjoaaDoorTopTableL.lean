/- The law TopTable of package top, as a plain statement about what the program computes. -/
import Derived.Test.YtpbobdgenjhjoaaDoorU9
import Derived.Test.YtpbobdgenjhjoaaDoorG29
namespace Go.Proofs.YtpbobdgenjhjoaaDoor.G
open Go.RowKit Go.Proofs.YtpbobdgenjhjoaaDoorW.PrintWords Go.Proofs.YtpbobdgenjhjoaaDoorW.PrintLast Go.Proofs.YtpbobdgenjhjoaaDoorW.PrintMore
set_option linter.unusedVariables false
set_option linter.unusedSimpArgs false
def tabM : List (List Int) := [[1, 2, 2, 2, 2], [3, 2, 2, 2, 2], [2, 0, 0, 0, 0], [2, 3, 0, 0, 0], [2, 0, 2, 0, 0], [2, 2, 2, 1, 0], [2, 1, 1, 2, 0], [2, 1, 2, 0, 3]]
def tabW : List (S27) := [⟨2, 0⟩, ⟨3, 0⟩, ⟨0, 1⟩, ⟨0, 2⟩, ⟨0, 4⟩, ⟨1, 1⟩, ⟨1, 0⟩, ⟨3, 0⟩]
theorem tab_all : ((List.range 8).all fun i => decide (nextT topSome (rd_L6 tabM (i : Int)) = ((rd_T27 tabW (i : Int)).f0, (rd_T27 tabW (i : Int)).f1, 0))) = true := by kernel_rfl
theorem topTable_pure : sleuthlaw18_TopTable.Pure := by
  intro a0 _
  refine Ev.rounds (g := fun k => sleuthlaw18_TopTable.f k a0) ?_
  unfold sleuthlaw18_TopTable.f
  refine Ev.bind topAwake_ev ?_
  obtain ⟨i, hi, ei⟩ := bits_nat a0 7 (by omega)
  rw [show ((7 : Nat) : Int) = 7 from rfl] at ei
  have g0 : (0 : Int) ≤ (i : Int) := by omega
  have g1 : (i : Int) < (tabM.length : Int) := by show (i : Int) < 8; omega
  have g2 : (i : Int) < (tabW.length : Int) := by show (i : Int) < 8; omega
  have hall := List.all_eq_true.1 tab_all i (List.mem_range.2 (by omega))
  rw [decide_eq_true_iff] at hall
  have e1 := next_top_ev topSome (rd_L6 tabM (i : Int))
  rw [hall] at e1
  simp only [tabM, tabW] at g1 g2 e1
  simp only [if_pos, Option.bind_some, ei, if_pos g0, if_pos g1, if_pos g2, topSome_eq]
  refine Ev.bind e1 ?_
  simp only [sleuthlaw0_Num.f, Option.bind_some, if_pos, BEq.rfl, Bool.and_self]
  exact Ev.now _
end Go.Proofs.YtpbobdgenjhjoaaDoor.G
