/- The law SessionCut of package session, as a plain statement about what the program computes. -/
import Derived.Test.YtgokcaccamfgfaaDoorU14
import Derived.Test.YtgokcaccamfgfaaDoorG50
namespace Go.Proofs.YtgokcaccamfgfaaDoor.G
open Go.RowKit Go.Proofs.YtgokcaccamfgfaaDoorW.PrintWords Go.Proofs.YtgokcaccamfgfaaDoorW.PrintLast Go.Proofs.YtgokcaccamfgfaaDoorW.PrintMore
set_option linter.unusedVariables false
set_option linter.unusedSimpArgs false
theorem sessCut_pure (l0 : List Nd) (a1 : Int) (l2 : List An) (a3 : Int) (h : fineN l0 ∧ (Lit.int .i64 a1).wf = true ∧ fineA l2) (h3 : (Lit.int .i64 a3).wf = true) : ∃ k, sleuthlaw21_SessionCut.f k l0 a1 l2 a3 = some true := by
  refine Ev.rounds (g := fun k => sleuthlaw21_SessionCut.f k l0 a1 l2 a3) ?_
  have hz := h.2.2.1
  have hz' : l2.length ≤ 9223372036854775806 := by omega
  unfold sleuthlaw21_SessionCut.f
  refine Ev.bind sessAwake_ev ?_
  have hw : wrap64 ((l2.length : Int) + 1) = ((l2.length + 1 : Nat) : Int) := by rw [w64 (by omega) (by omega)]; omega
  obtain ⟨hu, n, hn, hne⟩ := umod a3 (l2.length + 1) (by omega) (by omega)
  have g1 : ¬ ((l2.length + 1 : Nat) : Int) = 0 := by omega
  have g2 : (0 : Int) ≤ (n : Int) := by omega
  have g3 : (n : Int) ≤ (l2.length : Int) := by omega
  simp only [if_pos, hw, hu, if_neg g1, hne, if_pos g2, if_pos g3, Int.toNat_natCast]
  refine Ev.bind (sessMay_ev l0 a1 l2 hz') ?_
  by_cases c : sessS l0 a1 l2 = true
  · simp only [if_pos c]
    refine Ev.bind (sessMay_ev l0 a1 (l2.take n) (by rw [List.length_take]; omega)) ?_
    have e : sessS l0 a1 (l2.take n) = true := by
      unfold sessS at c ⊢
      by_cases d : (mayT l0 && wayB a1) = true
      · rw [if_pos d] at c ⊢; exact goS_take l2 _ n c
      · rw [if_neg d] at c; cases c
    rw [e]
    exact Ev.now _
  · simp only [if_neg c]; exact Ev.now _
end Go.Proofs.YtgokcaccamfgfaaDoor.G
