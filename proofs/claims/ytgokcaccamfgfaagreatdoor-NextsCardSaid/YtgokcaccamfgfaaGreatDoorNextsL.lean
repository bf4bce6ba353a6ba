/- The law Nexts of package next, as a plain statement about what the program and the document compute. -/
import Derived.Test.YtgokcaccamfgfaaGreatDoorU15
import Derived.Test.YtgokcaccamfgfaaGreatDoorU10
import Derived.Test.YtgokcaccamfgfaaGreatDoorG45
namespace Go.Proofs.YtgokcaccamfgfaaGreatDoor.G
open Go.RowKit Go.Proofs.YtgokcaccamfgfaaGreatDoorW.PrintWords Go.Proofs.YtgokcaccamfgfaaGreatDoorW.PrintLast Go.Proofs.YtgokcaccamfgfaaGreatDoorW.PrintMore
set_option linter.unusedVariables false
set_option linter.unusedSimpArgs false
theorem copySession_ev (ns : List Nd) (hok : okN ns) (w : Int) (zs : List An) (hz : zs.length * 16 ≤ 140737488351232) : Ev (fun k => sleuthlaw0_CopySession.f k ns w zs) (ns, w, zs) := by
  unfold sleuthlaw0_CopySession.f
  simp only [Option.bind_some, List.nil_append]
  have g : ([] : List An).length + zs.length < 8796093022208 := by rw [List.length_nil]; omega
  simp only [if_pos g]
  exact Ev.bind (copy_ev ns hok) (Ev.now _)
theorem sameAnswers_l0 (a : List An) (ha : a.length ≤ 9223372036854775806) : ∀ (n i : Nat), i + n = a.length → Ev (fun k => sleuthlaw0_SameAnswers.l0 k a a (i : Int)) true := by
  intro n
  induction n with
  | zero =>
    intro i hi
    refine Ev.step (f := fun _ => some true) (fun k => ?_) (Ev.now _)
    rw [sleuthlaw0_SameAnswers.l0, if_neg (by omega)]
  | succ n ih =>
    intro i hi
    have hw : wrap64 ((i : Int) + 1) = ((i + 1 : Nat) : Int) := by rw [w64 (by omega) (by omega)]; omega
    refine Ev.step (f := fun k => sleuthlaw0_SameAnswers.l0 k a a ((i + 1 : Nat) : Int)) (fun k => ?_) (ih (i + 1) (by omega))
    rw [sleuthlaw0_SameAnswers.l0, if_pos (by omega), if_pos (by omega), if_pos (by omega), hw]
    simp only [BEq.rfl, Bool.not_true, Bool.or_self, if_neg Bool.false_ne_true]
theorem sameAnswers_ev (a : List An) (ha : a.length ≤ 9223372036854775806) : Ev (fun k => sleuthlaw0_SameAnswers.f k a a) true := by
  unfold sleuthlaw0_SameAnswers.f
  simp only [if_pos]
  exact sameAnswers_l0 a ha a.length 0 (by omega)
theorem sameSession_ev (ns : List Nd) (hok : okN ns) (w : Int) (zs : List An) (hz : zs.length ≤ 9223372036854775806) : Ev (fun k => sleuthlaw0_SameSession.f k ns w zs ns w zs) true := by
  unfold sleuthlaw0_SameSession.f
  refine Ev.bind (sameNodes_ev ns hok) ?_
  simp only [if_pos]
  exact Ev.bind (sameAnswers_ev zs hz) (Ev.now _)
theorem nexts_pure (l0 : List Nd) (a1 : Int) (l2 : List An) (h : fineN l0 ∧ (Lit.int .i64 a1).wf = true ∧ fineA l2) : ∃ k, sleuthlaw20_Nexts.f k l0 a1 l2 = some true := by
  refine Ev.rounds (g := fun k => sleuthlaw20_Nexts.f k l0 a1 l2) ?_
  have hok := h.1.ok
  have hz := h.2.2.1
  have hml := marksF_len l0 l2
  unfold sleuthlaw20_Nexts.f
  refine Ev.bind (copySession_ev l0 hok a1 l2 hz) (Ev.bind (marks_ev l0 a1 l2) (Ev.bind (refMarksA_ev l0 hok a1 l2) (Ev.bind (step_ev l0 a1 l2) (Ev.bind (refStep_ev l0 hok a1 l2) (Ev.bind (sameInts_ev (marksF l0 l2).1 (by omega)) ?_)))))
  simp only [if_pos, sleuthlaw0_Num.f, Option.bind_some, BEq.rfl, Bool.not_true, Bool.or_self, if_neg Bool.false_ne_true, bne_self_eq_false]
  obtain ⟨r, hr⟩ := spoil_ev (marksF l0 l2).1 (by omega)
  refine Ev.step (f := fun k => (sleuthlaw0_SpoilInts.f k (marksF l0 l2).1).bind fun t502 => ((sleuthlaw0_SameSession.f k l0 a1 l2 l0 a1 l2).bind fun t503 => (if t503 = true then ((sleuthlaw20_awake.f k).bind fun t504 => (some t504)) else (none)))) (fun k => by rw [sleuthlaw20_Nexts.j0, if_neg Bool.false_ne_true]) ?_
  refine Ev.bind hr (Ev.bind (sameSession_ev l0 hok a1 l2 (by omega)) ?_)
  simp only [if_pos]
  exact Ev.bind nextAwake_ev (Ev.now _)
end Go.Proofs.YtgokcaccamfgfaaGreatDoor.G
