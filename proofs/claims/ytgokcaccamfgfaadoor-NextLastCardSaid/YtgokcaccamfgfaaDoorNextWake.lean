/- What the laws of package next share. -/
import Derived.Test.YtgokcaccamfgfaaDoorU13
import Derived.Test.YtgokcaccamfgfaaDoorU7
import Derived.Test.YtgokcaccamfgfaaDoorU9
namespace Go.Proofs.YtgokcaccamfgfaaDoor.G
open Go.RowKit Go.Proofs.YtgokcaccamfgfaaDoorW.PrintWords Go.Proofs.YtgokcaccamfgfaaDoorW.PrintLast Go.Proofs.YtgokcaccamfgfaaDoorW.PrintMore
set_option linter.unusedVariables false
set_option linter.unusedSimpArgs false
def nextSome : List Nd := [(⟨0, (-1), ([] : List ByteArray), (⟨#[57]⟩ : ByteArray)⟩ : Nd), (⟨1, 0, (([(⟨#[64, 55, 40, 95, 32, 52, 41]⟩ : ByteArray), (⟨#[53]⟩ : ByteArray)] : List ByteArray)), (⟨#[57]⟩ : ByteArray)⟩ : Nd), (⟨2, 0, ([] : List ByteArray), (⟨#[33]⟩ : ByteArray)⟩ : Nd), (⟨1, 1, (([(⟨#[49]⟩ : ByteArray), (⟨#[95]⟩ : ByteArray)] : List ByteArray)), (⟨#[95]⟩ : ByteArray)⟩ : Nd), (⟨1, 2, (([(⟨#[49]⟩ : ByteArray), (⟨#[95]⟩ : ByteArray)] : List ByteArray)), (⟨#[95]⟩ : ByteArray)⟩ : Nd)]
theorem nextSome_eq : sleuthlaw20_some.f = some nextSome := rfl
theorem nextSome_may : mayT nextSome = true := by kernel_rfl
theorem nextAwake_ev : Ev (fun k => sleuthlaw20_awake.f k) true := by
  unfold sleuthlaw20_awake.f
  simp only [nextSome_eq, Option.bind_some]
  have l2 : (0 : Int) < (([(⟨0, 2⟩ : An), ⟨1, 1⟩] : List An).length : Int) := by decide
  refine Ev.bind (marks_ev nextSome 0 [⟨0, 2⟩, ⟨1, 1⟩]) (Ev.bind (step_ev nextSome 0 [⟨0, 2⟩, ⟨1, 1⟩]) (Ev.bind (step_ev nextSome 2 [⟨0, 2⟩, ⟨1, 1⟩]) ?_))
  simp only [if_pos l2]
  refine Ev.bind (marks_ev nextSome 2 [⟨0, 0⟩, ⟨1, 1⟩]) ?_
  have e1 : marksF nextSome [⟨0, 2⟩, ⟨1, 1⟩] = ([2, 1, 0, 0, 0], 0) := by kernel_rfl
  have e2 : stepF nextSome 0 [⟨0, 2⟩, ⟨1, 1⟩] = (0, 2, 0) := by kernel_rfl
  have e3 : stepF nextSome 2 [⟨0, 2⟩, ⟨1, 1⟩] = (0, 0, 2000) := by kernel_rfl
  have e4 : marksF nextSome [⟨0, 0⟩, ⟨1, 1⟩] = ([], 2000) := by kernel_rfl
  rw [e1, e2, e3, e4]
  refine Ev.bind (sameInts_ev [2, 1, 0, 0, 0] (by decide)) ?_
  simp only [sleuthlaw0_Num.f, Option.bind_some, if_pos, BEq.rfl, Bool.and_self]
  exact Ev.now _
end Go.Proofs.YtgokcaccamfgfaaDoor.G
