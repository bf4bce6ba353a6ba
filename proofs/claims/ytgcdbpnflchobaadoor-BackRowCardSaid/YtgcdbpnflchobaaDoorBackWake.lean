/- What the laws of package back share. -/
import Derived.Test.YtgcdbpnflchobaaDoorBackVals
import Derived.Test.YtgcdbpnflchobaaDoorTRows
import Derived.Test.YtgcdbpnflchobaaDoorG41
import Derived.Test.YtgcdbpnflchobaaDoorG42
namespace Go.Proofs.YtgcdbpnflchobaaDoor.G
open Go.RowKit Go.Proofs.YtgcdbpnflchobaaDoorW.PrintWords Go.Proofs.YtgcdbpnflchobaaDoorW.PrintLast Go.Proofs.YtgcdbpnflchobaaDoorW.PrintMore
set_option linter.unusedVariables false
set_option linter.unusedSimpArgs false
def someB : List Nd := [(⟨0, (-1), ([] : List ByteArray), (⟨#[57]⟩ : ByteArray)⟩ : Nd), (⟨1, 0, (([(⟨#[64, 55, 40, 95, 32, 52, 41]⟩ : ByteArray), (⟨#[53]⟩ : ByteArray)] : List ByteArray)), (⟨#[57]⟩ : ByteArray)⟩ : Nd), (⟨2, 0, ([] : List ByteArray), (⟨#[33]⟩ : ByteArray)⟩ : Nd), (⟨1, 1, (([(⟨#[49]⟩ : ByteArray), (⟨#[95]⟩ : ByteArray)] : List ByteArray)), (⟨#[95]⟩ : ByteArray)⟩ : Nd), (⟨1, 2, (([(⟨#[49]⟩ : ByteArray), (⟨#[95]⟩ : ByteArray)] : List ByteArray)), (⟨#[95]⟩ : ByteArray)⟩ : Nd)]
theorem someB_eq : sleuthlaw24_some.f = some someB := rfl
theorem backAwake_ev : Ev (fun k => sleuthlaw24_awake.f k) true := by
  unfold sleuthlaw24_awake.f
  simp only [someB_eq, Option.bind_some]
  refine Ev.bind (path_ev someB 4) (Ev.bind (last_ev someB) ?_)
  simp only [if_pos (show (2 : Int) ≤ (someB.length : Int) from by decide)]
  refine Ev.bind (last_ev (someB.take 2)) (Ev.bind (path_ev someB 5) (Ev.bind (last_ev []) ?_))
  have e1 : pathS someB 4 = ([4, 2, 0], 0) := by kernel_rfl
  have e2 : lastS someB = (2, true, 0) := by kernel_rfl
  have e3 : lastS (someB.take 2) = (0, false, 0) := by kernel_rfl
  have e4 : pathS someB 5 = ([], 2400) := by kernel_rfl
  have e5 : lastS [] = (0, false, 2400) := by kernel_rfl
  rw [e1, e2, e3, e4, e5]
  refine Ev.bind (sameInts_ev [4, 2, 0] (by simp)) ?_
  simp only [sleuthlaw0_Num.f, Option.bind_some, if_pos, if_neg Bool.false_ne_true]
  exact Ev.now _
end Go.Proofs.YtgcdbpnflchobaaDoor.G
