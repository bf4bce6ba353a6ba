/- The law Trees, as a plain statement about what the program and the document compute. -/
import Derived.Test.YtgcdbpnflchobaaDoorTreeWake
import Derived.Test.YtgcdbpnflchobaaDoorG32
namespace Go.Proofs.YtgcdbpnflchobaaDoor.G
open Go.RowKit Go.Proofs.YtgcdbpnflchobaaDoorW.PrintWords Go.Proofs.YtgcdbpnflchobaaDoorW.PrintLast Go.Proofs.YtgcdbpnflchobaaDoorW.PrintMore
set_option linter.unusedVariables false
set_option linter.unusedSimpArgs false
theorem trees_pure (l0 : List Nd) (a1 : Int) (h0 : fineN l0) (h1 : (Lit.int .i64 a1).wf = true) : ∃ k, sleuthlaw13_Trees.f k l0 a1 = some true := by
  refine Ev.rounds (g := fun k => sleuthlaw13_Trees.f k l0 a1) ?_
  have hok := h0.ok
  unfold sleuthlaw13_Trees.f
  refine Ev.bind (copy_ev l0 hok) (Ev.bind (kids_ev l0 a1) (Ev.bind (refKids_ev l0 hok a1) (Ev.bind (size_ev l0 a1) (Ev.bind (refSize_ev l0 hok a1) (Ev.bind (sameInts_ev _ (kidsS_len l0 a1 hok)) ?_)))))
  simp only [if_pos, sleuthlaw0_Num.f, Option.bind_some]
  rw [show ((sizeS l0 a1).2 != (sizeS l0 a1).2) = false from by simp]
  obtain ⟨r, hr⟩ := spoil_ev _ (kidsS_len l0 a1 hok)
  refine Ev.step (f := fun k => (sleuthlaw0_SpoilInts.f k (kidsS l0 a1).1).bind fun t363 => ((sleuthlaw0_SameNodes.f k l0 l0).bind fun t364 => (if t364 = true then ((sleuthlaw13_awake.f k).bind fun t365 => (some t365)) else (some false)))) (fun k => by simp only [sleuthlaw13_Trees.j0]; rfl) ?_
  refine Ev.bind hr (Ev.bind (sameNodes_ev l0 hok) ?_)
  simp only [if_pos]
  exact Ev.bind awake_ev (Ev.now _)
end Go.Proofs.YtgcdbpnflchobaaDoor.G
