/- The laws Belows, BelowRow, BelowForms, BelowOthers, as plain statements about what the program and the document compute. -/
import Derived.Test.YtnoehmpmkfkgfaaDoorTBelow
import Derived.Test.YtnoehmpmkfkgfaaDoorG17
import Derived.Test.YtnoehmpmkfkgfaaDoorG19
import Derived.Test.YtnoehmpmkfkgfaaDoorG24
namespace Go.Proofs.YtnoehmpmkfkgfaaDoor.G
open Go.RowKit Go.Proofs.YtnoehmpmkfkgfaaDoorW.PrintWords Go.Proofs.YtnoehmpmkfkgfaaDoorW.PrintLast Go.Proofs.YtnoehmpmkfkgfaaDoorW.PrintMore
theorem belows_pure : sleuthlaw3_Belows.Pure := by
  intro a0 a1 _ _
  refine Ev.rounds (g := fun k => sleuthlaw3_Belows.f k a0 a1) ?_
  unfold sleuthlaw3_Belows.f
  refine Ev.bind (is_ev a0 a1) (Ev.bind (refBelow_ev a0 a1) ?_)
  have e : (((isS a0 a1).1 == (isS a0 a1).1) = true) := by simp
  simp only [if_pos e]
  refine Ev.bind (num_ev _) ?_
  simp only [if_pos]
  exact Ev.bind awake_ev (Ev.now _)
end Go.Proofs.YtnoehmpmkfkgfaaDoor.G
