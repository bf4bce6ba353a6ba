/- What the law FrameForms computes, as a plain Lean function, is true at every argument within Go's own bounds. -/
import Derived.Test.YteaaaldfccildaaFrameFormsL
namespace Go.Proofs.Yteaaaldfccildaa.Pure
theorem FrameForms : G.sleuthlaw16_FrameForms.Pure := FrameLib.frameForms_pure
end Go.Proofs.Yteaaaldfccildaa.Pure
