/- What the law FrameUnlike computes, as a plain Lean function, is true at every argument within Go's own bounds. -/
import Derived.Test.YteaaaldfccildaaFrameLaws
namespace Go.Proofs.Yteaaaldfccildaa.Pure
theorem FrameUnlike : G.sleuthlaw16_FrameUnlike.Pure := FrameLib.frameUnlike_pure
end Go.Proofs.Yteaaaldfccildaa.Pure
