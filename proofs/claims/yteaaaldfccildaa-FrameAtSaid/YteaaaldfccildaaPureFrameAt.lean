/- What the law FrameAt computes, as a plain Lean function, is true at every argument within Go's own bounds. -/
import Derived.Test.YteaaaldfccildaaFrameLaws
namespace Go.Proofs.Yteaaaldfccildaa.Pure
theorem FrameAt : G.sleuthlaw16_FrameAt.Pure := FrameLib.frameAt_pure
end Go.Proofs.Yteaaaldfccildaa.Pure
