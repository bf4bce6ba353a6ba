/- What the law Frames computes, as a plain Lean function, is true at every argument within Go's own bounds. -/
import Derived.Test.YteaaaldfccildaaFrameLaws
namespace Go.Proofs.Yteaaaldfccildaa.Pure
theorem Frames : G.sleuthlaw16_Frames.Pure := FrameLib.frames_pure
end Go.Proofs.Yteaaaldfccildaa.Pure
