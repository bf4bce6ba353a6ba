-- Cut by the session's own program (prune.py) out of the kit's printed words: what this seat's claims name.
import Derived.Test.YtljlmkbcichlpaaDoorWWords
import Derived.Test.YtljlmkbcichlpaaDoorWLast
namespace Go.Proofs.YtljlmkbcichlpaaDoorW.PrintWords
open Go.RowKit
namespace Kd
section
variable {α : Type} {d : Kd α} {e base g o n cap : Nat} {ok okp : Nat → Prop} {w W : World} {v : Value} {xs : List α}
end
section
variable {α : Type} {enc : α → Value} {h1 : ∀ x, (enc x).oneCell' = true} {e base g o n cap : Nat} {ok : Nat → Prop} {W : World} {xs : List α}
end
end Kd
end Go.Proofs.YtljlmkbcichlpaaDoorW.PrintWords
