-- Cut by the session's own program (prune.py) out of the kit's printed words: what this seat's claims name.
import Derived.Test.YtljlmkbcichlpaaDoorWN
namespace Go.Proofs.YtljlmkbcichlpaaDoorW.PrintWords
open Go.RowKit
namespace Kd
section
variable {α : Type} {d : Kd α} {W : World} {g n : Nat} {S ok : Nat → Prop} {A : Option Addr} {ad : Addr} {xs : List α}
end
end Kd
end Go.Proofs.YtljlmkbcichlpaaDoorW.PrintWords
