-- Cut by the session's own program (prune.py) out of the kit's printed words: what this seat's claims name.
import Derived.Test.YtljlmkbcichlpaaDoorWWords
import Derived.Laws.StructEq
namespace Go.Proofs.YtljlmkbcichlpaaDoorW.PrintWords
open Go.RowKit
section
variable {P : Program} {d : Nat} {xs ys : Array Value} {f : Field} {fs : List Field} {a b : Value} {r s : Bool} {w : World}
end
end Go.Proofs.YtljlmkbcichlpaaDoorW.PrintWords
