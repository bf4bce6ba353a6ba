-- Cut by the session's own program (prune.py) out of the kit's printed words: what this seat's claims name.
import Derived.Test.YtljlmkbcichlpaaDoorWInv
import Derived.Test.YtljlmkbcichlpaaDoorWFootNe
namespace Go.Proofs.YtljlmkbcichlpaaDoorW.PrintWords
open Go.RowKit
end Go.Proofs.YtljlmkbcichlpaaDoorW.PrintWords
namespace Go.Proofs.YtljlmkbcichlpaaDoorW.PrintLast
section
variable {ops : Array Oper} {a : Act} {o og : Oper} {g : Nat} {t : Tmp} {u : Bool}
end
end Go.Proofs.YtljlmkbcichlpaaDoorW.PrintLast
