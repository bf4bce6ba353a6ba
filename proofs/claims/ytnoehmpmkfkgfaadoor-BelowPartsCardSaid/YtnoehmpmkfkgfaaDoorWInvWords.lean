-- Cut by the session's own program (prune.py) out of the kit's printed words: what this seat's claims name.
import Derived.Test.YtnoehmpmkfkgfaaDoorWInv
import Derived.Test.YtnoehmpmkfkgfaaDoorWFootNe
namespace Go.Proofs.YtnoehmpmkfkgfaaDoorW.PrintWords
open Go.RowKit
end Go.Proofs.YtnoehmpmkfkgfaaDoorW.PrintWords
namespace Go.Proofs.YtnoehmpmkfkgfaaDoorW.PrintLast
section
variable {ops : Array Oper} {a : Act} {o og : Oper} {g : Nat} {t : Tmp} {u : Bool}
end
end Go.Proofs.YtnoehmpmkfkgfaaDoorW.PrintLast
