-- Cut by the session's own program (prune.py) out of the kit's printed words: what this seat's claims name.
import Derived.Test.YtljlmkbcichlpaaDoorWTab
namespace Go.Proofs.YtljlmkbcichlpaaDoorW.PrintLast
section
variable {P : Program} {ops : Array Oper} {Q : Exit → Act → World → Prop} {md : Region.Mode} {T : Bool × List (List Nat × List Nat)} {B : List Nat} {O : List Nat} {b : Nat → Bool} {i j n : Nat}
end
end Go.Proofs.YtljlmkbcichlpaaDoorW.PrintLast
