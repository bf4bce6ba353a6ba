import Derived.ChangeSlices
import Derived.ChangeArms
import Derived.SizedLaws
import Derived.WideShapes
import Derived.Test.YtnhmmbgnaogokaaDoorU1
namespace Go.Proofs.YtnhmmbgnaogokaaDoor.G
open Go.RowKit Go.Proofs.YtnhmmbgnaogokaaDoorW.PrintWords Go.Proofs.YtnhmmbgnaogokaaDoorW.PrintLast Go.Proofs.YtnhmmbgnaogokaaDoorW.PrintMore
open Go.ChangeShapes Go.WideShapes
set_option linter.unusedVariables false
set_option linter.unusedSimpArgs false

variable {P : Program}
end Go.Proofs.YtnhmmbgnaogokaaDoor.G
