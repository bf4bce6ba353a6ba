import Derived.ChangeSlices
import Derived.ChangeArms
import Derived.SizedLaws
import Derived.WideShapes
import Derived.Test.YtbnljapgnfmmoaaDoorU0
namespace Go.Proofs.YtbnljapgnfmmoaaDoor.G
open Go.RowKit Go.Proofs.YtbnljapgnfmmoaaDoorW.PrintWords Go.Proofs.YtbnljapgnfmmoaaDoorW.PrintLast Go.Proofs.YtbnljapgnfmmoaaDoorW.PrintMore
open Go.ChangeShapes Go.WideShapes
set_option linter.unusedVariables false
set_option linter.unusedSimpArgs false

variable {P : Program}
end Go.Proofs.YtbnljapgnfmmoaaDoor.G
