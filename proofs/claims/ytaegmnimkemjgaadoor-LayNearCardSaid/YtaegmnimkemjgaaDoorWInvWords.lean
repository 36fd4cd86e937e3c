-- The print's words, less what this claim does not name (wip/prune.py).
import Derived.Test.YtaegmnimkemjgaaDoorWInv
import Derived.Test.YtaegmnimkemjgaaDoorWFootNe
namespace Go.Proofs.YtaegmnimkemjgaaDoorW.PrintWords
open Go.RowKit
end Go.Proofs.YtaegmnimkemjgaaDoorW.PrintWords
namespace Go.Proofs.YtaegmnimkemjgaaDoorW.PrintLast
section
variable {ops : Array Oper} {a : Act} {o og : Oper} {g : Nat} {t : Tmp} {u : Bool}
end
end Go.Proofs.YtaegmnimkemjgaaDoorW.PrintLast
