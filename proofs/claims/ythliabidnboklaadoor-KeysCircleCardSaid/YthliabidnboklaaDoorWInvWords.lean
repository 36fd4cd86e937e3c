-- The print's words, less what this claim does not name (wip/prune.py).
import Derived.Test.YthliabidnboklaaDoorWInv
import Derived.Test.YthliabidnboklaaDoorWFootNe
namespace Go.Proofs.YthliabidnboklaaDoorW.PrintWords
open Go.RowKit
end Go.Proofs.YthliabidnboklaaDoorW.PrintWords
namespace Go.Proofs.YthliabidnboklaaDoorW.PrintLast
section
variable {ops : Array Oper} {a : Act} {o og : Oper} {g : Nat} {t : Tmp} {u : Bool}
end
end Go.Proofs.YthliabidnboklaaDoorW.PrintLast
