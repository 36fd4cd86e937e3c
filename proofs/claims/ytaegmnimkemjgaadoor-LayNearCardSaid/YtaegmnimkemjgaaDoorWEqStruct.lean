-- The print's words, less what this claim does not name (wip/prune.py).
import Derived.Test.YtaegmnimkemjgaaDoorWWords
import Derived.Laws.StructEq
/-! ### 53. '==' of structs as_ one Bool -/
namespace Go.Proofs.YtaegmnimkemjgaaDoorW.PrintWords
open Go.RowKit
section
variable {P : Program} {d : Nat} {xs ys : Array Value} {f : Field} {fs : List Field} {a b : Value} {r s : Bool} {w : World}
end
end Go.Proofs.YtaegmnimkemjgaaDoorW.PrintWords
