-- By a program of this session (wip/myprint.sh) out of the translation; Lean checks it.
import Derived.Test.YtiphpcehmjcejaaProg
import Derived.Below
import Derived.Deep.Draws
import Derived.Deep.AppendLies
import Derived.Maps.AppendAt
import Derived.OwnWalk
import Derived.Laws.BytesArg
import Derived.Laws.MakeOwn
import Derived.Laws.OwnMore
import Derived.Deep.OwnRows
import Derived.Tactics
import Derived.Lib.ConvBytes
import Derived.Laws.Slices
import Derived.WalkKit
import Derived.KernelRfl
import Derived.RowKit3
import Derived.Deep.LoopGhost
import Derived.Deep.QuietTactic
import Derived.BigQuiet
import Derived.WideLaws
import Derived.Deep.DeepCutAuto
import Derived.Deep.CutBlock
import Derived.Deep.RegionHeld3
import Derived.Laws.Rows
import Derived.Lib.AppendStr
import Derived.ArgAppend
import Derived.Laws.IdiomCopy
import Derived.OrdersHeld
import Derived.Laws.BitsLemmas
import Derived.RowKit
import Derived.Test.YtiphpcehmjcejaaWWords
import Derived.Test.YtiphpcehmjcejaaWLast
import Derived.Test.YtiphpcehmjcejaaWTab
import Derived.Test.YtiphpcehmjcejaaWFour
import Derived.Test.YtiphpcehmjcejaaWQPut
import Derived.Test.YtiphpcehmjcejaaWApart
import Derived.Test.YtiphpcehmjcejaaWArr
import Derived.Test.YtiphpcehmjcejaaWZeros
import Derived.Test.YtiphpcehmjcejaaWFoot
import Derived.Test.YtiphpcehmjcejaaWKept
import Derived.Test.YtiphpcehmjcejaaWShare
import Derived.Test.YtiphpcehmjcejaaWN
import Derived.Test.YtiphpcehmjcejaaWFootNe
import Derived.Test.YtiphpcehmjcejaaWAt
import Derived.Test.YtiphpcehmjcejaaWEqStruct
import Derived.Test.YtiphpcehmjcejaaWRepsOne
import Derived.Test.YtiphpcehmjcejaaWInv
import Derived.Test.YtiphpcehmjcejaaWInvWords
import Derived.Test.YtiphpcehmjcejaaWGuard
import Derived.Test.YtiphpcehmjcejaaWNEv
import Derived.Test.YtiphpcehmjcejaaWMore
namespace Go.Proofs.Ytiphpcehmjcejaa.PRing
open Go.RowKit Go.Proofs.YtiphpcehmjcejaaW.PrintWords Go.Proofs.YtiphpcehmjcejaaW.PrintLast Go.Proofs.YtiphpcehmjcejaaW.PrintMore
attribute [local go_sem] max2_int min2_int max_two min_two max_three min_three max_four min_four   -- for this text's walks alone
set_option linter.unusedVariables false
set_option linter.unusedSimpArgs false



def errW : Option Int → Value
  | none => .nilIface
  | some c => .iface 0 (.int .i64 c)
theorem errW_none : errW none = .nilIface := rfl
theorem own_shr_le {k : IntKind} {x y j : Int} (h : shr k x y = j) (h0 : 0 ≤ x) : 0 ≤ j ∧ j ≤ x := by rw [← h]; unfold shr; exact ⟨Int.ediv_nonneg h0 (Int.le_of_lt (Int.pow_pos (by decide))), Int.ediv_le_self _ h0⟩
theorem errW_some (c : Int) : errW (some c) = .iface 0 (.int .i64 c) := rfl

-- the values' own types

end Go.Proofs.Ytiphpcehmjcejaa.PRing
