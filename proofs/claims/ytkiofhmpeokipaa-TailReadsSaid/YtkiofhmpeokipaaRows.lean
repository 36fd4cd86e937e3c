/-
  No cell of these rows narrows 'for every input' (looked for: loops, veiled, ifaces, maps, wideKeys, modest, calm, conditions, laid).
  DERIVED. THE GIVEN ROWS OF THIS SEAT. 3 by the template 'for every input the law returns true; each argument reads behind the call as it read before'; 0 by the template 'total and deterministic' (their statements: YtkiofhmpeokipaaTotals.lean).
  GIVEN WITH THE SEED: the statements are not yours to turn. If you find one false, say at which input.
  Laid BY PROGRAM, IN A SANDBOX (cutbox-rows.mjs): the forced cells as the released guide's own fill.sh prints them over the translation 063365c771df85be… (all of the seat's roots in one cut). By AI agents, Wed Nov 11 2026. No macro, syntax, notation, axiom, sorry.
-/
import Derived.Test.YtkiofhmpeokipaaChecked
import GoSem.Claim
import GoSem.ClaimJoined
import GoSem.ClaimMapViews
import Derived.JoinedTies
import Derived.KernelRfl
namespace Go.Proofs.Ytkiofhmpeokipaa
/- THE CELL 'sum', in the pinned program and in every row, IS THE sha256 OF THE DUMP (.gsa) THAT YtkiofhmpeokipaaProg.lean LOADS. Nothing in Lean hashes anything: it is a label: what it is worth is what the hold of that sum in a sandbox is worth. -/
noncomputable def Try.pinned : Pinned := { name := "ytkiofhmpeokipaa", sum := "063365c771df85bef1b5ab5e8078fd4c12d86392531fc80087d6eb8100e4e5f9", checked := Try.checked }
namespace Rows
def none {H : Type} : Left H := { results := [], args := [] }

/-- 'chatelainelaw24.TailReads': WHATEVER THE INPUT: true; the input reads as it did. -/
def tailReadsSpec : ChangeSpec := { name := "tailReads", fn := fun _ => fun
  | [d1, d2, d3, d4, d5, d6] => { results := [.lit (.bool true)], args := [d1, d2, d3, d4, d5, d6] }
  | _ => none }
def tailReadsRow : OpenClaim := { program := "ytkiofhmpeokipaa", sum := "063365c771df85bef1b5ab5e8078fd4c12d86392531fc80087d6eb8100e4e5f9", func := "chatelaine/chatelainelaw24.TailReads", spec := "tailReads", unfollowed := true, recurses := true, apart := false }
def TailReadsSaid : Prop := tailReadsRow.holds Try.pinned (OpenSpec.ofChange tailReadsSpec)

/-- ITS FALSE NEIGHBOUR: 'it returns false'. Refute it at one input. -/
def tailReadsWrong : ChangeSpec := { name := "tailReads", fn := fun _ => fun
  | [d1, d2, d3, d4, d5, d6] => { results := [.lit (.bool false)], args := [d1, d2, d3, d4, d5, d6] }
  | _ => none }
def TailReadsWrongFalsely : Prop := tailReadsRow.holds Try.pinned (OpenSpec.ofChange tailReadsWrong)

/-- 'chatelainelaw24.TailRows': WHATEVER THE INPUT: true; the input reads as it did. -/
def tailRowsSpec : ChangeSpec := { name := "tailRows", fn := fun _ => fun
  | [d1, d2, d3] => { results := [.lit (.bool true)], args := [d1, d2, d3] }
  | _ => none }
def tailRowsRow : OpenClaim := { program := "ytkiofhmpeokipaa", sum := "063365c771df85bef1b5ab5e8078fd4c12d86392531fc80087d6eb8100e4e5f9", func := "chatelaine/chatelainelaw24.TailRows", spec := "tailRows", unfollowed := true, recurses := true, apart := false }
def TailRowsSaid : Prop := tailRowsRow.holds Try.pinned (OpenSpec.ofChange tailRowsSpec)

/-- ITS FALSE NEIGHBOUR: 'it returns false'. Refute it at one input. -/
def tailRowsWrong : ChangeSpec := { name := "tailRows", fn := fun _ => fun
  | [d1, d2, d3] => { results := [.lit (.bool false)], args := [d1, d2, d3] }
  | _ => none }
def TailRowsWrongFalsely : Prop := tailRowsRow.holds Try.pinned (OpenSpec.ofChange tailRowsWrong)

/-- 'chatelainelaw24.TailTorn': WHATEVER THE INPUT: true; the input reads as it did. -/
def tailTornSpec : ChangeSpec := { name := "tailTorn", fn := fun _ => fun
  | [d1, d2, d3, d4, d5] => { results := [.lit (.bool true)], args := [d1, d2, d3, d4, d5] }
  | _ => none }
def tailTornRow : OpenClaim := { program := "ytkiofhmpeokipaa", sum := "063365c771df85bef1b5ab5e8078fd4c12d86392531fc80087d6eb8100e4e5f9", func := "chatelaine/chatelainelaw24.TailTorn", spec := "tailTorn", unfollowed := true, recurses := true, apart := false }
def TailTornSaid : Prop := tailTornRow.holds Try.pinned (OpenSpec.ofChange tailTornSpec)

/-- ITS FALSE NEIGHBOUR: 'it returns false'. Refute it at one input. -/
def tailTornWrong : ChangeSpec := { name := "tailTorn", fn := fun _ => fun
  | [d1, d2, d3, d4, d5] => { results := [.lit (.bool false)], args := [d1, d2, d3, d4, d5] }
  | _ => none }
def TailTornWrongFalsely : Prop := tailTornRow.holds Try.pinned (OpenSpec.ofChange tailTornWrong)

/- THE SECOND FORM. 'bulk': how many values and letters a reading holds, each counted each time it is reached (what is shared counts as often as it is met; a slice's spare places count too). A statement '..UptoSaid' is the law's where the arguments, and the package variables that the reading takes, are together of bulk at most 1048576: NARROWER than '..Said'. Prove '..Said' where nothing that the law and all that it calls make is longer than what came in: it says more and counts as full. Else prove '..UptoSaid'. A law counts once. -/
mutual
def uptoBulk {H : Type} : DataW H → Nat
  | .lit (.string bytes) => bytes.length + 1
  | .lit _ => 1
  | .nil => 1
  | .ptr d => uptoBulk d + 1
  | .slice elems spare => uptoBulkAll elems + uptoBulkAll spare + 1
  | .agg parts => uptoBulkAll parts + 1
  | .iface _ d => uptoBulk d + 1
  | .map entries => uptoBulkEntries entries + 1
  | .held _ => 1
def uptoBulkAll {H : Type} : List (DataW H) → Nat
  | [] => 0
  | d :: r => uptoBulk d + uptoBulkAll r
def uptoBulkEntries {H : Type} : List (Lit × DataW H) → Nat
  | [] => 0
  | x :: r => uptoBulkEntry x + uptoBulkEntries r
def uptoBulkEntry {H : Type} : Lit × DataW H → Nat
  | (.string bytes, d) => bytes.length + uptoBulk d + 1
  | (_, d) => uptoBulk d + 1
 end
def uptoSmall : (H : Type) → List (DataW H) → Bool := fun _ ds => decide (uptoBulkAll ds ≤ 1048576)
def OpenSpec.upto (s : _root_.Go.ChangeSpec) : _root_.Go.OpenSpec := { _root_.Go.OpenSpec.ofChange s with cond := some uptoSmall }

/-- 'chatelainelaw24.TailReads', WHERE WHAT IT READS IS OF BULK AT MOST 1048576: true; the input reads as it did. -/
def tailReadsUptoRow : OpenClaim := { program := "ytkiofhmpeokipaa", sum := "063365c771df85bef1b5ab5e8078fd4c12d86392531fc80087d6eb8100e4e5f9", func := "chatelaine/chatelainelaw24.TailReads", spec := "tailReads", unfollowed := true, recurses := true, apart := false, narrowed := true }
def TailReadsUptoSaid : Prop := tailReadsUptoRow.holds Try.pinned (OpenSpec.upto tailReadsSpec)

/-- 'chatelainelaw24.TailRows', WHERE WHAT IT READS IS OF BULK AT MOST 1048576: true; the input reads as it did. -/
def tailRowsUptoRow : OpenClaim := { program := "ytkiofhmpeokipaa", sum := "063365c771df85bef1b5ab5e8078fd4c12d86392531fc80087d6eb8100e4e5f9", func := "chatelaine/chatelainelaw24.TailRows", spec := "tailRows", unfollowed := true, recurses := true, apart := false, narrowed := true }
def TailRowsUptoSaid : Prop := tailRowsUptoRow.holds Try.pinned (OpenSpec.upto tailRowsSpec)

/-- 'chatelainelaw24.TailTorn', WHERE WHAT IT READS IS OF BULK AT MOST 1048576: true; the input reads as it did. -/
def tailTornUptoRow : OpenClaim := { program := "ytkiofhmpeokipaa", sum := "063365c771df85bef1b5ab5e8078fd4c12d86392531fc80087d6eb8100e4e5f9", func := "chatelaine/chatelainelaw24.TailTorn", spec := "tailTorn", unfollowed := true, recurses := true, apart := false, narrowed := true }
def TailTornUptoSaid : Prop := tailTornUptoRow.holds Try.pinned (OpenSpec.upto tailTornSpec)

end Rows
end Go.Proofs.Ytkiofhmpeokipaa
