/-
  NARROWER THAN 'FOR EVERY INPUT', by the rows' own cells (each row's printed sentence says how): NoncesTell: laid · NoncesOnce: laid · NoncesTurn: laid · NoncesWindow: laid · NoncesRow: laid · TenantsTell: laid · TenantsGrow: laid · TenantsDeep: laid · KeysCircle: laid.
  DERIVED. THE GIVEN ROWS OF THIS SEAT. 9 by the template 'for every input the law returns true; each argument reads behind the call as it read before'; 0 by the template 'total and deterministic' (their statements: YthliabidnboklaaDoorTotals.lean).
  GIVEN WITH THE SEED: the statements are not yours to turn. If you find one false, say at which input.
  Laid BY PROGRAM, IN A SANDBOX (cutbox-rows.mjs): the forced cells as the released guide's own fill.sh prints them over the translation 71879639333e2365… (all of the seat's roots in one cut). By AI agents, Wed Nov 11 2026. No macro, syntax, notation, axiom, sorry.
-/
import Derived.Test.YthliabidnboklaaDoorChecked
import GoSem.Claim
import GoSem.ClaimJoined
import GoSem.ClaimMapViews
import Derived.JoinedTies
import Derived.KernelRfl
namespace Go.Proofs.YthliabidnboklaaDoor
/- THE CELL 'sum', in the pinned program and in every row, IS THE sha256 OF THE DUMP (.gsa) THAT YthliabidnboklaaDoorProg.lean LOADS. Nothing in Lean hashes anything: it is a label: what it is worth is what the hold of that sum in a sandbox is worth. -/
noncomputable def Tryd.pinned : Pinned := { name := "ythliabidnboklaadoor", sum := "71879639333e236521c7b7dd07fcd6bbe6d2a7f5ce23db6c6136da01fc53c87d", checked := Tryd.checked }
namespace Rows
def none {H : Type} : Left H := { results := [], args := [] }

/- WHAT THE LISTED PACKAGE-LEVEL VARIABLES READ AS WHEN THE CALL BEGINS. Each datum BY PROGRAM (the guide's laid-datum.mjs) off the statement by which the dump's own 'gosem.cut.vars' lays the variable. In a bare row this is a premise. The card (YthliabidnboklaaDoorCards.lean) ties it to the program's text. -/
def laid_errors_errorType {H : Type} : DataW H := .iface "internal/reflectlite.rtype" (.agg [.ptr (.lit (.string [101, 114, 114, 111, 114]))])

/-- 'chatelainelaw18.NoncesTell': WHATEVER THE INPUT: true; the input reads as it did. -/
def noncesTellSpec : ChangeSpec := { name := "noncesTell", fn := fun _ => fun
  | [d1, d2, d3] => { results := [.lit (.bool true)], args := [d1, d2, d3] }
  | _ => none }
def noncesTellRow : OpenClaim := { program := "ythliabidnboklaadoor", sum := "71879639333e236521c7b7dd07fcd6bbe6d2a7f5ce23db6c6136da01fc53c87d", func := "chatelaine/chatelainelaw18.NoncesTell", spec := "noncesTell", inPlace := ["internal/reflectlite.ValueOf", "(internal/reflectlite.Value).Type", "(internal/reflectlite.Value).IsNil", "internal/reflectlite.TypeOf", "(internal/reflectlite.Value).Elem", "(internal/reflectlite.Value).Set"], unfollowed := true, recurses := true, named := ["errors.errorType"], apart := false, laid := [("errors.errorType", laid_errors_errorType)] }
def NoncesTellSaid : Prop := noncesTellRow.holds Tryd.pinned (OpenSpec.ofChange noncesTellSpec)

/-- ITS FALSE NEIGHBOUR: 'it returns false'. Refute it at one input. -/
def noncesTellWrong : ChangeSpec := { name := "noncesTell", fn := fun _ => fun
  | [d1, d2, d3] => { results := [.lit (.bool false)], args := [d1, d2, d3] }
  | _ => none }
def NoncesTellWrongFalsely : Prop := noncesTellRow.holds Tryd.pinned (OpenSpec.ofChange noncesTellWrong)

/-- 'chatelainelaw18.NoncesOnce': WHATEVER THE INPUT: true; the input reads as it did. -/
def noncesOnceSpec : ChangeSpec := { name := "noncesOnce", fn := fun _ => fun
  | [d] => { results := [.lit (.bool true)], args := [d] }
  | _ => none }
def noncesOnceRow : OpenClaim := { program := "ythliabidnboklaadoor", sum := "71879639333e236521c7b7dd07fcd6bbe6d2a7f5ce23db6c6136da01fc53c87d", func := "chatelaine/chatelainelaw18.NoncesOnce", spec := "noncesOnce", inPlace := ["internal/reflectlite.ValueOf", "(internal/reflectlite.Value).Type", "(internal/reflectlite.Value).IsNil", "internal/reflectlite.TypeOf", "(internal/reflectlite.Value).Elem", "(internal/reflectlite.Value).Set"], unfollowed := true, recurses := true, named := ["errors.errorType"], apart := false, laid := [("errors.errorType", laid_errors_errorType)] }
def NoncesOnceSaid : Prop := noncesOnceRow.holds Tryd.pinned (OpenSpec.ofChange noncesOnceSpec)

/-- ITS FALSE NEIGHBOUR: 'it returns false'. Refute it at one input. -/
def noncesOnceWrong : ChangeSpec := { name := "noncesOnce", fn := fun _ => fun
  | [d] => { results := [.lit (.bool false)], args := [d] }
  | _ => none }
def NoncesOnceWrongFalsely : Prop := noncesOnceRow.holds Tryd.pinned (OpenSpec.ofChange noncesOnceWrong)

/-- 'chatelainelaw18.NoncesTurn': WHATEVER THE INPUT: true; the input reads as it did. -/
def noncesTurnSpec : ChangeSpec := { name := "noncesTurn", fn := fun _ => fun
  | [d1, d2, d3, d4] => { results := [.lit (.bool true)], args := [d1, d2, d3, d4] }
  | _ => none }
def noncesTurnRow : OpenClaim := { program := "ythliabidnboklaadoor", sum := "71879639333e236521c7b7dd07fcd6bbe6d2a7f5ce23db6c6136da01fc53c87d", func := "chatelaine/chatelainelaw18.NoncesTurn", spec := "noncesTurn", inPlace := ["internal/reflectlite.ValueOf", "(internal/reflectlite.Value).Type", "(internal/reflectlite.Value).IsNil", "internal/reflectlite.TypeOf", "(internal/reflectlite.Value).Elem", "(internal/reflectlite.Value).Set"], unfollowed := true, recurses := true, named := ["errors.errorType"], apart := false, laid := [("errors.errorType", laid_errors_errorType)] }
def NoncesTurnSaid : Prop := noncesTurnRow.holds Tryd.pinned (OpenSpec.ofChange noncesTurnSpec)

/-- ITS FALSE NEIGHBOUR: 'it returns false'. Refute it at one input. -/
def noncesTurnWrong : ChangeSpec := { name := "noncesTurn", fn := fun _ => fun
  | [d1, d2, d3, d4] => { results := [.lit (.bool false)], args := [d1, d2, d3, d4] }
  | _ => none }
def NoncesTurnWrongFalsely : Prop := noncesTurnRow.holds Tryd.pinned (OpenSpec.ofChange noncesTurnWrong)

/-- 'chatelainelaw18.NoncesWindow': WHATEVER THE INPUT: true; the input reads as it did. -/
def noncesWindowSpec : ChangeSpec := { name := "noncesWindow", fn := fun _ => fun
  | [d1, d2, d3, d4] => { results := [.lit (.bool true)], args := [d1, d2, d3, d4] }
  | _ => none }
def noncesWindowRow : OpenClaim := { program := "ythliabidnboklaadoor", sum := "71879639333e236521c7b7dd07fcd6bbe6d2a7f5ce23db6c6136da01fc53c87d", func := "chatelaine/chatelainelaw18.NoncesWindow", spec := "noncesWindow", inPlace := ["internal/reflectlite.ValueOf", "(internal/reflectlite.Value).Type", "(internal/reflectlite.Value).IsNil", "internal/reflectlite.TypeOf", "(internal/reflectlite.Value).Elem", "(internal/reflectlite.Value).Set"], unfollowed := true, recurses := true, named := ["errors.errorType"], apart := false, laid := [("errors.errorType", laid_errors_errorType)] }
def NoncesWindowSaid : Prop := noncesWindowRow.holds Tryd.pinned (OpenSpec.ofChange noncesWindowSpec)

/-- ITS FALSE NEIGHBOUR: 'it returns false'. Refute it at one input. -/
def noncesWindowWrong : ChangeSpec := { name := "noncesWindow", fn := fun _ => fun
  | [d1, d2, d3, d4] => { results := [.lit (.bool false)], args := [d1, d2, d3, d4] }
  | _ => none }
def NoncesWindowWrongFalsely : Prop := noncesWindowRow.holds Tryd.pinned (OpenSpec.ofChange noncesWindowWrong)

/-- 'chatelainelaw18.NoncesRow': WHATEVER THE INPUT: true; the input reads as it did. -/
def noncesRowSpec : ChangeSpec := { name := "noncesRow", fn := fun _ => fun
  | [d1, d2] => { results := [.lit (.bool true)], args := [d1, d2] }
  | _ => none }
def noncesRowRow : OpenClaim := { program := "ythliabidnboklaadoor", sum := "71879639333e236521c7b7dd07fcd6bbe6d2a7f5ce23db6c6136da01fc53c87d", func := "chatelaine/chatelainelaw18.NoncesRow", spec := "noncesRow", inPlace := ["internal/reflectlite.ValueOf", "(internal/reflectlite.Value).Type", "(internal/reflectlite.Value).IsNil", "internal/reflectlite.TypeOf", "(internal/reflectlite.Value).Elem", "(internal/reflectlite.Value).Set"], unfollowed := true, recurses := true, named := ["errors.errorType"], apart := false, laid := [("errors.errorType", laid_errors_errorType)] }
def NoncesRowSaid : Prop := noncesRowRow.holds Tryd.pinned (OpenSpec.ofChange noncesRowSpec)

/-- ITS FALSE NEIGHBOUR: 'it returns false'. Refute it at one input. -/
def noncesRowWrong : ChangeSpec := { name := "noncesRow", fn := fun _ => fun
  | [d1, d2] => { results := [.lit (.bool false)], args := [d1, d2] }
  | _ => none }
def NoncesRowWrongFalsely : Prop := noncesRowRow.holds Tryd.pinned (OpenSpec.ofChange noncesRowWrong)

/-- 'chatelainelaw16.TenantsTell': WHATEVER THE INPUT: true; the input reads as it did. -/
def tenantsTellSpec : ChangeSpec := { name := "tenantsTell", fn := fun _ => fun
  | [d1, d2, d3, d4, d5] => { results := [.lit (.bool true)], args := [d1, d2, d3, d4, d5] }
  | _ => none }
def tenantsTellRow : OpenClaim := { program := "ythliabidnboklaadoor", sum := "71879639333e236521c7b7dd07fcd6bbe6d2a7f5ce23db6c6136da01fc53c87d", func := "chatelaine/chatelainelaw16.TenantsTell", spec := "tenantsTell", inPlace := ["internal/reflectlite.ValueOf", "(internal/reflectlite.Value).Type", "(internal/reflectlite.Value).IsNil", "internal/reflectlite.TypeOf", "(internal/reflectlite.Value).Elem", "(internal/reflectlite.Value).Set"], unfollowed := true, recurses := true, named := ["errors.errorType"], apart := false, laid := [("errors.errorType", laid_errors_errorType)] }
def TenantsTellSaid : Prop := tenantsTellRow.holds Tryd.pinned (OpenSpec.ofChange tenantsTellSpec)

/-- ITS FALSE NEIGHBOUR: 'it returns false'. Refute it at one input. -/
def tenantsTellWrong : ChangeSpec := { name := "tenantsTell", fn := fun _ => fun
  | [d1, d2, d3, d4, d5] => { results := [.lit (.bool false)], args := [d1, d2, d3, d4, d5] }
  | _ => none }
def TenantsTellWrongFalsely : Prop := tenantsTellRow.holds Tryd.pinned (OpenSpec.ofChange tenantsTellWrong)

/-- 'chatelainelaw16.TenantsGrow': WHATEVER THE INPUT: true; the input reads as it did. -/
def tenantsGrowSpec : ChangeSpec := { name := "tenantsGrow", fn := fun _ => fun
  | [d1, d2, d3, d4, d5] => { results := [.lit (.bool true)], args := [d1, d2, d3, d4, d5] }
  | _ => none }
def tenantsGrowRow : OpenClaim := { program := "ythliabidnboklaadoor", sum := "71879639333e236521c7b7dd07fcd6bbe6d2a7f5ce23db6c6136da01fc53c87d", func := "chatelaine/chatelainelaw16.TenantsGrow", spec := "tenantsGrow", inPlace := ["internal/reflectlite.ValueOf", "(internal/reflectlite.Value).Type", "(internal/reflectlite.Value).IsNil", "internal/reflectlite.TypeOf", "(internal/reflectlite.Value).Elem", "(internal/reflectlite.Value).Set"], unfollowed := true, recurses := true, named := ["errors.errorType"], apart := false, laid := [("errors.errorType", laid_errors_errorType)] }
def TenantsGrowSaid : Prop := tenantsGrowRow.holds Tryd.pinned (OpenSpec.ofChange tenantsGrowSpec)

/-- ITS FALSE NEIGHBOUR: 'it returns false'. Refute it at one input. -/
def tenantsGrowWrong : ChangeSpec := { name := "tenantsGrow", fn := fun _ => fun
  | [d1, d2, d3, d4, d5] => { results := [.lit (.bool false)], args := [d1, d2, d3, d4, d5] }
  | _ => none }
def TenantsGrowWrongFalsely : Prop := tenantsGrowRow.holds Tryd.pinned (OpenSpec.ofChange tenantsGrowWrong)

/-- 'chatelainelaw16.TenantsDeep': WHATEVER THE INPUT: true; the input reads as it did. -/
def tenantsDeepSpec : ChangeSpec := { name := "tenantsDeep", fn := fun _ => fun
  | [d1, d2, d3, d4] => { results := [.lit (.bool true)], args := [d1, d2, d3, d4] }
  | _ => none }
def tenantsDeepRow : OpenClaim := { program := "ythliabidnboklaadoor", sum := "71879639333e236521c7b7dd07fcd6bbe6d2a7f5ce23db6c6136da01fc53c87d", func := "chatelaine/chatelainelaw16.TenantsDeep", spec := "tenantsDeep", inPlace := ["internal/reflectlite.ValueOf", "(internal/reflectlite.Value).Type", "(internal/reflectlite.Value).IsNil", "internal/reflectlite.TypeOf", "(internal/reflectlite.Value).Elem", "(internal/reflectlite.Value).Set"], unfollowed := true, recurses := true, named := ["errors.errorType"], apart := false, laid := [("errors.errorType", laid_errors_errorType)] }
def TenantsDeepSaid : Prop := tenantsDeepRow.holds Tryd.pinned (OpenSpec.ofChange tenantsDeepSpec)

/-- ITS FALSE NEIGHBOUR: 'it returns false'. Refute it at one input. -/
def tenantsDeepWrong : ChangeSpec := { name := "tenantsDeep", fn := fun _ => fun
  | [d1, d2, d3, d4] => { results := [.lit (.bool false)], args := [d1, d2, d3, d4] }
  | _ => none }
def TenantsDeepWrongFalsely : Prop := tenantsDeepRow.holds Tryd.pinned (OpenSpec.ofChange tenantsDeepWrong)

/-- 'chatelainelaw17.KeysCircle': WHATEVER THE INPUT: true; the input reads as it did. -/
def keysCircleSpec : ChangeSpec := { name := "keysCircle", fn := fun _ => fun
  | [d1, d2, d3, d4] => { results := [.lit (.bool true)], args := [d1, d2, d3, d4] }
  | _ => none }
def keysCircleRow : OpenClaim := { program := "ythliabidnboklaadoor", sum := "71879639333e236521c7b7dd07fcd6bbe6d2a7f5ce23db6c6136da01fc53c87d", func := "chatelaine/chatelainelaw17.KeysCircle", spec := "keysCircle", inPlace := ["internal/reflectlite.ValueOf", "(internal/reflectlite.Value).Type", "(internal/reflectlite.Value).IsNil", "internal/reflectlite.TypeOf", "(internal/reflectlite.Value).Elem", "(internal/reflectlite.Value).Set"], unfollowed := true, recurses := true, named := ["errors.errorType"], apart := false, laid := [("errors.errorType", laid_errors_errorType)] }
def KeysCircleSaid : Prop := keysCircleRow.holds Tryd.pinned (OpenSpec.ofChange keysCircleSpec)

/-- ITS FALSE NEIGHBOUR: 'it returns false'. Refute it at one input. -/
def keysCircleWrong : ChangeSpec := { name := "keysCircle", fn := fun _ => fun
  | [d1, d2, d3, d4] => { results := [.lit (.bool false)], args := [d1, d2, d3, d4] }
  | _ => none }
def KeysCircleWrongFalsely : Prop := keysCircleRow.holds Tryd.pinned (OpenSpec.ofChange keysCircleWrong)

/- THE SECOND FORM. 'bulk': how many values and letters a reading holds, each counted each time it is reached (what is shared counts as often as it is met; a slice's spare places count too). A statement '..UptoSaid' is the law's where the arguments, and the package variables that the reading takes, are together of bulk at most 1048576: NARROWER than '..Said'. Prove '..Said' where nothing that the law and all that it calls make is longer than what came in: it says more and counts as full. Else prove '..UptoSaid'. A law counts once. -/
mutual
def uptoBulk {H : Type} : DataW H → Nat
  | .lit (.string bytes) => bytes.length + 1
  | .lit _ => 1
  | .nil => 1
  | .ptr d => uptoBulk d + 1
  | .slice elems spare => uptoBulkAll elems + uptoBulkAll spare + 1
  | .agg parts => uptoBulkAll parts + 1
  | .iface _ d => uptoBulk d + 1
  | .map entries => uptoBulkEntries entries + 1
  | .held _ => 1
def uptoBulkAll {H : Type} : List (DataW H) → Nat
  | [] => 0
  | d :: r => uptoBulk d + uptoBulkAll r
def uptoBulkEntries {H : Type} : List (Lit × DataW H) → Nat
  | [] => 0
  | x :: r => uptoBulkEntry x + uptoBulkEntries r
def uptoBulkEntry {H : Type} : Lit × DataW H → Nat
  | (.string bytes, d) => bytes.length + uptoBulk d + 1
  | (_, d) => uptoBulk d + 1
 end
def uptoSmall : (H : Type) → List (DataW H) → Bool := fun _ ds => decide (uptoBulkAll ds ≤ 1048576)
def OpenSpec.upto (s : _root_.Go.ChangeSpec) : _root_.Go.OpenSpec := { _root_.Go.OpenSpec.ofChange s with cond := some uptoSmall }

/-- 'chatelainelaw18.NoncesTell', WHERE WHAT IT READS IS OF BULK AT MOST 1048576: true; the input reads as it did. -/
def noncesTellUptoRow : OpenClaim := { program := "ythliabidnboklaadoor", sum := "71879639333e236521c7b7dd07fcd6bbe6d2a7f5ce23db6c6136da01fc53c87d", func := "chatelaine/chatelainelaw18.NoncesTell", spec := "noncesTell", inPlace := ["internal/reflectlite.ValueOf", "(internal/reflectlite.Value).Type", "(internal/reflectlite.Value).IsNil", "internal/reflectlite.TypeOf", "(internal/reflectlite.Value).Elem", "(internal/reflectlite.Value).Set"], unfollowed := true, recurses := true, named := ["errors.errorType"], apart := false, laid := [("errors.errorType", laid_errors_errorType)], narrowed := true }
def NoncesTellUptoSaid : Prop := noncesTellUptoRow.holds Tryd.pinned (OpenSpec.upto noncesTellSpec)

/-- 'chatelainelaw18.NoncesOnce', WHERE WHAT IT READS IS OF BULK AT MOST 1048576: true; the input reads as it did. -/
def noncesOnceUptoRow : OpenClaim := { program := "ythliabidnboklaadoor", sum := "71879639333e236521c7b7dd07fcd6bbe6d2a7f5ce23db6c6136da01fc53c87d", func := "chatelaine/chatelainelaw18.NoncesOnce", spec := "noncesOnce", inPlace := ["internal/reflectlite.ValueOf", "(internal/reflectlite.Value).Type", "(internal/reflectlite.Value).IsNil", "internal/reflectlite.TypeOf", "(internal/reflectlite.Value).Elem", "(internal/reflectlite.Value).Set"], unfollowed := true, recurses := true, named := ["errors.errorType"], apart := false, laid := [("errors.errorType", laid_errors_errorType)], narrowed := true }
def NoncesOnceUptoSaid : Prop := noncesOnceUptoRow.holds Tryd.pinned (OpenSpec.upto noncesOnceSpec)

/-- 'chatelainelaw18.NoncesTurn', WHERE WHAT IT READS IS OF BULK AT MOST 1048576: true; the input reads as it did. -/
def noncesTurnUptoRow : OpenClaim := { program := "ythliabidnboklaadoor", sum := "71879639333e236521c7b7dd07fcd6bbe6d2a7f5ce23db6c6136da01fc53c87d", func := "chatelaine/chatelainelaw18.NoncesTurn", spec := "noncesTurn", inPlace := ["internal/reflectlite.ValueOf", "(internal/reflectlite.Value).Type", "(internal/reflectlite.Value).IsNil", "internal/reflectlite.TypeOf", "(internal/reflectlite.Value).Elem", "(internal/reflectlite.Value).Set"], unfollowed := true, recurses := true, named := ["errors.errorType"], apart := false, laid := [("errors.errorType", laid_errors_errorType)], narrowed := true }
def NoncesTurnUptoSaid : Prop := noncesTurnUptoRow.holds Tryd.pinned (OpenSpec.upto noncesTurnSpec)

/-- 'chatelainelaw18.NoncesWindow', WHERE WHAT IT READS IS OF BULK AT MOST 1048576: true; the input reads as it did. -/
def noncesWindowUptoRow : OpenClaim := { program := "ythliabidnboklaadoor", sum := "71879639333e236521c7b7dd07fcd6bbe6d2a7f5ce23db6c6136da01fc53c87d", func := "chatelaine/chatelainelaw18.NoncesWindow", spec := "noncesWindow", inPlace := ["internal/reflectlite.ValueOf", "(internal/reflectlite.Value).Type", "(internal/reflectlite.Value).IsNil", "internal/reflectlite.TypeOf", "(internal/reflectlite.Value).Elem", "(internal/reflectlite.Value).Set"], unfollowed := true, recurses := true, named := ["errors.errorType"], apart := false, laid := [("errors.errorType", laid_errors_errorType)], narrowed := true }
def NoncesWindowUptoSaid : Prop := noncesWindowUptoRow.holds Tryd.pinned (OpenSpec.upto noncesWindowSpec)

/-- 'chatelainelaw18.NoncesRow', WHERE WHAT IT READS IS OF BULK AT MOST 1048576: true; the input reads as it did. -/
def noncesRowUptoRow : OpenClaim := { program := "ythliabidnboklaadoor", sum := "71879639333e236521c7b7dd07fcd6bbe6d2a7f5ce23db6c6136da01fc53c87d", func := "chatelaine/chatelainelaw18.NoncesRow", spec := "noncesRow", inPlace := ["internal/reflectlite.ValueOf", "(internal/reflectlite.Value).Type", "(internal/reflectlite.Value).IsNil", "internal/reflectlite.TypeOf", "(internal/reflectlite.Value).Elem", "(internal/reflectlite.Value).Set"], unfollowed := true, recurses := true, named := ["errors.errorType"], apart := false, laid := [("errors.errorType", laid_errors_errorType)], narrowed := true }
def NoncesRowUptoSaid : Prop := noncesRowUptoRow.holds Tryd.pinned (OpenSpec.upto noncesRowSpec)

/-- 'chatelainelaw16.TenantsTell', WHERE WHAT IT READS IS OF BULK AT MOST 1048576: true; the input reads as it did. -/
def tenantsTellUptoRow : OpenClaim := { program := "ythliabidnboklaadoor", sum := "71879639333e236521c7b7dd07fcd6bbe6d2a7f5ce23db6c6136da01fc53c87d", func := "chatelaine/chatelainelaw16.TenantsTell", spec := "tenantsTell", inPlace := ["internal/reflectlite.ValueOf", "(internal/reflectlite.Value).Type", "(internal/reflectlite.Value).IsNil", "internal/reflectlite.TypeOf", "(internal/reflectlite.Value).Elem", "(internal/reflectlite.Value).Set"], unfollowed := true, recurses := true, named := ["errors.errorType"], apart := false, laid := [("errors.errorType", laid_errors_errorType)], narrowed := true }
def TenantsTellUptoSaid : Prop := tenantsTellUptoRow.holds Tryd.pinned (OpenSpec.upto tenantsTellSpec)

/-- 'chatelainelaw16.TenantsGrow', WHERE WHAT IT READS IS OF BULK AT MOST 1048576: true; the input reads as it did. -/
def tenantsGrowUptoRow : OpenClaim := { program := "ythliabidnboklaadoor", sum := "71879639333e236521c7b7dd07fcd6bbe6d2a7f5ce23db6c6136da01fc53c87d", func := "chatelaine/chatelainelaw16.TenantsGrow", spec := "tenantsGrow", inPlace := ["internal/reflectlite.ValueOf", "(internal/reflectlite.Value).Type", "(internal/reflectlite.Value).IsNil", "internal/reflectlite.TypeOf", "(internal/reflectlite.Value).Elem", "(internal/reflectlite.Value).Set"], unfollowed := true, recurses := true, named := ["errors.errorType"], apart := false, laid := [("errors.errorType", laid_errors_errorType)], narrowed := true }
def TenantsGrowUptoSaid : Prop := tenantsGrowUptoRow.holds Tryd.pinned (OpenSpec.upto tenantsGrowSpec)

/-- 'chatelainelaw16.TenantsDeep', WHERE WHAT IT READS IS OF BULK AT MOST 1048576: true; the input reads as it did. -/
def tenantsDeepUptoRow : OpenClaim := { program := "ythliabidnboklaadoor", sum := "71879639333e236521c7b7dd07fcd6bbe6d2a7f5ce23db6c6136da01fc53c87d", func := "chatelaine/chatelainelaw16.TenantsDeep", spec := "tenantsDeep", inPlace := ["internal/reflectlite.ValueOf", "(internal/reflectlite.Value).Type", "(internal/reflectlite.Value).IsNil", "internal/reflectlite.TypeOf", "(internal/reflectlite.Value).Elem", "(internal/reflectlite.Value).Set"], unfollowed := true, recurses := true, named := ["errors.errorType"], apart := false, laid := [("errors.errorType", laid_errors_errorType)], narrowed := true }
def TenantsDeepUptoSaid : Prop := tenantsDeepUptoRow.holds Tryd.pinned (OpenSpec.upto tenantsDeepSpec)

/-- 'chatelainelaw17.KeysCircle', WHERE WHAT IT READS IS OF BULK AT MOST 1048576: true; the input reads as it did. -/
def keysCircleUptoRow : OpenClaim := { program := "ythliabidnboklaadoor", sum := "71879639333e236521c7b7dd07fcd6bbe6d2a7f5ce23db6c6136da01fc53c87d", func := "chatelaine/chatelainelaw17.KeysCircle", spec := "keysCircle", inPlace := ["internal/reflectlite.ValueOf", "(internal/reflectlite.Value).Type", "(internal/reflectlite.Value).IsNil", "internal/reflectlite.TypeOf", "(internal/reflectlite.Value).Elem", "(internal/reflectlite.Value).Set"], unfollowed := true, recurses := true, named := ["errors.errorType"], apart := false, laid := [("errors.errorType", laid_errors_errorType)], narrowed := true }
def KeysCircleUptoSaid : Prop := keysCircleUptoRow.holds Tryd.pinned (OpenSpec.upto keysCircleSpec)

end Rows
end Go.Proofs.YthliabidnboklaaDoor
