/-
  DERIVED. GIVEN WITH THE SEED: THE CARDS: each row of YthliabidnboklaaDoorRows.lean that lists a variable, with what it lists TIED to the program's text (the seventh form; the later family's looks); each row that meets fmt, with fmt's text TOLD by the authors' own Lean function (tested against real Go, not proved from fmt's source: count such statements apart). THE CARD IS WHAT COUNTS. Prove the row's statement (the work); the ties are given (YthliabidnboklaaDoorTie.lean); close each card by the builder's one call (the guide's Derived/Test/ToyasCard.lean, 'card_holds'). Laid BY PROGRAM, IN A SANDBOX (cutbox-door.mjs). By AI agents, Wed Nov 11 2026. No macro, syntax, notation, axiom, sorry.
-/
import Derived.Test.YthliabidnboklaaDoorRows
import GoSem.ClaimSeven
namespace Go.Proofs.YthliabidnboklaaDoor
namespace Rows

/-- THE TIED CARD OF 'chatelainelaw18.NoncesTell'. -/
def noncesTellCard : Claim7 := { stood := { row := noncesTellRow, standIns := [], harness := (true, "95c67f082eb2912f7696f5c9a678360ca5db1608ee11ecc1166c737dd2e61a50"), looks := true }, kinds := [], alts := [], laidByText := true, laidKinds := [.handle], laidTests := true, laidLooks := .later }
def NoncesTellCardSaid : Prop := Claim7.holds Tryd.pinned (.plain (OpenSpec.ofChange noncesTellSpec)) noncesTellCard

/-- THE TIED CARD OF 'chatelainelaw18.NoncesOnce'. -/
def noncesOnceCard : Claim7 := { stood := { row := noncesOnceRow, standIns := [], harness := (true, "95c67f082eb2912f7696f5c9a678360ca5db1608ee11ecc1166c737dd2e61a50"), looks := true }, kinds := [], alts := [], laidByText := true, laidKinds := [.handle], laidTests := true, laidLooks := .later }
def NoncesOnceCardSaid : Prop := Claim7.holds Tryd.pinned (.plain (OpenSpec.ofChange noncesOnceSpec)) noncesOnceCard

/-- THE TIED CARD OF 'chatelainelaw18.NoncesTurn'. -/
def noncesTurnCard : Claim7 := { stood := { row := noncesTurnRow, standIns := [], harness := (true, "95c67f082eb2912f7696f5c9a678360ca5db1608ee11ecc1166c737dd2e61a50"), looks := true }, kinds := [], alts := [], laidByText := true, laidKinds := [.handle], laidTests := true, laidLooks := .later }
def NoncesTurnCardSaid : Prop := Claim7.holds Tryd.pinned (.plain (OpenSpec.ofChange noncesTurnSpec)) noncesTurnCard

/-- THE TIED CARD OF 'chatelainelaw18.NoncesWindow'. -/
def noncesWindowCard : Claim7 := { stood := { row := noncesWindowRow, standIns := [], harness := (true, "95c67f082eb2912f7696f5c9a678360ca5db1608ee11ecc1166c737dd2e61a50"), looks := true }, kinds := [], alts := [], laidByText := true, laidKinds := [.handle], laidTests := true, laidLooks := .later }
def NoncesWindowCardSaid : Prop := Claim7.holds Tryd.pinned (.plain (OpenSpec.ofChange noncesWindowSpec)) noncesWindowCard

/-- THE TIED CARD OF 'chatelainelaw18.NoncesRow'. -/
def noncesRowCard : Claim7 := { stood := { row := noncesRowRow, standIns := [], harness := (true, "95c67f082eb2912f7696f5c9a678360ca5db1608ee11ecc1166c737dd2e61a50"), looks := true }, kinds := [], alts := [], laidByText := true, laidKinds := [.handle], laidTests := true, laidLooks := .later }
def NoncesRowCardSaid : Prop := Claim7.holds Tryd.pinned (.plain (OpenSpec.ofChange noncesRowSpec)) noncesRowCard

/-- THE TIED CARD OF 'chatelainelaw16.TenantsTell'. -/
def tenantsTellCard : Claim7 := { stood := { row := tenantsTellRow, standIns := [], harness := (true, "95c67f082eb2912f7696f5c9a678360ca5db1608ee11ecc1166c737dd2e61a50"), looks := true }, kinds := [], alts := [], laidByText := true, laidKinds := [.handle], laidTests := true, laidLooks := .later }
def TenantsTellCardSaid : Prop := Claim7.holds Tryd.pinned (.plain (OpenSpec.ofChange tenantsTellSpec)) tenantsTellCard

/-- THE TIED CARD OF 'chatelainelaw16.TenantsGrow'. -/
def tenantsGrowCard : Claim7 := { stood := { row := tenantsGrowRow, standIns := [], harness := (true, "95c67f082eb2912f7696f5c9a678360ca5db1608ee11ecc1166c737dd2e61a50"), looks := true }, kinds := [], alts := [], laidByText := true, laidKinds := [.handle], laidTests := true, laidLooks := .later }
def TenantsGrowCardSaid : Prop := Claim7.holds Tryd.pinned (.plain (OpenSpec.ofChange tenantsGrowSpec)) tenantsGrowCard

/-- THE TIED CARD OF 'chatelainelaw16.TenantsDeep'. -/
def tenantsDeepCard : Claim7 := { stood := { row := tenantsDeepRow, standIns := [], harness := (true, "95c67f082eb2912f7696f5c9a678360ca5db1608ee11ecc1166c737dd2e61a50"), looks := true }, kinds := [], alts := [], laidByText := true, laidKinds := [.handle], laidTests := true, laidLooks := .later }
def TenantsDeepCardSaid : Prop := Claim7.holds Tryd.pinned (.plain (OpenSpec.ofChange tenantsDeepSpec)) tenantsDeepCard

/-- THE TIED CARD OF 'chatelainelaw17.KeysCircle'. -/
def keysCircleCard : Claim7 := { stood := { row := keysCircleRow, standIns := [], harness := (true, "95c67f082eb2912f7696f5c9a678360ca5db1608ee11ecc1166c737dd2e61a50"), looks := true }, kinds := [], alts := [], laidByText := true, laidKinds := [.handle], laidTests := true, laidLooks := .later }
def KeysCircleCardSaid : Prop := Claim7.holds Tryd.pinned (.plain (OpenSpec.ofChange keysCircleSpec)) keysCircleCard

/-- THE SECOND FORM's CARD OF 'chatelainelaw18.NoncesTell'. -/
def noncesTellUptoCard : Claim7 := { stood := { row := noncesTellUptoRow, standIns := [], harness := (true, "95c67f082eb2912f7696f5c9a678360ca5db1608ee11ecc1166c737dd2e61a50"), looks := true }, kinds := [], alts := [], laidByText := true, laidKinds := [.handle], laidTests := true, laidLooks := .later }
def NoncesTellUptoCardSaid : Prop := Claim7.holds Tryd.pinned (.plain (OpenSpec.upto noncesTellSpec)) noncesTellUptoCard

/-- THE SECOND FORM's CARD OF 'chatelainelaw18.NoncesOnce'. -/
def noncesOnceUptoCard : Claim7 := { stood := { row := noncesOnceUptoRow, standIns := [], harness := (true, "95c67f082eb2912f7696f5c9a678360ca5db1608ee11ecc1166c737dd2e61a50"), looks := true }, kinds := [], alts := [], laidByText := true, laidKinds := [.handle], laidTests := true, laidLooks := .later }
def NoncesOnceUptoCardSaid : Prop := Claim7.holds Tryd.pinned (.plain (OpenSpec.upto noncesOnceSpec)) noncesOnceUptoCard

/-- THE SECOND FORM's CARD OF 'chatelainelaw18.NoncesTurn'. -/
def noncesTurnUptoCard : Claim7 := { stood := { row := noncesTurnUptoRow, standIns := [], harness := (true, "95c67f082eb2912f7696f5c9a678360ca5db1608ee11ecc1166c737dd2e61a50"), looks := true }, kinds := [], alts := [], laidByText := true, laidKinds := [.handle], laidTests := true, laidLooks := .later }
def NoncesTurnUptoCardSaid : Prop := Claim7.holds Tryd.pinned (.plain (OpenSpec.upto noncesTurnSpec)) noncesTurnUptoCard

/-- THE SECOND FORM's CARD OF 'chatelainelaw18.NoncesWindow'. -/
def noncesWindowUptoCard : Claim7 := { stood := { row := noncesWindowUptoRow, standIns := [], harness := (true, "95c67f082eb2912f7696f5c9a678360ca5db1608ee11ecc1166c737dd2e61a50"), looks := true }, kinds := [], alts := [], laidByText := true, laidKinds := [.handle], laidTests := true, laidLooks := .later }
def NoncesWindowUptoCardSaid : Prop := Claim7.holds Tryd.pinned (.plain (OpenSpec.upto noncesWindowSpec)) noncesWindowUptoCard

/-- THE SECOND FORM's CARD OF 'chatelainelaw18.NoncesRow'. -/
def noncesRowUptoCard : Claim7 := { stood := { row := noncesRowUptoRow, standIns := [], harness := (true, "95c67f082eb2912f7696f5c9a678360ca5db1608ee11ecc1166c737dd2e61a50"), looks := true }, kinds := [], alts := [], laidByText := true, laidKinds := [.handle], laidTests := true, laidLooks := .later }
def NoncesRowUptoCardSaid : Prop := Claim7.holds Tryd.pinned (.plain (OpenSpec.upto noncesRowSpec)) noncesRowUptoCard

/-- THE SECOND FORM's CARD OF 'chatelainelaw16.TenantsTell'. -/
def tenantsTellUptoCard : Claim7 := { stood := { row := tenantsTellUptoRow, standIns := [], harness := (true, "95c67f082eb2912f7696f5c9a678360ca5db1608ee11ecc1166c737dd2e61a50"), looks := true }, kinds := [], alts := [], laidByText := true, laidKinds := [.handle], laidTests := true, laidLooks := .later }
def TenantsTellUptoCardSaid : Prop := Claim7.holds Tryd.pinned (.plain (OpenSpec.upto tenantsTellSpec)) tenantsTellUptoCard

/-- THE SECOND FORM's CARD OF 'chatelainelaw16.TenantsGrow'. -/
def tenantsGrowUptoCard : Claim7 := { stood := { row := tenantsGrowUptoRow, standIns := [], harness := (true, "95c67f082eb2912f7696f5c9a678360ca5db1608ee11ecc1166c737dd2e61a50"), looks := true }, kinds := [], alts := [], laidByText := true, laidKinds := [.handle], laidTests := true, laidLooks := .later }
def TenantsGrowUptoCardSaid : Prop := Claim7.holds Tryd.pinned (.plain (OpenSpec.upto tenantsGrowSpec)) tenantsGrowUptoCard

/-- THE SECOND FORM's CARD OF 'chatelainelaw16.TenantsDeep'. -/
def tenantsDeepUptoCard : Claim7 := { stood := { row := tenantsDeepUptoRow, standIns := [], harness := (true, "95c67f082eb2912f7696f5c9a678360ca5db1608ee11ecc1166c737dd2e61a50"), looks := true }, kinds := [], alts := [], laidByText := true, laidKinds := [.handle], laidTests := true, laidLooks := .later }
def TenantsDeepUptoCardSaid : Prop := Claim7.holds Tryd.pinned (.plain (OpenSpec.upto tenantsDeepSpec)) tenantsDeepUptoCard

/-- THE SECOND FORM's CARD OF 'chatelainelaw17.KeysCircle'. -/
def keysCircleUptoCard : Claim7 := { stood := { row := keysCircleUptoRow, standIns := [], harness := (true, "95c67f082eb2912f7696f5c9a678360ca5db1608ee11ecc1166c737dd2e61a50"), looks := true }, kinds := [], alts := [], laidByText := true, laidKinds := [.handle], laidTests := true, laidLooks := .later }
def KeysCircleUptoCardSaid : Prop := Claim7.holds Tryd.pinned (.plain (OpenSpec.upto keysCircleSpec)) keysCircleUptoCard
end Rows
end Go.Proofs.YthliabidnboklaaDoor
