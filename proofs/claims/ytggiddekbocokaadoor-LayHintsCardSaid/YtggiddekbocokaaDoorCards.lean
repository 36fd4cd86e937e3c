/-
  DERIVED. GIVEN WITH THE SEED: THE CARDS: each row of YtggiddekbocokaaDoorRows.lean that lists a variable, with what it lists TIED to the program's text (the seventh form; the later family's looks); each row that meets fmt, with fmt's text TOLD by the authors' own Lean function (tested against real Go, not proved from fmt's source: count such statements apart). THE CARD IS WHAT COUNTS. Prove the row's statement (the work); the ties are given (YtggiddekbocokaaDoorTie.lean); close each card by the builder's one call (the guide's Derived/Test/ToyasCard.lean, 'card_holds'). Laid BY PROGRAM, IN A SANDBOX (cutbox-door.mjs). By AI agents, Wed Nov 11 2026. No macro, syntax, notation, axiom, sorry.
-/
import Derived.Test.YtggiddekbocokaaDoorRows
import GoSem.ClaimSeven
namespace Go.Proofs.YtggiddekbocokaaDoor
namespace Rows

/-- THE TIED CARD OF 'chatelainelaw11.LayHigh'. -/
def layHighCard : Claim7 := { stood := { row := layHighRow, standIns := [], harness := (true, "5115da63cf87cc77afdb14a9d46f49779df7736e3e33054aa83b9e6e99b7866c"), looks := true }, kinds := [], alts := [], laidByText := true, laidKinds := [.handle], laidTests := true, laidLooks := .later }
def LayHighCardSaid : Prop := Claim7.holds Tryd.pinned (.plain (OpenSpec.ofChange layHighSpec)) layHighCard

/-- THE TIED CARD OF 'chatelainelaw11.LayPlaces'. -/
def layPlacesCard : Claim7 := { stood := { row := layPlacesRow, standIns := [], harness := (true, "5115da63cf87cc77afdb14a9d46f49779df7736e3e33054aa83b9e6e99b7866c"), looks := true }, kinds := [], alts := [], laidByText := true, laidKinds := [.handle], laidTests := true, laidLooks := .later }
def LayPlacesCardSaid : Prop := Claim7.holds Tryd.pinned (.plain (OpenSpec.ofChange layPlacesSpec)) layPlacesCard

/-- THE TIED CARD OF 'chatelainelaw11.LayHints'. -/
def layHintsCard : Claim7 := { stood := { row := layHintsRow, standIns := [], harness := (true, "5115da63cf87cc77afdb14a9d46f49779df7736e3e33054aa83b9e6e99b7866c"), looks := true }, kinds := [], alts := [], laidByText := true, laidKinds := [.handle], laidTests := true, laidLooks := .later }
def LayHintsCardSaid : Prop := Claim7.holds Tryd.pinned (.plain (OpenSpec.ofChange layHintsSpec)) layHintsCard

/-- THE SECOND FORM's CARD OF 'chatelainelaw11.LayHigh'. -/
def layHighUptoCard : Claim7 := { stood := { row := layHighUptoRow, standIns := [], harness := (true, "5115da63cf87cc77afdb14a9d46f49779df7736e3e33054aa83b9e6e99b7866c"), looks := true }, kinds := [], alts := [], laidByText := true, laidKinds := [.handle], laidTests := true, laidLooks := .later }
def LayHighUptoCardSaid : Prop := Claim7.holds Tryd.pinned (.plain (OpenSpec.upto layHighSpec)) layHighUptoCard

/-- THE SECOND FORM's CARD OF 'chatelainelaw11.LayPlaces'. -/
def layPlacesUptoCard : Claim7 := { stood := { row := layPlacesUptoRow, standIns := [], harness := (true, "5115da63cf87cc77afdb14a9d46f49779df7736e3e33054aa83b9e6e99b7866c"), looks := true }, kinds := [], alts := [], laidByText := true, laidKinds := [.handle], laidTests := true, laidLooks := .later }
def LayPlacesUptoCardSaid : Prop := Claim7.holds Tryd.pinned (.plain (OpenSpec.upto layPlacesSpec)) layPlacesUptoCard

/-- THE SECOND FORM's CARD OF 'chatelainelaw11.LayHints'. -/
def layHintsUptoCard : Claim7 := { stood := { row := layHintsUptoRow, standIns := [], harness := (true, "5115da63cf87cc77afdb14a9d46f49779df7736e3e33054aa83b9e6e99b7866c"), looks := true }, kinds := [], alts := [], laidByText := true, laidKinds := [.handle], laidTests := true, laidLooks := .later }
def LayHintsUptoCardSaid : Prop := Claim7.holds Tryd.pinned (.plain (OpenSpec.upto layHintsSpec)) layHintsUptoCard
end Rows
end Go.Proofs.YtggiddekbocokaaDoor
