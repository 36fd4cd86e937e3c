/-
  DERIVED. GIVEN WITH THE SEED: THE CARDS: each row of YtkdfcgihgndnnaaDoorRows.lean that lists a variable, with what it lists TIED to the program's text (the seventh form; the later family's looks); each row that meets fmt, with fmt's text TOLD by the authors' own Lean function (tested against real Go, not proved from fmt's source: count such statements apart). THE CARD IS WHAT COUNTS. Prove the row's statement (the work); the ties are given (YtkdfcgihgndnnaaDoorTie.lean); close each card by the builder's one call (the guide's Derived/Test/ToyasCard.lean, 'card_holds'). Laid BY PROGRAM, IN A SANDBOX (cutbox-door.mjs). By AI agents, Wed Nov 11 2026. No macro, syntax, notation, axiom, sorry.
-/
import Derived.Test.YtkdfcgihgndnnaaDoorRows
import GoSem.ClaimSeven
namespace Go.Proofs.YtkdfcgihgndnnaaDoor
namespace Rows

/-- THE TIED CARD OF 'chatelainelaw8.KemParts'. -/
def kemPartsCard : Claim7 := { stood := { row := kemPartsRow, standIns := [], harness := (true, "43919e8bb25bb960b57fdf752387ed2da7ac19ea8b318a54b250be5cdd04581a"), looks := true }, kinds := [], alts := [], laidByText := true, laidKinds := [.handle], laidTests := true, laidLooks := .later }
def KemPartsCardSaid : Prop := Claim7.holds Tryd.pinned (.plain (OpenSpec.ofChange kemPartsSpec)) kemPartsCard

/-- THE TIED CARD OF 'chatelainelaw7.PkeParts'. -/
def pkePartsCard : Claim7 := { stood := { row := pkePartsRow, standIns := [], harness := (true, "43919e8bb25bb960b57fdf752387ed2da7ac19ea8b318a54b250be5cdd04581a"), looks := true }, kinds := [], alts := [], laidByText := true, laidKinds := [.handle], laidTests := true, laidLooks := .later }
def PkePartsCardSaid : Prop := Claim7.holds Tryd.pinned (.plain (OpenSpec.ofChange pkePartsSpec)) pkePartsCard

/-- THE SECOND FORM's CARD OF 'chatelainelaw8.KemParts'. -/
def kemPartsUptoCard : Claim7 := { stood := { row := kemPartsUptoRow, standIns := [], harness := (true, "43919e8bb25bb960b57fdf752387ed2da7ac19ea8b318a54b250be5cdd04581a"), looks := true }, kinds := [], alts := [], laidByText := true, laidKinds := [.handle], laidTests := true, laidLooks := .later }
def KemPartsUptoCardSaid : Prop := Claim7.holds Tryd.pinned (.plain (OpenSpec.upto kemPartsSpec)) kemPartsUptoCard

/-- THE SECOND FORM's CARD OF 'chatelainelaw7.PkeParts'. -/
def pkePartsUptoCard : Claim7 := { stood := { row := pkePartsUptoRow, standIns := [], harness := (true, "43919e8bb25bb960b57fdf752387ed2da7ac19ea8b318a54b250be5cdd04581a"), looks := true }, kinds := [], alts := [], laidByText := true, laidKinds := [.handle], laidTests := true, laidLooks := .later }
def PkePartsUptoCardSaid : Prop := Claim7.holds Tryd.pinned (.plain (OpenSpec.upto pkePartsSpec)) pkePartsUptoCard
end Rows
end Go.Proofs.YtkdfcgihgndnnaaDoor
