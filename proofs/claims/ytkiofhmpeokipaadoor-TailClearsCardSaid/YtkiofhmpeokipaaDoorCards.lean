/-
  DERIVED. GIVEN WITH THE SEED: THE CARDS: each row of YtkiofhmpeokipaaDoorRows.lean that lists a variable, with what it lists TIED to the program's text (the seventh form; the later family's looks); each row that meets fmt, with fmt's text TOLD by the authors' own Lean function (tested against real Go, not proved from fmt's source: count such statements apart). THE CARD IS WHAT COUNTS. Prove the row's statement (the work); the ties are given (YtkiofhmpeokipaaDoorTie.lean); close each card by the builder's one call (the guide's Derived/Test/ToyasCard.lean, 'card_holds'). Laid BY PROGRAM, IN A SANDBOX (cutbox-door.mjs). By AI agents, Wed Nov 11 2026. No macro, syntax, notation, axiom, sorry.
-/
import Derived.Test.YtkiofhmpeokipaaDoorRows
import GoSem.ClaimSeven
namespace Go.Proofs.YtkiofhmpeokipaaDoor
namespace Rows

/-- THE TIED CARD OF 'chatelainelaw24.TailWrites'. -/
def tailWritesCard : Claim7 := { stood := { row := tailWritesRow, standIns := [], harness := (true, "b692eb77f7f00c9b6ca092176b7a7e81a3d7bff61161d5ed03939811d64b70f5"), looks := true }, kinds := [], alts := [], laidByText := true, laidKinds := [.handle], laidTests := true, laidLooks := .later }
def TailWritesCardSaid : Prop := Claim7.holds Tryd.pinned (.plain (OpenSpec.ofChange tailWritesSpec)) tailWritesCard

/-- THE TIED CARD OF 'chatelainelaw24.TailClears'. -/
def tailClearsCard : Claim7 := { stood := { row := tailClearsRow, standIns := [], harness := (true, "b692eb77f7f00c9b6ca092176b7a7e81a3d7bff61161d5ed03939811d64b70f5"), looks := true }, kinds := [], alts := [], laidByText := true, laidKinds := [.handle], laidTests := true, laidLooks := .later }
def TailClearsCardSaid : Prop := Claim7.holds Tryd.pinned (.plain (OpenSpec.ofChange tailClearsSpec)) tailClearsCard

/-- THE SECOND FORM's CARD OF 'chatelainelaw24.TailWrites'. -/
def tailWritesUptoCard : Claim7 := { stood := { row := tailWritesUptoRow, standIns := [], harness := (true, "b692eb77f7f00c9b6ca092176b7a7e81a3d7bff61161d5ed03939811d64b70f5"), looks := true }, kinds := [], alts := [], laidByText := true, laidKinds := [.handle], laidTests := true, laidLooks := .later }
def TailWritesUptoCardSaid : Prop := Claim7.holds Tryd.pinned (.plain (OpenSpec.upto tailWritesSpec)) tailWritesUptoCard

/-- THE SECOND FORM's CARD OF 'chatelainelaw24.TailClears'. -/
def tailClearsUptoCard : Claim7 := { stood := { row := tailClearsUptoRow, standIns := [], harness := (true, "b692eb77f7f00c9b6ca092176b7a7e81a3d7bff61161d5ed03939811d64b70f5"), looks := true }, kinds := [], alts := [], laidByText := true, laidKinds := [.handle], laidTests := true, laidLooks := .later }
def TailClearsUptoCardSaid : Prop := Claim7.holds Tryd.pinned (.plain (OpenSpec.upto tailClearsSpec)) tailClearsUptoCard
end Rows
end Go.Proofs.YtkiofhmpeokipaaDoor
