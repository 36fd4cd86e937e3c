/-
  DERIVED. GIVEN WITH THE SEED: THE CARDS: each row of YtagijaijjjaolaaDoorRows.lean that lists a variable, with what it lists TIED to the program's text (the seventh form; the later family's looks); each row that meets fmt, with fmt's text TOLD by the authors' own Lean function (tested against real Go, not proved from fmt's source: count such statements apart). THE CARD IS WHAT COUNTS. Prove the row's statement (the work); the ties are given (YtagijaijjjaolaaDoorTie.lean); close each card by the builder's one call (the guide's Derived/Test/ToyasCard.lean, 'card_holds'). Laid BY PROGRAM, IN A SANDBOX (cutbox-door.mjs). By AI agents, Wed Nov 11 2026. No macro, syntax, notation, axiom, sorry.
-/
import Derived.Test.YtagijaijjjaolaaDoorRows
import GoSem.ClaimSeven
namespace Go.Proofs.YtagijaijjjaolaaDoor
namespace Rows

/-- THE TIED CARD OF 'chatelainelaw23.BlockFirm'. -/
def blockFirmCard : Claim7 := { stood := { row := blockFirmRow, standIns := [], harness := (true, "dcfb7651b31e0148e89a13cdffb6ecfe8097c875c3a4cdc636f45f3f8ae4d039"), looks := true }, kinds := [], alts := [], laidByText := true, laidKinds := [.handle], laidTests := true, laidLooks := .later }
def BlockFirmCardSaid : Prop := Claim7.holds Tryd.pinned (.plain (OpenSpec.ofChange blockFirmSpec)) blockFirmCard

/-- THE TIED CARD OF 'chatelainelaw23.BlockScript'. -/
def blockScriptCard : Claim7 := { stood := { row := blockScriptRow, standIns := [], harness := (true, "dcfb7651b31e0148e89a13cdffb6ecfe8097c875c3a4cdc636f45f3f8ae4d039"), looks := true }, kinds := [], alts := [], laidByText := true, laidKinds := [.handle], laidTests := true, laidLooks := .later }
def BlockScriptCardSaid : Prop := Claim7.holds Tryd.pinned (.plain (OpenSpec.ofChange blockScriptSpec)) blockScriptCard

/-- THE TIED CARD OF 'chatelainelaw23.BlockNone'. -/
def blockNoneCard : Claim7 := { stood := { row := blockNoneRow, standIns := [], harness := (true, "dcfb7651b31e0148e89a13cdffb6ecfe8097c875c3a4cdc636f45f3f8ae4d039"), looks := true }, kinds := [], alts := [], laidByText := true, laidKinds := [.handle], laidTests := true, laidLooks := .later }
def BlockNoneCardSaid : Prop := Claim7.holds Tryd.pinned (.plain (OpenSpec.ofChange blockNoneSpec)) blockNoneCard

/-- THE TIED CARD OF 'chatelainelaw23.BlockCopies'. -/
def blockCopiesCard : Claim7 := { stood := { row := blockCopiesRow, standIns := [], harness := (true, "dcfb7651b31e0148e89a13cdffb6ecfe8097c875c3a4cdc636f45f3f8ae4d039"), looks := true }, kinds := [], alts := [], laidByText := true, laidKinds := [.handle], laidTests := true, laidLooks := .later }
def BlockCopiesCardSaid : Prop := Claim7.holds Tryd.pinned (.plain (OpenSpec.ofChange blockCopiesSpec)) blockCopiesCard

/-- THE TIED CARD OF 'chatelainelaw23.BlockKeeps'. -/
def blockKeepsCard : Claim7 := { stood := { row := blockKeepsRow, standIns := [], harness := (true, "dcfb7651b31e0148e89a13cdffb6ecfe8097c875c3a4cdc636f45f3f8ae4d039"), looks := true }, kinds := [], alts := [], laidByText := true, laidKinds := [.handle], laidTests := true, laidLooks := .later }
def BlockKeepsCardSaid : Prop := Claim7.holds Tryd.pinned (.plain (OpenSpec.ofChange blockKeepsSpec)) blockKeepsCard

/-- THE SECOND FORM's CARD OF 'chatelainelaw23.BlockFirm'. -/
def blockFirmUptoCard : Claim7 := { stood := { row := blockFirmUptoRow, standIns := [], harness := (true, "dcfb7651b31e0148e89a13cdffb6ecfe8097c875c3a4cdc636f45f3f8ae4d039"), looks := true }, kinds := [], alts := [], laidByText := true, laidKinds := [.handle], laidTests := true, laidLooks := .later }
def BlockFirmUptoCardSaid : Prop := Claim7.holds Tryd.pinned (.plain (OpenSpec.upto blockFirmSpec)) blockFirmUptoCard

/-- THE SECOND FORM's CARD OF 'chatelainelaw23.BlockScript'. -/
def blockScriptUptoCard : Claim7 := { stood := { row := blockScriptUptoRow, standIns := [], harness := (true, "dcfb7651b31e0148e89a13cdffb6ecfe8097c875c3a4cdc636f45f3f8ae4d039"), looks := true }, kinds := [], alts := [], laidByText := true, laidKinds := [.handle], laidTests := true, laidLooks := .later }
def BlockScriptUptoCardSaid : Prop := Claim7.holds Tryd.pinned (.plain (OpenSpec.upto blockScriptSpec)) blockScriptUptoCard

/-- THE SECOND FORM's CARD OF 'chatelainelaw23.BlockNone'. -/
def blockNoneUptoCard : Claim7 := { stood := { row := blockNoneUptoRow, standIns := [], harness := (true, "dcfb7651b31e0148e89a13cdffb6ecfe8097c875c3a4cdc636f45f3f8ae4d039"), looks := true }, kinds := [], alts := [], laidByText := true, laidKinds := [.handle], laidTests := true, laidLooks := .later }
def BlockNoneUptoCardSaid : Prop := Claim7.holds Tryd.pinned (.plain (OpenSpec.upto blockNoneSpec)) blockNoneUptoCard

/-- THE SECOND FORM's CARD OF 'chatelainelaw23.BlockCopies'. -/
def blockCopiesUptoCard : Claim7 := { stood := { row := blockCopiesUptoRow, standIns := [], harness := (true, "dcfb7651b31e0148e89a13cdffb6ecfe8097c875c3a4cdc636f45f3f8ae4d039"), looks := true }, kinds := [], alts := [], laidByText := true, laidKinds := [.handle], laidTests := true, laidLooks := .later }
def BlockCopiesUptoCardSaid : Prop := Claim7.holds Tryd.pinned (.plain (OpenSpec.upto blockCopiesSpec)) blockCopiesUptoCard

/-- THE SECOND FORM's CARD OF 'chatelainelaw23.BlockKeeps'. -/
def blockKeepsUptoCard : Claim7 := { stood := { row := blockKeepsUptoRow, standIns := [], harness := (true, "dcfb7651b31e0148e89a13cdffb6ecfe8097c875c3a4cdc636f45f3f8ae4d039"), looks := true }, kinds := [], alts := [], laidByText := true, laidKinds := [.handle], laidTests := true, laidLooks := .later }
def BlockKeepsUptoCardSaid : Prop := Claim7.holds Tryd.pinned (.plain (OpenSpec.upto blockKeepsSpec)) blockKeepsUptoCard
end Rows
end Go.Proofs.YtagijaijjjaolaaDoor
