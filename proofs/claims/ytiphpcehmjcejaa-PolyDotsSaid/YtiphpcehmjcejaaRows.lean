/-
  No cell of these rows narrows 'for every input' (looked for: loops, veiled, ifaces, maps, wideKeys, modest, calm, conditions, laid).
  DERIVED. THE GIVEN ROWS OF THIS SEAT. 14 by the template 'for every input the law returns true; each argument reads behind the call as it read before'; 0 by the template 'total and deterministic' (their statements: YtiphpcehmjcejaaTotals.lean).
  GIVEN WITH THE SEED: the statements are not yours to turn. If you find one false, say at which input.
  Laid BY PROGRAM, IN A SANDBOX (cutbox-rows.mjs): the forced cells as the released guide's own fill.sh prints them over the translation eba3399c52012cd6… (all of the seat's roots in one cut). By AI agents, Wed Nov 11 2026. No macro, syntax, notation, axiom, sorry.
-/
import Derived.Test.YtiphpcehmjcejaaChecked
import GoSem.Claim
import GoSem.ClaimJoined
import GoSem.ClaimMapViews
import Derived.JoinedTies
import Derived.KernelRfl
namespace Go.Proofs.Ytiphpcehmjcejaa
/- THE CELL 'sum', in the pinned program and in every row, IS THE sha256 OF THE DUMP (.gsa) THAT YtiphpcehmjcejaaProg.lean LOADS. Nothing in Lean hashes anything: it is a label: what it is worth is what the hold of that sum in a sandbox is worth. -/
noncomputable def Try.pinned : Pinned := { name := "ytiphpcehmjcejaa", sum := "eba3399c52012cd69e5806c04508aa4e7ce077c67dae4d17808d32c86086847e", checked := Try.checked }
namespace Rows
def none {H : Type} : Left H := { results := [], args := [] }

/-- 'chatelainelaw3.RingRises': WHATEVER THE INPUT: true; the input reads as it did. -/
def ringRisesSpec : ChangeSpec := { name := "ringRises", fn := fun _ => fun
  | [d1, d2, d3] => { results := [.lit (.bool true)], args := [d1, d2, d3] }
  | _ => none }
def ringRisesRow : OpenClaim := { program := "ytiphpcehmjcejaa", sum := "eba3399c52012cd69e5806c04508aa4e7ce077c67dae4d17808d32c86086847e", func := "chatelaine/chatelainelaw3.RingRises", spec := "ringRises", apart := false }
def RingRisesSaid : Prop := ringRisesRow.holds Try.pinned (OpenSpec.ofChange ringRisesSpec)

/-- ITS FALSE NEIGHBOUR: 'it returns false'. Refute it at one input. -/
def ringRisesWrong : ChangeSpec := { name := "ringRises", fn := fun _ => fun
  | [d1, d2, d3] => { results := [.lit (.bool false)], args := [d1, d2, d3] }
  | _ => none }
def RingRisesWrongFalsely : Prop := ringRisesRow.holds Try.pinned (OpenSpec.ofChange ringRisesWrong)

/-- 'chatelainelaw3.RingNear': WHATEVER THE INPUT: true; the input reads as it did. -/
def ringNearSpec : ChangeSpec := { name := "ringNear", fn := fun _ => fun
  | [d1, d2, d3] => { results := [.lit (.bool true)], args := [d1, d2, d3] }
  | _ => none }
def ringNearRow : OpenClaim := { program := "ytiphpcehmjcejaa", sum := "eba3399c52012cd69e5806c04508aa4e7ce077c67dae4d17808d32c86086847e", func := "chatelaine/chatelainelaw3.RingNear", spec := "ringNear", apart := false }
def RingNearSaid : Prop := ringNearRow.holds Try.pinned (OpenSpec.ofChange ringNearSpec)

/-- ITS FALSE NEIGHBOUR: 'it returns false'. Refute it at one input. -/
def ringNearWrong : ChangeSpec := { name := "ringNear", fn := fun _ => fun
  | [d1, d2, d3] => { results := [.lit (.bool false)], args := [d1, d2, d3] }
  | _ => none }
def RingNearWrongFalsely : Prop := ringNearRow.holds Try.pinned (OpenSpec.ofChange ringNearWrong)

/-- 'chatelainelaw3.RingRoots': WHATEVER THE INPUT: true; the input reads as it did. -/
def ringRootsSpec : ChangeSpec := { name := "ringRoots", fn := fun _ => fun
  | [d1, d2] => { results := [.lit (.bool true)], args := [d1, d2] }
  | _ => none }
def ringRootsRow : OpenClaim := { program := "ytiphpcehmjcejaa", sum := "eba3399c52012cd69e5806c04508aa4e7ce077c67dae4d17808d32c86086847e", func := "chatelaine/chatelainelaw3.RingRoots", spec := "ringRoots", apart := false }
def RingRootsSaid : Prop := ringRootsRow.holds Try.pinned (OpenSpec.ofChange ringRootsSpec)

/-- ITS FALSE NEIGHBOUR: 'it returns false'. Refute it at one input. -/
def ringRootsWrong : ChangeSpec := { name := "ringRoots", fn := fun _ => fun
  | [d1, d2] => { results := [.lit (.bool false)], args := [d1, d2] }
  | _ => none }
def RingRootsWrongFalsely : Prop := ringRootsRow.holds Try.pinned (OpenSpec.ofChange ringRootsWrong)

/-- 'chatelainelaw3.RingPowers': WHATEVER THE INPUT: true; the input reads as it did. -/
def ringPowersSpec : ChangeSpec := { name := "ringPowers", fn := fun _ => fun
  | [d1, d2, d3] => { results := [.lit (.bool true)], args := [d1, d2, d3] }
  | _ => none }
def ringPowersRow : OpenClaim := { program := "ytiphpcehmjcejaa", sum := "eba3399c52012cd69e5806c04508aa4e7ce077c67dae4d17808d32c86086847e", func := "chatelaine/chatelainelaw3.RingPowers", spec := "ringPowers", apart := false }
def RingPowersSaid : Prop := ringPowersRow.holds Try.pinned (OpenSpec.ofChange ringPowersSpec)

/-- ITS FALSE NEIGHBOUR: 'it returns false'. Refute it at one input. -/
def ringPowersWrong : ChangeSpec := { name := "ringPowers", fn := fun _ => fun
  | [d1, d2, d3] => { results := [.lit (.bool false)], args := [d1, d2, d3] }
  | _ => none }
def RingPowersWrongFalsely : Prop := ringPowersRow.holds Try.pinned (OpenSpec.ofChange ringPowersWrong)

/-- 'chatelainelaw3.RingTells': WHATEVER THE INPUT: true; the input reads as it did. -/
def ringTellsSpec : ChangeSpec := { name := "ringTells", fn := fun _ => fun
  | [d1, d2, d3] => { results := [.lit (.bool true)], args := [d1, d2, d3] }
  | _ => none }
def ringTellsRow : OpenClaim := { program := "ytiphpcehmjcejaa", sum := "eba3399c52012cd69e5806c04508aa4e7ce077c67dae4d17808d32c86086847e", func := "chatelaine/chatelainelaw3.RingTells", spec := "ringTells", apart := false }
def RingTellsSaid : Prop := ringTellsRow.holds Try.pinned (OpenSpec.ofChange ringTellsSpec)

/-- ITS FALSE NEIGHBOUR: 'it returns false'. Refute it at one input. -/
def ringTellsWrong : ChangeSpec := { name := "ringTells", fn := fun _ => fun
  | [d1, d2, d3] => { results := [.lit (.bool false)], args := [d1, d2, d3] }
  | _ => none }
def RingTellsWrongFalsely : Prop := ringTellsRow.holds Try.pinned (OpenSpec.ofChange ringTellsWrong)

/-- 'chatelainelaw3.RingLaws': WHATEVER THE INPUT: true; the input reads as it did. -/
def ringLawsSpec : ChangeSpec := { name := "ringLaws", fn := fun _ => fun
  | [d1, d2, d3] => { results := [.lit (.bool true)], args := [d1, d2, d3] }
  | _ => none }
def ringLawsRow : OpenClaim := { program := "ytiphpcehmjcejaa", sum := "eba3399c52012cd69e5806c04508aa4e7ce077c67dae4d17808d32c86086847e", func := "chatelaine/chatelainelaw3.RingLaws", spec := "ringLaws", apart := false }
def RingLawsSaid : Prop := ringLawsRow.holds Try.pinned (OpenSpec.ofChange ringLawsSpec)

/-- ITS FALSE NEIGHBOUR: 'it returns false'. Refute it at one input. -/
def ringLawsWrong : ChangeSpec := { name := "ringLaws", fn := fun _ => fun
  | [d1, d2, d3] => { results := [.lit (.bool false)], args := [d1, d2, d3] }
  | _ => none }
def RingLawsWrongFalsely : Prop := ringLawsRow.holds Try.pinned (OpenSpec.ofChange ringLawsWrong)

/-- 'chatelainelaw4.PolyUnits': WHATEVER THE INPUT: true; the input reads as it did. -/
def polyUnitsSpec : ChangeSpec := { name := "polyUnits", fn := fun _ => fun
  | [d] => { results := [.lit (.bool true)], args := [d] }
  | _ => none }
def polyUnitsRow : OpenClaim := { program := "ytiphpcehmjcejaa", sum := "eba3399c52012cd69e5806c04508aa4e7ce077c67dae4d17808d32c86086847e", func := "chatelaine/chatelainelaw4.PolyUnits", spec := "polyUnits", unfollowed := true, recurses := true, apart := false }
def PolyUnitsSaid : Prop := polyUnitsRow.holds Try.pinned (OpenSpec.ofChange polyUnitsSpec)

/-- ITS FALSE NEIGHBOUR: 'it returns false'. Refute it at one input. -/
def polyUnitsWrong : ChangeSpec := { name := "polyUnits", fn := fun _ => fun
  | [d] => { results := [.lit (.bool false)], args := [d] }
  | _ => none }
def PolyUnitsWrongFalsely : Prop := polyUnitsRow.holds Try.pinned (OpenSpec.ofChange polyUnitsWrong)

/-- 'chatelainelaw4.PolyBack': WHATEVER THE INPUT: true; the input reads as it did. -/
def polyBackSpec : ChangeSpec := { name := "polyBack", fn := fun _ => fun
  | [d1, d2] => { results := [.lit (.bool true)], args := [d1, d2] }
  | _ => none }
def polyBackRow : OpenClaim := { program := "ytiphpcehmjcejaa", sum := "eba3399c52012cd69e5806c04508aa4e7ce077c67dae4d17808d32c86086847e", func := "chatelaine/chatelainelaw4.PolyBack", spec := "polyBack", unfollowed := true, recurses := true, apart := false }
def PolyBackSaid : Prop := polyBackRow.holds Try.pinned (OpenSpec.ofChange polyBackSpec)

/-- ITS FALSE NEIGHBOUR: 'it returns false'. Refute it at one input. -/
def polyBackWrong : ChangeSpec := { name := "polyBack", fn := fun _ => fun
  | [d1, d2] => { results := [.lit (.bool false)], args := [d1, d2] }
  | _ => none }
def PolyBackWrongFalsely : Prop := polyBackRow.holds Try.pinned (OpenSpec.ofChange polyBackWrong)

/-- 'chatelainelaw4.PolyProducts': WHATEVER THE INPUT: true; the input reads as it did. -/
def polyProductsSpec : ChangeSpec := { name := "polyProducts", fn := fun _ => fun
  | [d1, d2, d3] => { results := [.lit (.bool true)], args := [d1, d2, d3] }
  | _ => none }
def polyProductsRow : OpenClaim := { program := "ytiphpcehmjcejaa", sum := "eba3399c52012cd69e5806c04508aa4e7ce077c67dae4d17808d32c86086847e", func := "chatelaine/chatelainelaw4.PolyProducts", spec := "polyProducts", unfollowed := true, recurses := true, apart := false }
def PolyProductsSaid : Prop := polyProductsRow.holds Try.pinned (OpenSpec.ofChange polyProductsSpec)

/-- ITS FALSE NEIGHBOUR: 'it returns false'. Refute it at one input. -/
def polyProductsWrong : ChangeSpec := { name := "polyProducts", fn := fun _ => fun
  | [d1, d2, d3] => { results := [.lit (.bool false)], args := [d1, d2, d3] }
  | _ => none }
def PolyProductsWrongFalsely : Prop := polyProductsRow.holds Try.pinned (OpenSpec.ofChange polyProductsWrong)

/-- 'chatelainelaw4.PolyTurns': WHATEVER THE INPUT: true; the input reads as it did. -/
def polyTurnsSpec : ChangeSpec := { name := "polyTurns", fn := fun _ => fun
  | [d1, d2] => { results := [.lit (.bool true)], args := [d1, d2] }
  | _ => none }
def polyTurnsRow : OpenClaim := { program := "ytiphpcehmjcejaa", sum := "eba3399c52012cd69e5806c04508aa4e7ce077c67dae4d17808d32c86086847e", func := "chatelaine/chatelainelaw4.PolyTurns", spec := "polyTurns", unfollowed := true, recurses := true, apart := false }
def PolyTurnsSaid : Prop := polyTurnsRow.holds Try.pinned (OpenSpec.ofChange polyTurnsSpec)

/-- ITS FALSE NEIGHBOUR: 'it returns false'. Refute it at one input. -/
def polyTurnsWrong : ChangeSpec := { name := "polyTurns", fn := fun _ => fun
  | [d1, d2] => { results := [.lit (.bool false)], args := [d1, d2] }
  | _ => none }
def PolyTurnsWrongFalsely : Prop := polyTurnsRow.holds Try.pinned (OpenSpec.ofChange polyTurnsWrong)

/-- 'chatelainelaw4.PolyTells': WHATEVER THE INPUT: true; the input reads as it did. -/
def polyTellsSpec : ChangeSpec := { name := "polyTells", fn := fun _ => fun
  | [d1, d2] => { results := [.lit (.bool true)], args := [d1, d2] }
  | _ => none }
def polyTellsRow : OpenClaim := { program := "ytiphpcehmjcejaa", sum := "eba3399c52012cd69e5806c04508aa4e7ce077c67dae4d17808d32c86086847e", func := "chatelaine/chatelainelaw4.PolyTells", spec := "polyTells", unfollowed := true, recurses := true, apart := false }
def PolyTellsSaid : Prop := polyTellsRow.holds Try.pinned (OpenSpec.ofChange polyTellsSpec)

/-- ITS FALSE NEIGHBOUR: 'it returns false'. Refute it at one input. -/
def polyTellsWrong : ChangeSpec := { name := "polyTells", fn := fun _ => fun
  | [d1, d2] => { results := [.lit (.bool false)], args := [d1, d2] }
  | _ => none }
def PolyTellsWrongFalsely : Prop := polyTellsRow.holds Try.pinned (OpenSpec.ofChange polyTellsWrong)

/-- 'chatelainelaw4.PolyPolys': WHATEVER THE INPUT: true; the input reads as it did. -/
def polyPolysSpec : ChangeSpec := { name := "polyPolys", fn := fun _ => fun
  | [d1, d2] => { results := [.lit (.bool true)], args := [d1, d2] }
  | _ => none }
def polyPolysRow : OpenClaim := { program := "ytiphpcehmjcejaa", sum := "eba3399c52012cd69e5806c04508aa4e7ce077c67dae4d17808d32c86086847e", func := "chatelaine/chatelainelaw4.PolyPolys", spec := "polyPolys", unfollowed := true, recurses := true, apart := false }
def PolyPolysSaid : Prop := polyPolysRow.holds Try.pinned (OpenSpec.ofChange polyPolysSpec)

/-- ITS FALSE NEIGHBOUR: 'it returns false'. Refute it at one input. -/
def polyPolysWrong : ChangeSpec := { name := "polyPolys", fn := fun _ => fun
  | [d1, d2] => { results := [.lit (.bool false)], args := [d1, d2] }
  | _ => none }
def PolyPolysWrongFalsely : Prop := polyPolysRow.holds Try.pinned (OpenSpec.ofChange polyPolysWrong)

/-- 'chatelainelaw4.PolyDots': WHATEVER THE INPUT: true; the input reads as it did. -/
def polyDotsSpec : ChangeSpec := { name := "polyDots", fn := fun _ => fun
  | [d1, d2, d3, d4] => { results := [.lit (.bool true)], args := [d1, d2, d3, d4] }
  | _ => none }
def polyDotsRow : OpenClaim := { program := "ytiphpcehmjcejaa", sum := "eba3399c52012cd69e5806c04508aa4e7ce077c67dae4d17808d32c86086847e", func := "chatelaine/chatelainelaw4.PolyDots", spec := "polyDots", unfollowed := true, recurses := true, apart := false }
def PolyDotsSaid : Prop := polyDotsRow.holds Try.pinned (OpenSpec.ofChange polyDotsSpec)

/-- ITS FALSE NEIGHBOUR: 'it returns false'. Refute it at one input. -/
def polyDotsWrong : ChangeSpec := { name := "polyDots", fn := fun _ => fun
  | [d1, d2, d3, d4] => { results := [.lit (.bool false)], args := [d1, d2, d3, d4] }
  | _ => none }
def PolyDotsWrongFalsely : Prop := polyDotsRow.holds Try.pinned (OpenSpec.ofChange polyDotsWrong)

/-- 'chatelainelaw4.PolyRing': WHATEVER THE INPUT: true; the input reads as it did. -/
def polyRingSpec : ChangeSpec := { name := "polyRing", fn := fun _ => fun
  | [d1, d2, d3] => { results := [.lit (.bool true)], args := [d1, d2, d3] }
  | _ => none }
def polyRingRow : OpenClaim := { program := "ytiphpcehmjcejaa", sum := "eba3399c52012cd69e5806c04508aa4e7ce077c67dae4d17808d32c86086847e", func := "chatelaine/chatelainelaw4.PolyRing", spec := "polyRing", unfollowed := true, recurses := true, apart := false }
def PolyRingSaid : Prop := polyRingRow.holds Try.pinned (OpenSpec.ofChange polyRingSpec)

/-- ITS FALSE NEIGHBOUR: 'it returns false'. Refute it at one input. -/
def polyRingWrong : ChangeSpec := { name := "polyRing", fn := fun _ => fun
  | [d1, d2, d3] => { results := [.lit (.bool false)], args := [d1, d2, d3] }
  | _ => none }
def PolyRingWrongFalsely : Prop := polyRingRow.holds Try.pinned (OpenSpec.ofChange polyRingWrong)

/- THE SECOND FORM. 'bulk': how many values and letters a reading holds, each counted each time it is reached (what is shared counts as often as it is met; a slice's spare places count too). A statement '..UptoSaid' is the law's where the arguments, and the package variables that the reading takes, are together of bulk at most 1048576: NARROWER than '..Said'. Prove '..Said' where nothing that the law and all that it calls make is longer than what came in: it says more and counts as full. Else prove '..UptoSaid'. A law counts once. -/
mutual
def uptoBulk {H : Type} : DataW H → Nat
  | .lit (.string bytes) => bytes.length + 1
  | .lit _ => 1
  | .nil => 1
  | .ptr d => uptoBulk d + 1
  | .slice elems spare => uptoBulkAll elems + uptoBulkAll spare + 1
  | .agg parts => uptoBulkAll parts + 1
  | .iface _ d => uptoBulk d + 1
  | .map entries => uptoBulkEntries entries + 1
  | .held _ => 1
def uptoBulkAll {H : Type} : List (DataW H) → Nat
  | [] => 0
  | d :: r => uptoBulk d + uptoBulkAll r
def uptoBulkEntries {H : Type} : List (Lit × DataW H) → Nat
  | [] => 0
  | x :: r => uptoBulkEntry x + uptoBulkEntries r
def uptoBulkEntry {H : Type} : Lit × DataW H → Nat
  | (.string bytes, d) => bytes.length + uptoBulk d + 1
  | (_, d) => uptoBulk d + 1
 end
def uptoSmall : (H : Type) → List (DataW H) → Bool := fun _ ds => decide (uptoBulkAll ds ≤ 1048576)
def OpenSpec.upto (s : _root_.Go.ChangeSpec) : _root_.Go.OpenSpec := { _root_.Go.OpenSpec.ofChange s with cond := some uptoSmall }

/-- 'chatelainelaw3.RingRises', WHERE WHAT IT READS IS OF BULK AT MOST 1048576: true; the input reads as it did. -/
def ringRisesUptoRow : OpenClaim := { program := "ytiphpcehmjcejaa", sum := "eba3399c52012cd69e5806c04508aa4e7ce077c67dae4d17808d32c86086847e", func := "chatelaine/chatelainelaw3.RingRises", spec := "ringRises", apart := false, narrowed := true }
def RingRisesUptoSaid : Prop := ringRisesUptoRow.holds Try.pinned (OpenSpec.upto ringRisesSpec)

/-- 'chatelainelaw3.RingNear', WHERE WHAT IT READS IS OF BULK AT MOST 1048576: true; the input reads as it did. -/
def ringNearUptoRow : OpenClaim := { program := "ytiphpcehmjcejaa", sum := "eba3399c52012cd69e5806c04508aa4e7ce077c67dae4d17808d32c86086847e", func := "chatelaine/chatelainelaw3.RingNear", spec := "ringNear", apart := false, narrowed := true }
def RingNearUptoSaid : Prop := ringNearUptoRow.holds Try.pinned (OpenSpec.upto ringNearSpec)

/-- 'chatelainelaw3.RingRoots', WHERE WHAT IT READS IS OF BULK AT MOST 1048576: true; the input reads as it did. -/
def ringRootsUptoRow : OpenClaim := { program := "ytiphpcehmjcejaa", sum := "eba3399c52012cd69e5806c04508aa4e7ce077c67dae4d17808d32c86086847e", func := "chatelaine/chatelainelaw3.RingRoots", spec := "ringRoots", apart := false, narrowed := true }
def RingRootsUptoSaid : Prop := ringRootsUptoRow.holds Try.pinned (OpenSpec.upto ringRootsSpec)

/-- 'chatelainelaw3.RingPowers', WHERE WHAT IT READS IS OF BULK AT MOST 1048576: true; the input reads as it did. -/
def ringPowersUptoRow : OpenClaim := { program := "ytiphpcehmjcejaa", sum := "eba3399c52012cd69e5806c04508aa4e7ce077c67dae4d17808d32c86086847e", func := "chatelaine/chatelainelaw3.RingPowers", spec := "ringPowers", apart := false, narrowed := true }
def RingPowersUptoSaid : Prop := ringPowersUptoRow.holds Try.pinned (OpenSpec.upto ringPowersSpec)

/-- 'chatelainelaw3.RingTells', WHERE WHAT IT READS IS OF BULK AT MOST 1048576: true; the input reads as it did. -/
def ringTellsUptoRow : OpenClaim := { program := "ytiphpcehmjcejaa", sum := "eba3399c52012cd69e5806c04508aa4e7ce077c67dae4d17808d32c86086847e", func := "chatelaine/chatelainelaw3.RingTells", spec := "ringTells", apart := false, narrowed := true }
def RingTellsUptoSaid : Prop := ringTellsUptoRow.holds Try.pinned (OpenSpec.upto ringTellsSpec)

/-- 'chatelainelaw3.RingLaws', WHERE WHAT IT READS IS OF BULK AT MOST 1048576: true; the input reads as it did. -/
def ringLawsUptoRow : OpenClaim := { program := "ytiphpcehmjcejaa", sum := "eba3399c52012cd69e5806c04508aa4e7ce077c67dae4d17808d32c86086847e", func := "chatelaine/chatelainelaw3.RingLaws", spec := "ringLaws", apart := false, narrowed := true }
def RingLawsUptoSaid : Prop := ringLawsUptoRow.holds Try.pinned (OpenSpec.upto ringLawsSpec)

/-- 'chatelainelaw4.PolyUnits', WHERE WHAT IT READS IS OF BULK AT MOST 1048576: true; the input reads as it did. -/
def polyUnitsUptoRow : OpenClaim := { program := "ytiphpcehmjcejaa", sum := "eba3399c52012cd69e5806c04508aa4e7ce077c67dae4d17808d32c86086847e", func := "chatelaine/chatelainelaw4.PolyUnits", spec := "polyUnits", unfollowed := true, recurses := true, apart := false, narrowed := true }
def PolyUnitsUptoSaid : Prop := polyUnitsUptoRow.holds Try.pinned (OpenSpec.upto polyUnitsSpec)

/-- 'chatelainelaw4.PolyBack', WHERE WHAT IT READS IS OF BULK AT MOST 1048576: true; the input reads as it did. -/
def polyBackUptoRow : OpenClaim := { program := "ytiphpcehmjcejaa", sum := "eba3399c52012cd69e5806c04508aa4e7ce077c67dae4d17808d32c86086847e", func := "chatelaine/chatelainelaw4.PolyBack", spec := "polyBack", unfollowed := true, recurses := true, apart := false, narrowed := true }
def PolyBackUptoSaid : Prop := polyBackUptoRow.holds Try.pinned (OpenSpec.upto polyBackSpec)

/-- 'chatelainelaw4.PolyProducts', WHERE WHAT IT READS IS OF BULK AT MOST 1048576: true; the input reads as it did. -/
def polyProductsUptoRow : OpenClaim := { program := "ytiphpcehmjcejaa", sum := "eba3399c52012cd69e5806c04508aa4e7ce077c67dae4d17808d32c86086847e", func := "chatelaine/chatelainelaw4.PolyProducts", spec := "polyProducts", unfollowed := true, recurses := true, apart := false, narrowed := true }
def PolyProductsUptoSaid : Prop := polyProductsUptoRow.holds Try.pinned (OpenSpec.upto polyProductsSpec)

/-- 'chatelainelaw4.PolyTurns', WHERE WHAT IT READS IS OF BULK AT MOST 1048576: true; the input reads as it did. -/
def polyTurnsUptoRow : OpenClaim := { program := "ytiphpcehmjcejaa", sum := "eba3399c52012cd69e5806c04508aa4e7ce077c67dae4d17808d32c86086847e", func := "chatelaine/chatelainelaw4.PolyTurns", spec := "polyTurns", unfollowed := true, recurses := true, apart := false, narrowed := true }
def PolyTurnsUptoSaid : Prop := polyTurnsUptoRow.holds Try.pinned (OpenSpec.upto polyTurnsSpec)

/-- 'chatelainelaw4.PolyTells', WHERE WHAT IT READS IS OF BULK AT MOST 1048576: true; the input reads as it did. -/
def polyTellsUptoRow : OpenClaim := { program := "ytiphpcehmjcejaa", sum := "eba3399c52012cd69e5806c04508aa4e7ce077c67dae4d17808d32c86086847e", func := "chatelaine/chatelainelaw4.PolyTells", spec := "polyTells", unfollowed := true, recurses := true, apart := false, narrowed := true }
def PolyTellsUptoSaid : Prop := polyTellsUptoRow.holds Try.pinned (OpenSpec.upto polyTellsSpec)

/-- 'chatelainelaw4.PolyPolys', WHERE WHAT IT READS IS OF BULK AT MOST 1048576: true; the input reads as it did. -/
def polyPolysUptoRow : OpenClaim := { program := "ytiphpcehmjcejaa", sum := "eba3399c52012cd69e5806c04508aa4e7ce077c67dae4d17808d32c86086847e", func := "chatelaine/chatelainelaw4.PolyPolys", spec := "polyPolys", unfollowed := true, recurses := true, apart := false, narrowed := true }
def PolyPolysUptoSaid : Prop := polyPolysUptoRow.holds Try.pinned (OpenSpec.upto polyPolysSpec)

/-- 'chatelainelaw4.PolyDots', WHERE WHAT IT READS IS OF BULK AT MOST 1048576: true; the input reads as it did. -/
def polyDotsUptoRow : OpenClaim := { program := "ytiphpcehmjcejaa", sum := "eba3399c52012cd69e5806c04508aa4e7ce077c67dae4d17808d32c86086847e", func := "chatelaine/chatelainelaw4.PolyDots", spec := "polyDots", unfollowed := true, recurses := true, apart := false, narrowed := true }
def PolyDotsUptoSaid : Prop := polyDotsUptoRow.holds Try.pinned (OpenSpec.upto polyDotsSpec)

/-- 'chatelainelaw4.PolyRing', WHERE WHAT IT READS IS OF BULK AT MOST 1048576: true; the input reads as it did. -/
def polyRingUptoRow : OpenClaim := { program := "ytiphpcehmjcejaa", sum := "eba3399c52012cd69e5806c04508aa4e7ce077c67dae4d17808d32c86086847e", func := "chatelaine/chatelainelaw4.PolyRing", spec := "polyRing", unfollowed := true, recurses := true, apart := false, narrowed := true }
def PolyRingUptoSaid : Prop := polyRingUptoRow.holds Try.pinned (OpenSpec.upto polyRingSpec)

end Rows
end Go.Proofs.Ytiphpcehmjcejaa
