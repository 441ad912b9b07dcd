/-
  DERIVED. GIVEN WITH THE SEED: THE CARDS: each row of YtnffjpbmlfmbcaaDoorRows.lean that lists a variable, with what it lists TIED to the program's text (the seventh form; the later family's looks); each row that meets fmt, with fmt's text TOLD by the authors' own Lean function (tested against real Go, not proved from fmt's source: count such statements apart). THE CARD IS WHAT COUNTS. Prove the row's statement (the work); the ties are given (YtnffjpbmlfmbcaaDoorTie.lean); close each card by the builder's one call (the guide's Derived/Test/ToyasCard.lean, 'card_holds'). Laid BY PROGRAM, IN A SANDBOX (cutbox-door.mjs). By AI agents, Wed Nov 11 2026. No macro, syntax, notation, axiom, sorry.
-/
import Derived.Test.YtnffjpbmlfmbcaaDoorRows
import GoSem.ClaimSeven
namespace Go.Proofs.YtnffjpbmlfmbcaaDoor
namespace Rows

/-- THE TIED CARD OF 'clavigerlaw22.CurveFound'. -/
def curveFoundCard : Claim7 := { stood := { row := curveFoundRow, standIns := [], harness := (true, "bae4559af0aaaa18fe9637631597644283034e0703f6b91b517f628e061fadaf"), looks := true }, kinds := [], alts := [], laidByText := true, laidKinds := [.data, .data, .data, .data, .sentinel, .sentinel, .pinned], laidTests := true, laidLooks := .later }
def CurveFoundCardSaid : Prop := Claim7.holds Tryd.pinned (.plain (OpenSpec.ofChange curveFoundSpec)) curveFoundCard

/-- THE SECOND FORM's CARD OF 'clavigerlaw22.CurveFound'. -/
def curveFoundUptoCard : Claim7 := { stood := { row := curveFoundUptoRow, standIns := [], harness := (true, "bae4559af0aaaa18fe9637631597644283034e0703f6b91b517f628e061fadaf"), looks := true }, kinds := [], alts := [], laidByText := true, laidKinds := [.data, .data, .data, .data, .sentinel, .sentinel, .pinned], laidTests := true, laidLooks := .later }
def CurveFoundUptoCardSaid : Prop := Claim7.holds Tryd.pinned (.plain (OpenSpec.upto curveFoundSpec)) curveFoundUptoCard
end Rows
end Go.Proofs.YtnffjpbmlfmbcaaDoor
