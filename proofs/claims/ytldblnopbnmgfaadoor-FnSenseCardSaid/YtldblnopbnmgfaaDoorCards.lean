/-
  DERIVED. GIVEN WITH THE SEED: THE CARDS: each row of YtldblnopbnmgfaaDoorRows.lean that lists a variable, with what it lists TIED to the program's text (the seventh form; the later family's looks); each row that meets fmt, with fmt's text TOLD by the authors' own Lean function (tested against real Go, not proved from fmt's source: count such statements apart). THE CARD IS WHAT COUNTS. Prove the row's statement (the work); the ties are given (YtldblnopbnmgfaaDoorTie.lean); close each card by the builder's one call (the guide's Derived/Test/ToyasCard.lean, 'card_holds'). Laid BY PROGRAM, IN A SANDBOX (cutbox-door.mjs). By AI agents, Wed Nov 11 2026. No macro, syntax, notation, axiom, sorry.
-/
import Derived.Test.YtldblnopbnmgfaaDoorRows
import GoSem.ClaimSeven
namespace Go.Proofs.YtldblnopbnmgfaaDoor
namespace Rows

/-- THE TIED CARD OF 'laws.FnSense'. -/
def fnSenseCard : Claim7 := { stood := { row := fnSenseRow, standIns := [], harness := (true, "4c57de70b072115def550268a388cc9b1502f32b5ca701ac532bf6ca5a62c768"), looks := false }, kinds := [], alts := [], laidByText := true, laidKinds := [.data, .pinned], laidTests := true, laidLooks := .later }
def FnSenseCardSaid : Prop := Claim7.holds Tryd.pinned (.plain (OpenSpec.ofChange fnSenseSpec)) fnSenseCard

/-- THE SECOND FORM's CARD OF 'laws.FnSense'. -/
def fnSenseUptoCard : Claim7 := { stood := { row := fnSenseUptoRow, standIns := [], harness := (true, "4c57de70b072115def550268a388cc9b1502f32b5ca701ac532bf6ca5a62c768"), looks := false }, kinds := [], alts := [], laidByText := true, laidKinds := [.data, .pinned], laidTests := true, laidLooks := .later }
def FnSenseUptoCardSaid : Prop := Claim7.holds Tryd.pinned (.plain (OpenSpec.upto fnSenseSpec)) fnSenseUptoCard
end Rows
end Go.Proofs.YtldblnopbnmgfaaDoor
