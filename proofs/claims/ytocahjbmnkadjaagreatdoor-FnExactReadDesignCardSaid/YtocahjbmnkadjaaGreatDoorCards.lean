/-
  DERIVED. GIVEN WITH THE SEED: THE CARDS: each row of YtocahjbmnkadjaaGreatDoorRows.lean that lists a variable, with what it lists TIED to the program's text (the seventh form; the later family's looks); each row that meets fmt, with fmt's text TOLD by the authors' own Lean function (tested against real Go, not proved from fmt's source: count such statements apart). THE CARD IS WHAT COUNTS. Prove the row's statement (the work); the ties are given (YtocahjbmnkadjaaGreatDoorTie.lean); close each card by the builder's one call (the guide's Derived/Test/ToyasCard.lean, 'card_holds'). Laid BY PROGRAM, IN A SANDBOX (cutbox-door.mjs). By AI agents, Wed Nov 11 2026. No macro, syntax, notation, axiom, sorry.
-/
import Derived.Test.YtocahjbmnkadjaaGreatDoorRows
import GoSem.ClaimSeven
namespace Go.Proofs.YtocahjbmnkadjaaGreatDoor
namespace Rows

/-- THE TIED CARD OF 'laws.FnExactReadDesign'. -/
def fnExactReadDesignCard : Claim7 := { stood := { row := fnExactReadDesignRow, standIns := [], harness := (true, "6c4a0ddc798e767853e5df237e57610c47403a6cca9b6a155fb149c7bada1ed7"), looks := false }, kinds := [], alts := [], laidByText := true, laidKinds := [.data, .pinned], laidTests := true, laidLooks := .later }
def FnExactReadDesignCardSaid : Prop := Claim7.holds Tryz.pinned (.plain (OpenSpec.ofChange fnExactReadDesignSpec)) fnExactReadDesignCard

/-- THE SECOND FORM's CARD OF 'laws.FnExactReadDesign'. -/
def fnExactReadDesignUptoCard : Claim7 := { stood := { row := fnExactReadDesignUptoRow, standIns := [], harness := (true, "6c4a0ddc798e767853e5df237e57610c47403a6cca9b6a155fb149c7bada1ed7"), looks := false }, kinds := [], alts := [], laidByText := true, laidKinds := [.data, .pinned], laidTests := true, laidLooks := .later }
def FnExactReadDesignUptoCardSaid : Prop := Claim7.holds Tryz.pinned (.plain (OpenSpec.upto fnExactReadDesignSpec)) fnExactReadDesignUptoCard
end Rows
end Go.Proofs.YtocahjbmnkadjaaGreatDoor
