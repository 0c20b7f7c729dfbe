/-
  DERIVED. GIVEN WITH THE SEED: THE CARDS: each row of YtnojnmdfklgooaaGreatDoorRows.lean that lists a variable, with what it lists TIED to the program's text (the seventh form; the later family's looks); each row that meets fmt, with fmt's text TOLD by the authors' own Lean function (tested against real Go, not proved from fmt's source: count such statements apart). THE CARD IS WHAT COUNTS. Prove the row's statement (the work); the ties are given (YtnojnmdfklgooaaGreatDoorTie.lean); close each card by the builder's one call (the guide's Derived/Test/ToyasCard.lean, 'card_holds'). Laid BY PROGRAM, IN A SANDBOX (cutbox-door.mjs). By AI agents, Wed Nov 11 2026. No macro, syntax, notation, axiom, sorry.
-/
import Derived.Test.YtnojnmdfklgooaaGreatDoorRows
import GoSem.ClaimSeven
namespace Go.Proofs.YtnojnmdfklgooaaGreatDoor
namespace Rows

/-- THE TIED CARD OF 'laws.FnExactIsLibrary'. -/
def fnExactIsLibraryCard : Claim7 := { stood := { row := fnExactIsLibraryRow, standIns := [], harness := (true, "f774b8f6912b03fe04ffd1f85960149ac686fe0b3ef33b63b2180e76989bcaa2"), looks := false }, kinds := [], alts := [], laidByText := true, laidKinds := [.data, .pinned], laidTests := true, laidLooks := .later }
def FnExactIsLibraryCardSaid : Prop := Claim7.holds Tryz.pinned (.plain (OpenSpec.ofChange fnExactIsLibrarySpec)) fnExactIsLibraryCard

/-- THE TIED CARD OF 'laws.FnExactCellNamed'. -/
def fnExactCellNamedCard : Claim7 := { stood := { row := fnExactCellNamedRow, standIns := [], harness := (true, "f774b8f6912b03fe04ffd1f85960149ac686fe0b3ef33b63b2180e76989bcaa2"), looks := false }, kinds := [], alts := [], laidByText := true, laidKinds := [.data, .pinned], laidTests := true, laidLooks := .later }
def FnExactCellNamedCardSaid : Prop := Claim7.holds Tryz.pinned (.plain (OpenSpec.ofChange fnExactCellNamedSpec)) fnExactCellNamedCard

/-- THE TIED CARD OF 'laws.FnExactArcsTo'. -/
def fnExactArcsToCard : Claim7 := { stood := { row := fnExactArcsToRow, standIns := [], harness := (true, "f774b8f6912b03fe04ffd1f85960149ac686fe0b3ef33b63b2180e76989bcaa2"), looks := false }, kinds := [], alts := [], laidByText := true, laidKinds := [.data, .pinned], laidTests := true, laidLooks := .later }
def FnExactArcsToCardSaid : Prop := Claim7.holds Tryz.pinned (.plain (OpenSpec.ofChange fnExactArcsToSpec)) fnExactArcsToCard

/-- THE TIED CARD OF 'laws.FnExactIsDesign'. -/
def fnExactIsDesignCard : Claim7 := { stood := { row := fnExactIsDesignRow, standIns := [], harness := (true, "f774b8f6912b03fe04ffd1f85960149ac686fe0b3ef33b63b2180e76989bcaa2"), looks := false }, kinds := [], alts := [], laidByText := true, laidKinds := [.data, .pinned], laidTests := true, laidLooks := .later }
def FnExactIsDesignCardSaid : Prop := Claim7.holds Tryz.pinned (.plain (OpenSpec.ofChange fnExactIsDesignSpec)) fnExactIsDesignCard

/-- THE TIED CARD OF 'laws.FnExactPlaceCount'. -/
def fnExactPlaceCountCard : Claim7 := { stood := { row := fnExactPlaceCountRow, standIns := [], harness := (true, "f774b8f6912b03fe04ffd1f85960149ac686fe0b3ef33b63b2180e76989bcaa2"), looks := false }, kinds := [], alts := [], laidByText := true, laidKinds := [.data, .pinned], laidTests := true, laidLooks := .later }
def FnExactPlaceCountCardSaid : Prop := Claim7.holds Tryz.pinned (.plain (OpenSpec.ofChange fnExactPlaceCountSpec)) fnExactPlaceCountCard

/-- THE TIED CARD OF 'laws.FnExactDriverOf'. -/
def fnExactDriverOfCard : Claim7 := { stood := { row := fnExactDriverOfRow, standIns := [], harness := (true, "f774b8f6912b03fe04ffd1f85960149ac686fe0b3ef33b63b2180e76989bcaa2"), looks := false }, kinds := [], alts := [], laidByText := true, laidKinds := [.data, .pinned], laidTests := true, laidLooks := .later }
def FnExactDriverOfCardSaid : Prop := Claim7.holds Tryz.pinned (.plain (OpenSpec.ofChange fnExactDriverOfSpec)) fnExactDriverOfCard

/-- THE TIED CARD OF 'laws.FnExactPlaceOf'. -/
def fnExactPlaceOfCard : Claim7 := { stood := { row := fnExactPlaceOfRow, standIns := [], harness := (true, "f774b8f6912b03fe04ffd1f85960149ac686fe0b3ef33b63b2180e76989bcaa2"), looks := false }, kinds := [], alts := [], laidByText := true, laidKinds := [.data, .pinned], laidTests := true, laidLooks := .later }
def FnExactPlaceOfCardSaid : Prop := Claim7.holds Tryz.pinned (.plain (OpenSpec.ofChange fnExactPlaceOfSpec)) fnExactPlaceOfCard

/-- THE TIED CARD OF 'laws.FnExactInstanceOf'. -/
def fnExactInstanceOfCard : Claim7 := { stood := { row := fnExactInstanceOfRow, standIns := [], harness := (true, "f774b8f6912b03fe04ffd1f85960149ac686fe0b3ef33b63b2180e76989bcaa2"), looks := false }, kinds := [], alts := [], laidByText := true, laidKinds := [.data, .pinned], laidTests := true, laidLooks := .later }
def FnExactInstanceOfCardSaid : Prop := Claim7.holds Tryz.pinned (.plain (OpenSpec.ofChange fnExactInstanceOfSpec)) fnExactInstanceOfCard

/-- THE TIED CARD OF 'laws.FnExactNetOfPlace'. -/
def fnExactNetOfPlaceCard : Claim7 := { stood := { row := fnExactNetOfPlaceRow, standIns := [], harness := (true, "f774b8f6912b03fe04ffd1f85960149ac686fe0b3ef33b63b2180e76989bcaa2"), looks := false }, kinds := [], alts := [], laidByText := true, laidKinds := [.data, .pinned], laidTests := true, laidLooks := .later }
def FnExactNetOfPlaceCardSaid : Prop := Claim7.holds Tryz.pinned (.plain (OpenSpec.ofChange fnExactNetOfPlaceSpec)) fnExactNetOfPlaceCard

/-- THE TIED CARD OF 'laws.FnExactPlaceCap'. -/
def fnExactPlaceCapCard : Claim7 := { stood := { row := fnExactPlaceCapRow, standIns := [], harness := (true, "f774b8f6912b03fe04ffd1f85960149ac686fe0b3ef33b63b2180e76989bcaa2"), looks := false }, kinds := [], alts := [], laidByText := true, laidKinds := [.data, .pinned], laidTests := true, laidLooks := .later }
def FnExactPlaceCapCardSaid : Prop := Claim7.holds Tryz.pinned (.plain (OpenSpec.ofChange fnExactPlaceCapSpec)) fnExactPlaceCapCard

/-- THE TIED CARD OF 'laws.FnExactSinksOf'. -/
def fnExactSinksOfCard : Claim7 := { stood := { row := fnExactSinksOfRow, standIns := [], harness := (true, "f774b8f6912b03fe04ffd1f85960149ac686fe0b3ef33b63b2180e76989bcaa2"), looks := false }, kinds := [], alts := [], laidByText := true, laidKinds := [.data, .pinned], laidTests := true, laidLooks := .later }
def FnExactSinksOfCardSaid : Prop := Claim7.holds Tryz.pinned (.plain (OpenSpec.ofChange fnExactSinksOfSpec)) fnExactSinksOfCard

/-- THE TIED CARD OF 'laws.FnExactIsBlock'. -/
def fnExactIsBlockCard : Claim7 := { stood := { row := fnExactIsBlockRow, standIns := [], harness := (true, "f774b8f6912b03fe04ffd1f85960149ac686fe0b3ef33b63b2180e76989bcaa2"), looks := false }, kinds := [], alts := [], laidByText := true, laidKinds := [.data, .pinned], laidTests := true, laidLooks := .later }
def FnExactIsBlockCardSaid : Prop := Claim7.holds Tryz.pinned (.plain (OpenSpec.ofChange fnExactIsBlockSpec)) fnExactIsBlockCard

/-- THE TIED CARD OF 'laws.FnExactNetLoad'. -/
def fnExactNetLoadCard : Claim7 := { stood := { row := fnExactNetLoadRow, standIns := [], harness := (true, "f774b8f6912b03fe04ffd1f85960149ac686fe0b3ef33b63b2180e76989bcaa2"), looks := false }, kinds := [], alts := [], laidByText := true, laidKinds := [.data, .pinned], laidTests := true, laidLooks := .later }
def FnExactNetLoadCardSaid : Prop := Claim7.holds Tryz.pinned (.plain (OpenSpec.ofChange fnExactNetLoadSpec)) fnExactNetLoadCard

/-- THE TIED CARD OF 'laws.FnExactNodeLoads'. -/
def fnExactNodeLoadsCard : Claim7 := { stood := { row := fnExactNodeLoadsRow, standIns := [], harness := (true, "f774b8f6912b03fe04ffd1f85960149ac686fe0b3ef33b63b2180e76989bcaa2"), looks := false }, kinds := [], alts := [], laidByText := true, laidKinds := [.data, .pinned], laidTests := true, laidLooks := .later }
def FnExactNodeLoadsCardSaid : Prop := Claim7.holds Tryz.pinned (.plain (OpenSpec.ofChange fnExactNodeLoadsSpec)) fnExactNodeLoadsCard

/-- THE TIED CARD OF 'laws.FnExactNodeDelays'. -/
def fnExactNodeDelaysCard : Claim7 := { stood := { row := fnExactNodeDelaysRow, standIns := [], harness := (true, "f774b8f6912b03fe04ffd1f85960149ac686fe0b3ef33b63b2180e76989bcaa2"), looks := false }, kinds := [], alts := [], laidByText := true, laidKinds := [.data, .pinned], laidTests := true, laidLooks := .later }
def FnExactNodeDelaysCardSaid : Prop := Claim7.holds Tryz.pinned (.plain (OpenSpec.ofChange fnExactNodeDelaysSpec)) fnExactNodeDelaysCard

/-- THE TIED CARD OF 'laws.FnExactSinkSlew'. -/
def fnExactSinkSlewCard : Claim7 := { stood := { row := fnExactSinkSlewRow, standIns := [], harness := (true, "f774b8f6912b03fe04ffd1f85960149ac686fe0b3ef33b63b2180e76989bcaa2"), looks := false }, kinds := [], alts := [], laidByText := true, laidKinds := [.data, .pinned], laidTests := true, laidLooks := .later }
def FnExactSinkSlewCardSaid : Prop := Claim7.holds Tryz.pinned (.plain (OpenSpec.ofChange fnExactSinkSlewSpec)) fnExactSinkSlewCard

/-- THE SECOND FORM's CARD OF 'laws.FnExactIsLibrary'. -/
def fnExactIsLibraryUptoCard : Claim7 := { stood := { row := fnExactIsLibraryUptoRow, standIns := [], harness := (true, "f774b8f6912b03fe04ffd1f85960149ac686fe0b3ef33b63b2180e76989bcaa2"), looks := false }, kinds := [], alts := [], laidByText := true, laidKinds := [.data, .pinned], laidTests := true, laidLooks := .later }
def FnExactIsLibraryUptoCardSaid : Prop := Claim7.holds Tryz.pinned (.plain (OpenSpec.upto fnExactIsLibrarySpec)) fnExactIsLibraryUptoCard

/-- THE SECOND FORM's CARD OF 'laws.FnExactCellNamed'. -/
def fnExactCellNamedUptoCard : Claim7 := { stood := { row := fnExactCellNamedUptoRow, standIns := [], harness := (true, "f774b8f6912b03fe04ffd1f85960149ac686fe0b3ef33b63b2180e76989bcaa2"), looks := false }, kinds := [], alts := [], laidByText := true, laidKinds := [.data, .pinned], laidTests := true, laidLooks := .later }
def FnExactCellNamedUptoCardSaid : Prop := Claim7.holds Tryz.pinned (.plain (OpenSpec.upto fnExactCellNamedSpec)) fnExactCellNamedUptoCard

/-- THE SECOND FORM's CARD OF 'laws.FnExactArcsTo'. -/
def fnExactArcsToUptoCard : Claim7 := { stood := { row := fnExactArcsToUptoRow, standIns := [], harness := (true, "f774b8f6912b03fe04ffd1f85960149ac686fe0b3ef33b63b2180e76989bcaa2"), looks := false }, kinds := [], alts := [], laidByText := true, laidKinds := [.data, .pinned], laidTests := true, laidLooks := .later }
def FnExactArcsToUptoCardSaid : Prop := Claim7.holds Tryz.pinned (.plain (OpenSpec.upto fnExactArcsToSpec)) fnExactArcsToUptoCard

/-- THE SECOND FORM's CARD OF 'laws.FnExactIsDesign'. -/
def fnExactIsDesignUptoCard : Claim7 := { stood := { row := fnExactIsDesignUptoRow, standIns := [], harness := (true, "f774b8f6912b03fe04ffd1f85960149ac686fe0b3ef33b63b2180e76989bcaa2"), looks := false }, kinds := [], alts := [], laidByText := true, laidKinds := [.data, .pinned], laidTests := true, laidLooks := .later }
def FnExactIsDesignUptoCardSaid : Prop := Claim7.holds Tryz.pinned (.plain (OpenSpec.upto fnExactIsDesignSpec)) fnExactIsDesignUptoCard

/-- THE SECOND FORM's CARD OF 'laws.FnExactPlaceCount'. -/
def fnExactPlaceCountUptoCard : Claim7 := { stood := { row := fnExactPlaceCountUptoRow, standIns := [], harness := (true, "f774b8f6912b03fe04ffd1f85960149ac686fe0b3ef33b63b2180e76989bcaa2"), looks := false }, kinds := [], alts := [], laidByText := true, laidKinds := [.data, .pinned], laidTests := true, laidLooks := .later }
def FnExactPlaceCountUptoCardSaid : Prop := Claim7.holds Tryz.pinned (.plain (OpenSpec.upto fnExactPlaceCountSpec)) fnExactPlaceCountUptoCard

/-- THE SECOND FORM's CARD OF 'laws.FnExactDriverOf'. -/
def fnExactDriverOfUptoCard : Claim7 := { stood := { row := fnExactDriverOfUptoRow, standIns := [], harness := (true, "f774b8f6912b03fe04ffd1f85960149ac686fe0b3ef33b63b2180e76989bcaa2"), looks := false }, kinds := [], alts := [], laidByText := true, laidKinds := [.data, .pinned], laidTests := true, laidLooks := .later }
def FnExactDriverOfUptoCardSaid : Prop := Claim7.holds Tryz.pinned (.plain (OpenSpec.upto fnExactDriverOfSpec)) fnExactDriverOfUptoCard

/-- THE SECOND FORM's CARD OF 'laws.FnExactPlaceOf'. -/
def fnExactPlaceOfUptoCard : Claim7 := { stood := { row := fnExactPlaceOfUptoRow, standIns := [], harness := (true, "f774b8f6912b03fe04ffd1f85960149ac686fe0b3ef33b63b2180e76989bcaa2"), looks := false }, kinds := [], alts := [], laidByText := true, laidKinds := [.data, .pinned], laidTests := true, laidLooks := .later }
def FnExactPlaceOfUptoCardSaid : Prop := Claim7.holds Tryz.pinned (.plain (OpenSpec.upto fnExactPlaceOfSpec)) fnExactPlaceOfUptoCard

/-- THE SECOND FORM's CARD OF 'laws.FnExactInstanceOf'. -/
def fnExactInstanceOfUptoCard : Claim7 := { stood := { row := fnExactInstanceOfUptoRow, standIns := [], harness := (true, "f774b8f6912b03fe04ffd1f85960149ac686fe0b3ef33b63b2180e76989bcaa2"), looks := false }, kinds := [], alts := [], laidByText := true, laidKinds := [.data, .pinned], laidTests := true, laidLooks := .later }
def FnExactInstanceOfUptoCardSaid : Prop := Claim7.holds Tryz.pinned (.plain (OpenSpec.upto fnExactInstanceOfSpec)) fnExactInstanceOfUptoCard

/-- THE SECOND FORM's CARD OF 'laws.FnExactNetOfPlace'. -/
def fnExactNetOfPlaceUptoCard : Claim7 := { stood := { row := fnExactNetOfPlaceUptoRow, standIns := [], harness := (true, "f774b8f6912b03fe04ffd1f85960149ac686fe0b3ef33b63b2180e76989bcaa2"), looks := false }, kinds := [], alts := [], laidByText := true, laidKinds := [.data, .pinned], laidTests := true, laidLooks := .later }
def FnExactNetOfPlaceUptoCardSaid : Prop := Claim7.holds Tryz.pinned (.plain (OpenSpec.upto fnExactNetOfPlaceSpec)) fnExactNetOfPlaceUptoCard

/-- THE SECOND FORM's CARD OF 'laws.FnExactPlaceCap'. -/
def fnExactPlaceCapUptoCard : Claim7 := { stood := { row := fnExactPlaceCapUptoRow, standIns := [], harness := (true, "f774b8f6912b03fe04ffd1f85960149ac686fe0b3ef33b63b2180e76989bcaa2"), looks := false }, kinds := [], alts := [], laidByText := true, laidKinds := [.data, .pinned], laidTests := true, laidLooks := .later }
def FnExactPlaceCapUptoCardSaid : Prop := Claim7.holds Tryz.pinned (.plain (OpenSpec.upto fnExactPlaceCapSpec)) fnExactPlaceCapUptoCard

/-- THE SECOND FORM's CARD OF 'laws.FnExactSinksOf'. -/
def fnExactSinksOfUptoCard : Claim7 := { stood := { row := fnExactSinksOfUptoRow, standIns := [], harness := (true, "f774b8f6912b03fe04ffd1f85960149ac686fe0b3ef33b63b2180e76989bcaa2"), looks := false }, kinds := [], alts := [], laidByText := true, laidKinds := [.data, .pinned], laidTests := true, laidLooks := .later }
def FnExactSinksOfUptoCardSaid : Prop := Claim7.holds Tryz.pinned (.plain (OpenSpec.upto fnExactSinksOfSpec)) fnExactSinksOfUptoCard

/-- THE SECOND FORM's CARD OF 'laws.FnExactIsBlock'. -/
def fnExactIsBlockUptoCard : Claim7 := { stood := { row := fnExactIsBlockUptoRow, standIns := [], harness := (true, "f774b8f6912b03fe04ffd1f85960149ac686fe0b3ef33b63b2180e76989bcaa2"), looks := false }, kinds := [], alts := [], laidByText := true, laidKinds := [.data, .pinned], laidTests := true, laidLooks := .later }
def FnExactIsBlockUptoCardSaid : Prop := Claim7.holds Tryz.pinned (.plain (OpenSpec.upto fnExactIsBlockSpec)) fnExactIsBlockUptoCard

/-- THE SECOND FORM's CARD OF 'laws.FnExactNetLoad'. -/
def fnExactNetLoadUptoCard : Claim7 := { stood := { row := fnExactNetLoadUptoRow, standIns := [], harness := (true, "f774b8f6912b03fe04ffd1f85960149ac686fe0b3ef33b63b2180e76989bcaa2"), looks := false }, kinds := [], alts := [], laidByText := true, laidKinds := [.data, .pinned], laidTests := true, laidLooks := .later }
def FnExactNetLoadUptoCardSaid : Prop := Claim7.holds Tryz.pinned (.plain (OpenSpec.upto fnExactNetLoadSpec)) fnExactNetLoadUptoCard

/-- THE SECOND FORM's CARD OF 'laws.FnExactNodeLoads'. -/
def fnExactNodeLoadsUptoCard : Claim7 := { stood := { row := fnExactNodeLoadsUptoRow, standIns := [], harness := (true, "f774b8f6912b03fe04ffd1f85960149ac686fe0b3ef33b63b2180e76989bcaa2"), looks := false }, kinds := [], alts := [], laidByText := true, laidKinds := [.data, .pinned], laidTests := true, laidLooks := .later }
def FnExactNodeLoadsUptoCardSaid : Prop := Claim7.holds Tryz.pinned (.plain (OpenSpec.upto fnExactNodeLoadsSpec)) fnExactNodeLoadsUptoCard

/-- THE SECOND FORM's CARD OF 'laws.FnExactNodeDelays'. -/
def fnExactNodeDelaysUptoCard : Claim7 := { stood := { row := fnExactNodeDelaysUptoRow, standIns := [], harness := (true, "f774b8f6912b03fe04ffd1f85960149ac686fe0b3ef33b63b2180e76989bcaa2"), looks := false }, kinds := [], alts := [], laidByText := true, laidKinds := [.data, .pinned], laidTests := true, laidLooks := .later }
def FnExactNodeDelaysUptoCardSaid : Prop := Claim7.holds Tryz.pinned (.plain (OpenSpec.upto fnExactNodeDelaysSpec)) fnExactNodeDelaysUptoCard

/-- THE SECOND FORM's CARD OF 'laws.FnExactSinkSlew'. -/
def fnExactSinkSlewUptoCard : Claim7 := { stood := { row := fnExactSinkSlewUptoRow, standIns := [], harness := (true, "f774b8f6912b03fe04ffd1f85960149ac686fe0b3ef33b63b2180e76989bcaa2"), looks := false }, kinds := [], alts := [], laidByText := true, laidKinds := [.data, .pinned], laidTests := true, laidLooks := .later }
def FnExactSinkSlewUptoCardSaid : Prop := Claim7.holds Tryz.pinned (.plain (OpenSpec.upto fnExactSinkSlewSpec)) fnExactSinkSlewUptoCard
end Rows
end Go.Proofs.YtnojnmdfklgooaaGreatDoor
