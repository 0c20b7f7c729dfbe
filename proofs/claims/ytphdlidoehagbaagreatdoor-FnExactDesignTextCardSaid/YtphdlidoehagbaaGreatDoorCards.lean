/-
  DERIVED. GIVEN WITH THE SEED: THE CARDS: each row of YtphdlidoehagbaaGreatDoorRows.lean that lists a variable, with what it lists TIED to the program's text (the seventh form; the later family's looks); each row that meets fmt, with fmt's text TOLD by the authors' own Lean function (tested against real Go, not proved from fmt's source: count such statements apart). THE CARD IS WHAT COUNTS. Prove the row's statement (the work); the ties are given (YtphdlidoehagbaaGreatDoorTie.lean); close each card by the builder's one call (the guide's Derived/Test/ToyasCard.lean, 'card_holds'). Laid BY PROGRAM, IN A SANDBOX (cutbox-door.mjs). By AI agents, Wed Nov 11 2026. No macro, syntax, notation, axiom, sorry.
-/
import Derived.Test.YtphdlidoehagbaaGreatDoorRows
import GoSem.ClaimSeven
namespace Go.Proofs.YtphdlidoehagbaaGreatDoor
namespace Rows

/-- THE TIED CARD OF 'laws.FnExactPlaceCount'. -/
def fnExactPlaceCountCard : Claim7 := { stood := { row := fnExactPlaceCountRow, standIns := [], harness := (true, "90fb1b694124b11b7ec364bfe784ce736139c4be1e6659d9a20c73af4b04cbe9"), looks := false }, kinds := [], alts := [], laidByText := true, laidKinds := [.data, .pinned], laidTests := true, laidLooks := .later }
def FnExactPlaceCountCardSaid : Prop := Claim7.holds Tryz.pinned (.plain (OpenSpec.ofChange fnExactPlaceCountSpec)) fnExactPlaceCountCard

/-- THE TIED CARD OF 'laws.FnExactDriverOf'. -/
def fnExactDriverOfCard : Claim7 := { stood := { row := fnExactDriverOfRow, standIns := [], harness := (true, "90fb1b694124b11b7ec364bfe784ce736139c4be1e6659d9a20c73af4b04cbe9"), looks := false }, kinds := [], alts := [], laidByText := true, laidKinds := [.data, .pinned], laidTests := true, laidLooks := .later }
def FnExactDriverOfCardSaid : Prop := Claim7.holds Tryz.pinned (.plain (OpenSpec.ofChange fnExactDriverOfSpec)) fnExactDriverOfCard

/-- THE TIED CARD OF 'laws.FnExactPlaceOf'. -/
def fnExactPlaceOfCard : Claim7 := { stood := { row := fnExactPlaceOfRow, standIns := [], harness := (true, "90fb1b694124b11b7ec364bfe784ce736139c4be1e6659d9a20c73af4b04cbe9"), looks := false }, kinds := [], alts := [], laidByText := true, laidKinds := [.data, .pinned], laidTests := true, laidLooks := .later }
def FnExactPlaceOfCardSaid : Prop := Claim7.holds Tryz.pinned (.plain (OpenSpec.ofChange fnExactPlaceOfSpec)) fnExactPlaceOfCard

/-- THE TIED CARD OF 'laws.FnExactInstanceOf'. -/
def fnExactInstanceOfCard : Claim7 := { stood := { row := fnExactInstanceOfRow, standIns := [], harness := (true, "90fb1b694124b11b7ec364bfe784ce736139c4be1e6659d9a20c73af4b04cbe9"), looks := false }, kinds := [], alts := [], laidByText := true, laidKinds := [.data, .pinned], laidTests := true, laidLooks := .later }
def FnExactInstanceOfCardSaid : Prop := Claim7.holds Tryz.pinned (.plain (OpenSpec.ofChange fnExactInstanceOfSpec)) fnExactInstanceOfCard

/-- THE TIED CARD OF 'laws.FnExactNetOfPlace'. -/
def fnExactNetOfPlaceCard : Claim7 := { stood := { row := fnExactNetOfPlaceRow, standIns := [], harness := (true, "90fb1b694124b11b7ec364bfe784ce736139c4be1e6659d9a20c73af4b04cbe9"), looks := false }, kinds := [], alts := [], laidByText := true, laidKinds := [.data, .pinned], laidTests := true, laidLooks := .later }
def FnExactNetOfPlaceCardSaid : Prop := Claim7.holds Tryz.pinned (.plain (OpenSpec.ofChange fnExactNetOfPlaceSpec)) fnExactNetOfPlaceCard

/-- THE TIED CARD OF 'laws.FnExactPlaceNamed'. -/
def fnExactPlaceNamedCard : Claim7 := { stood := { row := fnExactPlaceNamedRow, standIns := [], harness := (true, "90fb1b694124b11b7ec364bfe784ce736139c4be1e6659d9a20c73af4b04cbe9"), looks := false }, kinds := [], alts := [], laidByText := true, laidKinds := [.data, .pinned], laidTests := true, laidLooks := .later }
def FnExactPlaceNamedCardSaid : Prop := Claim7.holds Tryz.pinned (.plain (OpenSpec.ofChange fnExactPlaceNamedSpec)) fnExactPlaceNamedCard

/-- THE TIED CARD OF 'laws.FnExactPlaceCap'. -/
def fnExactPlaceCapCard : Claim7 := { stood := { row := fnExactPlaceCapRow, standIns := [], harness := (true, "90fb1b694124b11b7ec364bfe784ce736139c4be1e6659d9a20c73af4b04cbe9"), looks := false }, kinds := [], alts := [], laidByText := true, laidKinds := [.data, .pinned], laidTests := true, laidLooks := .later }
def FnExactPlaceCapCardSaid : Prop := Claim7.holds Tryz.pinned (.plain (OpenSpec.ofChange fnExactPlaceCapSpec)) fnExactPlaceCapCard

/-- THE TIED CARD OF 'laws.FnExactPlaceName'. -/
def fnExactPlaceNameCard : Claim7 := { stood := { row := fnExactPlaceNameRow, standIns := [], harness := (true, "90fb1b694124b11b7ec364bfe784ce736139c4be1e6659d9a20c73af4b04cbe9"), looks := false }, kinds := [], alts := [], laidByText := true, laidKinds := [.data, .pinned], laidTests := true, laidLooks := .later }
def FnExactPlaceNameCardSaid : Prop := Claim7.holds Tryz.pinned (.plain (OpenSpec.ofChange fnExactPlaceNameSpec)) fnExactPlaceNameCard

/-- THE TIED CARD OF 'laws.FnExactInstanceText'. -/
def fnExactInstanceTextCard : Claim7 := { stood := { row := fnExactInstanceTextRow, standIns := [], harness := (true, "90fb1b694124b11b7ec364bfe784ce736139c4be1e6659d9a20c73af4b04cbe9"), looks := false }, kinds := [], alts := [], laidByText := true, laidKinds := [.data, .pinned], laidTests := true, laidLooks := .later }
def FnExactInstanceTextCardSaid : Prop := Claim7.holds Tryz.pinned (.plain (OpenSpec.ofChange fnExactInstanceTextSpec)) fnExactInstanceTextCard

/-- THE TIED CARD OF 'laws.FnExactDesignText'. -/
def fnExactDesignTextCard : Claim7 := { stood := { row := fnExactDesignTextRow, standIns := [], harness := (true, "90fb1b694124b11b7ec364bfe784ce736139c4be1e6659d9a20c73af4b04cbe9"), looks := false }, kinds := [], alts := [], laidByText := true, laidKinds := [.data, .pinned], laidTests := true, laidLooks := .later }
def FnExactDesignTextCardSaid : Prop := Claim7.holds Tryz.pinned (.plain (OpenSpec.ofChange fnExactDesignTextSpec)) fnExactDesignTextCard

/-- THE TIED CARD OF 'laws.FnExactSinksOf'. -/
def fnExactSinksOfCard : Claim7 := { stood := { row := fnExactSinksOfRow, standIns := [], harness := (true, "90fb1b694124b11b7ec364bfe784ce736139c4be1e6659d9a20c73af4b04cbe9"), looks := false }, kinds := [], alts := [], laidByText := true, laidKinds := [.data, .pinned], laidTests := true, laidLooks := .later }
def FnExactSinksOfCardSaid : Prop := Claim7.holds Tryz.pinned (.plain (OpenSpec.ofChange fnExactSinksOfSpec)) fnExactSinksOfCard

/-- THE SECOND FORM's CARD OF 'laws.FnExactPlaceCount'. -/
def fnExactPlaceCountUptoCard : Claim7 := { stood := { row := fnExactPlaceCountUptoRow, standIns := [], harness := (true, "90fb1b694124b11b7ec364bfe784ce736139c4be1e6659d9a20c73af4b04cbe9"), looks := false }, kinds := [], alts := [], laidByText := true, laidKinds := [.data, .pinned], laidTests := true, laidLooks := .later }
def FnExactPlaceCountUptoCardSaid : Prop := Claim7.holds Tryz.pinned (.plain (OpenSpec.upto fnExactPlaceCountSpec)) fnExactPlaceCountUptoCard

/-- THE SECOND FORM's CARD OF 'laws.FnExactDriverOf'. -/
def fnExactDriverOfUptoCard : Claim7 := { stood := { row := fnExactDriverOfUptoRow, standIns := [], harness := (true, "90fb1b694124b11b7ec364bfe784ce736139c4be1e6659d9a20c73af4b04cbe9"), looks := false }, kinds := [], alts := [], laidByText := true, laidKinds := [.data, .pinned], laidTests := true, laidLooks := .later }
def FnExactDriverOfUptoCardSaid : Prop := Claim7.holds Tryz.pinned (.plain (OpenSpec.upto fnExactDriverOfSpec)) fnExactDriverOfUptoCard

/-- THE SECOND FORM's CARD OF 'laws.FnExactPlaceOf'. -/
def fnExactPlaceOfUptoCard : Claim7 := { stood := { row := fnExactPlaceOfUptoRow, standIns := [], harness := (true, "90fb1b694124b11b7ec364bfe784ce736139c4be1e6659d9a20c73af4b04cbe9"), looks := false }, kinds := [], alts := [], laidByText := true, laidKinds := [.data, .pinned], laidTests := true, laidLooks := .later }
def FnExactPlaceOfUptoCardSaid : Prop := Claim7.holds Tryz.pinned (.plain (OpenSpec.upto fnExactPlaceOfSpec)) fnExactPlaceOfUptoCard

/-- THE SECOND FORM's CARD OF 'laws.FnExactInstanceOf'. -/
def fnExactInstanceOfUptoCard : Claim7 := { stood := { row := fnExactInstanceOfUptoRow, standIns := [], harness := (true, "90fb1b694124b11b7ec364bfe784ce736139c4be1e6659d9a20c73af4b04cbe9"), looks := false }, kinds := [], alts := [], laidByText := true, laidKinds := [.data, .pinned], laidTests := true, laidLooks := .later }
def FnExactInstanceOfUptoCardSaid : Prop := Claim7.holds Tryz.pinned (.plain (OpenSpec.upto fnExactInstanceOfSpec)) fnExactInstanceOfUptoCard

/-- THE SECOND FORM's CARD OF 'laws.FnExactNetOfPlace'. -/
def fnExactNetOfPlaceUptoCard : Claim7 := { stood := { row := fnExactNetOfPlaceUptoRow, standIns := [], harness := (true, "90fb1b694124b11b7ec364bfe784ce736139c4be1e6659d9a20c73af4b04cbe9"), looks := false }, kinds := [], alts := [], laidByText := true, laidKinds := [.data, .pinned], laidTests := true, laidLooks := .later }
def FnExactNetOfPlaceUptoCardSaid : Prop := Claim7.holds Tryz.pinned (.plain (OpenSpec.upto fnExactNetOfPlaceSpec)) fnExactNetOfPlaceUptoCard

/-- THE SECOND FORM's CARD OF 'laws.FnExactPlaceNamed'. -/
def fnExactPlaceNamedUptoCard : Claim7 := { stood := { row := fnExactPlaceNamedUptoRow, standIns := [], harness := (true, "90fb1b694124b11b7ec364bfe784ce736139c4be1e6659d9a20c73af4b04cbe9"), looks := false }, kinds := [], alts := [], laidByText := true, laidKinds := [.data, .pinned], laidTests := true, laidLooks := .later }
def FnExactPlaceNamedUptoCardSaid : Prop := Claim7.holds Tryz.pinned (.plain (OpenSpec.upto fnExactPlaceNamedSpec)) fnExactPlaceNamedUptoCard

/-- THE SECOND FORM's CARD OF 'laws.FnExactPlaceCap'. -/
def fnExactPlaceCapUptoCard : Claim7 := { stood := { row := fnExactPlaceCapUptoRow, standIns := [], harness := (true, "90fb1b694124b11b7ec364bfe784ce736139c4be1e6659d9a20c73af4b04cbe9"), looks := false }, kinds := [], alts := [], laidByText := true, laidKinds := [.data, .pinned], laidTests := true, laidLooks := .later }
def FnExactPlaceCapUptoCardSaid : Prop := Claim7.holds Tryz.pinned (.plain (OpenSpec.upto fnExactPlaceCapSpec)) fnExactPlaceCapUptoCard

/-- THE SECOND FORM's CARD OF 'laws.FnExactPlaceName'. -/
def fnExactPlaceNameUptoCard : Claim7 := { stood := { row := fnExactPlaceNameUptoRow, standIns := [], harness := (true, "90fb1b694124b11b7ec364bfe784ce736139c4be1e6659d9a20c73af4b04cbe9"), looks := false }, kinds := [], alts := [], laidByText := true, laidKinds := [.data, .pinned], laidTests := true, laidLooks := .later }
def FnExactPlaceNameUptoCardSaid : Prop := Claim7.holds Tryz.pinned (.plain (OpenSpec.upto fnExactPlaceNameSpec)) fnExactPlaceNameUptoCard

/-- THE SECOND FORM's CARD OF 'laws.FnExactInstanceText'. -/
def fnExactInstanceTextUptoCard : Claim7 := { stood := { row := fnExactInstanceTextUptoRow, standIns := [], harness := (true, "90fb1b694124b11b7ec364bfe784ce736139c4be1e6659d9a20c73af4b04cbe9"), looks := false }, kinds := [], alts := [], laidByText := true, laidKinds := [.data, .pinned], laidTests := true, laidLooks := .later }
def FnExactInstanceTextUptoCardSaid : Prop := Claim7.holds Tryz.pinned (.plain (OpenSpec.upto fnExactInstanceTextSpec)) fnExactInstanceTextUptoCard

/-- THE SECOND FORM's CARD OF 'laws.FnExactDesignText'. -/
def fnExactDesignTextUptoCard : Claim7 := { stood := { row := fnExactDesignTextUptoRow, standIns := [], harness := (true, "90fb1b694124b11b7ec364bfe784ce736139c4be1e6659d9a20c73af4b04cbe9"), looks := false }, kinds := [], alts := [], laidByText := true, laidKinds := [.data, .pinned], laidTests := true, laidLooks := .later }
def FnExactDesignTextUptoCardSaid : Prop := Claim7.holds Tryz.pinned (.plain (OpenSpec.upto fnExactDesignTextSpec)) fnExactDesignTextUptoCard

/-- THE SECOND FORM's CARD OF 'laws.FnExactSinksOf'. -/
def fnExactSinksOfUptoCard : Claim7 := { stood := { row := fnExactSinksOfUptoRow, standIns := [], harness := (true, "90fb1b694124b11b7ec364bfe784ce736139c4be1e6659d9a20c73af4b04cbe9"), looks := false }, kinds := [], alts := [], laidByText := true, laidKinds := [.data, .pinned], laidTests := true, laidLooks := .later }
def FnExactSinksOfUptoCardSaid : Prop := Claim7.holds Tryz.pinned (.plain (OpenSpec.upto fnExactSinksOfSpec)) fnExactSinksOfUptoCard
end Rows
end Go.Proofs.YtphdlidoehagbaaGreatDoor
