/-
  DERIVED. GIVEN WITH THE SEED: THE CARDS: each row of YtlnpefiipdkafaaGreatDoorRows.lean that lists a variable, with what it lists TIED to the program's text (the seventh form; the later family's looks); each row that meets fmt, with fmt's text TOLD by the authors' own Lean function (tested against real Go, not proved from fmt's source: count such statements apart). THE CARD IS WHAT COUNTS. Prove the row's statement (the work); the ties are given (YtlnpefiipdkafaaGreatDoorTie.lean); close each card by the builder's one call (the guide's Derived/Test/ToyasCard.lean, 'card_holds'). Laid BY PROGRAM, IN A SANDBOX (cutbox-door.mjs). By AI agents, Wed Nov 11 2026. No macro, syntax, notation, axiom, sorry.
-/
import Derived.Test.YtlnpefiipdkafaaGreatDoorRows
import GoSem.ClaimSeven
namespace Go.Proofs.YtlnpefiipdkafaaGreatDoor
namespace Rows

/-- THE TIED CARD OF 'laws.FnPlaces'. -/
def fnPlacesCard : Claim7 := { stood := { row := fnPlacesRow, standIns := [], harness := (true, "84acbc051562b466b857becd000631de7f16de62e2b475ef2cd53dcf6f7d9b63"), looks := false }, kinds := [], alts := [], laidByText := true, laidKinds := [.data, .pinned], laidTests := true, laidLooks := .later }
def FnPlacesCardSaid : Prop := Claim7.holds Tryz.pinned (.plain (OpenSpec.ofChange fnPlacesSpec)) fnPlacesCard

/-- THE TIED CARD OF 'laws.FnSinkCount'. -/
def fnSinkCountCard : Claim7 := { stood := { row := fnSinkCountRow, standIns := [], harness := (true, "84acbc051562b466b857becd000631de7f16de62e2b475ef2cd53dcf6f7d9b63"), looks := false }, kinds := [], alts := [], laidByText := true, laidKinds := [.data, .pinned], laidTests := true, laidLooks := .later }
def FnSinkCountCardSaid : Prop := Claim7.holds Tryz.pinned (.plain (OpenSpec.ofChange fnSinkCountSpec)) fnSinkCountCard

/-- THE TIED CARD OF 'laws.FnLoads'. -/
def fnLoadsCard : Claim7 := { stood := { row := fnLoadsRow, standIns := [], harness := (true, "84acbc051562b466b857becd000631de7f16de62e2b475ef2cd53dcf6f7d9b63"), looks := false }, kinds := [], alts := [], laidByText := true, laidKinds := [.data, .pinned], laidTests := true, laidLooks := .later }
def FnLoadsCardSaid : Prop := Claim7.holds Tryz.pinned (.plain (OpenSpec.ofChange fnLoadsSpec)) fnLoadsCard

/-- THE TIED CARD OF 'laws.FnSinkTimes'. -/
def fnSinkTimesCard : Claim7 := { stood := { row := fnSinkTimesRow, standIns := [], harness := (true, "84acbc051562b466b857becd000631de7f16de62e2b475ef2cd53dcf6f7d9b63"), looks := false }, kinds := [], alts := [], laidByText := true, laidKinds := [.data, .pinned], laidTests := true, laidLooks := .later }
def FnSinkTimesCardSaid : Prop := Claim7.holds Tryz.pinned (.plain (OpenSpec.ofChange fnSinkTimesSpec)) fnSinkTimesCard

/-- THE SECOND FORM's CARD OF 'laws.FnPlaces'. -/
def fnPlacesUptoCard : Claim7 := { stood := { row := fnPlacesUptoRow, standIns := [], harness := (true, "84acbc051562b466b857becd000631de7f16de62e2b475ef2cd53dcf6f7d9b63"), looks := false }, kinds := [], alts := [], laidByText := true, laidKinds := [.data, .pinned], laidTests := true, laidLooks := .later }
def FnPlacesUptoCardSaid : Prop := Claim7.holds Tryz.pinned (.plain (OpenSpec.upto fnPlacesSpec)) fnPlacesUptoCard

/-- THE SECOND FORM's CARD OF 'laws.FnSinkCount'. -/
def fnSinkCountUptoCard : Claim7 := { stood := { row := fnSinkCountUptoRow, standIns := [], harness := (true, "84acbc051562b466b857becd000631de7f16de62e2b475ef2cd53dcf6f7d9b63"), looks := false }, kinds := [], alts := [], laidByText := true, laidKinds := [.data, .pinned], laidTests := true, laidLooks := .later }
def FnSinkCountUptoCardSaid : Prop := Claim7.holds Tryz.pinned (.plain (OpenSpec.upto fnSinkCountSpec)) fnSinkCountUptoCard

/-- THE SECOND FORM's CARD OF 'laws.FnLoads'. -/
def fnLoadsUptoCard : Claim7 := { stood := { row := fnLoadsUptoRow, standIns := [], harness := (true, "84acbc051562b466b857becd000631de7f16de62e2b475ef2cd53dcf6f7d9b63"), looks := false }, kinds := [], alts := [], laidByText := true, laidKinds := [.data, .pinned], laidTests := true, laidLooks := .later }
def FnLoadsUptoCardSaid : Prop := Claim7.holds Tryz.pinned (.plain (OpenSpec.upto fnLoadsSpec)) fnLoadsUptoCard

/-- THE SECOND FORM's CARD OF 'laws.FnSinkTimes'. -/
def fnSinkTimesUptoCard : Claim7 := { stood := { row := fnSinkTimesUptoRow, standIns := [], harness := (true, "84acbc051562b466b857becd000631de7f16de62e2b475ef2cd53dcf6f7d9b63"), looks := false }, kinds := [], alts := [], laidByText := true, laidKinds := [.data, .pinned], laidTests := true, laidLooks := .later }
def FnSinkTimesUptoCardSaid : Prop := Claim7.holds Tryz.pinned (.plain (OpenSpec.upto fnSinkTimesSpec)) fnSinkTimesUptoCard
end Rows
end Go.Proofs.YtlnpefiipdkafaaGreatDoor
