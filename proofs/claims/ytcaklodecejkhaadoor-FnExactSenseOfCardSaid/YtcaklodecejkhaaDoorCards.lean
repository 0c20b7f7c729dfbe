/-
  DERIVED. GIVEN WITH THE SEED: THE CARDS: each row of YtcaklodecejkhaaDoorRows.lean that lists a variable, with what it lists TIED to the program's text (the seventh form; the later family's looks); each row that meets fmt, with fmt's text TOLD by the authors' own Lean function (tested against real Go, not proved from fmt's source: count such statements apart). THE CARD IS WHAT COUNTS. Prove the row's statement (the work); the ties are given (YtcaklodecejkhaaDoorTie.lean); close each card by the builder's one call (the guide's Derived/Test/ToyasCard.lean, 'card_holds'). Laid BY PROGRAM, IN A SANDBOX (cutbox-door.mjs). By AI agents, Wed Nov 11 2026. No macro, syntax, notation, axiom, sorry.
-/
import Derived.Test.YtcaklodecejkhaaDoorRows
import GoSem.ClaimSeven
namespace Go.Proofs.YtcaklodecejkhaaDoor
namespace Rows

/-- THE TIED CARD OF 'laws.FnExactIsCell'. -/
def fnExactIsCellCard : Claim7 := { stood := { row := fnExactIsCellRow, standIns := [], harness := (true, "4db94d9bcc168e6a113ecae5f3ef5371b4e6437375282e4e023f813030784c28"), looks := false }, kinds := [], alts := [], laidByText := true, laidKinds := [.data, .pinned], laidTests := true, laidLooks := .later }
def FnExactIsCellCardSaid : Prop := Claim7.holds Tryd.pinned (.plain (OpenSpec.ofChange fnExactIsCellSpec)) fnExactIsCellCard

/-- THE TIED CARD OF 'laws.FnExactClockPin'. -/
def fnExactClockPinCard : Claim7 := { stood := { row := fnExactClockPinRow, standIns := [], harness := (true, "4db94d9bcc168e6a113ecae5f3ef5371b4e6437375282e4e023f813030784c28"), looks := false }, kinds := [], alts := [], laidByText := true, laidKinds := [.data, .pinned], laidTests := true, laidLooks := .later }
def FnExactClockPinCardSaid : Prop := Claim7.holds Tryd.pinned (.plain (OpenSpec.ofChange fnExactClockPinSpec)) fnExactClockPinCard

/-- THE TIED CARD OF 'laws.FnExactPinNamed'. -/
def fnExactPinNamedCard : Claim7 := { stood := { row := fnExactPinNamedRow, standIns := [], harness := (true, "4db94d9bcc168e6a113ecae5f3ef5371b4e6437375282e4e023f813030784c28"), looks := false }, kinds := [], alts := [], laidByText := true, laidKinds := [.data, .pinned], laidTests := true, laidLooks := .later }
def FnExactPinNamedCardSaid : Prop := Claim7.holds Tryd.pinned (.plain (OpenSpec.ofChange fnExactPinNamedSpec)) fnExactPinNamedCard

/-- THE TIED CARD OF 'laws.FnExactGateValue'. -/
def fnExactGateValueCard : Claim7 := { stood := { row := fnExactGateValueRow, standIns := [], harness := (true, "4db94d9bcc168e6a113ecae5f3ef5371b4e6437375282e4e023f813030784c28"), looks := false }, kinds := [], alts := [], laidByText := true, laidKinds := [.data, .pinned], laidTests := true, laidLooks := .later }
def FnExactGateValueCardSaid : Prop := Claim7.holds Tryd.pinned (.plain (OpenSpec.ofChange fnExactGateValueSpec)) fnExactGateValueCard

/-- THE TIED CARD OF 'laws.FnExactSenseOf'. -/
def fnExactSenseOfCard : Claim7 := { stood := { row := fnExactSenseOfRow, standIns := [], harness := (true, "4db94d9bcc168e6a113ecae5f3ef5371b4e6437375282e4e023f813030784c28"), looks := false }, kinds := [], alts := [], laidByText := true, laidKinds := [.data, .pinned], laidTests := true, laidLooks := .later }
def FnExactSenseOfCardSaid : Prop := Claim7.holds Tryd.pinned (.plain (OpenSpec.ofChange fnExactSenseOfSpec)) fnExactSenseOfCard

/-- THE TIED CARD OF 'laws.FnExactIsConsistent'. -/
def fnExactIsConsistentCard : Claim7 := { stood := { row := fnExactIsConsistentRow, standIns := [], harness := (true, "4db94d9bcc168e6a113ecae5f3ef5371b4e6437375282e4e023f813030784c28"), looks := false }, kinds := [], alts := [], laidByText := true, laidKinds := [.data, .pinned], laidTests := true, laidLooks := .later }
def FnExactIsConsistentCardSaid : Prop := Claim7.holds Tryd.pinned (.plain (OpenSpec.ofChange fnExactIsConsistentSpec)) fnExactIsConsistentCard

/-- THE SECOND FORM's CARD OF 'laws.FnExactIsCell'. -/
def fnExactIsCellUptoCard : Claim7 := { stood := { row := fnExactIsCellUptoRow, standIns := [], harness := (true, "4db94d9bcc168e6a113ecae5f3ef5371b4e6437375282e4e023f813030784c28"), looks := false }, kinds := [], alts := [], laidByText := true, laidKinds := [.data, .pinned], laidTests := true, laidLooks := .later }
def FnExactIsCellUptoCardSaid : Prop := Claim7.holds Tryd.pinned (.plain (OpenSpec.upto fnExactIsCellSpec)) fnExactIsCellUptoCard

/-- THE SECOND FORM's CARD OF 'laws.FnExactClockPin'. -/
def fnExactClockPinUptoCard : Claim7 := { stood := { row := fnExactClockPinUptoRow, standIns := [], harness := (true, "4db94d9bcc168e6a113ecae5f3ef5371b4e6437375282e4e023f813030784c28"), looks := false }, kinds := [], alts := [], laidByText := true, laidKinds := [.data, .pinned], laidTests := true, laidLooks := .later }
def FnExactClockPinUptoCardSaid : Prop := Claim7.holds Tryd.pinned (.plain (OpenSpec.upto fnExactClockPinSpec)) fnExactClockPinUptoCard

/-- THE SECOND FORM's CARD OF 'laws.FnExactPinNamed'. -/
def fnExactPinNamedUptoCard : Claim7 := { stood := { row := fnExactPinNamedUptoRow, standIns := [], harness := (true, "4db94d9bcc168e6a113ecae5f3ef5371b4e6437375282e4e023f813030784c28"), looks := false }, kinds := [], alts := [], laidByText := true, laidKinds := [.data, .pinned], laidTests := true, laidLooks := .later }
def FnExactPinNamedUptoCardSaid : Prop := Claim7.holds Tryd.pinned (.plain (OpenSpec.upto fnExactPinNamedSpec)) fnExactPinNamedUptoCard

/-- THE SECOND FORM's CARD OF 'laws.FnExactGateValue'. -/
def fnExactGateValueUptoCard : Claim7 := { stood := { row := fnExactGateValueUptoRow, standIns := [], harness := (true, "4db94d9bcc168e6a113ecae5f3ef5371b4e6437375282e4e023f813030784c28"), looks := false }, kinds := [], alts := [], laidByText := true, laidKinds := [.data, .pinned], laidTests := true, laidLooks := .later }
def FnExactGateValueUptoCardSaid : Prop := Claim7.holds Tryd.pinned (.plain (OpenSpec.upto fnExactGateValueSpec)) fnExactGateValueUptoCard

/-- THE SECOND FORM's CARD OF 'laws.FnExactSenseOf'. -/
def fnExactSenseOfUptoCard : Claim7 := { stood := { row := fnExactSenseOfUptoRow, standIns := [], harness := (true, "4db94d9bcc168e6a113ecae5f3ef5371b4e6437375282e4e023f813030784c28"), looks := false }, kinds := [], alts := [], laidByText := true, laidKinds := [.data, .pinned], laidTests := true, laidLooks := .later }
def FnExactSenseOfUptoCardSaid : Prop := Claim7.holds Tryd.pinned (.plain (OpenSpec.upto fnExactSenseOfSpec)) fnExactSenseOfUptoCard

/-- THE SECOND FORM's CARD OF 'laws.FnExactIsConsistent'. -/
def fnExactIsConsistentUptoCard : Claim7 := { stood := { row := fnExactIsConsistentUptoRow, standIns := [], harness := (true, "4db94d9bcc168e6a113ecae5f3ef5371b4e6437375282e4e023f813030784c28"), looks := false }, kinds := [], alts := [], laidByText := true, laidKinds := [.data, .pinned], laidTests := true, laidLooks := .later }
def FnExactIsConsistentUptoCardSaid : Prop := Claim7.holds Tryd.pinned (.plain (OpenSpec.upto fnExactIsConsistentSpec)) fnExactIsConsistentUptoCard
end Rows
end Go.Proofs.YtcaklodecejkhaaDoor
