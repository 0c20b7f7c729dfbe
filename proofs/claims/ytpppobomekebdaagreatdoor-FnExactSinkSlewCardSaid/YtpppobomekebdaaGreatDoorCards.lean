/-
  DERIVED. GIVEN WITH THE SEED: THE CARDS: each row of YtpppobomekebdaaGreatDoorRows.lean that lists a variable, with what it lists TIED to the program's text (the seventh form; the later family's looks); each row that meets fmt, with fmt's text TOLD by the authors' own Lean function (tested against real Go, not proved from fmt's source: count such statements apart). THE CARD IS WHAT COUNTS. Prove the row's statement (the work); the ties are given (YtpppobomekebdaaGreatDoorTie.lean); close each card by the builder's one call (the guide's Derived/Test/ToyasCard.lean, 'card_holds'). Laid BY PROGRAM, IN A SANDBOX (cutbox-door.mjs). By AI agents, Wed Nov 11 2026. No macro, syntax, notation, axiom, sorry.
-/
import Derived.Test.YtpppobomekebdaaGreatDoorRows
import GoSem.ClaimSeven
namespace Go.Proofs.YtpppobomekebdaaGreatDoor
namespace Rows

/-- THE TIED CARD OF 'laws.FnExactIsBlock'. -/
def fnExactIsBlockCard : Claim7 := { stood := { row := fnExactIsBlockRow, standIns := [], harness := (true, "9727426b8b3609deb762bd7f9b7a6a5d2718ddeecefd72d68b7d867da1ec1be2"), looks := false }, kinds := [], alts := [], laidByText := true, laidKinds := [.data, .pinned], laidTests := true, laidLooks := .later }
def FnExactIsBlockCardSaid : Prop := Claim7.holds Tryz.pinned (.plain (OpenSpec.ofChange fnExactIsBlockSpec)) fnExactIsBlockCard

/-- THE TIED CARD OF 'laws.FnExactNetLoad'. -/
def fnExactNetLoadCard : Claim7 := { stood := { row := fnExactNetLoadRow, standIns := [], harness := (true, "9727426b8b3609deb762bd7f9b7a6a5d2718ddeecefd72d68b7d867da1ec1be2"), looks := false }, kinds := [], alts := [], laidByText := true, laidKinds := [.data, .pinned], laidTests := true, laidLooks := .later }
def FnExactNetLoadCardSaid : Prop := Claim7.holds Tryz.pinned (.plain (OpenSpec.ofChange fnExactNetLoadSpec)) fnExactNetLoadCard

/-- THE TIED CARD OF 'laws.FnExactNodeLoads'. -/
def fnExactNodeLoadsCard : Claim7 := { stood := { row := fnExactNodeLoadsRow, standIns := [], harness := (true, "9727426b8b3609deb762bd7f9b7a6a5d2718ddeecefd72d68b7d867da1ec1be2"), looks := false }, kinds := [], alts := [], laidByText := true, laidKinds := [.data, .pinned], laidTests := true, laidLooks := .later }
def FnExactNodeLoadsCardSaid : Prop := Claim7.holds Tryz.pinned (.plain (OpenSpec.ofChange fnExactNodeLoadsSpec)) fnExactNodeLoadsCard

/-- THE TIED CARD OF 'laws.FnExactNodeDelays'. -/
def fnExactNodeDelaysCard : Claim7 := { stood := { row := fnExactNodeDelaysRow, standIns := [], harness := (true, "9727426b8b3609deb762bd7f9b7a6a5d2718ddeecefd72d68b7d867da1ec1be2"), looks := false }, kinds := [], alts := [], laidByText := true, laidKinds := [.data, .pinned], laidTests := true, laidLooks := .later }
def FnExactNodeDelaysCardSaid : Prop := Claim7.holds Tryz.pinned (.plain (OpenSpec.ofChange fnExactNodeDelaysSpec)) fnExactNodeDelaysCard

/-- THE TIED CARD OF 'laws.FnExactSinkSlew'. -/
def fnExactSinkSlewCard : Claim7 := { stood := { row := fnExactSinkSlewRow, standIns := [], harness := (true, "9727426b8b3609deb762bd7f9b7a6a5d2718ddeecefd72d68b7d867da1ec1be2"), looks := false }, kinds := [], alts := [], laidByText := true, laidKinds := [.data, .pinned], laidTests := true, laidLooks := .later }
def FnExactSinkSlewCardSaid : Prop := Claim7.holds Tryz.pinned (.plain (OpenSpec.ofChange fnExactSinkSlewSpec)) fnExactSinkSlewCard

/-- THE TIED CARD OF 'laws.FnExactArcsTo'. -/
def fnExactArcsToCard : Claim7 := { stood := { row := fnExactArcsToRow, standIns := [], harness := (true, "9727426b8b3609deb762bd7f9b7a6a5d2718ddeecefd72d68b7d867da1ec1be2"), looks := false }, kinds := [], alts := [], laidByText := true, laidKinds := [.data, .pinned], laidTests := true, laidLooks := .later }
def FnExactArcsToCardSaid : Prop := Claim7.holds Tryz.pinned (.plain (OpenSpec.ofChange fnExactArcsToSpec)) fnExactArcsToCard

/-- THE SECOND FORM's CARD OF 'laws.FnExactIsBlock'. -/
def fnExactIsBlockUptoCard : Claim7 := { stood := { row := fnExactIsBlockUptoRow, standIns := [], harness := (true, "9727426b8b3609deb762bd7f9b7a6a5d2718ddeecefd72d68b7d867da1ec1be2"), looks := false }, kinds := [], alts := [], laidByText := true, laidKinds := [.data, .pinned], laidTests := true, laidLooks := .later }
def FnExactIsBlockUptoCardSaid : Prop := Claim7.holds Tryz.pinned (.plain (OpenSpec.upto fnExactIsBlockSpec)) fnExactIsBlockUptoCard

/-- THE SECOND FORM's CARD OF 'laws.FnExactNetLoad'. -/
def fnExactNetLoadUptoCard : Claim7 := { stood := { row := fnExactNetLoadUptoRow, standIns := [], harness := (true, "9727426b8b3609deb762bd7f9b7a6a5d2718ddeecefd72d68b7d867da1ec1be2"), looks := false }, kinds := [], alts := [], laidByText := true, laidKinds := [.data, .pinned], laidTests := true, laidLooks := .later }
def FnExactNetLoadUptoCardSaid : Prop := Claim7.holds Tryz.pinned (.plain (OpenSpec.upto fnExactNetLoadSpec)) fnExactNetLoadUptoCard

/-- THE SECOND FORM's CARD OF 'laws.FnExactNodeLoads'. -/
def fnExactNodeLoadsUptoCard : Claim7 := { stood := { row := fnExactNodeLoadsUptoRow, standIns := [], harness := (true, "9727426b8b3609deb762bd7f9b7a6a5d2718ddeecefd72d68b7d867da1ec1be2"), looks := false }, kinds := [], alts := [], laidByText := true, laidKinds := [.data, .pinned], laidTests := true, laidLooks := .later }
def FnExactNodeLoadsUptoCardSaid : Prop := Claim7.holds Tryz.pinned (.plain (OpenSpec.upto fnExactNodeLoadsSpec)) fnExactNodeLoadsUptoCard

/-- THE SECOND FORM's CARD OF 'laws.FnExactNodeDelays'. -/
def fnExactNodeDelaysUptoCard : Claim7 := { stood := { row := fnExactNodeDelaysUptoRow, standIns := [], harness := (true, "9727426b8b3609deb762bd7f9b7a6a5d2718ddeecefd72d68b7d867da1ec1be2"), looks := false }, kinds := [], alts := [], laidByText := true, laidKinds := [.data, .pinned], laidTests := true, laidLooks := .later }
def FnExactNodeDelaysUptoCardSaid : Prop := Claim7.holds Tryz.pinned (.plain (OpenSpec.upto fnExactNodeDelaysSpec)) fnExactNodeDelaysUptoCard

/-- THE SECOND FORM's CARD OF 'laws.FnExactSinkSlew'. -/
def fnExactSinkSlewUptoCard : Claim7 := { stood := { row := fnExactSinkSlewUptoRow, standIns := [], harness := (true, "9727426b8b3609deb762bd7f9b7a6a5d2718ddeecefd72d68b7d867da1ec1be2"), looks := false }, kinds := [], alts := [], laidByText := true, laidKinds := [.data, .pinned], laidTests := true, laidLooks := .later }
def FnExactSinkSlewUptoCardSaid : Prop := Claim7.holds Tryz.pinned (.plain (OpenSpec.upto fnExactSinkSlewSpec)) fnExactSinkSlewUptoCard

/-- THE SECOND FORM's CARD OF 'laws.FnExactArcsTo'. -/
def fnExactArcsToUptoCard : Claim7 := { stood := { row := fnExactArcsToUptoRow, standIns := [], harness := (true, "9727426b8b3609deb762bd7f9b7a6a5d2718ddeecefd72d68b7d867da1ec1be2"), looks := false }, kinds := [], alts := [], laidByText := true, laidKinds := [.data, .pinned], laidTests := true, laidLooks := .later }
def FnExactArcsToUptoCardSaid : Prop := Claim7.holds Tryz.pinned (.plain (OpenSpec.upto fnExactArcsToSpec)) fnExactArcsToUptoCard
end Rows
end Go.Proofs.YtpppobomekebdaaGreatDoor
