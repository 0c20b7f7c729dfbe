/-
  DERIVED. GIVEN WITH THE SEED: THE CARDS: each row of YtgglgghlndhfbaaDoorRows.lean that lists a variable, with what it lists TIED to the program's text (the seventh form; the later family's looks); each row that meets fmt, with fmt's text TOLD by the authors' own Lean function (tested against real Go, not proved from fmt's source: count such statements apart). THE CARD IS WHAT COUNTS. Prove the row's statement (the work); the ties are given (YtgglgghlndhfbaaDoorTie.lean); close each card by the builder's one call (the guide's Derived/Test/ToyasCard.lean, 'card_holds'). Laid BY PROGRAM, IN A SANDBOX (cutbox-door.mjs). By AI agents, Wed Nov 11 2026. No macro, syntax, notation, axiom, sorry.
-/
import Derived.Test.YtgglgghlndhfbaaDoorRows
import GoSem.ClaimSeven
namespace Go.Proofs.YtgglgghlndhfbaaDoor
namespace Rows

/-- THE TIED CARD OF 'laws.FnExactFormatTime'. -/
def fnExactFormatTimeCard : Claim7 := { stood := { row := fnExactFormatTimeRow, standIns := [], harness := (true, "a5268f84f8b90a546eb1faa137386f094c749cb8ddd3e34ee28012c99376fe91"), looks := true }, kinds := [], alts := [], laidByText := true, laidKinds := [.data, .data, .data], laidTests := true, laidLooks := .later }
def FnExactFormatTimeCardSaid : Prop := Claim7.holds Tryd.pinned (.plain (OpenSpec.ofChange fnExactFormatTimeSpec)) fnExactFormatTimeCard

/-- THE TIED CARD OF 'laws.FnExactParseTime'. -/
def fnExactParseTimeCard : Claim7 := { stood := { row := fnExactParseTimeRow, standIns := [], harness := (true, "a5268f84f8b90a546eb1faa137386f094c749cb8ddd3e34ee28012c99376fe91"), looks := true }, kinds := [], alts := [], laidByText := true, laidKinds := [.data, .data, .data, .data, .sentinel, .sentinel, .pinned], laidTests := true, laidLooks := .later }
def FnExactParseTimeCardSaid : Prop := Claim7.holds Tryd.pinned (.plain (OpenSpec.ofChange fnExactParseTimeSpec)) fnExactParseTimeCard

/-- THE TIED CARD OF 'laws.FnExactReadTable'. -/
def fnExactReadTableCard : Claim7 := { stood := { row := fnExactReadTableRow, standIns := [], harness := (true, "a5268f84f8b90a546eb1faa137386f094c749cb8ddd3e34ee28012c99376fe91"), looks := true }, kinds := [], alts := [], laidByText := true, laidKinds := [.data, .data, .data, .data, .sentinel, .sentinel, .pinned], laidTests := true, laidLooks := .later }
def FnExactReadTableCardSaid : Prop := Claim7.holds Tryd.pinned (.plain (OpenSpec.ofChange fnExactReadTableSpec)) fnExactReadTableCard

/-- THE TIED CARD OF 'laws.FnTimeText'. -/
def fnTimeTextCard : Claim7 := { stood := { row := fnTimeTextRow, standIns := [], harness := (true, "a5268f84f8b90a546eb1faa137386f094c749cb8ddd3e34ee28012c99376fe91"), looks := true }, kinds := [], alts := [], laidByText := true, laidKinds := [.data, .data, .data, .data, .sentinel, .sentinel, .pinned], laidTests := true, laidLooks := .later }
def FnTimeTextCardSaid : Prop := Claim7.holds Tryd.pinned (.plain (OpenSpec.ofChange fnTimeTextSpec)) fnTimeTextCard

/-- THE TIED CARD OF 'laws.FnExactReadWire'. -/
def fnExactReadWireCard : Claim7 := { stood := { row := fnExactReadWireRow, standIns := [], harness := (true, "a5268f84f8b90a546eb1faa137386f094c749cb8ddd3e34ee28012c99376fe91"), looks := true }, kinds := [], alts := [], laidByText := true, laidKinds := [.data, .data, .data, .data, .sentinel, .sentinel, .pinned], laidTests := true, laidLooks := .later }
def FnExactReadWireCardSaid : Prop := Claim7.holds Tryd.pinned (.plain (OpenSpec.ofChange fnExactReadWireSpec)) fnExactReadWireCard

/-- THE SECOND FORM's CARD OF 'laws.FnExactFormatTime'. -/
def fnExactFormatTimeUptoCard : Claim7 := { stood := { row := fnExactFormatTimeUptoRow, standIns := [], harness := (true, "a5268f84f8b90a546eb1faa137386f094c749cb8ddd3e34ee28012c99376fe91"), looks := true }, kinds := [], alts := [], laidByText := true, laidKinds := [.data, .data, .data], laidTests := true, laidLooks := .later }
def FnExactFormatTimeUptoCardSaid : Prop := Claim7.holds Tryd.pinned (.plain (OpenSpec.upto fnExactFormatTimeSpec)) fnExactFormatTimeUptoCard

/-- THE SECOND FORM's CARD OF 'laws.FnExactParseTime'. -/
def fnExactParseTimeUptoCard : Claim7 := { stood := { row := fnExactParseTimeUptoRow, standIns := [], harness := (true, "a5268f84f8b90a546eb1faa137386f094c749cb8ddd3e34ee28012c99376fe91"), looks := true }, kinds := [], alts := [], laidByText := true, laidKinds := [.data, .data, .data, .data, .sentinel, .sentinel, .pinned], laidTests := true, laidLooks := .later }
def FnExactParseTimeUptoCardSaid : Prop := Claim7.holds Tryd.pinned (.plain (OpenSpec.upto fnExactParseTimeSpec)) fnExactParseTimeUptoCard

/-- THE SECOND FORM's CARD OF 'laws.FnExactReadTable'. -/
def fnExactReadTableUptoCard : Claim7 := { stood := { row := fnExactReadTableUptoRow, standIns := [], harness := (true, "a5268f84f8b90a546eb1faa137386f094c749cb8ddd3e34ee28012c99376fe91"), looks := true }, kinds := [], alts := [], laidByText := true, laidKinds := [.data, .data, .data, .data, .sentinel, .sentinel, .pinned], laidTests := true, laidLooks := .later }
def FnExactReadTableUptoCardSaid : Prop := Claim7.holds Tryd.pinned (.plain (OpenSpec.upto fnExactReadTableSpec)) fnExactReadTableUptoCard

/-- THE SECOND FORM's CARD OF 'laws.FnTimeText'. -/
def fnTimeTextUptoCard : Claim7 := { stood := { row := fnTimeTextUptoRow, standIns := [], harness := (true, "a5268f84f8b90a546eb1faa137386f094c749cb8ddd3e34ee28012c99376fe91"), looks := true }, kinds := [], alts := [], laidByText := true, laidKinds := [.data, .data, .data, .data, .sentinel, .sentinel, .pinned], laidTests := true, laidLooks := .later }
def FnTimeTextUptoCardSaid : Prop := Claim7.holds Tryd.pinned (.plain (OpenSpec.upto fnTimeTextSpec)) fnTimeTextUptoCard

/-- THE SECOND FORM's CARD OF 'laws.FnExactReadWire'. -/
def fnExactReadWireUptoCard : Claim7 := { stood := { row := fnExactReadWireUptoRow, standIns := [], harness := (true, "a5268f84f8b90a546eb1faa137386f094c749cb8ddd3e34ee28012c99376fe91"), looks := true }, kinds := [], alts := [], laidByText := true, laidKinds := [.data, .data, .data, .data, .sentinel, .sentinel, .pinned], laidTests := true, laidLooks := .later }
def FnExactReadWireUptoCardSaid : Prop := Claim7.holds Tryd.pinned (.plain (OpenSpec.upto fnExactReadWireSpec)) fnExactReadWireUptoCard
end Rows
end Go.Proofs.YtgglgghlndhfbaaDoor
