/-
  NARROWER THAN 'FOR EVERY INPUT', by the rows' own cells (each row's printed sentence says how): FnExactPlaceCount: laid · FnExactDriverOf: laid · FnExactPlaceOf: laid · FnExactInstanceOf: laid · FnExactNetOfPlace: laid · FnExactPlaceNamed: laid · FnExactPlaceCap: laid · FnExactPlaceName: laid · FnExactInstanceText: laid · FnExactDesignText: laid · FnExactSinksOf: laid.
  DERIVED. THE GIVEN ROWS OF THIS SEAT. 11 by the template 'for every input the law returns true; each argument reads behind the call as it read before'; 0 by the template 'total and deterministic' (their statements: YtphdlidoehagbaaGreatDoorTotals.lean).
  GIVEN WITH THE SEED: the statements are not yours to turn. If you find one false, say at which input.
  Laid BY PROGRAM, IN A SANDBOX (cutbox-rows.mjs): the forced cells as the released guide's own fill.sh prints them over the translation 3eabf2048b273251… (all of the seat's roots in one cut). By AI agents, Wed Nov 11 2026. No macro, syntax, notation, axiom, sorry.
-/
import Derived.Test.YtphdlidoehagbaaGreatDoorChecked
import GoSem.PinnedTables
import GoSem.Claim
import GoSem.ClaimJoined
import GoSem.ClaimMapViews
import Derived.JoinedTies
import Derived.KernelRfl
namespace Go.Proofs.YtphdlidoehagbaaGreatDoor
/- THE CELL 'sum', in the pinned program and in every row, IS THE sha256 OF THE DUMP (.gsa) THAT YtphdlidoehagbaaGreatDoorProg.lean LOADS. Nothing in Lean hashes anything: it is a label: what it is worth is what the hold of that sum in a sandbox is worth. -/
noncomputable def Tryz.pinned : Pinned := { name := "ytphdlidoehagbaagreatdoor", sum := "3eabf2048b273251c6926811b5339251df20ca7f0b808d96a84d369e3a2b05e8", checked := Tryz.checked }
namespace Rows
def none {H : Type} : Left H := { results := [], args := [] }

/- WHAT THE LISTED PACKAGE-LEVEL VARIABLES READ AS WHEN THE CALL BEGINS. Each datum BY PROGRAM (the guide's laid-datum.mjs) off the statement by which the dump's own 'gosem.cut.vars' lays the variable. In a bare row this is a premise. The card (YtphdlidoehagbaaGreatDoorCards.lean) ties it to the program's text. -/
def laid_unicode_utf8_acceptRanges {H : Type} : DataW H := .agg [.agg [.lit (.int .u8 128), .lit (.int .u8 191)], .agg [.lit (.int .u8 160), .lit (.int .u8 191)], .agg [.lit (.int .u8 128), .lit (.int .u8 159)], .agg [.lit (.int .u8 144), .lit (.int .u8 191)], .agg [.lit (.int .u8 128), .lit (.int .u8 143)], .agg [.lit (.int .u8 0), .lit (.int .u8 0)], .agg [.lit (.int .u8 0), .lit (.int .u8 0)], .agg [.lit (.int .u8 0), .lit (.int .u8 0)], .agg [.lit (.int .u8 0), .lit (.int .u8 0)], .agg [.lit (.int .u8 0), .lit (.int .u8 0)], .agg [.lit (.int .u8 0), .lit (.int .u8 0)], .agg [.lit (.int .u8 0), .lit (.int .u8 0)], .agg [.lit (.int .u8 0), .lit (.int .u8 0)], .agg [.lit (.int .u8 0), .lit (.int .u8 0)], .agg [.lit (.int .u8 0), .lit (.int .u8 0)], .agg [.lit (.int .u8 0), .lit (.int .u8 0)]]
/-- One of Go's own tables, pinned by name: the form's constant. -/
def laid_unicode_utf8_first : DataW Unit := Go.Pinned.utf8First

/-- 'laws.FnExactPlaceCount': WHATEVER THE INPUT: true; the input reads as it did. -/
def fnExactPlaceCountSpec : ChangeSpec := { name := "fnExactPlaceCount", fn := fun _ => fun
  | [d1, d2] => { results := [.lit (.bool true)], args := [d1, d2] }
  | _ => none }
def fnExactPlaceCountRow : OpenClaim := { program := "ytphdlidoehagbaagreatdoor", sum := "3eabf2048b273251c6926811b5339251df20ca7f0b808d96a84d369e3a2b05e8", func := "loop.example/g00861/laws.FnExactPlaceCount", spec := "fnExactPlaceCount", inPlace := ["internal/bytealg.IndexByteString", "internal/bytealg.IndexString"], unfollowed := true, recurses := true, named := ["unicode/utf8.first", "unicode/utf8.acceptRanges", "internal/bytealg.MaxLen"], apart := false, laid := [("unicode/utf8.acceptRanges", laid_unicode_utf8_acceptRanges), ("unicode/utf8.first", laid_unicode_utf8_first)] }
def FnExactPlaceCountSaid : Prop := fnExactPlaceCountRow.holds Tryz.pinned (OpenSpec.ofChange fnExactPlaceCountSpec)

/-- ITS FALSE NEIGHBOUR: 'it returns false'. Refute it at one input. -/
def fnExactPlaceCountWrong : ChangeSpec := { name := "fnExactPlaceCount", fn := fun _ => fun
  | [d1, d2] => { results := [.lit (.bool false)], args := [d1, d2] }
  | _ => none }
def FnExactPlaceCountWrongFalsely : Prop := fnExactPlaceCountRow.holds Tryz.pinned (OpenSpec.ofChange fnExactPlaceCountWrong)

/-- 'laws.FnExactDriverOf': WHATEVER THE INPUT: true; the input reads as it did. -/
def fnExactDriverOfSpec : ChangeSpec := { name := "fnExactDriverOf", fn := fun _ => fun
  | [d1, d2, d3] => { results := [.lit (.bool true)], args := [d1, d2, d3] }
  | _ => none }
def fnExactDriverOfRow : OpenClaim := { program := "ytphdlidoehagbaagreatdoor", sum := "3eabf2048b273251c6926811b5339251df20ca7f0b808d96a84d369e3a2b05e8", func := "loop.example/g00861/laws.FnExactDriverOf", spec := "fnExactDriverOf", inPlace := ["internal/bytealg.IndexByteString", "internal/bytealg.IndexString"], unfollowed := true, recurses := true, named := ["unicode/utf8.first", "unicode/utf8.acceptRanges", "internal/bytealg.MaxLen"], apart := false, laid := [("unicode/utf8.acceptRanges", laid_unicode_utf8_acceptRanges), ("unicode/utf8.first", laid_unicode_utf8_first)] }
def FnExactDriverOfSaid : Prop := fnExactDriverOfRow.holds Tryz.pinned (OpenSpec.ofChange fnExactDriverOfSpec)

/-- ITS FALSE NEIGHBOUR: 'it returns false'. Refute it at one input. -/
def fnExactDriverOfWrong : ChangeSpec := { name := "fnExactDriverOf", fn := fun _ => fun
  | [d1, d2, d3] => { results := [.lit (.bool false)], args := [d1, d2, d3] }
  | _ => none }
def FnExactDriverOfWrongFalsely : Prop := fnExactDriverOfRow.holds Tryz.pinned (OpenSpec.ofChange fnExactDriverOfWrong)

/-- 'laws.FnExactPlaceOf': WHATEVER THE INPUT: true; the input reads as it did. -/
def fnExactPlaceOfSpec : ChangeSpec := { name := "fnExactPlaceOf", fn := fun _ => fun
  | [d1, d2, d3, d4] => { results := [.lit (.bool true)], args := [d1, d2, d3, d4] }
  | _ => none }
def fnExactPlaceOfRow : OpenClaim := { program := "ytphdlidoehagbaagreatdoor", sum := "3eabf2048b273251c6926811b5339251df20ca7f0b808d96a84d369e3a2b05e8", func := "loop.example/g00861/laws.FnExactPlaceOf", spec := "fnExactPlaceOf", inPlace := ["internal/bytealg.IndexByteString", "internal/bytealg.IndexString"], unfollowed := true, recurses := true, named := ["unicode/utf8.first", "unicode/utf8.acceptRanges", "internal/bytealg.MaxLen"], apart := false, laid := [("unicode/utf8.acceptRanges", laid_unicode_utf8_acceptRanges), ("unicode/utf8.first", laid_unicode_utf8_first)] }
def FnExactPlaceOfSaid : Prop := fnExactPlaceOfRow.holds Tryz.pinned (OpenSpec.ofChange fnExactPlaceOfSpec)

/-- ITS FALSE NEIGHBOUR: 'it returns false'. Refute it at one input. -/
def fnExactPlaceOfWrong : ChangeSpec := { name := "fnExactPlaceOf", fn := fun _ => fun
  | [d1, d2, d3, d4] => { results := [.lit (.bool false)], args := [d1, d2, d3, d4] }
  | _ => none }
def FnExactPlaceOfWrongFalsely : Prop := fnExactPlaceOfRow.holds Tryz.pinned (OpenSpec.ofChange fnExactPlaceOfWrong)

/-- 'laws.FnExactInstanceOf': WHATEVER THE INPUT: true; the input reads as it did. -/
def fnExactInstanceOfSpec : ChangeSpec := { name := "fnExactInstanceOf", fn := fun _ => fun
  | [d1, d2, d3] => { results := [.lit (.bool true)], args := [d1, d2, d3] }
  | _ => none }
def fnExactInstanceOfRow : OpenClaim := { program := "ytphdlidoehagbaagreatdoor", sum := "3eabf2048b273251c6926811b5339251df20ca7f0b808d96a84d369e3a2b05e8", func := "loop.example/g00861/laws.FnExactInstanceOf", spec := "fnExactInstanceOf", inPlace := ["internal/bytealg.IndexByteString", "internal/bytealg.IndexString"], unfollowed := true, recurses := true, named := ["unicode/utf8.first", "unicode/utf8.acceptRanges", "internal/bytealg.MaxLen"], apart := false, laid := [("unicode/utf8.acceptRanges", laid_unicode_utf8_acceptRanges), ("unicode/utf8.first", laid_unicode_utf8_first)] }
def FnExactInstanceOfSaid : Prop := fnExactInstanceOfRow.holds Tryz.pinned (OpenSpec.ofChange fnExactInstanceOfSpec)

/-- ITS FALSE NEIGHBOUR: 'it returns false'. Refute it at one input. -/
def fnExactInstanceOfWrong : ChangeSpec := { name := "fnExactInstanceOf", fn := fun _ => fun
  | [d1, d2, d3] => { results := [.lit (.bool false)], args := [d1, d2, d3] }
  | _ => none }
def FnExactInstanceOfWrongFalsely : Prop := fnExactInstanceOfRow.holds Tryz.pinned (OpenSpec.ofChange fnExactInstanceOfWrong)

/-- 'laws.FnExactNetOfPlace': WHATEVER THE INPUT: true; the input reads as it did. -/
def fnExactNetOfPlaceSpec : ChangeSpec := { name := "fnExactNetOfPlace", fn := fun _ => fun
  | [d1, d2, d3] => { results := [.lit (.bool true)], args := [d1, d2, d3] }
  | _ => none }
def fnExactNetOfPlaceRow : OpenClaim := { program := "ytphdlidoehagbaagreatdoor", sum := "3eabf2048b273251c6926811b5339251df20ca7f0b808d96a84d369e3a2b05e8", func := "loop.example/g00861/laws.FnExactNetOfPlace", spec := "fnExactNetOfPlace", inPlace := ["internal/bytealg.IndexByteString", "internal/bytealg.IndexString"], unfollowed := true, recurses := true, named := ["unicode/utf8.first", "unicode/utf8.acceptRanges", "internal/bytealg.MaxLen"], apart := false, laid := [("unicode/utf8.acceptRanges", laid_unicode_utf8_acceptRanges), ("unicode/utf8.first", laid_unicode_utf8_first)] }
def FnExactNetOfPlaceSaid : Prop := fnExactNetOfPlaceRow.holds Tryz.pinned (OpenSpec.ofChange fnExactNetOfPlaceSpec)

/-- ITS FALSE NEIGHBOUR: 'it returns false'. Refute it at one input. -/
def fnExactNetOfPlaceWrong : ChangeSpec := { name := "fnExactNetOfPlace", fn := fun _ => fun
  | [d1, d2, d3] => { results := [.lit (.bool false)], args := [d1, d2, d3] }
  | _ => none }
def FnExactNetOfPlaceWrongFalsely : Prop := fnExactNetOfPlaceRow.holds Tryz.pinned (OpenSpec.ofChange fnExactNetOfPlaceWrong)

/-- 'laws.FnExactPlaceNamed': WHATEVER THE INPUT: true; the input reads as it did. -/
def fnExactPlaceNamedSpec : ChangeSpec := { name := "fnExactPlaceNamed", fn := fun _ => fun
  | [d1, d2, d3] => { results := [.lit (.bool true)], args := [d1, d2, d3] }
  | _ => none }
def fnExactPlaceNamedRow : OpenClaim := { program := "ytphdlidoehagbaagreatdoor", sum := "3eabf2048b273251c6926811b5339251df20ca7f0b808d96a84d369e3a2b05e8", func := "loop.example/g00861/laws.FnExactPlaceNamed", spec := "fnExactPlaceNamed", inPlace := ["internal/bytealg.IndexByteString", "internal/bytealg.IndexString"], unfollowed := true, recurses := true, named := ["unicode/utf8.first", "unicode/utf8.acceptRanges", "internal/bytealg.MaxLen"], apart := false, laid := [("unicode/utf8.acceptRanges", laid_unicode_utf8_acceptRanges), ("unicode/utf8.first", laid_unicode_utf8_first)] }
def FnExactPlaceNamedSaid : Prop := fnExactPlaceNamedRow.holds Tryz.pinned (OpenSpec.ofChange fnExactPlaceNamedSpec)

/-- ITS FALSE NEIGHBOUR: 'it returns false'. Refute it at one input. -/
def fnExactPlaceNamedWrong : ChangeSpec := { name := "fnExactPlaceNamed", fn := fun _ => fun
  | [d1, d2, d3] => { results := [.lit (.bool false)], args := [d1, d2, d3] }
  | _ => none }
def FnExactPlaceNamedWrongFalsely : Prop := fnExactPlaceNamedRow.holds Tryz.pinned (OpenSpec.ofChange fnExactPlaceNamedWrong)

/-- 'laws.FnExactPlaceCap': WHATEVER THE INPUT: true; the input reads as it did. -/
def fnExactPlaceCapSpec : ChangeSpec := { name := "fnExactPlaceCap", fn := fun _ => fun
  | [d1, d2, d3] => { results := [.lit (.bool true)], args := [d1, d2, d3] }
  | _ => none }
def fnExactPlaceCapRow : OpenClaim := { program := "ytphdlidoehagbaagreatdoor", sum := "3eabf2048b273251c6926811b5339251df20ca7f0b808d96a84d369e3a2b05e8", func := "loop.example/g00861/laws.FnExactPlaceCap", spec := "fnExactPlaceCap", inPlace := ["internal/bytealg.IndexByteString", "internal/bytealg.IndexString"], unfollowed := true, recurses := true, named := ["unicode/utf8.first", "unicode/utf8.acceptRanges", "internal/bytealg.MaxLen"], apart := false, laid := [("unicode/utf8.acceptRanges", laid_unicode_utf8_acceptRanges), ("unicode/utf8.first", laid_unicode_utf8_first)] }
def FnExactPlaceCapSaid : Prop := fnExactPlaceCapRow.holds Tryz.pinned (OpenSpec.ofChange fnExactPlaceCapSpec)

/-- ITS FALSE NEIGHBOUR: 'it returns false'. Refute it at one input. -/
def fnExactPlaceCapWrong : ChangeSpec := { name := "fnExactPlaceCap", fn := fun _ => fun
  | [d1, d2, d3] => { results := [.lit (.bool false)], args := [d1, d2, d3] }
  | _ => none }
def FnExactPlaceCapWrongFalsely : Prop := fnExactPlaceCapRow.holds Tryz.pinned (OpenSpec.ofChange fnExactPlaceCapWrong)

/-- 'laws.FnExactPlaceName': WHATEVER THE INPUT: true; the input reads as it did. -/
def fnExactPlaceNameSpec : ChangeSpec := { name := "fnExactPlaceName", fn := fun _ => fun
  | [d1, d2, d3] => { results := [.lit (.bool true)], args := [d1, d2, d3] }
  | _ => none }
def fnExactPlaceNameRow : OpenClaim := { program := "ytphdlidoehagbaagreatdoor", sum := "3eabf2048b273251c6926811b5339251df20ca7f0b808d96a84d369e3a2b05e8", func := "loop.example/g00861/laws.FnExactPlaceName", spec := "fnExactPlaceName", inPlace := ["internal/bytealg.IndexByteString", "internal/bytealg.IndexString"], unfollowed := true, recurses := true, named := ["unicode/utf8.first", "unicode/utf8.acceptRanges", "internal/bytealg.MaxLen"], apart := false, laid := [("unicode/utf8.acceptRanges", laid_unicode_utf8_acceptRanges), ("unicode/utf8.first", laid_unicode_utf8_first)] }
def FnExactPlaceNameSaid : Prop := fnExactPlaceNameRow.holds Tryz.pinned (OpenSpec.ofChange fnExactPlaceNameSpec)

/-- ITS FALSE NEIGHBOUR: 'it returns false'. Refute it at one input. -/
def fnExactPlaceNameWrong : ChangeSpec := { name := "fnExactPlaceName", fn := fun _ => fun
  | [d1, d2, d3] => { results := [.lit (.bool false)], args := [d1, d2, d3] }
  | _ => none }
def FnExactPlaceNameWrongFalsely : Prop := fnExactPlaceNameRow.holds Tryz.pinned (OpenSpec.ofChange fnExactPlaceNameWrong)

/-- 'laws.FnExactInstanceText': WHATEVER THE INPUT: true; the input reads as it did. -/
def fnExactInstanceTextSpec : ChangeSpec := { name := "fnExactInstanceText", fn := fun _ => fun
  | [d1, d2, d3] => { results := [.lit (.bool true)], args := [d1, d2, d3] }
  | _ => none }
def fnExactInstanceTextRow : OpenClaim := { program := "ytphdlidoehagbaagreatdoor", sum := "3eabf2048b273251c6926811b5339251df20ca7f0b808d96a84d369e3a2b05e8", func := "loop.example/g00861/laws.FnExactInstanceText", spec := "fnExactInstanceText", inPlace := ["internal/bytealg.IndexByteString", "internal/bytealg.IndexString", "internal/abi.NoEscape", "internal/bytealg.MakeNoZero"], unfollowed := true, recurses := true, named := ["unicode/utf8.first", "unicode/utf8.acceptRanges", "internal/bytealg.MaxLen"], apart := false, laid := [("unicode/utf8.acceptRanges", laid_unicode_utf8_acceptRanges), ("unicode/utf8.first", laid_unicode_utf8_first)] }
def FnExactInstanceTextSaid : Prop := fnExactInstanceTextRow.holds Tryz.pinned (OpenSpec.ofChange fnExactInstanceTextSpec)

/-- ITS FALSE NEIGHBOUR: 'it returns false'. Refute it at one input. -/
def fnExactInstanceTextWrong : ChangeSpec := { name := "fnExactInstanceText", fn := fun _ => fun
  | [d1, d2, d3] => { results := [.lit (.bool false)], args := [d1, d2, d3] }
  | _ => none }
def FnExactInstanceTextWrongFalsely : Prop := fnExactInstanceTextRow.holds Tryz.pinned (OpenSpec.ofChange fnExactInstanceTextWrong)

/-- 'laws.FnExactDesignText': WHATEVER THE INPUT: true; the input reads as it did. -/
def fnExactDesignTextSpec : ChangeSpec := { name := "fnExactDesignText", fn := fun _ => fun
  | [d1, d2] => { results := [.lit (.bool true)], args := [d1, d2] }
  | _ => none }
def fnExactDesignTextRow : OpenClaim := { program := "ytphdlidoehagbaagreatdoor", sum := "3eabf2048b273251c6926811b5339251df20ca7f0b808d96a84d369e3a2b05e8", func := "loop.example/g00861/laws.FnExactDesignText", spec := "fnExactDesignText", inPlace := ["internal/bytealg.IndexByteString", "internal/bytealg.IndexString", "internal/abi.NoEscape", "internal/bytealg.MakeNoZero"], unfollowed := true, recurses := true, named := ["unicode/utf8.first", "unicode/utf8.acceptRanges", "internal/bytealg.MaxLen"], apart := false, laid := [("unicode/utf8.acceptRanges", laid_unicode_utf8_acceptRanges), ("unicode/utf8.first", laid_unicode_utf8_first)] }
def FnExactDesignTextSaid : Prop := fnExactDesignTextRow.holds Tryz.pinned (OpenSpec.ofChange fnExactDesignTextSpec)

/-- ITS FALSE NEIGHBOUR: 'it returns false'. Refute it at one input. -/
def fnExactDesignTextWrong : ChangeSpec := { name := "fnExactDesignText", fn := fun _ => fun
  | [d1, d2] => { results := [.lit (.bool false)], args := [d1, d2] }
  | _ => none }
def FnExactDesignTextWrongFalsely : Prop := fnExactDesignTextRow.holds Tryz.pinned (OpenSpec.ofChange fnExactDesignTextWrong)

/-- 'laws.FnExactSinksOf': WHATEVER THE INPUT: true; the input reads as it did. -/
def fnExactSinksOfSpec : ChangeSpec := { name := "fnExactSinksOf", fn := fun _ => fun
  | [d1, d2, d3] => { results := [.lit (.bool true)], args := [d1, d2, d3] }
  | _ => none }
def fnExactSinksOfRow : OpenClaim := { program := "ytphdlidoehagbaagreatdoor", sum := "3eabf2048b273251c6926811b5339251df20ca7f0b808d96a84d369e3a2b05e8", func := "loop.example/g00861/laws.FnExactSinksOf", spec := "fnExactSinksOf", inPlace := ["internal/bytealg.IndexByteString", "internal/bytealg.IndexString"], unfollowed := true, recurses := true, named := ["unicode/utf8.first", "unicode/utf8.acceptRanges", "internal/bytealg.MaxLen"], apart := false, laid := [("unicode/utf8.acceptRanges", laid_unicode_utf8_acceptRanges), ("unicode/utf8.first", laid_unicode_utf8_first)] }
def FnExactSinksOfSaid : Prop := fnExactSinksOfRow.holds Tryz.pinned (OpenSpec.ofChange fnExactSinksOfSpec)

/-- ITS FALSE NEIGHBOUR: 'it returns false'. Refute it at one input. -/
def fnExactSinksOfWrong : ChangeSpec := { name := "fnExactSinksOf", fn := fun _ => fun
  | [d1, d2, d3] => { results := [.lit (.bool false)], args := [d1, d2, d3] }
  | _ => none }
def FnExactSinksOfWrongFalsely : Prop := fnExactSinksOfRow.holds Tryz.pinned (OpenSpec.ofChange fnExactSinksOfWrong)

/- THE SECOND FORM. 'bulk': how many values and letters a reading holds, each counted each time it is reached (what is shared counts as often as it is met; a slice's spare places count too). A statement '..UptoSaid' is the law's where the arguments, and the package variables that the reading takes, are together of bulk at most 1048576: NARROWER than '..Said'. Prove '..Said' where nothing that the law and all that it calls make is longer than what came in: it says more and counts as full. Else prove '..UptoSaid'. A law counts once. -/
mutual
def uptoBulk {H : Type} : DataW H → Nat
  | .lit (.string bytes) => bytes.length + 1
  | .lit _ => 1
  | .nil => 1
  | .ptr d => uptoBulk d + 1
  | .slice elems spare => uptoBulkAll elems + uptoBulkAll spare + 1
  | .agg parts => uptoBulkAll parts + 1
  | .iface _ d => uptoBulk d + 1
  | .map entries => uptoBulkEntries entries + 1
  | .held _ => 1
def uptoBulkAll {H : Type} : List (DataW H) → Nat
  | [] => 0
  | d :: r => uptoBulk d + uptoBulkAll r
def uptoBulkEntries {H : Type} : List (Lit × DataW H) → Nat
  | [] => 0
  | x :: r => uptoBulkEntry x + uptoBulkEntries r
def uptoBulkEntry {H : Type} : Lit × DataW H → Nat
  | (.string bytes, d) => bytes.length + uptoBulk d + 1
  | (_, d) => uptoBulk d + 1
 end
def uptoSmall : (H : Type) → List (DataW H) → Bool := fun _ ds => decide (uptoBulkAll ds ≤ 1048576)
def OpenSpec.upto (s : _root_.Go.ChangeSpec) : _root_.Go.OpenSpec := { _root_.Go.OpenSpec.ofChange s with cond := some uptoSmall }

/-- 'laws.FnExactPlaceCount', WHERE WHAT IT READS IS OF BULK AT MOST 1048576: true; the input reads as it did. -/
def fnExactPlaceCountUptoRow : OpenClaim := { program := "ytphdlidoehagbaagreatdoor", sum := "3eabf2048b273251c6926811b5339251df20ca7f0b808d96a84d369e3a2b05e8", func := "loop.example/g00861/laws.FnExactPlaceCount", spec := "fnExactPlaceCount", inPlace := ["internal/bytealg.IndexByteString", "internal/bytealg.IndexString"], unfollowed := true, recurses := true, named := ["unicode/utf8.first", "unicode/utf8.acceptRanges", "internal/bytealg.MaxLen"], apart := false, laid := [("unicode/utf8.acceptRanges", laid_unicode_utf8_acceptRanges), ("unicode/utf8.first", laid_unicode_utf8_first)], narrowed := true }
def FnExactPlaceCountUptoSaid : Prop := fnExactPlaceCountUptoRow.holds Tryz.pinned (OpenSpec.upto fnExactPlaceCountSpec)

/-- 'laws.FnExactDriverOf', WHERE WHAT IT READS IS OF BULK AT MOST 1048576: true; the input reads as it did. -/
def fnExactDriverOfUptoRow : OpenClaim := { program := "ytphdlidoehagbaagreatdoor", sum := "3eabf2048b273251c6926811b5339251df20ca7f0b808d96a84d369e3a2b05e8", func := "loop.example/g00861/laws.FnExactDriverOf", spec := "fnExactDriverOf", inPlace := ["internal/bytealg.IndexByteString", "internal/bytealg.IndexString"], unfollowed := true, recurses := true, named := ["unicode/utf8.first", "unicode/utf8.acceptRanges", "internal/bytealg.MaxLen"], apart := false, laid := [("unicode/utf8.acceptRanges", laid_unicode_utf8_acceptRanges), ("unicode/utf8.first", laid_unicode_utf8_first)], narrowed := true }
def FnExactDriverOfUptoSaid : Prop := fnExactDriverOfUptoRow.holds Tryz.pinned (OpenSpec.upto fnExactDriverOfSpec)

/-- 'laws.FnExactPlaceOf', WHERE WHAT IT READS IS OF BULK AT MOST 1048576: true; the input reads as it did. -/
def fnExactPlaceOfUptoRow : OpenClaim := { program := "ytphdlidoehagbaagreatdoor", sum := "3eabf2048b273251c6926811b5339251df20ca7f0b808d96a84d369e3a2b05e8", func := "loop.example/g00861/laws.FnExactPlaceOf", spec := "fnExactPlaceOf", inPlace := ["internal/bytealg.IndexByteString", "internal/bytealg.IndexString"], unfollowed := true, recurses := true, named := ["unicode/utf8.first", "unicode/utf8.acceptRanges", "internal/bytealg.MaxLen"], apart := false, laid := [("unicode/utf8.acceptRanges", laid_unicode_utf8_acceptRanges), ("unicode/utf8.first", laid_unicode_utf8_first)], narrowed := true }
def FnExactPlaceOfUptoSaid : Prop := fnExactPlaceOfUptoRow.holds Tryz.pinned (OpenSpec.upto fnExactPlaceOfSpec)

/-- 'laws.FnExactInstanceOf', WHERE WHAT IT READS IS OF BULK AT MOST 1048576: true; the input reads as it did. -/
def fnExactInstanceOfUptoRow : OpenClaim := { program := "ytphdlidoehagbaagreatdoor", sum := "3eabf2048b273251c6926811b5339251df20ca7f0b808d96a84d369e3a2b05e8", func := "loop.example/g00861/laws.FnExactInstanceOf", spec := "fnExactInstanceOf", inPlace := ["internal/bytealg.IndexByteString", "internal/bytealg.IndexString"], unfollowed := true, recurses := true, named := ["unicode/utf8.first", "unicode/utf8.acceptRanges", "internal/bytealg.MaxLen"], apart := false, laid := [("unicode/utf8.acceptRanges", laid_unicode_utf8_acceptRanges), ("unicode/utf8.first", laid_unicode_utf8_first)], narrowed := true }
def FnExactInstanceOfUptoSaid : Prop := fnExactInstanceOfUptoRow.holds Tryz.pinned (OpenSpec.upto fnExactInstanceOfSpec)

/-- 'laws.FnExactNetOfPlace', WHERE WHAT IT READS IS OF BULK AT MOST 1048576: true; the input reads as it did. -/
def fnExactNetOfPlaceUptoRow : OpenClaim := { program := "ytphdlidoehagbaagreatdoor", sum := "3eabf2048b273251c6926811b5339251df20ca7f0b808d96a84d369e3a2b05e8", func := "loop.example/g00861/laws.FnExactNetOfPlace", spec := "fnExactNetOfPlace", inPlace := ["internal/bytealg.IndexByteString", "internal/bytealg.IndexString"], unfollowed := true, recurses := true, named := ["unicode/utf8.first", "unicode/utf8.acceptRanges", "internal/bytealg.MaxLen"], apart := false, laid := [("unicode/utf8.acceptRanges", laid_unicode_utf8_acceptRanges), ("unicode/utf8.first", laid_unicode_utf8_first)], narrowed := true }
def FnExactNetOfPlaceUptoSaid : Prop := fnExactNetOfPlaceUptoRow.holds Tryz.pinned (OpenSpec.upto fnExactNetOfPlaceSpec)

/-- 'laws.FnExactPlaceNamed', WHERE WHAT IT READS IS OF BULK AT MOST 1048576: true; the input reads as it did. -/
def fnExactPlaceNamedUptoRow : OpenClaim := { program := "ytphdlidoehagbaagreatdoor", sum := "3eabf2048b273251c6926811b5339251df20ca7f0b808d96a84d369e3a2b05e8", func := "loop.example/g00861/laws.FnExactPlaceNamed", spec := "fnExactPlaceNamed", inPlace := ["internal/bytealg.IndexByteString", "internal/bytealg.IndexString"], unfollowed := true, recurses := true, named := ["unicode/utf8.first", "unicode/utf8.acceptRanges", "internal/bytealg.MaxLen"], apart := false, laid := [("unicode/utf8.acceptRanges", laid_unicode_utf8_acceptRanges), ("unicode/utf8.first", laid_unicode_utf8_first)], narrowed := true }
def FnExactPlaceNamedUptoSaid : Prop := fnExactPlaceNamedUptoRow.holds Tryz.pinned (OpenSpec.upto fnExactPlaceNamedSpec)

/-- 'laws.FnExactPlaceCap', WHERE WHAT IT READS IS OF BULK AT MOST 1048576: true; the input reads as it did. -/
def fnExactPlaceCapUptoRow : OpenClaim := { program := "ytphdlidoehagbaagreatdoor", sum := "3eabf2048b273251c6926811b5339251df20ca7f0b808d96a84d369e3a2b05e8", func := "loop.example/g00861/laws.FnExactPlaceCap", spec := "fnExactPlaceCap", inPlace := ["internal/bytealg.IndexByteString", "internal/bytealg.IndexString"], unfollowed := true, recurses := true, named := ["unicode/utf8.first", "unicode/utf8.acceptRanges", "internal/bytealg.MaxLen"], apart := false, laid := [("unicode/utf8.acceptRanges", laid_unicode_utf8_acceptRanges), ("unicode/utf8.first", laid_unicode_utf8_first)], narrowed := true }
def FnExactPlaceCapUptoSaid : Prop := fnExactPlaceCapUptoRow.holds Tryz.pinned (OpenSpec.upto fnExactPlaceCapSpec)

/-- 'laws.FnExactPlaceName', WHERE WHAT IT READS IS OF BULK AT MOST 1048576: true; the input reads as it did. -/
def fnExactPlaceNameUptoRow : OpenClaim := { program := "ytphdlidoehagbaagreatdoor", sum := "3eabf2048b273251c6926811b5339251df20ca7f0b808d96a84d369e3a2b05e8", func := "loop.example/g00861/laws.FnExactPlaceName", spec := "fnExactPlaceName", inPlace := ["internal/bytealg.IndexByteString", "internal/bytealg.IndexString"], unfollowed := true, recurses := true, named := ["unicode/utf8.first", "unicode/utf8.acceptRanges", "internal/bytealg.MaxLen"], apart := false, laid := [("unicode/utf8.acceptRanges", laid_unicode_utf8_acceptRanges), ("unicode/utf8.first", laid_unicode_utf8_first)], narrowed := true }
def FnExactPlaceNameUptoSaid : Prop := fnExactPlaceNameUptoRow.holds Tryz.pinned (OpenSpec.upto fnExactPlaceNameSpec)

/-- 'laws.FnExactInstanceText', WHERE WHAT IT READS IS OF BULK AT MOST 1048576: true; the input reads as it did. -/
def fnExactInstanceTextUptoRow : OpenClaim := { program := "ytphdlidoehagbaagreatdoor", sum := "3eabf2048b273251c6926811b5339251df20ca7f0b808d96a84d369e3a2b05e8", func := "loop.example/g00861/laws.FnExactInstanceText", spec := "fnExactInstanceText", inPlace := ["internal/bytealg.IndexByteString", "internal/bytealg.IndexString", "internal/abi.NoEscape", "internal/bytealg.MakeNoZero"], unfollowed := true, recurses := true, named := ["unicode/utf8.first", "unicode/utf8.acceptRanges", "internal/bytealg.MaxLen"], apart := false, laid := [("unicode/utf8.acceptRanges", laid_unicode_utf8_acceptRanges), ("unicode/utf8.first", laid_unicode_utf8_first)], narrowed := true }
def FnExactInstanceTextUptoSaid : Prop := fnExactInstanceTextUptoRow.holds Tryz.pinned (OpenSpec.upto fnExactInstanceTextSpec)

/-- 'laws.FnExactDesignText', WHERE WHAT IT READS IS OF BULK AT MOST 1048576: true; the input reads as it did. -/
def fnExactDesignTextUptoRow : OpenClaim := { program := "ytphdlidoehagbaagreatdoor", sum := "3eabf2048b273251c6926811b5339251df20ca7f0b808d96a84d369e3a2b05e8", func := "loop.example/g00861/laws.FnExactDesignText", spec := "fnExactDesignText", inPlace := ["internal/bytealg.IndexByteString", "internal/bytealg.IndexString", "internal/abi.NoEscape", "internal/bytealg.MakeNoZero"], unfollowed := true, recurses := true, named := ["unicode/utf8.first", "unicode/utf8.acceptRanges", "internal/bytealg.MaxLen"], apart := false, laid := [("unicode/utf8.acceptRanges", laid_unicode_utf8_acceptRanges), ("unicode/utf8.first", laid_unicode_utf8_first)], narrowed := true }
def FnExactDesignTextUptoSaid : Prop := fnExactDesignTextUptoRow.holds Tryz.pinned (OpenSpec.upto fnExactDesignTextSpec)

/-- 'laws.FnExactSinksOf', WHERE WHAT IT READS IS OF BULK AT MOST 1048576: true; the input reads as it did. -/
def fnExactSinksOfUptoRow : OpenClaim := { program := "ytphdlidoehagbaagreatdoor", sum := "3eabf2048b273251c6926811b5339251df20ca7f0b808d96a84d369e3a2b05e8", func := "loop.example/g00861/laws.FnExactSinksOf", spec := "fnExactSinksOf", inPlace := ["internal/bytealg.IndexByteString", "internal/bytealg.IndexString"], unfollowed := true, recurses := true, named := ["unicode/utf8.first", "unicode/utf8.acceptRanges", "internal/bytealg.MaxLen"], apart := false, laid := [("unicode/utf8.acceptRanges", laid_unicode_utf8_acceptRanges), ("unicode/utf8.first", laid_unicode_utf8_first)], narrowed := true }
def FnExactSinksOfUptoSaid : Prop := fnExactSinksOfUptoRow.holds Tryz.pinned (OpenSpec.upto fnExactSinksOfSpec)

end Rows
end Go.Proofs.YtphdlidoehagbaaGreatDoor
