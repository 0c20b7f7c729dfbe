/-
  NARROWER THAN 'FOR EVERY INPUT', by the rows' own cells (each row's printed sentence says how): FnExactIsLibrary: laid · FnExactCellNamed: laid · FnExactArcsTo: laid · FnExactIsDesign: laid · FnExactPlaceCount: laid · FnExactDriverOf: laid · FnExactPlaceOf: laid · FnExactInstanceOf: laid · FnExactNetOfPlace: laid · FnExactPlaceCap: laid · FnExactSinksOf: laid · FnExactIsBlock: laid · FnExactNetLoad: laid · FnExactNodeLoads: laid · FnExactNodeDelays: laid · FnExactSinkSlew: laid.
  DERIVED. THE GIVEN ROWS OF THIS SEAT. 16 by the template 'for every input the law returns true; each argument reads behind the call as it read before'; 0 by the template 'total and deterministic' (their statements: YtnojnmdfklgooaaGreatDoorTotals.lean).
  GIVEN WITH THE SEED: the statements are not yours to turn. If you find one false, say at which input.
  Laid BY PROGRAM, IN A SANDBOX (cutbox-rows.mjs): the forced cells as the released guide's own fill.sh prints them over the translation 336fd5bbee83f3bb… (all of the seat's roots in one cut). By AI agents, Wed Nov 11 2026. No macro, syntax, notation, axiom, sorry.
-/
import Derived.Test.YtnojnmdfklgooaaGreatDoorChecked
import GoSem.PinnedTables
import GoSem.Claim
import GoSem.ClaimJoined
import GoSem.ClaimMapViews
import Derived.JoinedTies
import Derived.KernelRfl
namespace Go.Proofs.YtnojnmdfklgooaaGreatDoor
/- THE CELL 'sum', in the pinned program and in every row, IS THE sha256 OF THE DUMP (.gsa) THAT YtnojnmdfklgooaaGreatDoorProg.lean LOADS. Nothing in Lean hashes anything: it is a label: what it is worth is what the hold of that sum in a sandbox is worth. -/
noncomputable def Tryz.pinned : Pinned := { name := "ytnojnmdfklgooaagreatdoor", sum := "336fd5bbee83f3bba14e0093d3fb71ab6fdb3cf59cce301ec753e2492ae6df4f", checked := Tryz.checked }
namespace Rows
def none {H : Type} : Left H := { results := [], args := [] }

/- WHAT THE LISTED PACKAGE-LEVEL VARIABLES READ AS WHEN THE CALL BEGINS. Each datum BY PROGRAM (the guide's laid-datum.mjs) off the statement by which the dump's own 'gosem.cut.vars' lays the variable. In a bare row this is a premise. The card (YtnojnmdfklgooaaGreatDoorCards.lean) ties it to the program's text. -/
def laid_unicode_utf8_acceptRanges {H : Type} : DataW H := .agg [.agg [.lit (.int .u8 128), .lit (.int .u8 191)], .agg [.lit (.int .u8 160), .lit (.int .u8 191)], .agg [.lit (.int .u8 128), .lit (.int .u8 159)], .agg [.lit (.int .u8 144), .lit (.int .u8 191)], .agg [.lit (.int .u8 128), .lit (.int .u8 143)], .agg [.lit (.int .u8 0), .lit (.int .u8 0)], .agg [.lit (.int .u8 0), .lit (.int .u8 0)], .agg [.lit (.int .u8 0), .lit (.int .u8 0)], .agg [.lit (.int .u8 0), .lit (.int .u8 0)], .agg [.lit (.int .u8 0), .lit (.int .u8 0)], .agg [.lit (.int .u8 0), .lit (.int .u8 0)], .agg [.lit (.int .u8 0), .lit (.int .u8 0)], .agg [.lit (.int .u8 0), .lit (.int .u8 0)], .agg [.lit (.int .u8 0), .lit (.int .u8 0)], .agg [.lit (.int .u8 0), .lit (.int .u8 0)], .agg [.lit (.int .u8 0), .lit (.int .u8 0)]]
/-- One of Go's own tables, pinned by name: the form's constant. -/
def laid_unicode_utf8_first : DataW Unit := Go.Pinned.utf8First

/-- 'laws.FnExactIsLibrary': WHATEVER THE INPUT: true; the input reads as it did. -/
def fnExactIsLibrarySpec : ChangeSpec := { name := "fnExactIsLibrary", fn := fun _ => fun
  | [d] => { results := [.lit (.bool true)], args := [d] }
  | _ => none }
def fnExactIsLibraryRow : OpenClaim := { program := "ytnojnmdfklgooaagreatdoor", sum := "336fd5bbee83f3bba14e0093d3fb71ab6fdb3cf59cce301ec753e2492ae6df4f", func := "loop.example/g00861/laws.FnExactIsLibrary", spec := "fnExactIsLibrary", inPlace := ["internal/bytealg.IndexByteString", "internal/bytealg.IndexString"], unfollowed := true, recurses := true, named := ["unicode/utf8.first", "unicode/utf8.acceptRanges", "internal/bytealg.MaxLen"], apart := false, laid := [("unicode/utf8.acceptRanges", laid_unicode_utf8_acceptRanges), ("unicode/utf8.first", laid_unicode_utf8_first)] }
def FnExactIsLibrarySaid : Prop := fnExactIsLibraryRow.holds Tryz.pinned (OpenSpec.ofChange fnExactIsLibrarySpec)

/-- ITS FALSE NEIGHBOUR: 'it returns false'. Refute it at one input. -/
def fnExactIsLibraryWrong : ChangeSpec := { name := "fnExactIsLibrary", fn := fun _ => fun
  | [d] => { results := [.lit (.bool false)], args := [d] }
  | _ => none }
def FnExactIsLibraryWrongFalsely : Prop := fnExactIsLibraryRow.holds Tryz.pinned (OpenSpec.ofChange fnExactIsLibraryWrong)

/-- 'laws.FnExactCellNamed': WHATEVER THE INPUT: true; the input reads as it did. -/
def fnExactCellNamedSpec : ChangeSpec := { name := "fnExactCellNamed", fn := fun _ => fun
  | [d1, d2] => { results := [.lit (.bool true)], args := [d1, d2] }
  | _ => none }
def fnExactCellNamedRow : OpenClaim := { program := "ytnojnmdfklgooaagreatdoor", sum := "336fd5bbee83f3bba14e0093d3fb71ab6fdb3cf59cce301ec753e2492ae6df4f", func := "loop.example/g00861/laws.FnExactCellNamed", spec := "fnExactCellNamed", inPlace := ["internal/bytealg.IndexByteString", "internal/bytealg.IndexString"], unfollowed := true, recurses := true, named := ["unicode/utf8.first", "unicode/utf8.acceptRanges", "internal/bytealg.MaxLen"], apart := false, laid := [("unicode/utf8.acceptRanges", laid_unicode_utf8_acceptRanges), ("unicode/utf8.first", laid_unicode_utf8_first)] }
def FnExactCellNamedSaid : Prop := fnExactCellNamedRow.holds Tryz.pinned (OpenSpec.ofChange fnExactCellNamedSpec)

/-- ITS FALSE NEIGHBOUR: 'it returns false'. Refute it at one input. -/
def fnExactCellNamedWrong : ChangeSpec := { name := "fnExactCellNamed", fn := fun _ => fun
  | [d1, d2] => { results := [.lit (.bool false)], args := [d1, d2] }
  | _ => none }
def FnExactCellNamedWrongFalsely : Prop := fnExactCellNamedRow.holds Tryz.pinned (OpenSpec.ofChange fnExactCellNamedWrong)

/-- 'laws.FnExactArcsTo': WHATEVER THE INPUT: true; the input reads as it did. -/
def fnExactArcsToSpec : ChangeSpec := { name := "fnExactArcsTo", fn := fun _ => fun
  | [d1, d2, d3] => { results := [.lit (.bool true)], args := [d1, d2, d3] }
  | _ => none }
def fnExactArcsToRow : OpenClaim := { program := "ytnojnmdfklgooaagreatdoor", sum := "336fd5bbee83f3bba14e0093d3fb71ab6fdb3cf59cce301ec753e2492ae6df4f", func := "loop.example/g00861/laws.FnExactArcsTo", spec := "fnExactArcsTo", inPlace := ["internal/bytealg.IndexByteString", "internal/bytealg.IndexString"], unfollowed := true, recurses := true, named := ["unicode/utf8.first", "unicode/utf8.acceptRanges", "internal/bytealg.MaxLen"], apart := false, laid := [("unicode/utf8.acceptRanges", laid_unicode_utf8_acceptRanges), ("unicode/utf8.first", laid_unicode_utf8_first)] }
def FnExactArcsToSaid : Prop := fnExactArcsToRow.holds Tryz.pinned (OpenSpec.ofChange fnExactArcsToSpec)

/-- ITS FALSE NEIGHBOUR: 'it returns false'. Refute it at one input. -/
def fnExactArcsToWrong : ChangeSpec := { name := "fnExactArcsTo", fn := fun _ => fun
  | [d1, d2, d3] => { results := [.lit (.bool false)], args := [d1, d2, d3] }
  | _ => none }
def FnExactArcsToWrongFalsely : Prop := fnExactArcsToRow.holds Tryz.pinned (OpenSpec.ofChange fnExactArcsToWrong)

/-- 'laws.FnExactIsDesign': WHATEVER THE INPUT: true; the input reads as it did. -/
def fnExactIsDesignSpec : ChangeSpec := { name := "fnExactIsDesign", fn := fun _ => fun
  | [d1, d2] => { results := [.lit (.bool true)], args := [d1, d2] }
  | _ => none }
def fnExactIsDesignRow : OpenClaim := { program := "ytnojnmdfklgooaagreatdoor", sum := "336fd5bbee83f3bba14e0093d3fb71ab6fdb3cf59cce301ec753e2492ae6df4f", func := "loop.example/g00861/laws.FnExactIsDesign", spec := "fnExactIsDesign", inPlace := ["internal/bytealg.IndexByteString", "internal/bytealg.IndexString"], unfollowed := true, recurses := true, named := ["unicode/utf8.first", "unicode/utf8.acceptRanges", "internal/bytealg.MaxLen"], apart := false, laid := [("unicode/utf8.acceptRanges", laid_unicode_utf8_acceptRanges), ("unicode/utf8.first", laid_unicode_utf8_first)] }
def FnExactIsDesignSaid : Prop := fnExactIsDesignRow.holds Tryz.pinned (OpenSpec.ofChange fnExactIsDesignSpec)

/-- ITS FALSE NEIGHBOUR: 'it returns false'. Refute it at one input. -/
def fnExactIsDesignWrong : ChangeSpec := { name := "fnExactIsDesign", fn := fun _ => fun
  | [d1, d2] => { results := [.lit (.bool false)], args := [d1, d2] }
  | _ => none }
def FnExactIsDesignWrongFalsely : Prop := fnExactIsDesignRow.holds Tryz.pinned (OpenSpec.ofChange fnExactIsDesignWrong)

/-- 'laws.FnExactPlaceCount': WHATEVER THE INPUT: true; the input reads as it did. -/
def fnExactPlaceCountSpec : ChangeSpec := { name := "fnExactPlaceCount", fn := fun _ => fun
  | [d1, d2] => { results := [.lit (.bool true)], args := [d1, d2] }
  | _ => none }
def fnExactPlaceCountRow : OpenClaim := { program := "ytnojnmdfklgooaagreatdoor", sum := "336fd5bbee83f3bba14e0093d3fb71ab6fdb3cf59cce301ec753e2492ae6df4f", func := "loop.example/g00861/laws.FnExactPlaceCount", spec := "fnExactPlaceCount", inPlace := ["internal/bytealg.IndexByteString", "internal/bytealg.IndexString"], unfollowed := true, recurses := true, named := ["unicode/utf8.first", "unicode/utf8.acceptRanges", "internal/bytealg.MaxLen"], apart := false, laid := [("unicode/utf8.acceptRanges", laid_unicode_utf8_acceptRanges), ("unicode/utf8.first", laid_unicode_utf8_first)] }
def FnExactPlaceCountSaid : Prop := fnExactPlaceCountRow.holds Tryz.pinned (OpenSpec.ofChange fnExactPlaceCountSpec)

/-- ITS FALSE NEIGHBOUR: 'it returns false'. Refute it at one input. -/
def fnExactPlaceCountWrong : ChangeSpec := { name := "fnExactPlaceCount", fn := fun _ => fun
  | [d1, d2] => { results := [.lit (.bool false)], args := [d1, d2] }
  | _ => none }
def FnExactPlaceCountWrongFalsely : Prop := fnExactPlaceCountRow.holds Tryz.pinned (OpenSpec.ofChange fnExactPlaceCountWrong)

/-- 'laws.FnExactDriverOf': WHATEVER THE INPUT: true; the input reads as it did. -/
def fnExactDriverOfSpec : ChangeSpec := { name := "fnExactDriverOf", fn := fun _ => fun
  | [d1, d2, d3] => { results := [.lit (.bool true)], args := [d1, d2, d3] }
  | _ => none }
def fnExactDriverOfRow : OpenClaim := { program := "ytnojnmdfklgooaagreatdoor", sum := "336fd5bbee83f3bba14e0093d3fb71ab6fdb3cf59cce301ec753e2492ae6df4f", func := "loop.example/g00861/laws.FnExactDriverOf", spec := "fnExactDriverOf", inPlace := ["internal/bytealg.IndexByteString", "internal/bytealg.IndexString"], unfollowed := true, recurses := true, named := ["unicode/utf8.first", "unicode/utf8.acceptRanges", "internal/bytealg.MaxLen"], apart := false, laid := [("unicode/utf8.acceptRanges", laid_unicode_utf8_acceptRanges), ("unicode/utf8.first", laid_unicode_utf8_first)] }
def FnExactDriverOfSaid : Prop := fnExactDriverOfRow.holds Tryz.pinned (OpenSpec.ofChange fnExactDriverOfSpec)

/-- ITS FALSE NEIGHBOUR: 'it returns false'. Refute it at one input. -/
def fnExactDriverOfWrong : ChangeSpec := { name := "fnExactDriverOf", fn := fun _ => fun
  | [d1, d2, d3] => { results := [.lit (.bool false)], args := [d1, d2, d3] }
  | _ => none }
def FnExactDriverOfWrongFalsely : Prop := fnExactDriverOfRow.holds Tryz.pinned (OpenSpec.ofChange fnExactDriverOfWrong)

/-- 'laws.FnExactPlaceOf': WHATEVER THE INPUT: true; the input reads as it did. -/
def fnExactPlaceOfSpec : ChangeSpec := { name := "fnExactPlaceOf", fn := fun _ => fun
  | [d1, d2, d3, d4] => { results := [.lit (.bool true)], args := [d1, d2, d3, d4] }
  | _ => none }
def fnExactPlaceOfRow : OpenClaim := { program := "ytnojnmdfklgooaagreatdoor", sum := "336fd5bbee83f3bba14e0093d3fb71ab6fdb3cf59cce301ec753e2492ae6df4f", func := "loop.example/g00861/laws.FnExactPlaceOf", spec := "fnExactPlaceOf", inPlace := ["internal/bytealg.IndexByteString", "internal/bytealg.IndexString"], unfollowed := true, recurses := true, named := ["unicode/utf8.first", "unicode/utf8.acceptRanges", "internal/bytealg.MaxLen"], apart := false, laid := [("unicode/utf8.acceptRanges", laid_unicode_utf8_acceptRanges), ("unicode/utf8.first", laid_unicode_utf8_first)] }
def FnExactPlaceOfSaid : Prop := fnExactPlaceOfRow.holds Tryz.pinned (OpenSpec.ofChange fnExactPlaceOfSpec)

/-- ITS FALSE NEIGHBOUR: 'it returns false'. Refute it at one input. -/
def fnExactPlaceOfWrong : ChangeSpec := { name := "fnExactPlaceOf", fn := fun _ => fun
  | [d1, d2, d3, d4] => { results := [.lit (.bool false)], args := [d1, d2, d3, d4] }
  | _ => none }
def FnExactPlaceOfWrongFalsely : Prop := fnExactPlaceOfRow.holds Tryz.pinned (OpenSpec.ofChange fnExactPlaceOfWrong)

/-- 'laws.FnExactInstanceOf': WHATEVER THE INPUT: true; the input reads as it did. -/
def fnExactInstanceOfSpec : ChangeSpec := { name := "fnExactInstanceOf", fn := fun _ => fun
  | [d1, d2, d3] => { results := [.lit (.bool true)], args := [d1, d2, d3] }
  | _ => none }
def fnExactInstanceOfRow : OpenClaim := { program := "ytnojnmdfklgooaagreatdoor", sum := "336fd5bbee83f3bba14e0093d3fb71ab6fdb3cf59cce301ec753e2492ae6df4f", func := "loop.example/g00861/laws.FnExactInstanceOf", spec := "fnExactInstanceOf", inPlace := ["internal/bytealg.IndexByteString", "internal/bytealg.IndexString"], unfollowed := true, recurses := true, named := ["unicode/utf8.first", "unicode/utf8.acceptRanges", "internal/bytealg.MaxLen"], apart := false, laid := [("unicode/utf8.acceptRanges", laid_unicode_utf8_acceptRanges), ("unicode/utf8.first", laid_unicode_utf8_first)] }
def FnExactInstanceOfSaid : Prop := fnExactInstanceOfRow.holds Tryz.pinned (OpenSpec.ofChange fnExactInstanceOfSpec)

/-- ITS FALSE NEIGHBOUR: 'it returns false'. Refute it at one input. -/
def fnExactInstanceOfWrong : ChangeSpec := { name := "fnExactInstanceOf", fn := fun _ => fun
  | [d1, d2, d3] => { results := [.lit (.bool false)], args := [d1, d2, d3] }
  | _ => none }
def FnExactInstanceOfWrongFalsely : Prop := fnExactInstanceOfRow.holds Tryz.pinned (OpenSpec.ofChange fnExactInstanceOfWrong)

/-- 'laws.FnExactNetOfPlace': WHATEVER THE INPUT: true; the input reads as it did. -/
def fnExactNetOfPlaceSpec : ChangeSpec := { name := "fnExactNetOfPlace", fn := fun _ => fun
  | [d1, d2, d3] => { results := [.lit (.bool true)], args := [d1, d2, d3] }
  | _ => none }
def fnExactNetOfPlaceRow : OpenClaim := { program := "ytnojnmdfklgooaagreatdoor", sum := "336fd5bbee83f3bba14e0093d3fb71ab6fdb3cf59cce301ec753e2492ae6df4f", func := "loop.example/g00861/laws.FnExactNetOfPlace", spec := "fnExactNetOfPlace", inPlace := ["internal/bytealg.IndexByteString", "internal/bytealg.IndexString"], unfollowed := true, recurses := true, named := ["unicode/utf8.first", "unicode/utf8.acceptRanges", "internal/bytealg.MaxLen"], apart := false, laid := [("unicode/utf8.acceptRanges", laid_unicode_utf8_acceptRanges), ("unicode/utf8.first", laid_unicode_utf8_first)] }
def FnExactNetOfPlaceSaid : Prop := fnExactNetOfPlaceRow.holds Tryz.pinned (OpenSpec.ofChange fnExactNetOfPlaceSpec)

/-- ITS FALSE NEIGHBOUR: 'it returns false'. Refute it at one input. -/
def fnExactNetOfPlaceWrong : ChangeSpec := { name := "fnExactNetOfPlace", fn := fun _ => fun
  | [d1, d2, d3] => { results := [.lit (.bool false)], args := [d1, d2, d3] }
  | _ => none }
def FnExactNetOfPlaceWrongFalsely : Prop := fnExactNetOfPlaceRow.holds Tryz.pinned (OpenSpec.ofChange fnExactNetOfPlaceWrong)

/-- 'laws.FnExactPlaceCap': WHATEVER THE INPUT: true; the input reads as it did. -/
def fnExactPlaceCapSpec : ChangeSpec := { name := "fnExactPlaceCap", fn := fun _ => fun
  | [d1, d2, d3] => { results := [.lit (.bool true)], args := [d1, d2, d3] }
  | _ => none }
def fnExactPlaceCapRow : OpenClaim := { program := "ytnojnmdfklgooaagreatdoor", sum := "336fd5bbee83f3bba14e0093d3fb71ab6fdb3cf59cce301ec753e2492ae6df4f", func := "loop.example/g00861/laws.FnExactPlaceCap", spec := "fnExactPlaceCap", inPlace := ["internal/bytealg.IndexByteString", "internal/bytealg.IndexString"], unfollowed := true, recurses := true, named := ["unicode/utf8.first", "unicode/utf8.acceptRanges", "internal/bytealg.MaxLen"], apart := false, laid := [("unicode/utf8.acceptRanges", laid_unicode_utf8_acceptRanges), ("unicode/utf8.first", laid_unicode_utf8_first)] }
def FnExactPlaceCapSaid : Prop := fnExactPlaceCapRow.holds Tryz.pinned (OpenSpec.ofChange fnExactPlaceCapSpec)

/-- ITS FALSE NEIGHBOUR: 'it returns false'. Refute it at one input. -/
def fnExactPlaceCapWrong : ChangeSpec := { name := "fnExactPlaceCap", fn := fun _ => fun
  | [d1, d2, d3] => { results := [.lit (.bool false)], args := [d1, d2, d3] }
  | _ => none }
def FnExactPlaceCapWrongFalsely : Prop := fnExactPlaceCapRow.holds Tryz.pinned (OpenSpec.ofChange fnExactPlaceCapWrong)

/-- 'laws.FnExactSinksOf': WHATEVER THE INPUT: true; the input reads as it did. -/
def fnExactSinksOfSpec : ChangeSpec := { name := "fnExactSinksOf", fn := fun _ => fun
  | [d1, d2, d3] => { results := [.lit (.bool true)], args := [d1, d2, d3] }
  | _ => none }
def fnExactSinksOfRow : OpenClaim := { program := "ytnojnmdfklgooaagreatdoor", sum := "336fd5bbee83f3bba14e0093d3fb71ab6fdb3cf59cce301ec753e2492ae6df4f", func := "loop.example/g00861/laws.FnExactSinksOf", spec := "fnExactSinksOf", inPlace := ["internal/bytealg.IndexByteString", "internal/bytealg.IndexString"], unfollowed := true, recurses := true, named := ["unicode/utf8.first", "unicode/utf8.acceptRanges", "internal/bytealg.MaxLen"], apart := false, laid := [("unicode/utf8.acceptRanges", laid_unicode_utf8_acceptRanges), ("unicode/utf8.first", laid_unicode_utf8_first)] }
def FnExactSinksOfSaid : Prop := fnExactSinksOfRow.holds Tryz.pinned (OpenSpec.ofChange fnExactSinksOfSpec)

/-- ITS FALSE NEIGHBOUR: 'it returns false'. Refute it at one input. -/
def fnExactSinksOfWrong : ChangeSpec := { name := "fnExactSinksOf", fn := fun _ => fun
  | [d1, d2, d3] => { results := [.lit (.bool false)], args := [d1, d2, d3] }
  | _ => none }
def FnExactSinksOfWrongFalsely : Prop := fnExactSinksOfRow.holds Tryz.pinned (OpenSpec.ofChange fnExactSinksOfWrong)

/-- 'laws.FnExactIsBlock': WHATEVER THE INPUT: true; the input reads as it did. -/
def fnExactIsBlockSpec : ChangeSpec := { name := "fnExactIsBlock", fn := fun _ => fun
  | [d] => { results := [.lit (.bool true)], args := [d] }
  | _ => none }
def fnExactIsBlockRow : OpenClaim := { program := "ytnojnmdfklgooaagreatdoor", sum := "336fd5bbee83f3bba14e0093d3fb71ab6fdb3cf59cce301ec753e2492ae6df4f", func := "loop.example/g00861/laws.FnExactIsBlock", spec := "fnExactIsBlock", inPlace := ["internal/bytealg.IndexByteString", "internal/bytealg.IndexString"], unfollowed := true, recurses := true, named := ["unicode/utf8.first", "unicode/utf8.acceptRanges", "internal/bytealg.MaxLen"], apart := false, laid := [("unicode/utf8.acceptRanges", laid_unicode_utf8_acceptRanges), ("unicode/utf8.first", laid_unicode_utf8_first)] }
def FnExactIsBlockSaid : Prop := fnExactIsBlockRow.holds Tryz.pinned (OpenSpec.ofChange fnExactIsBlockSpec)

/-- ITS FALSE NEIGHBOUR: 'it returns false'. Refute it at one input. -/
def fnExactIsBlockWrong : ChangeSpec := { name := "fnExactIsBlock", fn := fun _ => fun
  | [d] => { results := [.lit (.bool false)], args := [d] }
  | _ => none }
def FnExactIsBlockWrongFalsely : Prop := fnExactIsBlockRow.holds Tryz.pinned (OpenSpec.ofChange fnExactIsBlockWrong)

/-- 'laws.FnExactNetLoad': WHATEVER THE INPUT: true; the input reads as it did. -/
def fnExactNetLoadSpec : ChangeSpec := { name := "fnExactNetLoad", fn := fun _ => fun
  | [d1, d2] => { results := [.lit (.bool true)], args := [d1, d2] }
  | _ => none }
def fnExactNetLoadRow : OpenClaim := { program := "ytnojnmdfklgooaagreatdoor", sum := "336fd5bbee83f3bba14e0093d3fb71ab6fdb3cf59cce301ec753e2492ae6df4f", func := "loop.example/g00861/laws.FnExactNetLoad", spec := "fnExactNetLoad", inPlace := ["internal/bytealg.IndexByteString", "internal/bytealg.IndexString"], unfollowed := true, recurses := true, named := ["unicode/utf8.first", "unicode/utf8.acceptRanges", "internal/bytealg.MaxLen"], apart := false, laid := [("unicode/utf8.acceptRanges", laid_unicode_utf8_acceptRanges), ("unicode/utf8.first", laid_unicode_utf8_first)] }
def FnExactNetLoadSaid : Prop := fnExactNetLoadRow.holds Tryz.pinned (OpenSpec.ofChange fnExactNetLoadSpec)

/-- ITS FALSE NEIGHBOUR: 'it returns false'. Refute it at one input. -/
def fnExactNetLoadWrong : ChangeSpec := { name := "fnExactNetLoad", fn := fun _ => fun
  | [d1, d2] => { results := [.lit (.bool false)], args := [d1, d2] }
  | _ => none }
def FnExactNetLoadWrongFalsely : Prop := fnExactNetLoadRow.holds Tryz.pinned (OpenSpec.ofChange fnExactNetLoadWrong)

/-- 'laws.FnExactNodeLoads': WHATEVER THE INPUT: true; the input reads as it did. -/
def fnExactNodeLoadsSpec : ChangeSpec := { name := "fnExactNodeLoads", fn := fun _ => fun
  | [d1, d2] => { results := [.lit (.bool true)], args := [d1, d2] }
  | _ => none }
def fnExactNodeLoadsRow : OpenClaim := { program := "ytnojnmdfklgooaagreatdoor", sum := "336fd5bbee83f3bba14e0093d3fb71ab6fdb3cf59cce301ec753e2492ae6df4f", func := "loop.example/g00861/laws.FnExactNodeLoads", spec := "fnExactNodeLoads", inPlace := ["internal/bytealg.IndexByteString", "internal/bytealg.IndexString"], unfollowed := true, recurses := true, named := ["unicode/utf8.first", "unicode/utf8.acceptRanges", "internal/bytealg.MaxLen"], apart := false, laid := [("unicode/utf8.acceptRanges", laid_unicode_utf8_acceptRanges), ("unicode/utf8.first", laid_unicode_utf8_first)] }
def FnExactNodeLoadsSaid : Prop := fnExactNodeLoadsRow.holds Tryz.pinned (OpenSpec.ofChange fnExactNodeLoadsSpec)

/-- ITS FALSE NEIGHBOUR: 'it returns false'. Refute it at one input. -/
def fnExactNodeLoadsWrong : ChangeSpec := { name := "fnExactNodeLoads", fn := fun _ => fun
  | [d1, d2] => { results := [.lit (.bool false)], args := [d1, d2] }
  | _ => none }
def FnExactNodeLoadsWrongFalsely : Prop := fnExactNodeLoadsRow.holds Tryz.pinned (OpenSpec.ofChange fnExactNodeLoadsWrong)

/-- 'laws.FnExactNodeDelays': WHATEVER THE INPUT: true; the input reads as it did. -/
def fnExactNodeDelaysSpec : ChangeSpec := { name := "fnExactNodeDelays", fn := fun _ => fun
  | [d1, d2] => { results := [.lit (.bool true)], args := [d1, d2] }
  | _ => none }
def fnExactNodeDelaysRow : OpenClaim := { program := "ytnojnmdfklgooaagreatdoor", sum := "336fd5bbee83f3bba14e0093d3fb71ab6fdb3cf59cce301ec753e2492ae6df4f", func := "loop.example/g00861/laws.FnExactNodeDelays", spec := "fnExactNodeDelays", inPlace := ["internal/bytealg.IndexByteString", "internal/bytealg.IndexString"], unfollowed := true, recurses := true, named := ["unicode/utf8.first", "unicode/utf8.acceptRanges", "internal/bytealg.MaxLen"], apart := false, laid := [("unicode/utf8.acceptRanges", laid_unicode_utf8_acceptRanges), ("unicode/utf8.first", laid_unicode_utf8_first)] }
def FnExactNodeDelaysSaid : Prop := fnExactNodeDelaysRow.holds Tryz.pinned (OpenSpec.ofChange fnExactNodeDelaysSpec)

/-- ITS FALSE NEIGHBOUR: 'it returns false'. Refute it at one input. -/
def fnExactNodeDelaysWrong : ChangeSpec := { name := "fnExactNodeDelays", fn := fun _ => fun
  | [d1, d2] => { results := [.lit (.bool false)], args := [d1, d2] }
  | _ => none }
def FnExactNodeDelaysWrongFalsely : Prop := fnExactNodeDelaysRow.holds Tryz.pinned (OpenSpec.ofChange fnExactNodeDelaysWrong)

/-- 'laws.FnExactSinkSlew': WHATEVER THE INPUT: true; the input reads as it did. -/
def fnExactSinkSlewSpec : ChangeSpec := { name := "fnExactSinkSlew", fn := fun _ => fun
  | [d1, d2, d3, d4, d5] => { results := [.lit (.bool true)], args := [d1, d2, d3, d4, d5] }
  | _ => none }
def fnExactSinkSlewRow : OpenClaim := { program := "ytnojnmdfklgooaagreatdoor", sum := "336fd5bbee83f3bba14e0093d3fb71ab6fdb3cf59cce301ec753e2492ae6df4f", func := "loop.example/g00861/laws.FnExactSinkSlew", spec := "fnExactSinkSlew", inPlace := ["internal/bytealg.IndexByteString", "internal/bytealg.IndexString"], unfollowed := true, recurses := true, named := ["unicode/utf8.first", "unicode/utf8.acceptRanges", "internal/bytealg.MaxLen"], apart := false, laid := [("unicode/utf8.acceptRanges", laid_unicode_utf8_acceptRanges), ("unicode/utf8.first", laid_unicode_utf8_first)] }
def FnExactSinkSlewSaid : Prop := fnExactSinkSlewRow.holds Tryz.pinned (OpenSpec.ofChange fnExactSinkSlewSpec)

/-- ITS FALSE NEIGHBOUR: 'it returns false'. Refute it at one input. -/
def fnExactSinkSlewWrong : ChangeSpec := { name := "fnExactSinkSlew", fn := fun _ => fun
  | [d1, d2, d3, d4, d5] => { results := [.lit (.bool false)], args := [d1, d2, d3, d4, d5] }
  | _ => none }
def FnExactSinkSlewWrongFalsely : Prop := fnExactSinkSlewRow.holds Tryz.pinned (OpenSpec.ofChange fnExactSinkSlewWrong)

/- THE SECOND FORM. 'bulk': how many values and letters a reading holds, each counted each time it is reached (what is shared counts as often as it is met; a slice's spare places count too). A statement '..UptoSaid' is the law's where the arguments, and the package variables that the reading takes, are together of bulk at most 1048576: NARROWER than '..Said'. Prove '..Said' where nothing that the law and all that it calls make is longer than what came in: it says more and counts as full. Else prove '..UptoSaid'. A law counts once. -/
mutual
def uptoBulk {H : Type} : DataW H → Nat
  | .lit (.string bytes) => bytes.length + 1
  | .lit _ => 1
  | .nil => 1
  | .ptr d => uptoBulk d + 1
  | .slice elems spare => uptoBulkAll elems + uptoBulkAll spare + 1
  | .agg parts => uptoBulkAll parts + 1
  | .iface _ d => uptoBulk d + 1
  | .map entries => uptoBulkEntries entries + 1
  | .held _ => 1
def uptoBulkAll {H : Type} : List (DataW H) → Nat
  | [] => 0
  | d :: r => uptoBulk d + uptoBulkAll r
def uptoBulkEntries {H : Type} : List (Lit × DataW H) → Nat
  | [] => 0
  | x :: r => uptoBulkEntry x + uptoBulkEntries r
def uptoBulkEntry {H : Type} : Lit × DataW H → Nat
  | (.string bytes, d) => bytes.length + uptoBulk d + 1
  | (_, d) => uptoBulk d + 1
 end
def uptoSmall : (H : Type) → List (DataW H) → Bool := fun _ ds => decide (uptoBulkAll ds ≤ 1048576)
def OpenSpec.upto (s : _root_.Go.ChangeSpec) : _root_.Go.OpenSpec := { _root_.Go.OpenSpec.ofChange s with cond := some uptoSmall }

/-- 'laws.FnExactIsLibrary', WHERE WHAT IT READS IS OF BULK AT MOST 1048576: true; the input reads as it did. -/
def fnExactIsLibraryUptoRow : OpenClaim := { program := "ytnojnmdfklgooaagreatdoor", sum := "336fd5bbee83f3bba14e0093d3fb71ab6fdb3cf59cce301ec753e2492ae6df4f", func := "loop.example/g00861/laws.FnExactIsLibrary", spec := "fnExactIsLibrary", inPlace := ["internal/bytealg.IndexByteString", "internal/bytealg.IndexString"], unfollowed := true, recurses := true, named := ["unicode/utf8.first", "unicode/utf8.acceptRanges", "internal/bytealg.MaxLen"], apart := false, laid := [("unicode/utf8.acceptRanges", laid_unicode_utf8_acceptRanges), ("unicode/utf8.first", laid_unicode_utf8_first)], narrowed := true }
def FnExactIsLibraryUptoSaid : Prop := fnExactIsLibraryUptoRow.holds Tryz.pinned (OpenSpec.upto fnExactIsLibrarySpec)

/-- 'laws.FnExactCellNamed', WHERE WHAT IT READS IS OF BULK AT MOST 1048576: true; the input reads as it did. -/
def fnExactCellNamedUptoRow : OpenClaim := { program := "ytnojnmdfklgooaagreatdoor", sum := "336fd5bbee83f3bba14e0093d3fb71ab6fdb3cf59cce301ec753e2492ae6df4f", func := "loop.example/g00861/laws.FnExactCellNamed", spec := "fnExactCellNamed", inPlace := ["internal/bytealg.IndexByteString", "internal/bytealg.IndexString"], unfollowed := true, recurses := true, named := ["unicode/utf8.first", "unicode/utf8.acceptRanges", "internal/bytealg.MaxLen"], apart := false, laid := [("unicode/utf8.acceptRanges", laid_unicode_utf8_acceptRanges), ("unicode/utf8.first", laid_unicode_utf8_first)], narrowed := true }
def FnExactCellNamedUptoSaid : Prop := fnExactCellNamedUptoRow.holds Tryz.pinned (OpenSpec.upto fnExactCellNamedSpec)

/-- 'laws.FnExactArcsTo', WHERE WHAT IT READS IS OF BULK AT MOST 1048576: true; the input reads as it did. -/
def fnExactArcsToUptoRow : OpenClaim := { program := "ytnojnmdfklgooaagreatdoor", sum := "336fd5bbee83f3bba14e0093d3fb71ab6fdb3cf59cce301ec753e2492ae6df4f", func := "loop.example/g00861/laws.FnExactArcsTo", spec := "fnExactArcsTo", inPlace := ["internal/bytealg.IndexByteString", "internal/bytealg.IndexString"], unfollowed := true, recurses := true, named := ["unicode/utf8.first", "unicode/utf8.acceptRanges", "internal/bytealg.MaxLen"], apart := false, laid := [("unicode/utf8.acceptRanges", laid_unicode_utf8_acceptRanges), ("unicode/utf8.first", laid_unicode_utf8_first)], narrowed := true }
def FnExactArcsToUptoSaid : Prop := fnExactArcsToUptoRow.holds Tryz.pinned (OpenSpec.upto fnExactArcsToSpec)

/-- 'laws.FnExactIsDesign', WHERE WHAT IT READS IS OF BULK AT MOST 1048576: true; the input reads as it did. -/
def fnExactIsDesignUptoRow : OpenClaim := { program := "ytnojnmdfklgooaagreatdoor", sum := "336fd5bbee83f3bba14e0093d3fb71ab6fdb3cf59cce301ec753e2492ae6df4f", func := "loop.example/g00861/laws.FnExactIsDesign", spec := "fnExactIsDesign", inPlace := ["internal/bytealg.IndexByteString", "internal/bytealg.IndexString"], unfollowed := true, recurses := true, named := ["unicode/utf8.first", "unicode/utf8.acceptRanges", "internal/bytealg.MaxLen"], apart := false, laid := [("unicode/utf8.acceptRanges", laid_unicode_utf8_acceptRanges), ("unicode/utf8.first", laid_unicode_utf8_first)], narrowed := true }
def FnExactIsDesignUptoSaid : Prop := fnExactIsDesignUptoRow.holds Tryz.pinned (OpenSpec.upto fnExactIsDesignSpec)

/-- 'laws.FnExactPlaceCount', WHERE WHAT IT READS IS OF BULK AT MOST 1048576: true; the input reads as it did. -/
def fnExactPlaceCountUptoRow : OpenClaim := { program := "ytnojnmdfklgooaagreatdoor", sum := "336fd5bbee83f3bba14e0093d3fb71ab6fdb3cf59cce301ec753e2492ae6df4f", func := "loop.example/g00861/laws.FnExactPlaceCount", spec := "fnExactPlaceCount", inPlace := ["internal/bytealg.IndexByteString", "internal/bytealg.IndexString"], unfollowed := true, recurses := true, named := ["unicode/utf8.first", "unicode/utf8.acceptRanges", "internal/bytealg.MaxLen"], apart := false, laid := [("unicode/utf8.acceptRanges", laid_unicode_utf8_acceptRanges), ("unicode/utf8.first", laid_unicode_utf8_first)], narrowed := true }
def FnExactPlaceCountUptoSaid : Prop := fnExactPlaceCountUptoRow.holds Tryz.pinned (OpenSpec.upto fnExactPlaceCountSpec)

/-- 'laws.FnExactDriverOf', WHERE WHAT IT READS IS OF BULK AT MOST 1048576: true; the input reads as it did. -/
def fnExactDriverOfUptoRow : OpenClaim := { program := "ytnojnmdfklgooaagreatdoor", sum := "336fd5bbee83f3bba14e0093d3fb71ab6fdb3cf59cce301ec753e2492ae6df4f", func := "loop.example/g00861/laws.FnExactDriverOf", spec := "fnExactDriverOf", inPlace := ["internal/bytealg.IndexByteString", "internal/bytealg.IndexString"], unfollowed := true, recurses := true, named := ["unicode/utf8.first", "unicode/utf8.acceptRanges", "internal/bytealg.MaxLen"], apart := false, laid := [("unicode/utf8.acceptRanges", laid_unicode_utf8_acceptRanges), ("unicode/utf8.first", laid_unicode_utf8_first)], narrowed := true }
def FnExactDriverOfUptoSaid : Prop := fnExactDriverOfUptoRow.holds Tryz.pinned (OpenSpec.upto fnExactDriverOfSpec)

/-- 'laws.FnExactPlaceOf', WHERE WHAT IT READS IS OF BULK AT MOST 1048576: true; the input reads as it did. -/
def fnExactPlaceOfUptoRow : OpenClaim := { program := "ytnojnmdfklgooaagreatdoor", sum := "336fd5bbee83f3bba14e0093d3fb71ab6fdb3cf59cce301ec753e2492ae6df4f", func := "loop.example/g00861/laws.FnExactPlaceOf", spec := "fnExactPlaceOf", inPlace := ["internal/bytealg.IndexByteString", "internal/bytealg.IndexString"], unfollowed := true, recurses := true, named := ["unicode/utf8.first", "unicode/utf8.acceptRanges", "internal/bytealg.MaxLen"], apart := false, laid := [("unicode/utf8.acceptRanges", laid_unicode_utf8_acceptRanges), ("unicode/utf8.first", laid_unicode_utf8_first)], narrowed := true }
def FnExactPlaceOfUptoSaid : Prop := fnExactPlaceOfUptoRow.holds Tryz.pinned (OpenSpec.upto fnExactPlaceOfSpec)

/-- 'laws.FnExactInstanceOf', WHERE WHAT IT READS IS OF BULK AT MOST 1048576: true; the input reads as it did. -/
def fnExactInstanceOfUptoRow : OpenClaim := { program := "ytnojnmdfklgooaagreatdoor", sum := "336fd5bbee83f3bba14e0093d3fb71ab6fdb3cf59cce301ec753e2492ae6df4f", func := "loop.example/g00861/laws.FnExactInstanceOf", spec := "fnExactInstanceOf", inPlace := ["internal/bytealg.IndexByteString", "internal/bytealg.IndexString"], unfollowed := true, recurses := true, named := ["unicode/utf8.first", "unicode/utf8.acceptRanges", "internal/bytealg.MaxLen"], apart := false, laid := [("unicode/utf8.acceptRanges", laid_unicode_utf8_acceptRanges), ("unicode/utf8.first", laid_unicode_utf8_first)], narrowed := true }
def FnExactInstanceOfUptoSaid : Prop := fnExactInstanceOfUptoRow.holds Tryz.pinned (OpenSpec.upto fnExactInstanceOfSpec)

/-- 'laws.FnExactNetOfPlace', WHERE WHAT IT READS IS OF BULK AT MOST 1048576: true; the input reads as it did. -/
def fnExactNetOfPlaceUptoRow : OpenClaim := { program := "ytnojnmdfklgooaagreatdoor", sum := "336fd5bbee83f3bba14e0093d3fb71ab6fdb3cf59cce301ec753e2492ae6df4f", func := "loop.example/g00861/laws.FnExactNetOfPlace", spec := "fnExactNetOfPlace", inPlace := ["internal/bytealg.IndexByteString", "internal/bytealg.IndexString"], unfollowed := true, recurses := true, named := ["unicode/utf8.first", "unicode/utf8.acceptRanges", "internal/bytealg.MaxLen"], apart := false, laid := [("unicode/utf8.acceptRanges", laid_unicode_utf8_acceptRanges), ("unicode/utf8.first", laid_unicode_utf8_first)], narrowed := true }
def FnExactNetOfPlaceUptoSaid : Prop := fnExactNetOfPlaceUptoRow.holds Tryz.pinned (OpenSpec.upto fnExactNetOfPlaceSpec)

/-- 'laws.FnExactPlaceCap', WHERE WHAT IT READS IS OF BULK AT MOST 1048576: true; the input reads as it did. -/
def fnExactPlaceCapUptoRow : OpenClaim := { program := "ytnojnmdfklgooaagreatdoor", sum := "336fd5bbee83f3bba14e0093d3fb71ab6fdb3cf59cce301ec753e2492ae6df4f", func := "loop.example/g00861/laws.FnExactPlaceCap", spec := "fnExactPlaceCap", inPlace := ["internal/bytealg.IndexByteString", "internal/bytealg.IndexString"], unfollowed := true, recurses := true, named := ["unicode/utf8.first", "unicode/utf8.acceptRanges", "internal/bytealg.MaxLen"], apart := false, laid := [("unicode/utf8.acceptRanges", laid_unicode_utf8_acceptRanges), ("unicode/utf8.first", laid_unicode_utf8_first)], narrowed := true }
def FnExactPlaceCapUptoSaid : Prop := fnExactPlaceCapUptoRow.holds Tryz.pinned (OpenSpec.upto fnExactPlaceCapSpec)

/-- 'laws.FnExactSinksOf', WHERE WHAT IT READS IS OF BULK AT MOST 1048576: true; the input reads as it did. -/
def fnExactSinksOfUptoRow : OpenClaim := { program := "ytnojnmdfklgooaagreatdoor", sum := "336fd5bbee83f3bba14e0093d3fb71ab6fdb3cf59cce301ec753e2492ae6df4f", func := "loop.example/g00861/laws.FnExactSinksOf", spec := "fnExactSinksOf", inPlace := ["internal/bytealg.IndexByteString", "internal/bytealg.IndexString"], unfollowed := true, recurses := true, named := ["unicode/utf8.first", "unicode/utf8.acceptRanges", "internal/bytealg.MaxLen"], apart := false, laid := [("unicode/utf8.acceptRanges", laid_unicode_utf8_acceptRanges), ("unicode/utf8.first", laid_unicode_utf8_first)], narrowed := true }
def FnExactSinksOfUptoSaid : Prop := fnExactSinksOfUptoRow.holds Tryz.pinned (OpenSpec.upto fnExactSinksOfSpec)

/-- 'laws.FnExactIsBlock', WHERE WHAT IT READS IS OF BULK AT MOST 1048576: true; the input reads as it did. -/
def fnExactIsBlockUptoRow : OpenClaim := { program := "ytnojnmdfklgooaagreatdoor", sum := "336fd5bbee83f3bba14e0093d3fb71ab6fdb3cf59cce301ec753e2492ae6df4f", func := "loop.example/g00861/laws.FnExactIsBlock", spec := "fnExactIsBlock", inPlace := ["internal/bytealg.IndexByteString", "internal/bytealg.IndexString"], unfollowed := true, recurses := true, named := ["unicode/utf8.first", "unicode/utf8.acceptRanges", "internal/bytealg.MaxLen"], apart := false, laid := [("unicode/utf8.acceptRanges", laid_unicode_utf8_acceptRanges), ("unicode/utf8.first", laid_unicode_utf8_first)], narrowed := true }
def FnExactIsBlockUptoSaid : Prop := fnExactIsBlockUptoRow.holds Tryz.pinned (OpenSpec.upto fnExactIsBlockSpec)

/-- 'laws.FnExactNetLoad', WHERE WHAT IT READS IS OF BULK AT MOST 1048576: true; the input reads as it did. -/
def fnExactNetLoadUptoRow : OpenClaim := { program := "ytnojnmdfklgooaagreatdoor", sum := "336fd5bbee83f3bba14e0093d3fb71ab6fdb3cf59cce301ec753e2492ae6df4f", func := "loop.example/g00861/laws.FnExactNetLoad", spec := "fnExactNetLoad", inPlace := ["internal/bytealg.IndexByteString", "internal/bytealg.IndexString"], unfollowed := true, recurses := true, named := ["unicode/utf8.first", "unicode/utf8.acceptRanges", "internal/bytealg.MaxLen"], apart := false, laid := [("unicode/utf8.acceptRanges", laid_unicode_utf8_acceptRanges), ("unicode/utf8.first", laid_unicode_utf8_first)], narrowed := true }
def FnExactNetLoadUptoSaid : Prop := fnExactNetLoadUptoRow.holds Tryz.pinned (OpenSpec.upto fnExactNetLoadSpec)

/-- 'laws.FnExactNodeLoads', WHERE WHAT IT READS IS OF BULK AT MOST 1048576: true; the input reads as it did. -/
def fnExactNodeLoadsUptoRow : OpenClaim := { program := "ytnojnmdfklgooaagreatdoor", sum := "336fd5bbee83f3bba14e0093d3fb71ab6fdb3cf59cce301ec753e2492ae6df4f", func := "loop.example/g00861/laws.FnExactNodeLoads", spec := "fnExactNodeLoads", inPlace := ["internal/bytealg.IndexByteString", "internal/bytealg.IndexString"], unfollowed := true, recurses := true, named := ["unicode/utf8.first", "unicode/utf8.acceptRanges", "internal/bytealg.MaxLen"], apart := false, laid := [("unicode/utf8.acceptRanges", laid_unicode_utf8_acceptRanges), ("unicode/utf8.first", laid_unicode_utf8_first)], narrowed := true }
def FnExactNodeLoadsUptoSaid : Prop := fnExactNodeLoadsUptoRow.holds Tryz.pinned (OpenSpec.upto fnExactNodeLoadsSpec)

/-- 'laws.FnExactNodeDelays', WHERE WHAT IT READS IS OF BULK AT MOST 1048576: true; the input reads as it did. -/
def fnExactNodeDelaysUptoRow : OpenClaim := { program := "ytnojnmdfklgooaagreatdoor", sum := "336fd5bbee83f3bba14e0093d3fb71ab6fdb3cf59cce301ec753e2492ae6df4f", func := "loop.example/g00861/laws.FnExactNodeDelays", spec := "fnExactNodeDelays", inPlace := ["internal/bytealg.IndexByteString", "internal/bytealg.IndexString"], unfollowed := true, recurses := true, named := ["unicode/utf8.first", "unicode/utf8.acceptRanges", "internal/bytealg.MaxLen"], apart := false, laid := [("unicode/utf8.acceptRanges", laid_unicode_utf8_acceptRanges), ("unicode/utf8.first", laid_unicode_utf8_first)], narrowed := true }
def FnExactNodeDelaysUptoSaid : Prop := fnExactNodeDelaysUptoRow.holds Tryz.pinned (OpenSpec.upto fnExactNodeDelaysSpec)

/-- 'laws.FnExactSinkSlew', WHERE WHAT IT READS IS OF BULK AT MOST 1048576: true; the input reads as it did. -/
def fnExactSinkSlewUptoRow : OpenClaim := { program := "ytnojnmdfklgooaagreatdoor", sum := "336fd5bbee83f3bba14e0093d3fb71ab6fdb3cf59cce301ec753e2492ae6df4f", func := "loop.example/g00861/laws.FnExactSinkSlew", spec := "fnExactSinkSlew", inPlace := ["internal/bytealg.IndexByteString", "internal/bytealg.IndexString"], unfollowed := true, recurses := true, named := ["unicode/utf8.first", "unicode/utf8.acceptRanges", "internal/bytealg.MaxLen"], apart := false, laid := [("unicode/utf8.acceptRanges", laid_unicode_utf8_acceptRanges), ("unicode/utf8.first", laid_unicode_utf8_first)], narrowed := true }
def FnExactSinkSlewUptoSaid : Prop := fnExactSinkSlewUptoRow.holds Tryz.pinned (OpenSpec.upto fnExactSinkSlewSpec)

end Rows
end Go.Proofs.YtnojnmdfklgooaaGreatDoor
