/-
  NARROWER THAN 'FOR EVERY INPUT', by the rows' own cells (each row's printed sentence says how): FnExactIsCell: laid · FnExactClockPin: laid · FnExactPinNamed: laid · FnExactGateValue: laid · FnExactSenseOf: laid · FnExactIsConsistent: laid.
  DERIVED. THE GIVEN ROWS OF THIS SEAT. 6 by the template 'for every input the law returns true; each argument reads behind the call as it read before'; 0 by the template 'total and deterministic' (their statements: YtcaklodecejkhaaDoorTotals.lean).
  GIVEN WITH THE SEED: the statements are not yours to turn. If you find one false, say at which input.
  Laid BY PROGRAM, IN A SANDBOX (cutbox-rows.mjs): the forced cells as the released guide's own fill.sh prints them over the translation e8f57865536ba90c… (all of the seat's roots in one cut). By AI agents, Wed Nov 11 2026. No macro, syntax, notation, axiom, sorry.
-/
import Derived.Test.YtcaklodecejkhaaDoorChecked
import GoSem.PinnedTables
import GoSem.Claim
import GoSem.ClaimJoined
import GoSem.ClaimMapViews
import Derived.JoinedTies
import Derived.KernelRfl
namespace Go.Proofs.YtcaklodecejkhaaDoor
/- THE CELL 'sum', in the pinned program and in every row, IS THE sha256 OF THE DUMP (.gsa) THAT YtcaklodecejkhaaDoorProg.lean LOADS. Nothing in Lean hashes anything: it is a label: what it is worth is what the hold of that sum in a sandbox is worth. -/
noncomputable def Tryd.pinned : Pinned := { name := "ytcaklodecejkhaadoor", sum := "e8f57865536ba90c2e1a762dc9f25df7384dd506bd274c37ea81bbbc8e192ab7", checked := Tryd.checked }
namespace Rows
def none {H : Type} : Left H := { results := [], args := [] }

/- WHAT THE LISTED PACKAGE-LEVEL VARIABLES READ AS WHEN THE CALL BEGINS. Each datum BY PROGRAM (the guide's laid-datum.mjs) off the statement by which the dump's own 'gosem.cut.vars' lays the variable. In a bare row this is a premise. The card (YtcaklodecejkhaaDoorCards.lean) ties it to the program's text. -/
def laid_unicode_utf8_acceptRanges {H : Type} : DataW H := .agg [.agg [.lit (.int .u8 128), .lit (.int .u8 191)], .agg [.lit (.int .u8 160), .lit (.int .u8 191)], .agg [.lit (.int .u8 128), .lit (.int .u8 159)], .agg [.lit (.int .u8 144), .lit (.int .u8 191)], .agg [.lit (.int .u8 128), .lit (.int .u8 143)], .agg [.lit (.int .u8 0), .lit (.int .u8 0)], .agg [.lit (.int .u8 0), .lit (.int .u8 0)], .agg [.lit (.int .u8 0), .lit (.int .u8 0)], .agg [.lit (.int .u8 0), .lit (.int .u8 0)], .agg [.lit (.int .u8 0), .lit (.int .u8 0)], .agg [.lit (.int .u8 0), .lit (.int .u8 0)], .agg [.lit (.int .u8 0), .lit (.int .u8 0)], .agg [.lit (.int .u8 0), .lit (.int .u8 0)], .agg [.lit (.int .u8 0), .lit (.int .u8 0)], .agg [.lit (.int .u8 0), .lit (.int .u8 0)], .agg [.lit (.int .u8 0), .lit (.int .u8 0)]]
/-- One of Go's own tables, pinned by name: the form's constant. -/
def laid_unicode_utf8_first : DataW Unit := Go.Pinned.utf8First

/-- 'laws.FnExactIsCell': WHATEVER THE INPUT: true; the input reads as it did. -/
def fnExactIsCellSpec : ChangeSpec := { name := "fnExactIsCell", fn := fun _ => fun
  | [d] => { results := [.lit (.bool true)], args := [d] }
  | _ => none }
def fnExactIsCellRow : OpenClaim := { program := "ytcaklodecejkhaadoor", sum := "e8f57865536ba90c2e1a762dc9f25df7384dd506bd274c37ea81bbbc8e192ab7", func := "loop.example/g00861/laws.FnExactIsCell", spec := "fnExactIsCell", inPlace := ["internal/bytealg.IndexByteString", "internal/bytealg.IndexString"], unfollowed := true, recurses := true, named := ["unicode/utf8.first", "unicode/utf8.acceptRanges", "internal/bytealg.MaxLen"], apart := false, laid := [("unicode/utf8.acceptRanges", laid_unicode_utf8_acceptRanges), ("unicode/utf8.first", laid_unicode_utf8_first)] }
def FnExactIsCellSaid : Prop := fnExactIsCellRow.holds Tryd.pinned (OpenSpec.ofChange fnExactIsCellSpec)

/-- ITS FALSE NEIGHBOUR: 'it returns false'. Refute it at one input. -/
def fnExactIsCellWrong : ChangeSpec := { name := "fnExactIsCell", fn := fun _ => fun
  | [d] => { results := [.lit (.bool false)], args := [d] }
  | _ => none }
def FnExactIsCellWrongFalsely : Prop := fnExactIsCellRow.holds Tryd.pinned (OpenSpec.ofChange fnExactIsCellWrong)

/-- 'laws.FnExactClockPin': WHATEVER THE INPUT: true; the input reads as it did. -/
def fnExactClockPinSpec : ChangeSpec := { name := "fnExactClockPin", fn := fun _ => fun
  | [d] => { results := [.lit (.bool true)], args := [d] }
  | _ => none }
def fnExactClockPinRow : OpenClaim := { program := "ytcaklodecejkhaadoor", sum := "e8f57865536ba90c2e1a762dc9f25df7384dd506bd274c37ea81bbbc8e192ab7", func := "loop.example/g00861/laws.FnExactClockPin", spec := "fnExactClockPin", inPlace := ["internal/bytealg.IndexByteString", "internal/bytealg.IndexString"], unfollowed := true, recurses := true, named := ["unicode/utf8.first", "unicode/utf8.acceptRanges", "internal/bytealg.MaxLen"], apart := false, laid := [("unicode/utf8.acceptRanges", laid_unicode_utf8_acceptRanges), ("unicode/utf8.first", laid_unicode_utf8_first)] }
def FnExactClockPinSaid : Prop := fnExactClockPinRow.holds Tryd.pinned (OpenSpec.ofChange fnExactClockPinSpec)

/-- ITS FALSE NEIGHBOUR: 'it returns false'. Refute it at one input. -/
def fnExactClockPinWrong : ChangeSpec := { name := "fnExactClockPin", fn := fun _ => fun
  | [d] => { results := [.lit (.bool false)], args := [d] }
  | _ => none }
def FnExactClockPinWrongFalsely : Prop := fnExactClockPinRow.holds Tryd.pinned (OpenSpec.ofChange fnExactClockPinWrong)

/-- 'laws.FnExactPinNamed': WHATEVER THE INPUT: true; the input reads as it did. -/
def fnExactPinNamedSpec : ChangeSpec := { name := "fnExactPinNamed", fn := fun _ => fun
  | [d1, d2] => { results := [.lit (.bool true)], args := [d1, d2] }
  | _ => none }
def fnExactPinNamedRow : OpenClaim := { program := "ytcaklodecejkhaadoor", sum := "e8f57865536ba90c2e1a762dc9f25df7384dd506bd274c37ea81bbbc8e192ab7", func := "loop.example/g00861/laws.FnExactPinNamed", spec := "fnExactPinNamed", inPlace := ["internal/bytealg.IndexByteString", "internal/bytealg.IndexString"], unfollowed := true, recurses := true, named := ["unicode/utf8.first", "unicode/utf8.acceptRanges", "internal/bytealg.MaxLen"], apart := false, laid := [("unicode/utf8.acceptRanges", laid_unicode_utf8_acceptRanges), ("unicode/utf8.first", laid_unicode_utf8_first)] }
def FnExactPinNamedSaid : Prop := fnExactPinNamedRow.holds Tryd.pinned (OpenSpec.ofChange fnExactPinNamedSpec)

/-- ITS FALSE NEIGHBOUR: 'it returns false'. Refute it at one input. -/
def fnExactPinNamedWrong : ChangeSpec := { name := "fnExactPinNamed", fn := fun _ => fun
  | [d1, d2] => { results := [.lit (.bool false)], args := [d1, d2] }
  | _ => none }
def FnExactPinNamedWrongFalsely : Prop := fnExactPinNamedRow.holds Tryd.pinned (OpenSpec.ofChange fnExactPinNamedWrong)

/-- 'laws.FnExactGateValue': WHATEVER THE INPUT: true; the input reads as it did. -/
def fnExactGateValueSpec : ChangeSpec := { name := "fnExactGateValue", fn := fun _ => fun
  | [d1, d2] => { results := [.lit (.bool true)], args := [d1, d2] }
  | _ => none }
def fnExactGateValueRow : OpenClaim := { program := "ytcaklodecejkhaadoor", sum := "e8f57865536ba90c2e1a762dc9f25df7384dd506bd274c37ea81bbbc8e192ab7", func := "loop.example/g00861/laws.FnExactGateValue", spec := "fnExactGateValue", inPlace := ["internal/bytealg.IndexByteString", "internal/bytealg.IndexString"], unfollowed := true, recurses := true, named := ["unicode/utf8.first", "unicode/utf8.acceptRanges", "internal/bytealg.MaxLen"], apart := false, laid := [("unicode/utf8.acceptRanges", laid_unicode_utf8_acceptRanges), ("unicode/utf8.first", laid_unicode_utf8_first)] }
def FnExactGateValueSaid : Prop := fnExactGateValueRow.holds Tryd.pinned (OpenSpec.ofChange fnExactGateValueSpec)

/-- ITS FALSE NEIGHBOUR: 'it returns false'. Refute it at one input. -/
def fnExactGateValueWrong : ChangeSpec := { name := "fnExactGateValue", fn := fun _ => fun
  | [d1, d2] => { results := [.lit (.bool false)], args := [d1, d2] }
  | _ => none }
def FnExactGateValueWrongFalsely : Prop := fnExactGateValueRow.holds Tryd.pinned (OpenSpec.ofChange fnExactGateValueWrong)

/-- 'laws.FnExactSenseOf': WHATEVER THE INPUT: true; the input reads as it did. -/
def fnExactSenseOfSpec : ChangeSpec := { name := "fnExactSenseOf", fn := fun _ => fun
  | [d1, d2] => { results := [.lit (.bool true)], args := [d1, d2] }
  | _ => none }
def fnExactSenseOfRow : OpenClaim := { program := "ytcaklodecejkhaadoor", sum := "e8f57865536ba90c2e1a762dc9f25df7384dd506bd274c37ea81bbbc8e192ab7", func := "loop.example/g00861/laws.FnExactSenseOf", spec := "fnExactSenseOf", inPlace := ["internal/bytealg.IndexByteString", "internal/bytealg.IndexString"], unfollowed := true, recurses := true, named := ["unicode/utf8.first", "unicode/utf8.acceptRanges", "internal/bytealg.MaxLen"], apart := false, laid := [("unicode/utf8.acceptRanges", laid_unicode_utf8_acceptRanges), ("unicode/utf8.first", laid_unicode_utf8_first)] }
def FnExactSenseOfSaid : Prop := fnExactSenseOfRow.holds Tryd.pinned (OpenSpec.ofChange fnExactSenseOfSpec)

/-- ITS FALSE NEIGHBOUR: 'it returns false'. Refute it at one input. -/
def fnExactSenseOfWrong : ChangeSpec := { name := "fnExactSenseOf", fn := fun _ => fun
  | [d1, d2] => { results := [.lit (.bool false)], args := [d1, d2] }
  | _ => none }
def FnExactSenseOfWrongFalsely : Prop := fnExactSenseOfRow.holds Tryd.pinned (OpenSpec.ofChange fnExactSenseOfWrong)

/-- 'laws.FnExactIsConsistent': WHATEVER THE INPUT: true; the input reads as it did. -/
def fnExactIsConsistentSpec : ChangeSpec := { name := "fnExactIsConsistent", fn := fun _ => fun
  | [d] => { results := [.lit (.bool true)], args := [d] }
  | _ => none }
def fnExactIsConsistentRow : OpenClaim := { program := "ytcaklodecejkhaadoor", sum := "e8f57865536ba90c2e1a762dc9f25df7384dd506bd274c37ea81bbbc8e192ab7", func := "loop.example/g00861/laws.FnExactIsConsistent", spec := "fnExactIsConsistent", inPlace := ["internal/bytealg.IndexByteString", "internal/bytealg.IndexString"], unfollowed := true, recurses := true, named := ["unicode/utf8.first", "unicode/utf8.acceptRanges", "internal/bytealg.MaxLen"], apart := false, laid := [("unicode/utf8.acceptRanges", laid_unicode_utf8_acceptRanges), ("unicode/utf8.first", laid_unicode_utf8_first)] }
def FnExactIsConsistentSaid : Prop := fnExactIsConsistentRow.holds Tryd.pinned (OpenSpec.ofChange fnExactIsConsistentSpec)

/-- ITS FALSE NEIGHBOUR: 'it returns false'. Refute it at one input. -/
def fnExactIsConsistentWrong : ChangeSpec := { name := "fnExactIsConsistent", fn := fun _ => fun
  | [d] => { results := [.lit (.bool false)], args := [d] }
  | _ => none }
def FnExactIsConsistentWrongFalsely : Prop := fnExactIsConsistentRow.holds Tryd.pinned (OpenSpec.ofChange fnExactIsConsistentWrong)

/- THE SECOND FORM. 'bulk': how many values and letters a reading holds, each counted each time it is reached (what is shared counts as often as it is met; a slice's spare places count too). A statement '..UptoSaid' is the law's where the arguments, and the package variables that the reading takes, are together of bulk at most 1048576: NARROWER than '..Said'. Prove '..Said' where nothing that the law and all that it calls make is longer than what came in: it says more and counts as full. Else prove '..UptoSaid'. A law counts once. -/
mutual
def uptoBulk {H : Type} : DataW H → Nat
  | .lit (.string bytes) => bytes.length + 1
  | .lit _ => 1
  | .nil => 1
  | .ptr d => uptoBulk d + 1
  | .slice elems spare => uptoBulkAll elems + uptoBulkAll spare + 1
  | .agg parts => uptoBulkAll parts + 1
  | .iface _ d => uptoBulk d + 1
  | .map entries => uptoBulkEntries entries + 1
  | .held _ => 1
def uptoBulkAll {H : Type} : List (DataW H) → Nat
  | [] => 0
  | d :: r => uptoBulk d + uptoBulkAll r
def uptoBulkEntries {H : Type} : List (Lit × DataW H) → Nat
  | [] => 0
  | x :: r => uptoBulkEntry x + uptoBulkEntries r
def uptoBulkEntry {H : Type} : Lit × DataW H → Nat
  | (.string bytes, d) => bytes.length + uptoBulk d + 1
  | (_, d) => uptoBulk d + 1
 end
def uptoSmall : (H : Type) → List (DataW H) → Bool := fun _ ds => decide (uptoBulkAll ds ≤ 1048576)
def OpenSpec.upto (s : _root_.Go.ChangeSpec) : _root_.Go.OpenSpec := { _root_.Go.OpenSpec.ofChange s with cond := some uptoSmall }

/-- 'laws.FnExactIsCell', WHERE WHAT IT READS IS OF BULK AT MOST 1048576: true; the input reads as it did. -/
def fnExactIsCellUptoRow : OpenClaim := { program := "ytcaklodecejkhaadoor", sum := "e8f57865536ba90c2e1a762dc9f25df7384dd506bd274c37ea81bbbc8e192ab7", func := "loop.example/g00861/laws.FnExactIsCell", spec := "fnExactIsCell", inPlace := ["internal/bytealg.IndexByteString", "internal/bytealg.IndexString"], unfollowed := true, recurses := true, named := ["unicode/utf8.first", "unicode/utf8.acceptRanges", "internal/bytealg.MaxLen"], apart := false, laid := [("unicode/utf8.acceptRanges", laid_unicode_utf8_acceptRanges), ("unicode/utf8.first", laid_unicode_utf8_first)], narrowed := true }
def FnExactIsCellUptoSaid : Prop := fnExactIsCellUptoRow.holds Tryd.pinned (OpenSpec.upto fnExactIsCellSpec)

/-- 'laws.FnExactClockPin', WHERE WHAT IT READS IS OF BULK AT MOST 1048576: true; the input reads as it did. -/
def fnExactClockPinUptoRow : OpenClaim := { program := "ytcaklodecejkhaadoor", sum := "e8f57865536ba90c2e1a762dc9f25df7384dd506bd274c37ea81bbbc8e192ab7", func := "loop.example/g00861/laws.FnExactClockPin", spec := "fnExactClockPin", inPlace := ["internal/bytealg.IndexByteString", "internal/bytealg.IndexString"], unfollowed := true, recurses := true, named := ["unicode/utf8.first", "unicode/utf8.acceptRanges", "internal/bytealg.MaxLen"], apart := false, laid := [("unicode/utf8.acceptRanges", laid_unicode_utf8_acceptRanges), ("unicode/utf8.first", laid_unicode_utf8_first)], narrowed := true }
def FnExactClockPinUptoSaid : Prop := fnExactClockPinUptoRow.holds Tryd.pinned (OpenSpec.upto fnExactClockPinSpec)

/-- 'laws.FnExactPinNamed', WHERE WHAT IT READS IS OF BULK AT MOST 1048576: true; the input reads as it did. -/
def fnExactPinNamedUptoRow : OpenClaim := { program := "ytcaklodecejkhaadoor", sum := "e8f57865536ba90c2e1a762dc9f25df7384dd506bd274c37ea81bbbc8e192ab7", func := "loop.example/g00861/laws.FnExactPinNamed", spec := "fnExactPinNamed", inPlace := ["internal/bytealg.IndexByteString", "internal/bytealg.IndexString"], unfollowed := true, recurses := true, named := ["unicode/utf8.first", "unicode/utf8.acceptRanges", "internal/bytealg.MaxLen"], apart := false, laid := [("unicode/utf8.acceptRanges", laid_unicode_utf8_acceptRanges), ("unicode/utf8.first", laid_unicode_utf8_first)], narrowed := true }
def FnExactPinNamedUptoSaid : Prop := fnExactPinNamedUptoRow.holds Tryd.pinned (OpenSpec.upto fnExactPinNamedSpec)

/-- 'laws.FnExactGateValue', WHERE WHAT IT READS IS OF BULK AT MOST 1048576: true; the input reads as it did. -/
def fnExactGateValueUptoRow : OpenClaim := { program := "ytcaklodecejkhaadoor", sum := "e8f57865536ba90c2e1a762dc9f25df7384dd506bd274c37ea81bbbc8e192ab7", func := "loop.example/g00861/laws.FnExactGateValue", spec := "fnExactGateValue", inPlace := ["internal/bytealg.IndexByteString", "internal/bytealg.IndexString"], unfollowed := true, recurses := true, named := ["unicode/utf8.first", "unicode/utf8.acceptRanges", "internal/bytealg.MaxLen"], apart := false, laid := [("unicode/utf8.acceptRanges", laid_unicode_utf8_acceptRanges), ("unicode/utf8.first", laid_unicode_utf8_first)], narrowed := true }
def FnExactGateValueUptoSaid : Prop := fnExactGateValueUptoRow.holds Tryd.pinned (OpenSpec.upto fnExactGateValueSpec)

/-- 'laws.FnExactSenseOf', WHERE WHAT IT READS IS OF BULK AT MOST 1048576: true; the input reads as it did. -/
def fnExactSenseOfUptoRow : OpenClaim := { program := "ytcaklodecejkhaadoor", sum := "e8f57865536ba90c2e1a762dc9f25df7384dd506bd274c37ea81bbbc8e192ab7", func := "loop.example/g00861/laws.FnExactSenseOf", spec := "fnExactSenseOf", inPlace := ["internal/bytealg.IndexByteString", "internal/bytealg.IndexString"], unfollowed := true, recurses := true, named := ["unicode/utf8.first", "unicode/utf8.acceptRanges", "internal/bytealg.MaxLen"], apart := false, laid := [("unicode/utf8.acceptRanges", laid_unicode_utf8_acceptRanges), ("unicode/utf8.first", laid_unicode_utf8_first)], narrowed := true }
def FnExactSenseOfUptoSaid : Prop := fnExactSenseOfUptoRow.holds Tryd.pinned (OpenSpec.upto fnExactSenseOfSpec)

/-- 'laws.FnExactIsConsistent', WHERE WHAT IT READS IS OF BULK AT MOST 1048576: true; the input reads as it did. -/
def fnExactIsConsistentUptoRow : OpenClaim := { program := "ytcaklodecejkhaadoor", sum := "e8f57865536ba90c2e1a762dc9f25df7384dd506bd274c37ea81bbbc8e192ab7", func := "loop.example/g00861/laws.FnExactIsConsistent", spec := "fnExactIsConsistent", inPlace := ["internal/bytealg.IndexByteString", "internal/bytealg.IndexString"], unfollowed := true, recurses := true, named := ["unicode/utf8.first", "unicode/utf8.acceptRanges", "internal/bytealg.MaxLen"], apart := false, laid := [("unicode/utf8.acceptRanges", laid_unicode_utf8_acceptRanges), ("unicode/utf8.first", laid_unicode_utf8_first)], narrowed := true }
def FnExactIsConsistentUptoSaid : Prop := fnExactIsConsistentUptoRow.holds Tryd.pinned (OpenSpec.upto fnExactIsConsistentSpec)

end Rows
end Go.Proofs.YtcaklodecejkhaaDoor
