/-
  NARROWER THAN 'FOR EVERY INPUT', by the rows' own cells (each row's printed sentence says how): FnExactIsBlock: laid · FnExactNetLoad: laid · FnExactNodeLoads: laid · FnExactNodeDelays: laid · FnExactSinkSlew: laid · FnExactArcsTo: laid.
  DERIVED. THE GIVEN ROWS OF THIS SEAT. 6 by the template 'for every input the law returns true; each argument reads behind the call as it read before'; 0 by the template 'total and deterministic' (their statements: YtpppobomekebdaaGreatDoorTotals.lean).
  GIVEN WITH THE SEED: the statements are not yours to turn. If you find one false, say at which input.
  Laid BY PROGRAM, IN A SANDBOX (cutbox-rows.mjs): the forced cells as the released guide's own fill.sh prints them over the translation d2afcd096d4531b3… (all of the seat's roots in one cut). By AI agents, Wed Nov 11 2026. No macro, syntax, notation, axiom, sorry.
-/
import Derived.Test.YtpppobomekebdaaGreatDoorChecked
import GoSem.PinnedTables
import GoSem.Claim
import GoSem.ClaimJoined
import GoSem.ClaimMapViews
import Derived.JoinedTies
import Derived.KernelRfl
namespace Go.Proofs.YtpppobomekebdaaGreatDoor
/- THE CELL 'sum', in the pinned program and in every row, IS THE sha256 OF THE DUMP (.gsa) THAT YtpppobomekebdaaGreatDoorProg.lean LOADS. Nothing in Lean hashes anything: it is a label: what it is worth is what the hold of that sum in a sandbox is worth. -/
noncomputable def Tryz.pinned : Pinned := { name := "ytpppobomekebdaagreatdoor", sum := "d2afcd096d4531b352ec03457f359a72783241b8f200a577c9dc08acceddc124", checked := Tryz.checked }
namespace Rows
def none {H : Type} : Left H := { results := [], args := [] }

/- WHAT THE LISTED PACKAGE-LEVEL VARIABLES READ AS WHEN THE CALL BEGINS. Each datum BY PROGRAM (the guide's laid-datum.mjs) off the statement by which the dump's own 'gosem.cut.vars' lays the variable. In a bare row this is a premise. The card (YtpppobomekebdaaGreatDoorCards.lean) ties it to the program's text. -/
def laid_unicode_utf8_acceptRanges {H : Type} : DataW H := .agg [.agg [.lit (.int .u8 128), .lit (.int .u8 191)], .agg [.lit (.int .u8 160), .lit (.int .u8 191)], .agg [.lit (.int .u8 128), .lit (.int .u8 159)], .agg [.lit (.int .u8 144), .lit (.int .u8 191)], .agg [.lit (.int .u8 128), .lit (.int .u8 143)], .agg [.lit (.int .u8 0), .lit (.int .u8 0)], .agg [.lit (.int .u8 0), .lit (.int .u8 0)], .agg [.lit (.int .u8 0), .lit (.int .u8 0)], .agg [.lit (.int .u8 0), .lit (.int .u8 0)], .agg [.lit (.int .u8 0), .lit (.int .u8 0)], .agg [.lit (.int .u8 0), .lit (.int .u8 0)], .agg [.lit (.int .u8 0), .lit (.int .u8 0)], .agg [.lit (.int .u8 0), .lit (.int .u8 0)], .agg [.lit (.int .u8 0), .lit (.int .u8 0)], .agg [.lit (.int .u8 0), .lit (.int .u8 0)], .agg [.lit (.int .u8 0), .lit (.int .u8 0)]]
/-- One of Go's own tables, pinned by name: the form's constant. -/
def laid_unicode_utf8_first : DataW Unit := Go.Pinned.utf8First

/-- 'laws.FnExactIsBlock': WHATEVER THE INPUT: true; the input reads as it did. -/
def fnExactIsBlockSpec : ChangeSpec := { name := "fnExactIsBlock", fn := fun _ => fun
  | [d] => { results := [.lit (.bool true)], args := [d] }
  | _ => none }
def fnExactIsBlockRow : OpenClaim := { program := "ytpppobomekebdaagreatdoor", sum := "d2afcd096d4531b352ec03457f359a72783241b8f200a577c9dc08acceddc124", func := "loop.example/g00861/laws.FnExactIsBlock", spec := "fnExactIsBlock", inPlace := ["internal/bytealg.IndexByteString", "internal/bytealg.IndexString"], unfollowed := true, recurses := true, named := ["unicode/utf8.first", "unicode/utf8.acceptRanges", "internal/bytealg.MaxLen"], apart := false, laid := [("unicode/utf8.acceptRanges", laid_unicode_utf8_acceptRanges), ("unicode/utf8.first", laid_unicode_utf8_first)] }
def FnExactIsBlockSaid : Prop := fnExactIsBlockRow.holds Tryz.pinned (OpenSpec.ofChange fnExactIsBlockSpec)

/-- ITS FALSE NEIGHBOUR: 'it returns false'. Refute it at one input. -/
def fnExactIsBlockWrong : ChangeSpec := { name := "fnExactIsBlock", fn := fun _ => fun
  | [d] => { results := [.lit (.bool false)], args := [d] }
  | _ => none }
def FnExactIsBlockWrongFalsely : Prop := fnExactIsBlockRow.holds Tryz.pinned (OpenSpec.ofChange fnExactIsBlockWrong)

/-- 'laws.FnExactNetLoad': WHATEVER THE INPUT: true; the input reads as it did. -/
def fnExactNetLoadSpec : ChangeSpec := { name := "fnExactNetLoad", fn := fun _ => fun
  | [d1, d2] => { results := [.lit (.bool true)], args := [d1, d2] }
  | _ => none }
def fnExactNetLoadRow : OpenClaim := { program := "ytpppobomekebdaagreatdoor", sum := "d2afcd096d4531b352ec03457f359a72783241b8f200a577c9dc08acceddc124", func := "loop.example/g00861/laws.FnExactNetLoad", spec := "fnExactNetLoad", inPlace := ["internal/bytealg.IndexByteString", "internal/bytealg.IndexString"], unfollowed := true, recurses := true, named := ["unicode/utf8.first", "unicode/utf8.acceptRanges", "internal/bytealg.MaxLen"], apart := false, laid := [("unicode/utf8.acceptRanges", laid_unicode_utf8_acceptRanges), ("unicode/utf8.first", laid_unicode_utf8_first)] }
def FnExactNetLoadSaid : Prop := fnExactNetLoadRow.holds Tryz.pinned (OpenSpec.ofChange fnExactNetLoadSpec)

/-- ITS FALSE NEIGHBOUR: 'it returns false'. Refute it at one input. -/
def fnExactNetLoadWrong : ChangeSpec := { name := "fnExactNetLoad", fn := fun _ => fun
  | [d1, d2] => { results := [.lit (.bool false)], args := [d1, d2] }
  | _ => none }
def FnExactNetLoadWrongFalsely : Prop := fnExactNetLoadRow.holds Tryz.pinned (OpenSpec.ofChange fnExactNetLoadWrong)

/-- 'laws.FnExactNodeLoads': WHATEVER THE INPUT: true; the input reads as it did. -/
def fnExactNodeLoadsSpec : ChangeSpec := { name := "fnExactNodeLoads", fn := fun _ => fun
  | [d1, d2] => { results := [.lit (.bool true)], args := [d1, d2] }
  | _ => none }
def fnExactNodeLoadsRow : OpenClaim := { program := "ytpppobomekebdaagreatdoor", sum := "d2afcd096d4531b352ec03457f359a72783241b8f200a577c9dc08acceddc124", func := "loop.example/g00861/laws.FnExactNodeLoads", spec := "fnExactNodeLoads", inPlace := ["internal/bytealg.IndexByteString", "internal/bytealg.IndexString"], unfollowed := true, recurses := true, named := ["unicode/utf8.first", "unicode/utf8.acceptRanges", "internal/bytealg.MaxLen"], apart := false, laid := [("unicode/utf8.acceptRanges", laid_unicode_utf8_acceptRanges), ("unicode/utf8.first", laid_unicode_utf8_first)] }
def FnExactNodeLoadsSaid : Prop := fnExactNodeLoadsRow.holds Tryz.pinned (OpenSpec.ofChange fnExactNodeLoadsSpec)

/-- ITS FALSE NEIGHBOUR: 'it returns false'. Refute it at one input. -/
def fnExactNodeLoadsWrong : ChangeSpec := { name := "fnExactNodeLoads", fn := fun _ => fun
  | [d1, d2] => { results := [.lit (.bool false)], args := [d1, d2] }
  | _ => none }
def FnExactNodeLoadsWrongFalsely : Prop := fnExactNodeLoadsRow.holds Tryz.pinned (OpenSpec.ofChange fnExactNodeLoadsWrong)

/-- 'laws.FnExactNodeDelays': WHATEVER THE INPUT: true; the input reads as it did. -/
def fnExactNodeDelaysSpec : ChangeSpec := { name := "fnExactNodeDelays", fn := fun _ => fun
  | [d1, d2] => { results := [.lit (.bool true)], args := [d1, d2] }
  | _ => none }
def fnExactNodeDelaysRow : OpenClaim := { program := "ytpppobomekebdaagreatdoor", sum := "d2afcd096d4531b352ec03457f359a72783241b8f200a577c9dc08acceddc124", func := "loop.example/g00861/laws.FnExactNodeDelays", spec := "fnExactNodeDelays", inPlace := ["internal/bytealg.IndexByteString", "internal/bytealg.IndexString"], unfollowed := true, recurses := true, named := ["unicode/utf8.first", "unicode/utf8.acceptRanges", "internal/bytealg.MaxLen"], apart := false, laid := [("unicode/utf8.acceptRanges", laid_unicode_utf8_acceptRanges), ("unicode/utf8.first", laid_unicode_utf8_first)] }
def FnExactNodeDelaysSaid : Prop := fnExactNodeDelaysRow.holds Tryz.pinned (OpenSpec.ofChange fnExactNodeDelaysSpec)

/-- ITS FALSE NEIGHBOUR: 'it returns false'. Refute it at one input. -/
def fnExactNodeDelaysWrong : ChangeSpec := { name := "fnExactNodeDelays", fn := fun _ => fun
  | [d1, d2] => { results := [.lit (.bool false)], args := [d1, d2] }
  | _ => none }
def FnExactNodeDelaysWrongFalsely : Prop := fnExactNodeDelaysRow.holds Tryz.pinned (OpenSpec.ofChange fnExactNodeDelaysWrong)

/-- 'laws.FnExactSinkSlew': WHATEVER THE INPUT: true; the input reads as it did. -/
def fnExactSinkSlewSpec : ChangeSpec := { name := "fnExactSinkSlew", fn := fun _ => fun
  | [d1, d2, d3, d4, d5] => { results := [.lit (.bool true)], args := [d1, d2, d3, d4, d5] }
  | _ => none }
def fnExactSinkSlewRow : OpenClaim := { program := "ytpppobomekebdaagreatdoor", sum := "d2afcd096d4531b352ec03457f359a72783241b8f200a577c9dc08acceddc124", func := "loop.example/g00861/laws.FnExactSinkSlew", spec := "fnExactSinkSlew", inPlace := ["internal/bytealg.IndexByteString", "internal/bytealg.IndexString"], unfollowed := true, recurses := true, named := ["unicode/utf8.first", "unicode/utf8.acceptRanges", "internal/bytealg.MaxLen"], apart := false, laid := [("unicode/utf8.acceptRanges", laid_unicode_utf8_acceptRanges), ("unicode/utf8.first", laid_unicode_utf8_first)] }
def FnExactSinkSlewSaid : Prop := fnExactSinkSlewRow.holds Tryz.pinned (OpenSpec.ofChange fnExactSinkSlewSpec)

/-- ITS FALSE NEIGHBOUR: 'it returns false'. Refute it at one input. -/
def fnExactSinkSlewWrong : ChangeSpec := { name := "fnExactSinkSlew", fn := fun _ => fun
  | [d1, d2, d3, d4, d5] => { results := [.lit (.bool false)], args := [d1, d2, d3, d4, d5] }
  | _ => none }
def FnExactSinkSlewWrongFalsely : Prop := fnExactSinkSlewRow.holds Tryz.pinned (OpenSpec.ofChange fnExactSinkSlewWrong)

/-- 'laws.FnExactArcsTo': WHATEVER THE INPUT: true; the input reads as it did. -/
def fnExactArcsToSpec : ChangeSpec := { name := "fnExactArcsTo", fn := fun _ => fun
  | [d1, d2, d3] => { results := [.lit (.bool true)], args := [d1, d2, d3] }
  | _ => none }
def fnExactArcsToRow : OpenClaim := { program := "ytpppobomekebdaagreatdoor", sum := "d2afcd096d4531b352ec03457f359a72783241b8f200a577c9dc08acceddc124", func := "loop.example/g00861/laws.FnExactArcsTo", spec := "fnExactArcsTo", inPlace := ["internal/bytealg.IndexByteString", "internal/bytealg.IndexString"], unfollowed := true, recurses := true, named := ["unicode/utf8.first", "unicode/utf8.acceptRanges", "internal/bytealg.MaxLen"], apart := false, laid := [("unicode/utf8.acceptRanges", laid_unicode_utf8_acceptRanges), ("unicode/utf8.first", laid_unicode_utf8_first)] }
def FnExactArcsToSaid : Prop := fnExactArcsToRow.holds Tryz.pinned (OpenSpec.ofChange fnExactArcsToSpec)

/-- ITS FALSE NEIGHBOUR: 'it returns false'. Refute it at one input. -/
def fnExactArcsToWrong : ChangeSpec := { name := "fnExactArcsTo", fn := fun _ => fun
  | [d1, d2, d3] => { results := [.lit (.bool false)], args := [d1, d2, d3] }
  | _ => none }
def FnExactArcsToWrongFalsely : Prop := fnExactArcsToRow.holds Tryz.pinned (OpenSpec.ofChange fnExactArcsToWrong)

/- THE SECOND FORM. 'bulk': how many values and letters a reading holds, each counted each time it is reached (what is shared counts as often as it is met; a slice's spare places count too). A statement '..UptoSaid' is the law's where the arguments, and the package variables that the reading takes, are together of bulk at most 1048576: NARROWER than '..Said'. Prove '..Said' where nothing that the law and all that it calls make is longer than what came in: it says more and counts as full. Else prove '..UptoSaid'. A law counts once. -/
mutual
def uptoBulk {H : Type} : DataW H → Nat
  | .lit (.string bytes) => bytes.length + 1
  | .lit _ => 1
  | .nil => 1
  | .ptr d => uptoBulk d + 1
  | .slice elems spare => uptoBulkAll elems + uptoBulkAll spare + 1
  | .agg parts => uptoBulkAll parts + 1
  | .iface _ d => uptoBulk d + 1
  | .map entries => uptoBulkEntries entries + 1
  | .held _ => 1
def uptoBulkAll {H : Type} : List (DataW H) → Nat
  | [] => 0
  | d :: r => uptoBulk d + uptoBulkAll r
def uptoBulkEntries {H : Type} : List (Lit × DataW H) → Nat
  | [] => 0
  | x :: r => uptoBulkEntry x + uptoBulkEntries r
def uptoBulkEntry {H : Type} : Lit × DataW H → Nat
  | (.string bytes, d) => bytes.length + uptoBulk d + 1
  | (_, d) => uptoBulk d + 1
 end
def uptoSmall : (H : Type) → List (DataW H) → Bool := fun _ ds => decide (uptoBulkAll ds ≤ 1048576)
def OpenSpec.upto (s : _root_.Go.ChangeSpec) : _root_.Go.OpenSpec := { _root_.Go.OpenSpec.ofChange s with cond := some uptoSmall }

/-- 'laws.FnExactIsBlock', WHERE WHAT IT READS IS OF BULK AT MOST 1048576: true; the input reads as it did. -/
def fnExactIsBlockUptoRow : OpenClaim := { program := "ytpppobomekebdaagreatdoor", sum := "d2afcd096d4531b352ec03457f359a72783241b8f200a577c9dc08acceddc124", func := "loop.example/g00861/laws.FnExactIsBlock", spec := "fnExactIsBlock", inPlace := ["internal/bytealg.IndexByteString", "internal/bytealg.IndexString"], unfollowed := true, recurses := true, named := ["unicode/utf8.first", "unicode/utf8.acceptRanges", "internal/bytealg.MaxLen"], apart := false, laid := [("unicode/utf8.acceptRanges", laid_unicode_utf8_acceptRanges), ("unicode/utf8.first", laid_unicode_utf8_first)], narrowed := true }
def FnExactIsBlockUptoSaid : Prop := fnExactIsBlockUptoRow.holds Tryz.pinned (OpenSpec.upto fnExactIsBlockSpec)

/-- 'laws.FnExactNetLoad', WHERE WHAT IT READS IS OF BULK AT MOST 1048576: true; the input reads as it did. -/
def fnExactNetLoadUptoRow : OpenClaim := { program := "ytpppobomekebdaagreatdoor", sum := "d2afcd096d4531b352ec03457f359a72783241b8f200a577c9dc08acceddc124", func := "loop.example/g00861/laws.FnExactNetLoad", spec := "fnExactNetLoad", inPlace := ["internal/bytealg.IndexByteString", "internal/bytealg.IndexString"], unfollowed := true, recurses := true, named := ["unicode/utf8.first", "unicode/utf8.acceptRanges", "internal/bytealg.MaxLen"], apart := false, laid := [("unicode/utf8.acceptRanges", laid_unicode_utf8_acceptRanges), ("unicode/utf8.first", laid_unicode_utf8_first)], narrowed := true }
def FnExactNetLoadUptoSaid : Prop := fnExactNetLoadUptoRow.holds Tryz.pinned (OpenSpec.upto fnExactNetLoadSpec)

/-- 'laws.FnExactNodeLoads', WHERE WHAT IT READS IS OF BULK AT MOST 1048576: true; the input reads as it did. -/
def fnExactNodeLoadsUptoRow : OpenClaim := { program := "ytpppobomekebdaagreatdoor", sum := "d2afcd096d4531b352ec03457f359a72783241b8f200a577c9dc08acceddc124", func := "loop.example/g00861/laws.FnExactNodeLoads", spec := "fnExactNodeLoads", inPlace := ["internal/bytealg.IndexByteString", "internal/bytealg.IndexString"], unfollowed := true, recurses := true, named := ["unicode/utf8.first", "unicode/utf8.acceptRanges", "internal/bytealg.MaxLen"], apart := false, laid := [("unicode/utf8.acceptRanges", laid_unicode_utf8_acceptRanges), ("unicode/utf8.first", laid_unicode_utf8_first)], narrowed := true }
def FnExactNodeLoadsUptoSaid : Prop := fnExactNodeLoadsUptoRow.holds Tryz.pinned (OpenSpec.upto fnExactNodeLoadsSpec)

/-- 'laws.FnExactNodeDelays', WHERE WHAT IT READS IS OF BULK AT MOST 1048576: true; the input reads as it did. -/
def fnExactNodeDelaysUptoRow : OpenClaim := { program := "ytpppobomekebdaagreatdoor", sum := "d2afcd096d4531b352ec03457f359a72783241b8f200a577c9dc08acceddc124", func := "loop.example/g00861/laws.FnExactNodeDelays", spec := "fnExactNodeDelays", inPlace := ["internal/bytealg.IndexByteString", "internal/bytealg.IndexString"], unfollowed := true, recurses := true, named := ["unicode/utf8.first", "unicode/utf8.acceptRanges", "internal/bytealg.MaxLen"], apart := false, laid := [("unicode/utf8.acceptRanges", laid_unicode_utf8_acceptRanges), ("unicode/utf8.first", laid_unicode_utf8_first)], narrowed := true }
def FnExactNodeDelaysUptoSaid : Prop := fnExactNodeDelaysUptoRow.holds Tryz.pinned (OpenSpec.upto fnExactNodeDelaysSpec)

/-- 'laws.FnExactSinkSlew', WHERE WHAT IT READS IS OF BULK AT MOST 1048576: true; the input reads as it did. -/
def fnExactSinkSlewUptoRow : OpenClaim := { program := "ytpppobomekebdaagreatdoor", sum := "d2afcd096d4531b352ec03457f359a72783241b8f200a577c9dc08acceddc124", func := "loop.example/g00861/laws.FnExactSinkSlew", spec := "fnExactSinkSlew", inPlace := ["internal/bytealg.IndexByteString", "internal/bytealg.IndexString"], unfollowed := true, recurses := true, named := ["unicode/utf8.first", "unicode/utf8.acceptRanges", "internal/bytealg.MaxLen"], apart := false, laid := [("unicode/utf8.acceptRanges", laid_unicode_utf8_acceptRanges), ("unicode/utf8.first", laid_unicode_utf8_first)], narrowed := true }
def FnExactSinkSlewUptoSaid : Prop := fnExactSinkSlewUptoRow.holds Tryz.pinned (OpenSpec.upto fnExactSinkSlewSpec)

/-- 'laws.FnExactArcsTo', WHERE WHAT IT READS IS OF BULK AT MOST 1048576: true; the input reads as it did. -/
def fnExactArcsToUptoRow : OpenClaim := { program := "ytpppobomekebdaagreatdoor", sum := "d2afcd096d4531b352ec03457f359a72783241b8f200a577c9dc08acceddc124", func := "loop.example/g00861/laws.FnExactArcsTo", spec := "fnExactArcsTo", inPlace := ["internal/bytealg.IndexByteString", "internal/bytealg.IndexString"], unfollowed := true, recurses := true, named := ["unicode/utf8.first", "unicode/utf8.acceptRanges", "internal/bytealg.MaxLen"], apart := false, laid := [("unicode/utf8.acceptRanges", laid_unicode_utf8_acceptRanges), ("unicode/utf8.first", laid_unicode_utf8_first)], narrowed := true }
def FnExactArcsToUptoSaid : Prop := fnExactArcsToUptoRow.holds Tryz.pinned (OpenSpec.upto fnExactArcsToSpec)

end Rows
end Go.Proofs.YtpppobomekebdaaGreatDoor
