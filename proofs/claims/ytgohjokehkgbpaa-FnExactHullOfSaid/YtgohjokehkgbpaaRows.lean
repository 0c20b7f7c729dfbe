/-
  No cell of these rows narrows 'for every input' (looked for: loops, veiled, ifaces, maps, wideKeys, modest, calm, conditions, laid).
  DERIVED. THE GIVEN ROWS OF THIS SEAT. 12 by the template 'for every input the law returns true; each argument reads behind the call as it read before'; 0 by the template 'total and deterministic' (their statements: YtgohjokehkgbpaaTotals.lean).
  GIVEN WITH THE SEED: the statements are not yours to turn. If you find one false, say at which input.
  Laid BY PROGRAM, IN A SANDBOX (cutbox-rows.mjs): the forced cells as the released guide's own fill.sh prints them over the translation 2edea846c7ad254f… (all of the seat's roots in one cut). By AI agents, Wed Nov 11 2026. No macro, syntax, notation, axiom, sorry.
-/
import Derived.Test.YtgohjokehkgbpaaChecked
import GoSem.Claim
import GoSem.ClaimJoined
import GoSem.ClaimMapViews
import Derived.JoinedTies
import Derived.KernelRfl
namespace Go.Proofs.Ytgohjokehkgbpaa
/- THE CELL 'sum', in the pinned program and in every row, IS THE sha256 OF THE DUMP (.gsa) THAT YtgohjokehkgbpaaProg.lean LOADS. Nothing in Lean hashes anything: it is a label: what it is worth is what the hold of that sum in a sandbox is worth. -/
noncomputable def Try.pinned : Pinned := { name := "ytgohjokehkgbpaa", sum := "2edea846c7ad254f3f1a5c653262d20dd2a701a6129c6e5194422d157a336d6a", checked := Try.checked }
namespace Rows
def none {H : Type} : Left H := { results := [], args := [] }

/-- 'laws.FnExactConstantTable': WHATEVER THE INPUT: true; the input reads as it did. -/
def fnExactConstantTableSpec : ChangeSpec := { name := "fnExactConstantTable", fn := fun _ => fun
  | [d] => { results := [.lit (.bool true)], args := [d] }
  | _ => none }
def fnExactConstantTableRow : OpenClaim := { program := "ytgohjokehkgbpaa", sum := "2edea846c7ad254f3f1a5c653262d20dd2a701a6129c6e5194422d157a336d6a", func := "loop.example/g00861/laws.FnExactConstantTable", spec := "fnExactConstantTable", apart := false }
def FnExactConstantTableSaid : Prop := fnExactConstantTableRow.holds Try.pinned (OpenSpec.ofChange fnExactConstantTableSpec)

/-- ITS FALSE NEIGHBOUR: 'it returns false'. Refute it at one input. -/
def fnExactConstantTableWrong : ChangeSpec := { name := "fnExactConstantTable", fn := fun _ => fun
  | [d] => { results := [.lit (.bool false)], args := [d] }
  | _ => none }
def FnExactConstantTableWrongFalsely : Prop := fnExactConstantTableRow.holds Try.pinned (OpenSpec.ofChange fnExactConstantTableWrong)

/-- 'laws.FnExactHullOf': WHATEVER THE INPUT: true; the input reads as it did. -/
def fnExactHullOfSpec : ChangeSpec := { name := "fnExactHullOf", fn := fun _ => fun
  | [d] => { results := [.lit (.bool true)], args := [d] }
  | _ => none }
def fnExactHullOfRow : OpenClaim := { program := "ytgohjokehkgbpaa", sum := "2edea846c7ad254f3f1a5c653262d20dd2a701a6129c6e5194422d157a336d6a", func := "loop.example/g00861/laws.FnExactHullOf", spec := "fnExactHullOf", apart := false }
def FnExactHullOfSaid : Prop := fnExactHullOfRow.holds Try.pinned (OpenSpec.ofChange fnExactHullOfSpec)

/-- ITS FALSE NEIGHBOUR: 'it returns false'. Refute it at one input. -/
def fnExactHullOfWrong : ChangeSpec := { name := "fnExactHullOf", fn := fun _ => fun
  | [d] => { results := [.lit (.bool false)], args := [d] }
  | _ => none }
def FnExactHullOfWrongFalsely : Prop := fnExactHullOfRow.holds Try.pinned (OpenSpec.ofChange fnExactHullOfWrong)

/-- 'laws.FnExactLumpedWire': WHATEVER THE INPUT: true; the input reads as it did. -/
def fnExactLumpedWireSpec : ChangeSpec := { name := "fnExactLumpedWire", fn := fun _ => fun
  | [d1, d2] => { results := [.lit (.bool true)], args := [d1, d2] }
  | _ => none }
def fnExactLumpedWireRow : OpenClaim := { program := "ytgohjokehkgbpaa", sum := "2edea846c7ad254f3f1a5c653262d20dd2a701a6129c6e5194422d157a336d6a", func := "loop.example/g00861/laws.FnExactLumpedWire", spec := "fnExactLumpedWire", apart := false }
def FnExactLumpedWireSaid : Prop := fnExactLumpedWireRow.holds Try.pinned (OpenSpec.ofChange fnExactLumpedWireSpec)

/-- ITS FALSE NEIGHBOUR: 'it returns false'. Refute it at one input. -/
def fnExactLumpedWireWrong : ChangeSpec := { name := "fnExactLumpedWire", fn := fun _ => fun
  | [d1, d2] => { results := [.lit (.bool false)], args := [d1, d2] }
  | _ => none }
def FnExactLumpedWireWrongFalsely : Prop := fnExactLumpedWireRow.holds Try.pinned (OpenSpec.ofChange fnExactLumpedWireWrong)

/-- 'laws.FnSpans': WHATEVER THE INPUT: true; the input reads as it did. -/
def fnSpansSpec : ChangeSpec := { name := "fnSpans", fn := fun _ => fun
  | [d] => { results := [.lit (.bool true)], args := [d] }
  | _ => none }
def fnSpansRow : OpenClaim := { program := "ytgohjokehkgbpaa", sum := "2edea846c7ad254f3f1a5c653262d20dd2a701a6129c6e5194422d157a336d6a", func := "loop.example/g00861/laws.FnSpans", spec := "fnSpans", apart := false }
def FnSpansSaid : Prop := fnSpansRow.holds Try.pinned (OpenSpec.ofChange fnSpansSpec)

/-- ITS FALSE NEIGHBOUR: 'it returns false'. Refute it at one input. -/
def fnSpansWrong : ChangeSpec := { name := "fnSpans", fn := fun _ => fun
  | [d] => { results := [.lit (.bool false)], args := [d] }
  | _ => none }
def FnSpansWrongFalsely : Prop := fnSpansRow.holds Try.pinned (OpenSpec.ofChange fnSpansWrong)

/-- 'laws.FnExactIsTable': WHATEVER THE INPUT: true; the input reads as it did. -/
def fnExactIsTableSpec : ChangeSpec := { name := "fnExactIsTable", fn := fun _ => fun
  | [d] => { results := [.lit (.bool true)], args := [d] }
  | _ => none }
def fnExactIsTableRow : OpenClaim := { program := "ytgohjokehkgbpaa", sum := "2edea846c7ad254f3f1a5c653262d20dd2a701a6129c6e5194422d157a336d6a", func := "loop.example/g00861/laws.FnExactIsTable", spec := "fnExactIsTable", unfollowed := true, recurses := true, apart := false }
def FnExactIsTableSaid : Prop := fnExactIsTableRow.holds Try.pinned (OpenSpec.ofChange fnExactIsTableSpec)

/-- ITS FALSE NEIGHBOUR: 'it returns false'. Refute it at one input. -/
def fnExactIsTableWrong : ChangeSpec := { name := "fnExactIsTable", fn := fun _ => fun
  | [d] => { results := [.lit (.bool false)], args := [d] }
  | _ => none }
def FnExactIsTableWrongFalsely : Prop := fnExactIsTableRow.holds Try.pinned (OpenSpec.ofChange fnExactIsTableWrong)

/-- 'laws.FnExactIsWire': WHATEVER THE INPUT: true; the input reads as it did. -/
def fnExactIsWireSpec : ChangeSpec := { name := "fnExactIsWire", fn := fun _ => fun
  | [d1, d2] => { results := [.lit (.bool true)], args := [d1, d2] }
  | _ => none }
def fnExactIsWireRow : OpenClaim := { program := "ytgohjokehkgbpaa", sum := "2edea846c7ad254f3f1a5c653262d20dd2a701a6129c6e5194422d157a336d6a", func := "loop.example/g00861/laws.FnExactIsWire", spec := "fnExactIsWire", unfollowed := true, recurses := true, apart := false }
def FnExactIsWireSaid : Prop := fnExactIsWireRow.holds Try.pinned (OpenSpec.ofChange fnExactIsWireSpec)

/-- ITS FALSE NEIGHBOUR: 'it returns false'. Refute it at one input. -/
def fnExactIsWireWrong : ChangeSpec := { name := "fnExactIsWire", fn := fun _ => fun
  | [d1, d2] => { results := [.lit (.bool false)], args := [d1, d2] }
  | _ => none }
def FnExactIsWireWrongFalsely : Prop := fnExactIsWireRow.holds Try.pinned (OpenSpec.ofChange fnExactIsWireWrong)

/-- 'laws.FnExactIsMonotone': WHATEVER THE INPUT: true; the input reads as it did. -/
def fnExactIsMonotoneSpec : ChangeSpec := { name := "fnExactIsMonotone", fn := fun _ => fun
  | [d] => { results := [.lit (.bool true)], args := [d] }
  | _ => none }
def fnExactIsMonotoneRow : OpenClaim := { program := "ytgohjokehkgbpaa", sum := "2edea846c7ad254f3f1a5c653262d20dd2a701a6129c6e5194422d157a336d6a", func := "loop.example/g00861/laws.FnExactIsMonotone", spec := "fnExactIsMonotone", unfollowed := true, recurses := true, apart := false }
def FnExactIsMonotoneSaid : Prop := fnExactIsMonotoneRow.holds Try.pinned (OpenSpec.ofChange fnExactIsMonotoneSpec)

/-- ITS FALSE NEIGHBOUR: 'it returns false'. Refute it at one input. -/
def fnExactIsMonotoneWrong : ChangeSpec := { name := "fnExactIsMonotone", fn := fun _ => fun
  | [d] => { results := [.lit (.bool false)], args := [d] }
  | _ => none }
def FnExactIsMonotoneWrongFalsely : Prop := fnExactIsMonotoneRow.holds Try.pinned (OpenSpec.ofChange fnExactIsMonotoneWrong)

/-- 'laws.FnExactTableBounds': WHATEVER THE INPUT: true; the input reads as it did. -/
def fnExactTableBoundsSpec : ChangeSpec := { name := "fnExactTableBounds", fn := fun _ => fun
  | [d] => { results := [.lit (.bool true)], args := [d] }
  | _ => none }
def fnExactTableBoundsRow : OpenClaim := { program := "ytgohjokehkgbpaa", sum := "2edea846c7ad254f3f1a5c653262d20dd2a701a6129c6e5194422d157a336d6a", func := "loop.example/g00861/laws.FnExactTableBounds", spec := "fnExactTableBounds", unfollowed := true, recurses := true, apart := false }
def FnExactTableBoundsSaid : Prop := fnExactTableBoundsRow.holds Try.pinned (OpenSpec.ofChange fnExactTableBoundsSpec)

/-- ITS FALSE NEIGHBOUR: 'it returns false'. Refute it at one input. -/
def fnExactTableBoundsWrong : ChangeSpec := { name := "fnExactTableBounds", fn := fun _ => fun
  | [d] => { results := [.lit (.bool false)], args := [d] }
  | _ => none }
def FnExactTableBoundsWrongFalsely : Prop := fnExactTableBoundsRow.holds Try.pinned (OpenSpec.ofChange fnExactTableBoundsWrong)

/-- 'laws.FnExactScaleTable': WHATEVER THE INPUT: true; the input reads as it did. -/
def fnExactScaleTableSpec : ChangeSpec := { name := "fnExactScaleTable", fn := fun _ => fun
  | [d1, d2, d3] => { results := [.lit (.bool true)], args := [d1, d2, d3] }
  | _ => none }
def fnExactScaleTableRow : OpenClaim := { program := "ytgohjokehkgbpaa", sum := "2edea846c7ad254f3f1a5c653262d20dd2a701a6129c6e5194422d157a336d6a", func := "loop.example/g00861/laws.FnExactScaleTable", spec := "fnExactScaleTable", unfollowed := true, recurses := true, apart := false }
def FnExactScaleTableSaid : Prop := fnExactScaleTableRow.holds Try.pinned (OpenSpec.ofChange fnExactScaleTableSpec)

/-- ITS FALSE NEIGHBOUR: 'it returns false'. Refute it at one input. -/
def fnExactScaleTableWrong : ChangeSpec := { name := "fnExactScaleTable", fn := fun _ => fun
  | [d1, d2, d3] => { results := [.lit (.bool false)], args := [d1, d2, d3] }
  | _ => none }
def FnExactScaleTableWrongFalsely : Prop := fnExactScaleTableRow.holds Try.pinned (OpenSpec.ofChange fnExactScaleTableWrong)

/-- 'laws.FnExactLookUp': WHATEVER THE INPUT: true; the input reads as it did. -/
def fnExactLookUpSpec : ChangeSpec := { name := "fnExactLookUp", fn := fun _ => fun
  | [d1, d2, d3, d4] => { results := [.lit (.bool true)], args := [d1, d2, d3, d4] }
  | _ => none }
def fnExactLookUpRow : OpenClaim := { program := "ytgohjokehkgbpaa", sum := "2edea846c7ad254f3f1a5c653262d20dd2a701a6129c6e5194422d157a336d6a", func := "loop.example/g00861/laws.FnExactLookUp", spec := "fnExactLookUp", unfollowed := true, recurses := true, apart := false }
def FnExactLookUpSaid : Prop := fnExactLookUpRow.holds Try.pinned (OpenSpec.ofChange fnExactLookUpSpec)

/-- ITS FALSE NEIGHBOUR: 'it returns false'. Refute it at one input. -/
def fnExactLookUpWrong : ChangeSpec := { name := "fnExactLookUp", fn := fun _ => fun
  | [d1, d2, d3, d4] => { results := [.lit (.bool false)], args := [d1, d2, d3, d4] }
  | _ => none }
def FnExactLookUpWrongFalsely : Prop := fnExactLookUpRow.holds Try.pinned (OpenSpec.ofChange fnExactLookUpWrong)

/-- 'laws.FnMonotone': WHATEVER THE INPUT: true; the input reads as it did. -/
def fnMonotoneSpec : ChangeSpec := { name := "fnMonotone", fn := fun _ => fun
  | [d] => { results := [.lit (.bool true)], args := [d] }
  | _ => none }
def fnMonotoneRow : OpenClaim := { program := "ytgohjokehkgbpaa", sum := "2edea846c7ad254f3f1a5c653262d20dd2a701a6129c6e5194422d157a336d6a", func := "loop.example/g00861/laws.FnMonotone", spec := "fnMonotone", unfollowed := true, recurses := true, apart := false }
def FnMonotoneSaid : Prop := fnMonotoneRow.holds Try.pinned (OpenSpec.ofChange fnMonotoneSpec)

/-- ITS FALSE NEIGHBOUR: 'it returns false'. Refute it at one input. -/
def fnMonotoneWrong : ChangeSpec := { name := "fnMonotone", fn := fun _ => fun
  | [d] => { results := [.lit (.bool false)], args := [d] }
  | _ => none }
def FnMonotoneWrongFalsely : Prop := fnMonotoneRow.holds Try.pinned (OpenSpec.ofChange fnMonotoneWrong)

/-- 'laws.FnLookUp': WHATEVER THE INPUT: true; the input reads as it did. -/
def fnLookUpSpec : ChangeSpec := { name := "fnLookUp", fn := fun _ => fun
  | [d] => { results := [.lit (.bool true)], args := [d] }
  | _ => none }
def fnLookUpRow : OpenClaim := { program := "ytgohjokehkgbpaa", sum := "2edea846c7ad254f3f1a5c653262d20dd2a701a6129c6e5194422d157a336d6a", func := "loop.example/g00861/laws.FnLookUp", spec := "fnLookUp", unfollowed := true, recurses := true, apart := false }
def FnLookUpSaid : Prop := fnLookUpRow.holds Try.pinned (OpenSpec.ofChange fnLookUpSpec)

/-- ITS FALSE NEIGHBOUR: 'it returns false'. Refute it at one input. -/
def fnLookUpWrong : ChangeSpec := { name := "fnLookUp", fn := fun _ => fun
  | [d] => { results := [.lit (.bool false)], args := [d] }
  | _ => none }
def FnLookUpWrongFalsely : Prop := fnLookUpRow.holds Try.pinned (OpenSpec.ofChange fnLookUpWrong)

/- THE SECOND FORM. 'bulk': how many values and letters a reading holds, each counted each time it is reached (what is shared counts as often as it is met; a slice's spare places count too). A statement '..UptoSaid' is the law's where the arguments, and the package variables that the reading takes, are together of bulk at most 1048576: NARROWER than '..Said'. Prove '..Said' where nothing that the law and all that it calls make is longer than what came in: it says more and counts as full. Else prove '..UptoSaid'. A law counts once. -/
mutual
def uptoBulk {H : Type} : DataW H → Nat
  | .lit (.string bytes) => bytes.length + 1
  | .lit _ => 1
  | .nil => 1
  | .ptr d => uptoBulk d + 1
  | .slice elems spare => uptoBulkAll elems + uptoBulkAll spare + 1
  | .agg parts => uptoBulkAll parts + 1
  | .iface _ d => uptoBulk d + 1
  | .map entries => uptoBulkEntries entries + 1
  | .held _ => 1
def uptoBulkAll {H : Type} : List (DataW H) → Nat
  | [] => 0
  | d :: r => uptoBulk d + uptoBulkAll r
def uptoBulkEntries {H : Type} : List (Lit × DataW H) → Nat
  | [] => 0
  | x :: r => uptoBulkEntry x + uptoBulkEntries r
def uptoBulkEntry {H : Type} : Lit × DataW H → Nat
  | (.string bytes, d) => bytes.length + uptoBulk d + 1
  | (_, d) => uptoBulk d + 1
 end
def uptoSmall : (H : Type) → List (DataW H) → Bool := fun _ ds => decide (uptoBulkAll ds ≤ 1048576)
def OpenSpec.upto (s : _root_.Go.ChangeSpec) : _root_.Go.OpenSpec := { _root_.Go.OpenSpec.ofChange s with cond := some uptoSmall }

/-- 'laws.FnExactConstantTable', WHERE WHAT IT READS IS OF BULK AT MOST 1048576: true; the input reads as it did. -/
def fnExactConstantTableUptoRow : OpenClaim := { program := "ytgohjokehkgbpaa", sum := "2edea846c7ad254f3f1a5c653262d20dd2a701a6129c6e5194422d157a336d6a", func := "loop.example/g00861/laws.FnExactConstantTable", spec := "fnExactConstantTable", apart := false, narrowed := true }
def FnExactConstantTableUptoSaid : Prop := fnExactConstantTableUptoRow.holds Try.pinned (OpenSpec.upto fnExactConstantTableSpec)

/-- 'laws.FnExactHullOf', WHERE WHAT IT READS IS OF BULK AT MOST 1048576: true; the input reads as it did. -/
def fnExactHullOfUptoRow : OpenClaim := { program := "ytgohjokehkgbpaa", sum := "2edea846c7ad254f3f1a5c653262d20dd2a701a6129c6e5194422d157a336d6a", func := "loop.example/g00861/laws.FnExactHullOf", spec := "fnExactHullOf", apart := false, narrowed := true }
def FnExactHullOfUptoSaid : Prop := fnExactHullOfUptoRow.holds Try.pinned (OpenSpec.upto fnExactHullOfSpec)

/-- 'laws.FnExactLumpedWire', WHERE WHAT IT READS IS OF BULK AT MOST 1048576: true; the input reads as it did. -/
def fnExactLumpedWireUptoRow : OpenClaim := { program := "ytgohjokehkgbpaa", sum := "2edea846c7ad254f3f1a5c653262d20dd2a701a6129c6e5194422d157a336d6a", func := "loop.example/g00861/laws.FnExactLumpedWire", spec := "fnExactLumpedWire", apart := false, narrowed := true }
def FnExactLumpedWireUptoSaid : Prop := fnExactLumpedWireUptoRow.holds Try.pinned (OpenSpec.upto fnExactLumpedWireSpec)

/-- 'laws.FnSpans', WHERE WHAT IT READS IS OF BULK AT MOST 1048576: true; the input reads as it did. -/
def fnSpansUptoRow : OpenClaim := { program := "ytgohjokehkgbpaa", sum := "2edea846c7ad254f3f1a5c653262d20dd2a701a6129c6e5194422d157a336d6a", func := "loop.example/g00861/laws.FnSpans", spec := "fnSpans", apart := false, narrowed := true }
def FnSpansUptoSaid : Prop := fnSpansUptoRow.holds Try.pinned (OpenSpec.upto fnSpansSpec)

/-- 'laws.FnExactIsTable', WHERE WHAT IT READS IS OF BULK AT MOST 1048576: true; the input reads as it did. -/
def fnExactIsTableUptoRow : OpenClaim := { program := "ytgohjokehkgbpaa", sum := "2edea846c7ad254f3f1a5c653262d20dd2a701a6129c6e5194422d157a336d6a", func := "loop.example/g00861/laws.FnExactIsTable", spec := "fnExactIsTable", unfollowed := true, recurses := true, apart := false, narrowed := true }
def FnExactIsTableUptoSaid : Prop := fnExactIsTableUptoRow.holds Try.pinned (OpenSpec.upto fnExactIsTableSpec)

/-- 'laws.FnExactIsWire', WHERE WHAT IT READS IS OF BULK AT MOST 1048576: true; the input reads as it did. -/
def fnExactIsWireUptoRow : OpenClaim := { program := "ytgohjokehkgbpaa", sum := "2edea846c7ad254f3f1a5c653262d20dd2a701a6129c6e5194422d157a336d6a", func := "loop.example/g00861/laws.FnExactIsWire", spec := "fnExactIsWire", unfollowed := true, recurses := true, apart := false, narrowed := true }
def FnExactIsWireUptoSaid : Prop := fnExactIsWireUptoRow.holds Try.pinned (OpenSpec.upto fnExactIsWireSpec)

/-- 'laws.FnExactIsMonotone', WHERE WHAT IT READS IS OF BULK AT MOST 1048576: true; the input reads as it did. -/
def fnExactIsMonotoneUptoRow : OpenClaim := { program := "ytgohjokehkgbpaa", sum := "2edea846c7ad254f3f1a5c653262d20dd2a701a6129c6e5194422d157a336d6a", func := "loop.example/g00861/laws.FnExactIsMonotone", spec := "fnExactIsMonotone", unfollowed := true, recurses := true, apart := false, narrowed := true }
def FnExactIsMonotoneUptoSaid : Prop := fnExactIsMonotoneUptoRow.holds Try.pinned (OpenSpec.upto fnExactIsMonotoneSpec)

/-- 'laws.FnExactTableBounds', WHERE WHAT IT READS IS OF BULK AT MOST 1048576: true; the input reads as it did. -/
def fnExactTableBoundsUptoRow : OpenClaim := { program := "ytgohjokehkgbpaa", sum := "2edea846c7ad254f3f1a5c653262d20dd2a701a6129c6e5194422d157a336d6a", func := "loop.example/g00861/laws.FnExactTableBounds", spec := "fnExactTableBounds", unfollowed := true, recurses := true, apart := false, narrowed := true }
def FnExactTableBoundsUptoSaid : Prop := fnExactTableBoundsUptoRow.holds Try.pinned (OpenSpec.upto fnExactTableBoundsSpec)

/-- 'laws.FnExactScaleTable', WHERE WHAT IT READS IS OF BULK AT MOST 1048576: true; the input reads as it did. -/
def fnExactScaleTableUptoRow : OpenClaim := { program := "ytgohjokehkgbpaa", sum := "2edea846c7ad254f3f1a5c653262d20dd2a701a6129c6e5194422d157a336d6a", func := "loop.example/g00861/laws.FnExactScaleTable", spec := "fnExactScaleTable", unfollowed := true, recurses := true, apart := false, narrowed := true }
def FnExactScaleTableUptoSaid : Prop := fnExactScaleTableUptoRow.holds Try.pinned (OpenSpec.upto fnExactScaleTableSpec)

/-- 'laws.FnExactLookUp', WHERE WHAT IT READS IS OF BULK AT MOST 1048576: true; the input reads as it did. -/
def fnExactLookUpUptoRow : OpenClaim := { program := "ytgohjokehkgbpaa", sum := "2edea846c7ad254f3f1a5c653262d20dd2a701a6129c6e5194422d157a336d6a", func := "loop.example/g00861/laws.FnExactLookUp", spec := "fnExactLookUp", unfollowed := true, recurses := true, apart := false, narrowed := true }
def FnExactLookUpUptoSaid : Prop := fnExactLookUpUptoRow.holds Try.pinned (OpenSpec.upto fnExactLookUpSpec)

/-- 'laws.FnMonotone', WHERE WHAT IT READS IS OF BULK AT MOST 1048576: true; the input reads as it did. -/
def fnMonotoneUptoRow : OpenClaim := { program := "ytgohjokehkgbpaa", sum := "2edea846c7ad254f3f1a5c653262d20dd2a701a6129c6e5194422d157a336d6a", func := "loop.example/g00861/laws.FnMonotone", spec := "fnMonotone", unfollowed := true, recurses := true, apart := false, narrowed := true }
def FnMonotoneUptoSaid : Prop := fnMonotoneUptoRow.holds Try.pinned (OpenSpec.upto fnMonotoneSpec)

/-- 'laws.FnLookUp', WHERE WHAT IT READS IS OF BULK AT MOST 1048576: true; the input reads as it did. -/
def fnLookUpUptoRow : OpenClaim := { program := "ytgohjokehkgbpaa", sum := "2edea846c7ad254f3f1a5c653262d20dd2a701a6129c6e5194422d157a336d6a", func := "loop.example/g00861/laws.FnLookUp", spec := "fnLookUp", unfollowed := true, recurses := true, apart := false, narrowed := true }
def FnLookUpUptoSaid : Prop := fnLookUpUptoRow.holds Try.pinned (OpenSpec.upto fnLookUpSpec)

end Rows
end Go.Proofs.Ytgohjokehkgbpaa
