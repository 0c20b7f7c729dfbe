/-
  No cell of these rows narrows 'for every input' (looked for: loops, veiled, ifaces, maps, wideKeys, modest, calm, conditions, laid).
  DERIVED. THE GIVEN ROWS OF THIS SEAT. 6 by the template 'for every input the law returns true; each argument reads behind the call as it read before'; 0 by the template 'total and deterministic' (their statements: YtkedpeihdjbldaaTotals.lean).
  GIVEN WITH THE SEED: the statements are not yours to turn. If you find one false, say at which input.
  Laid BY PROGRAM, IN A SANDBOX (cutbox-rows.mjs): the forced cells as the released guide's own fill.sh prints them over the translation bc2dd84fe23abbb2… (all of the seat's roots in one cut). By AI agents, Wed Nov 11 2026. No macro, syntax, notation, axiom, sorry.
-/
import Derived.Test.YtkedpeihdjbldaaChecked
import GoSem.Claim
import GoSem.ClaimJoined
import GoSem.ClaimMapViews
import Derived.JoinedTies
import Derived.KernelRfl
namespace Go.Proofs.Ytkedpeihdjbldaa
/- THE CELL 'sum', in the pinned program and in every row, IS THE sha256 OF THE DUMP (.gsa) THAT YtkedpeihdjbldaaProg.lean LOADS. Nothing in Lean hashes anything: it is a label: what it is worth is what the hold of that sum in a sandbox is worth. -/
noncomputable def Try.pinned : Pinned := { name := "ytkedpeihdjbldaa", sum := "bc2dd84fe23abbb2e4bafef4f23bdcdba4364e09d612338f7e07c009c808bb25", checked := Try.checked }
namespace Rows
def none {H : Type} : Left H := { results := [], args := [] }

/-- 'laws.FnExactConstants': WHATEVER THE INPUT: true; the input reads as it did. -/
def fnExactConstantsSpec : ChangeSpec := { name := "fnExactConstants", fn := fun _ => fun
  | [] => { results := [.lit (.bool true)], args := [] }
  | _ => none }
def fnExactConstantsRow : OpenClaim := { program := "ytkedpeihdjbldaa", sum := "bc2dd84fe23abbb2e4bafef4f23bdcdba4364e09d612338f7e07c009c808bb25", func := "loop.example/g00861/laws.FnExactConstants", spec := "fnExactConstants", apart := false }
def FnExactConstantsSaid : Prop := fnExactConstantsRow.holds Try.pinned (OpenSpec.ofChange fnExactConstantsSpec)

/-- ITS FALSE NEIGHBOUR: 'it returns false'. Refute it at one input. -/
def fnExactConstantsWrong : ChangeSpec := { name := "fnExactConstants", fn := fun _ => fun
  | [] => { results := [.lit (.bool false)], args := [] }
  | _ => none }
def FnExactConstantsWrongFalsely : Prop := fnExactConstantsRow.holds Try.pinned (OpenSpec.ofChange fnExactConstantsWrong)

/-- 'laws.FnExactIsSpan': WHATEVER THE INPUT: true; the input reads as it did. -/
def fnExactIsSpanSpec : ChangeSpec := { name := "fnExactIsSpan", fn := fun _ => fun
  | [d] => { results := [.lit (.bool true)], args := [d] }
  | _ => none }
def fnExactIsSpanRow : OpenClaim := { program := "ytkedpeihdjbldaa", sum := "bc2dd84fe23abbb2e4bafef4f23bdcdba4364e09d612338f7e07c009c808bb25", func := "loop.example/g00861/laws.FnExactIsSpan", spec := "fnExactIsSpan", apart := false }
def FnExactIsSpanSaid : Prop := fnExactIsSpanRow.holds Try.pinned (OpenSpec.ofChange fnExactIsSpanSpec)

/-- ITS FALSE NEIGHBOUR: 'it returns false'. Refute it at one input. -/
def fnExactIsSpanWrong : ChangeSpec := { name := "fnExactIsSpan", fn := fun _ => fun
  | [d] => { results := [.lit (.bool false)], args := [d] }
  | _ => none }
def FnExactIsSpanWrongFalsely : Prop := fnExactIsSpanRow.holds Try.pinned (OpenSpec.ofChange fnExactIsSpanWrong)

/-- 'laws.FnExactSpansOverlap': WHATEVER THE INPUT: true; the input reads as it did. -/
def fnExactSpansOverlapSpec : ChangeSpec := { name := "fnExactSpansOverlap", fn := fun _ => fun
  | [d1, d2] => { results := [.lit (.bool true)], args := [d1, d2] }
  | _ => none }
def fnExactSpansOverlapRow : OpenClaim := { program := "ytkedpeihdjbldaa", sum := "bc2dd84fe23abbb2e4bafef4f23bdcdba4364e09d612338f7e07c009c808bb25", func := "loop.example/g00861/laws.FnExactSpansOverlap", spec := "fnExactSpansOverlap", apart := false }
def FnExactSpansOverlapSaid : Prop := fnExactSpansOverlapRow.holds Try.pinned (OpenSpec.ofChange fnExactSpansOverlapSpec)

/-- ITS FALSE NEIGHBOUR: 'it returns false'. Refute it at one input. -/
def fnExactSpansOverlapWrong : ChangeSpec := { name := "fnExactSpansOverlap", fn := fun _ => fun
  | [d1, d2] => { results := [.lit (.bool false)], args := [d1, d2] }
  | _ => none }
def FnExactSpansOverlapWrongFalsely : Prop := fnExactSpansOverlapRow.holds Try.pinned (OpenSpec.ofChange fnExactSpansOverlapWrong)

/-- 'laws.FnExactRoundDiv': WHATEVER THE INPUT: true; the input reads as it did. -/
def fnExactRoundDivSpec : ChangeSpec := { name := "fnExactRoundDiv", fn := fun _ => fun
  | [d1, d2, d3] => { results := [.lit (.bool true)], args := [d1, d2, d3] }
  | _ => none }
def fnExactRoundDivRow : OpenClaim := { program := "ytkedpeihdjbldaa", sum := "bc2dd84fe23abbb2e4bafef4f23bdcdba4364e09d612338f7e07c009c808bb25", func := "loop.example/g00861/laws.FnExactRoundDiv", spec := "fnExactRoundDiv", apart := false }
def FnExactRoundDivSaid : Prop := fnExactRoundDivRow.holds Try.pinned (OpenSpec.ofChange fnExactRoundDivSpec)

/-- ITS FALSE NEIGHBOUR: 'it returns false'. Refute it at one input. -/
def fnExactRoundDivWrong : ChangeSpec := { name := "fnExactRoundDiv", fn := fun _ => fun
  | [d1, d2, d3] => { results := [.lit (.bool false)], args := [d1, d2, d3] }
  | _ => none }
def FnExactRoundDivWrongFalsely : Prop := fnExactRoundDivRow.holds Try.pinned (OpenSpec.ofChange fnExactRoundDivWrong)

/-- 'laws.FnExactScaleTime': WHATEVER THE INPUT: true; the input reads as it did. -/
def fnExactScaleTimeSpec : ChangeSpec := { name := "fnExactScaleTime", fn := fun _ => fun
  | [d1, d2, d3] => { results := [.lit (.bool true)], args := [d1, d2, d3] }
  | _ => none }
def fnExactScaleTimeRow : OpenClaim := { program := "ytkedpeihdjbldaa", sum := "bc2dd84fe23abbb2e4bafef4f23bdcdba4364e09d612338f7e07c009c808bb25", func := "loop.example/g00861/laws.FnExactScaleTime", spec := "fnExactScaleTime", apart := false }
def FnExactScaleTimeSaid : Prop := fnExactScaleTimeRow.holds Try.pinned (OpenSpec.ofChange fnExactScaleTimeSpec)

/-- ITS FALSE NEIGHBOUR: 'it returns false'. Refute it at one input. -/
def fnExactScaleTimeWrong : ChangeSpec := { name := "fnExactScaleTime", fn := fun _ => fun
  | [d1, d2, d3] => { results := [.lit (.bool false)], args := [d1, d2, d3] }
  | _ => none }
def FnExactScaleTimeWrongFalsely : Prop := fnExactScaleTimeRow.holds Try.pinned (OpenSpec.ofChange fnExactScaleTimeWrong)

/-- 'laws.FnExactAddSpans': WHATEVER THE INPUT: true; the input reads as it did. -/
def fnExactAddSpansSpec : ChangeSpec := { name := "fnExactAddSpans", fn := fun _ => fun
  | [d1, d2] => { results := [.lit (.bool true)], args := [d1, d2] }
  | _ => none }
def fnExactAddSpansRow : OpenClaim := { program := "ytkedpeihdjbldaa", sum := "bc2dd84fe23abbb2e4bafef4f23bdcdba4364e09d612338f7e07c009c808bb25", func := "loop.example/g00861/laws.FnExactAddSpans", spec := "fnExactAddSpans", apart := false }
def FnExactAddSpansSaid : Prop := fnExactAddSpansRow.holds Try.pinned (OpenSpec.ofChange fnExactAddSpansSpec)

/-- ITS FALSE NEIGHBOUR: 'it returns false'. Refute it at one input. -/
def fnExactAddSpansWrong : ChangeSpec := { name := "fnExactAddSpans", fn := fun _ => fun
  | [d1, d2] => { results := [.lit (.bool false)], args := [d1, d2] }
  | _ => none }
def FnExactAddSpansWrongFalsely : Prop := fnExactAddSpansRow.holds Try.pinned (OpenSpec.ofChange fnExactAddSpansWrong)

/- THE SECOND FORM. 'bulk': how many values and letters a reading holds, each counted each time it is reached (what is shared counts as often as it is met; a slice's spare places count too). A statement '..UptoSaid' is the law's where the arguments, and the package variables that the reading takes, are together of bulk at most 1048576: NARROWER than '..Said'. Prove '..Said' where nothing that the law and all that it calls make is longer than what came in: it says more and counts as full. Else prove '..UptoSaid'. A law counts once. -/
mutual
def uptoBulk {H : Type} : DataW H → Nat
  | .lit (.string bytes) => bytes.length + 1
  | .lit _ => 1
  | .nil => 1
  | .ptr d => uptoBulk d + 1
  | .slice elems spare => uptoBulkAll elems + uptoBulkAll spare + 1
  | .agg parts => uptoBulkAll parts + 1
  | .iface _ d => uptoBulk d + 1
  | .map entries => uptoBulkEntries entries + 1
  | .held _ => 1
def uptoBulkAll {H : Type} : List (DataW H) → Nat
  | [] => 0
  | d :: r => uptoBulk d + uptoBulkAll r
def uptoBulkEntries {H : Type} : List (Lit × DataW H) → Nat
  | [] => 0
  | x :: r => uptoBulkEntry x + uptoBulkEntries r
def uptoBulkEntry {H : Type} : Lit × DataW H → Nat
  | (.string bytes, d) => bytes.length + uptoBulk d + 1
  | (_, d) => uptoBulk d + 1
 end
def uptoSmall : (H : Type) → List (DataW H) → Bool := fun _ ds => decide (uptoBulkAll ds ≤ 1048576)
def OpenSpec.upto (s : _root_.Go.ChangeSpec) : _root_.Go.OpenSpec := { _root_.Go.OpenSpec.ofChange s with cond := some uptoSmall }

/-- 'laws.FnExactConstants', WHERE WHAT IT READS IS OF BULK AT MOST 1048576: true; the input reads as it did. -/
def fnExactConstantsUptoRow : OpenClaim := { program := "ytkedpeihdjbldaa", sum := "bc2dd84fe23abbb2e4bafef4f23bdcdba4364e09d612338f7e07c009c808bb25", func := "loop.example/g00861/laws.FnExactConstants", spec := "fnExactConstants", apart := false, narrowed := true }
def FnExactConstantsUptoSaid : Prop := fnExactConstantsUptoRow.holds Try.pinned (OpenSpec.upto fnExactConstantsSpec)

/-- 'laws.FnExactIsSpan', WHERE WHAT IT READS IS OF BULK AT MOST 1048576: true; the input reads as it did. -/
def fnExactIsSpanUptoRow : OpenClaim := { program := "ytkedpeihdjbldaa", sum := "bc2dd84fe23abbb2e4bafef4f23bdcdba4364e09d612338f7e07c009c808bb25", func := "loop.example/g00861/laws.FnExactIsSpan", spec := "fnExactIsSpan", apart := false, narrowed := true }
def FnExactIsSpanUptoSaid : Prop := fnExactIsSpanUptoRow.holds Try.pinned (OpenSpec.upto fnExactIsSpanSpec)

/-- 'laws.FnExactSpansOverlap', WHERE WHAT IT READS IS OF BULK AT MOST 1048576: true; the input reads as it did. -/
def fnExactSpansOverlapUptoRow : OpenClaim := { program := "ytkedpeihdjbldaa", sum := "bc2dd84fe23abbb2e4bafef4f23bdcdba4364e09d612338f7e07c009c808bb25", func := "loop.example/g00861/laws.FnExactSpansOverlap", spec := "fnExactSpansOverlap", apart := false, narrowed := true }
def FnExactSpansOverlapUptoSaid : Prop := fnExactSpansOverlapUptoRow.holds Try.pinned (OpenSpec.upto fnExactSpansOverlapSpec)

/-- 'laws.FnExactRoundDiv', WHERE WHAT IT READS IS OF BULK AT MOST 1048576: true; the input reads as it did. -/
def fnExactRoundDivUptoRow : OpenClaim := { program := "ytkedpeihdjbldaa", sum := "bc2dd84fe23abbb2e4bafef4f23bdcdba4364e09d612338f7e07c009c808bb25", func := "loop.example/g00861/laws.FnExactRoundDiv", spec := "fnExactRoundDiv", apart := false, narrowed := true }
def FnExactRoundDivUptoSaid : Prop := fnExactRoundDivUptoRow.holds Try.pinned (OpenSpec.upto fnExactRoundDivSpec)

/-- 'laws.FnExactScaleTime', WHERE WHAT IT READS IS OF BULK AT MOST 1048576: true; the input reads as it did. -/
def fnExactScaleTimeUptoRow : OpenClaim := { program := "ytkedpeihdjbldaa", sum := "bc2dd84fe23abbb2e4bafef4f23bdcdba4364e09d612338f7e07c009c808bb25", func := "loop.example/g00861/laws.FnExactScaleTime", spec := "fnExactScaleTime", apart := false, narrowed := true }
def FnExactScaleTimeUptoSaid : Prop := fnExactScaleTimeUptoRow.holds Try.pinned (OpenSpec.upto fnExactScaleTimeSpec)

/-- 'laws.FnExactAddSpans', WHERE WHAT IT READS IS OF BULK AT MOST 1048576: true; the input reads as it did. -/
def fnExactAddSpansUptoRow : OpenClaim := { program := "ytkedpeihdjbldaa", sum := "bc2dd84fe23abbb2e4bafef4f23bdcdba4364e09d612338f7e07c009c808bb25", func := "loop.example/g00861/laws.FnExactAddSpans", spec := "fnExactAddSpans", apart := false, narrowed := true }
def FnExactAddSpansUptoSaid : Prop := fnExactAddSpansUptoRow.holds Try.pinned (OpenSpec.upto fnExactAddSpansSpec)

end Rows
end Go.Proofs.Ytkedpeihdjbldaa
