/-
  No cell of these rows narrows 'for every input' (looked for: loops, veiled, ifaces, maps, wideKeys, modest, calm, conditions, laid).
  DERIVED. THE GIVEN ROWS OF THIS SEAT. 6 by the template 'for every input the law returns true; each argument reads behind the call as it read before'; 0 by the template 'total and deterministic' (their statements: YtciflcnfimpfgaaTotals.lean).
  GIVEN WITH THE SEED: the statements are not yours to turn. If you find one false, say at which input.
  Laid BY PROGRAM, IN A SANDBOX (cutbox-rows.mjs): the forced cells as the released guide's own fill.sh prints them over the translation fe11c7c77066cf20… (all of the seat's roots in one cut). By AI agents, Wed Nov 11 2026. No macro, syntax, notation, axiom, sorry.
-/
import Derived.Test.YtciflcnfimpfgaaChecked
import GoSem.Claim
import GoSem.ClaimJoined
import GoSem.ClaimMapViews
import Derived.JoinedTies
import Derived.KernelRfl
namespace Go.Proofs.Ytciflcnfimpfgaa
/- THE CELL 'sum', in the pinned program and in every row, IS THE sha256 OF THE DUMP (.gsa) THAT YtciflcnfimpfgaaProg.lean LOADS. Nothing in Lean hashes anything: it is a label: what it is worth is what the hold of that sum in a sandbox is worth. -/
noncomputable def Try.pinned : Pinned := { name := "ytciflcnfimpfgaa", sum := "fe11c7c77066cf20223c5ac2ce587110b94d3c98f336b62ead0c8c02b94f07f6", checked := Try.checked }
namespace Rows
def none {H : Type} : Left H := { results := [], args := [] }

/-- 'laws.FnRounding': WHATEVER THE INPUT: true; the input reads as it did. -/
def fnRoundingSpec : ChangeSpec := { name := "fnRounding", fn := fun _ => fun
  | [d] => { results := [.lit (.bool true)], args := [d] }
  | _ => none }
def fnRoundingRow : OpenClaim := { program := "ytciflcnfimpfgaa", sum := "fe11c7c77066cf20223c5ac2ce587110b94d3c98f336b62ead0c8c02b94f07f6", func := "loop.example/g00861/laws.FnRounding", spec := "fnRounding", apart := false }
def FnRoundingSaid : Prop := fnRoundingRow.holds Try.pinned (OpenSpec.ofChange fnRoundingSpec)

/-- ITS FALSE NEIGHBOUR: 'it returns false'. Refute it at one input. -/
def fnRoundingWrong : ChangeSpec := { name := "fnRounding", fn := fun _ => fun
  | [d] => { results := [.lit (.bool false)], args := [d] }
  | _ => none }
def FnRoundingWrongFalsely : Prop := fnRoundingRow.holds Try.pinned (OpenSpec.ofChange fnRoundingWrong)

/-- 'laws.FnSpans': WHATEVER THE INPUT: true; the input reads as it did. -/
def fnSpansSpec : ChangeSpec := { name := "fnSpans", fn := fun _ => fun
  | [d] => { results := [.lit (.bool true)], args := [d] }
  | _ => none }
def fnSpansRow : OpenClaim := { program := "ytciflcnfimpfgaa", sum := "fe11c7c77066cf20223c5ac2ce587110b94d3c98f336b62ead0c8c02b94f07f6", func := "loop.example/g00861/laws.FnSpans", spec := "fnSpans", apart := false }
def FnSpansSaid : Prop := fnSpansRow.holds Try.pinned (OpenSpec.ofChange fnSpansSpec)

/-- ITS FALSE NEIGHBOUR: 'it returns false'. Refute it at one input. -/
def fnSpansWrong : ChangeSpec := { name := "fnSpans", fn := fun _ => fun
  | [d] => { results := [.lit (.bool false)], args := [d] }
  | _ => none }
def FnSpansWrongFalsely : Prop := fnSpansRow.holds Try.pinned (OpenSpec.ofChange fnSpansWrong)

/-- 'laws.FnExactScaleTable': WHATEVER THE INPUT: true; the input reads as it did. -/
def fnExactScaleTableSpec : ChangeSpec := { name := "fnExactScaleTable", fn := fun _ => fun
  | [d1, d2, d3] => { results := [.lit (.bool true)], args := [d1, d2, d3] }
  | _ => none }
def fnExactScaleTableRow : OpenClaim := { program := "ytciflcnfimpfgaa", sum := "fe11c7c77066cf20223c5ac2ce587110b94d3c98f336b62ead0c8c02b94f07f6", func := "loop.example/g00861/laws.FnExactScaleTable", spec := "fnExactScaleTable", unfollowed := true, recurses := true, apart := false }
def FnExactScaleTableSaid : Prop := fnExactScaleTableRow.holds Try.pinned (OpenSpec.ofChange fnExactScaleTableSpec)

/-- ITS FALSE NEIGHBOUR: 'it returns false'. Refute it at one input. -/
def fnExactScaleTableWrong : ChangeSpec := { name := "fnExactScaleTable", fn := fun _ => fun
  | [d1, d2, d3] => { results := [.lit (.bool false)], args := [d1, d2, d3] }
  | _ => none }
def FnExactScaleTableWrongFalsely : Prop := fnExactScaleTableRow.holds Try.pinned (OpenSpec.ofChange fnExactScaleTableWrong)

/-- 'laws.FnExactLookUp': WHATEVER THE INPUT: true; the input reads as it did. -/
def fnExactLookUpSpec : ChangeSpec := { name := "fnExactLookUp", fn := fun _ => fun
  | [d1, d2, d3, d4] => { results := [.lit (.bool true)], args := [d1, d2, d3, d4] }
  | _ => none }
def fnExactLookUpRow : OpenClaim := { program := "ytciflcnfimpfgaa", sum := "fe11c7c77066cf20223c5ac2ce587110b94d3c98f336b62ead0c8c02b94f07f6", func := "loop.example/g00861/laws.FnExactLookUp", spec := "fnExactLookUp", unfollowed := true, recurses := true, apart := false }
def FnExactLookUpSaid : Prop := fnExactLookUpRow.holds Try.pinned (OpenSpec.ofChange fnExactLookUpSpec)

/-- ITS FALSE NEIGHBOUR: 'it returns false'. Refute it at one input. -/
def fnExactLookUpWrong : ChangeSpec := { name := "fnExactLookUp", fn := fun _ => fun
  | [d1, d2, d3, d4] => { results := [.lit (.bool false)], args := [d1, d2, d3, d4] }
  | _ => none }
def FnExactLookUpWrongFalsely : Prop := fnExactLookUpRow.holds Try.pinned (OpenSpec.ofChange fnExactLookUpWrong)

/-- 'laws.FnMonotone': WHATEVER THE INPUT: true; the input reads as it did. -/
def fnMonotoneSpec : ChangeSpec := { name := "fnMonotone", fn := fun _ => fun
  | [d] => { results := [.lit (.bool true)], args := [d] }
  | _ => none }
def fnMonotoneRow : OpenClaim := { program := "ytciflcnfimpfgaa", sum := "fe11c7c77066cf20223c5ac2ce587110b94d3c98f336b62ead0c8c02b94f07f6", func := "loop.example/g00861/laws.FnMonotone", spec := "fnMonotone", unfollowed := true, recurses := true, apart := false }
def FnMonotoneSaid : Prop := fnMonotoneRow.holds Try.pinned (OpenSpec.ofChange fnMonotoneSpec)

/-- ITS FALSE NEIGHBOUR: 'it returns false'. Refute it at one input. -/
def fnMonotoneWrong : ChangeSpec := { name := "fnMonotone", fn := fun _ => fun
  | [d] => { results := [.lit (.bool false)], args := [d] }
  | _ => none }
def FnMonotoneWrongFalsely : Prop := fnMonotoneRow.holds Try.pinned (OpenSpec.ofChange fnMonotoneWrong)

/-- 'laws.FnLookUp': WHATEVER THE INPUT: true; the input reads as it did. -/
def fnLookUpSpec : ChangeSpec := { name := "fnLookUp", fn := fun _ => fun
  | [d] => { results := [.lit (.bool true)], args := [d] }
  | _ => none }
def fnLookUpRow : OpenClaim := { program := "ytciflcnfimpfgaa", sum := "fe11c7c77066cf20223c5ac2ce587110b94d3c98f336b62ead0c8c02b94f07f6", func := "loop.example/g00861/laws.FnLookUp", spec := "fnLookUp", unfollowed := true, recurses := true, apart := false }
def FnLookUpSaid : Prop := fnLookUpRow.holds Try.pinned (OpenSpec.ofChange fnLookUpSpec)

/-- ITS FALSE NEIGHBOUR: 'it returns false'. Refute it at one input. -/
def fnLookUpWrong : ChangeSpec := { name := "fnLookUp", fn := fun _ => fun
  | [d] => { results := [.lit (.bool false)], args := [d] }
  | _ => none }
def FnLookUpWrongFalsely : Prop := fnLookUpRow.holds Try.pinned (OpenSpec.ofChange fnLookUpWrong)

/- THE SECOND FORM. 'bulk': how many values and letters a reading holds, each counted each time it is reached (what is shared counts as often as it is met; a slice's spare places count too). A statement '..UptoSaid' is the law's where the arguments, and the package variables that the reading takes, are together of bulk at most 1048576: NARROWER than '..Said'. Prove '..Said' where nothing that the law and all that it calls make is longer than what came in: it says more and counts as full. Else prove '..UptoSaid'. A law counts once. -/
mutual
def uptoBulk {H : Type} : DataW H → Nat
  | .lit (.string bytes) => bytes.length + 1
  | .lit _ => 1
  | .nil => 1
  | .ptr d => uptoBulk d + 1
  | .slice elems spare => uptoBulkAll elems + uptoBulkAll spare + 1
  | .agg parts => uptoBulkAll parts + 1
  | .iface _ d => uptoBulk d + 1
  | .map entries => uptoBulkEntries entries + 1
  | .held _ => 1
def uptoBulkAll {H : Type} : List (DataW H) → Nat
  | [] => 0
  | d :: r => uptoBulk d + uptoBulkAll r
def uptoBulkEntries {H : Type} : List (Lit × DataW H) → Nat
  | [] => 0
  | x :: r => uptoBulkEntry x + uptoBulkEntries r
def uptoBulkEntry {H : Type} : Lit × DataW H → Nat
  | (.string bytes, d) => bytes.length + uptoBulk d + 1
  | (_, d) => uptoBulk d + 1
 end
def uptoSmall : (H : Type) → List (DataW H) → Bool := fun _ ds => decide (uptoBulkAll ds ≤ 1048576)
def OpenSpec.upto (s : _root_.Go.ChangeSpec) : _root_.Go.OpenSpec := { _root_.Go.OpenSpec.ofChange s with cond := some uptoSmall }

/-- 'laws.FnRounding', WHERE WHAT IT READS IS OF BULK AT MOST 1048576: true; the input reads as it did. -/
def fnRoundingUptoRow : OpenClaim := { program := "ytciflcnfimpfgaa", sum := "fe11c7c77066cf20223c5ac2ce587110b94d3c98f336b62ead0c8c02b94f07f6", func := "loop.example/g00861/laws.FnRounding", spec := "fnRounding", apart := false, narrowed := true }
def FnRoundingUptoSaid : Prop := fnRoundingUptoRow.holds Try.pinned (OpenSpec.upto fnRoundingSpec)

/-- 'laws.FnSpans', WHERE WHAT IT READS IS OF BULK AT MOST 1048576: true; the input reads as it did. -/
def fnSpansUptoRow : OpenClaim := { program := "ytciflcnfimpfgaa", sum := "fe11c7c77066cf20223c5ac2ce587110b94d3c98f336b62ead0c8c02b94f07f6", func := "loop.example/g00861/laws.FnSpans", spec := "fnSpans", apart := false, narrowed := true }
def FnSpansUptoSaid : Prop := fnSpansUptoRow.holds Try.pinned (OpenSpec.upto fnSpansSpec)

/-- 'laws.FnExactScaleTable', WHERE WHAT IT READS IS OF BULK AT MOST 1048576: true; the input reads as it did. -/
def fnExactScaleTableUptoRow : OpenClaim := { program := "ytciflcnfimpfgaa", sum := "fe11c7c77066cf20223c5ac2ce587110b94d3c98f336b62ead0c8c02b94f07f6", func := "loop.example/g00861/laws.FnExactScaleTable", spec := "fnExactScaleTable", unfollowed := true, recurses := true, apart := false, narrowed := true }
def FnExactScaleTableUptoSaid : Prop := fnExactScaleTableUptoRow.holds Try.pinned (OpenSpec.upto fnExactScaleTableSpec)

/-- 'laws.FnExactLookUp', WHERE WHAT IT READS IS OF BULK AT MOST 1048576: true; the input reads as it did. -/
def fnExactLookUpUptoRow : OpenClaim := { program := "ytciflcnfimpfgaa", sum := "fe11c7c77066cf20223c5ac2ce587110b94d3c98f336b62ead0c8c02b94f07f6", func := "loop.example/g00861/laws.FnExactLookUp", spec := "fnExactLookUp", unfollowed := true, recurses := true, apart := false, narrowed := true }
def FnExactLookUpUptoSaid : Prop := fnExactLookUpUptoRow.holds Try.pinned (OpenSpec.upto fnExactLookUpSpec)

/-- 'laws.FnMonotone', WHERE WHAT IT READS IS OF BULK AT MOST 1048576: true; the input reads as it did. -/
def fnMonotoneUptoRow : OpenClaim := { program := "ytciflcnfimpfgaa", sum := "fe11c7c77066cf20223c5ac2ce587110b94d3c98f336b62ead0c8c02b94f07f6", func := "loop.example/g00861/laws.FnMonotone", spec := "fnMonotone", unfollowed := true, recurses := true, apart := false, narrowed := true }
def FnMonotoneUptoSaid : Prop := fnMonotoneUptoRow.holds Try.pinned (OpenSpec.upto fnMonotoneSpec)

/-- 'laws.FnLookUp', WHERE WHAT IT READS IS OF BULK AT MOST 1048576: true; the input reads as it did. -/
def fnLookUpUptoRow : OpenClaim := { program := "ytciflcnfimpfgaa", sum := "fe11c7c77066cf20223c5ac2ce587110b94d3c98f336b62ead0c8c02b94f07f6", func := "loop.example/g00861/laws.FnLookUp", spec := "fnLookUp", unfollowed := true, recurses := true, apart := false, narrowed := true }
def FnLookUpUptoSaid : Prop := fnLookUpUptoRow.holds Try.pinned (OpenSpec.upto fnLookUpSpec)

end Rows
end Go.Proofs.Ytciflcnfimpfgaa
