/-
  No cell of these rows narrows 'for every input' (looked for: loops, veiled, ifaces, maps, wideKeys, modest, calm, conditions, laid).
  DERIVED. THE GIVEN ROWS OF THIS SEAT. 3 by the template 'for every input the law returns true; each argument reads behind the call as it read before'; 0 by the template 'total and deterministic' (their statements: YtgglgghlndhfbaaTotals.lean).
  GIVEN WITH THE SEED: the statements are not yours to turn. If you find one false, say at which input.
  Laid BY PROGRAM, IN A SANDBOX (cutbox-rows.mjs): the forced cells as the released guide's own fill.sh prints them over the translation fb9ead68458b218e… (all of the seat's roots in one cut). By AI agents, Wed Nov 11 2026. No macro, syntax, notation, axiom, sorry.
-/
import Derived.Test.YtgglgghlndhfbaaChecked
import GoSem.Claim
import GoSem.ClaimJoined
import GoSem.ClaimMapViews
import Derived.JoinedTies
import Derived.KernelRfl
namespace Go.Proofs.Ytgglgghlndhfbaa
/- THE CELL 'sum', in the pinned program and in every row, IS THE sha256 OF THE DUMP (.gsa) THAT YtgglgghlndhfbaaProg.lean LOADS. Nothing in Lean hashes anything: it is a label: what it is worth is what the hold of that sum in a sandbox is worth. -/
noncomputable def Try.pinned : Pinned := { name := "ytgglgghlndhfbaa", sum := "fb9ead68458b218ef8198fc4a2dc25ccf41c5528c96ff2fc9ed5fc176a5c7e42", checked := Try.checked }
namespace Rows
def none {H : Type} : Left H := { results := [], args := [] }

/-- 'laws.FnExactScaleTable': WHATEVER THE INPUT: true; the input reads as it did. -/
def fnExactScaleTableSpec : ChangeSpec := { name := "fnExactScaleTable", fn := fun _ => fun
  | [d1, d2, d3] => { results := [.lit (.bool true)], args := [d1, d2, d3] }
  | _ => none }
def fnExactScaleTableRow : OpenClaim := { program := "ytgglgghlndhfbaa", sum := "fb9ead68458b218ef8198fc4a2dc25ccf41c5528c96ff2fc9ed5fc176a5c7e42", func := "loop.example/g00861/laws.FnExactScaleTable", spec := "fnExactScaleTable", unfollowed := true, recurses := true, apart := false }
def FnExactScaleTableSaid : Prop := fnExactScaleTableRow.holds Try.pinned (OpenSpec.ofChange fnExactScaleTableSpec)

/-- ITS FALSE NEIGHBOUR: 'it returns false'. Refute it at one input. -/
def fnExactScaleTableWrong : ChangeSpec := { name := "fnExactScaleTable", fn := fun _ => fun
  | [d1, d2, d3] => { results := [.lit (.bool false)], args := [d1, d2, d3] }
  | _ => none }
def FnExactScaleTableWrongFalsely : Prop := fnExactScaleTableRow.holds Try.pinned (OpenSpec.ofChange fnExactScaleTableWrong)

/-- 'laws.FnMonotone': WHATEVER THE INPUT: true; the input reads as it did. -/
def fnMonotoneSpec : ChangeSpec := { name := "fnMonotone", fn := fun _ => fun
  | [d] => { results := [.lit (.bool true)], args := [d] }
  | _ => none }
def fnMonotoneRow : OpenClaim := { program := "ytgglgghlndhfbaa", sum := "fb9ead68458b218ef8198fc4a2dc25ccf41c5528c96ff2fc9ed5fc176a5c7e42", func := "loop.example/g00861/laws.FnMonotone", spec := "fnMonotone", unfollowed := true, recurses := true, apart := false }
def FnMonotoneSaid : Prop := fnMonotoneRow.holds Try.pinned (OpenSpec.ofChange fnMonotoneSpec)

/-- ITS FALSE NEIGHBOUR: 'it returns false'. Refute it at one input. -/
def fnMonotoneWrong : ChangeSpec := { name := "fnMonotone", fn := fun _ => fun
  | [d] => { results := [.lit (.bool false)], args := [d] }
  | _ => none }
def FnMonotoneWrongFalsely : Prop := fnMonotoneRow.holds Try.pinned (OpenSpec.ofChange fnMonotoneWrong)

/-- 'laws.FnLookUp': WHATEVER THE INPUT: true; the input reads as it did. -/
def fnLookUpSpec : ChangeSpec := { name := "fnLookUp", fn := fun _ => fun
  | [d] => { results := [.lit (.bool true)], args := [d] }
  | _ => none }
def fnLookUpRow : OpenClaim := { program := "ytgglgghlndhfbaa", sum := "fb9ead68458b218ef8198fc4a2dc25ccf41c5528c96ff2fc9ed5fc176a5c7e42", func := "loop.example/g00861/laws.FnLookUp", spec := "fnLookUp", unfollowed := true, recurses := true, apart := false }
def FnLookUpSaid : Prop := fnLookUpRow.holds Try.pinned (OpenSpec.ofChange fnLookUpSpec)

/-- ITS FALSE NEIGHBOUR: 'it returns false'. Refute it at one input. -/
def fnLookUpWrong : ChangeSpec := { name := "fnLookUp", fn := fun _ => fun
  | [d] => { results := [.lit (.bool false)], args := [d] }
  | _ => none }
def FnLookUpWrongFalsely : Prop := fnLookUpRow.holds Try.pinned (OpenSpec.ofChange fnLookUpWrong)

/- THE SECOND FORM. 'bulk': how many values and letters a reading holds, each counted each time it is reached (what is shared counts as often as it is met; a slice's spare places count too). A statement '..UptoSaid' is the law's where the arguments, and the package variables that the reading takes, are together of bulk at most 1048576: NARROWER than '..Said'. Prove '..Said' where nothing that the law and all that it calls make is longer than what came in: it says more and counts as full. Else prove '..UptoSaid'. A law counts once. -/
mutual
def uptoBulk {H : Type} : DataW H → Nat
  | .lit (.string bytes) => bytes.length + 1
  | .lit _ => 1
  | .nil => 1
  | .ptr d => uptoBulk d + 1
  | .slice elems spare => uptoBulkAll elems + uptoBulkAll spare + 1
  | .agg parts => uptoBulkAll parts + 1
  | .iface _ d => uptoBulk d + 1
  | .map entries => uptoBulkEntries entries + 1
  | .held _ => 1
def uptoBulkAll {H : Type} : List (DataW H) → Nat
  | [] => 0
  | d :: r => uptoBulk d + uptoBulkAll r
def uptoBulkEntries {H : Type} : List (Lit × DataW H) → Nat
  | [] => 0
  | x :: r => uptoBulkEntry x + uptoBulkEntries r
def uptoBulkEntry {H : Type} : Lit × DataW H → Nat
  | (.string bytes, d) => bytes.length + uptoBulk d + 1
  | (_, d) => uptoBulk d + 1
 end
def uptoSmall : (H : Type) → List (DataW H) → Bool := fun _ ds => decide (uptoBulkAll ds ≤ 1048576)
def OpenSpec.upto (s : _root_.Go.ChangeSpec) : _root_.Go.OpenSpec := { _root_.Go.OpenSpec.ofChange s with cond := some uptoSmall }

/-- 'laws.FnExactScaleTable', WHERE WHAT IT READS IS OF BULK AT MOST 1048576: true; the input reads as it did. -/
def fnExactScaleTableUptoRow : OpenClaim := { program := "ytgglgghlndhfbaa", sum := "fb9ead68458b218ef8198fc4a2dc25ccf41c5528c96ff2fc9ed5fc176a5c7e42", func := "loop.example/g00861/laws.FnExactScaleTable", spec := "fnExactScaleTable", unfollowed := true, recurses := true, apart := false, narrowed := true }
def FnExactScaleTableUptoSaid : Prop := fnExactScaleTableUptoRow.holds Try.pinned (OpenSpec.upto fnExactScaleTableSpec)

/-- 'laws.FnMonotone', WHERE WHAT IT READS IS OF BULK AT MOST 1048576: true; the input reads as it did. -/
def fnMonotoneUptoRow : OpenClaim := { program := "ytgglgghlndhfbaa", sum := "fb9ead68458b218ef8198fc4a2dc25ccf41c5528c96ff2fc9ed5fc176a5c7e42", func := "loop.example/g00861/laws.FnMonotone", spec := "fnMonotone", unfollowed := true, recurses := true, apart := false, narrowed := true }
def FnMonotoneUptoSaid : Prop := fnMonotoneUptoRow.holds Try.pinned (OpenSpec.upto fnMonotoneSpec)

/-- 'laws.FnLookUp', WHERE WHAT IT READS IS OF BULK AT MOST 1048576: true; the input reads as it did. -/
def fnLookUpUptoRow : OpenClaim := { program := "ytgglgghlndhfbaa", sum := "fb9ead68458b218ef8198fc4a2dc25ccf41c5528c96ff2fc9ed5fc176a5c7e42", func := "loop.example/g00861/laws.FnLookUp", spec := "fnLookUp", unfollowed := true, recurses := true, apart := false, narrowed := true }
def FnLookUpUptoSaid : Prop := fnLookUpUptoRow.holds Try.pinned (OpenSpec.upto fnLookUpSpec)

end Rows
end Go.Proofs.Ytgglgghlndhfbaa
