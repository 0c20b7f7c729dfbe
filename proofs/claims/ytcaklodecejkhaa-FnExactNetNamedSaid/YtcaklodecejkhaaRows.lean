/-
  No cell of these rows narrows 'for every input' (looked for: loops, veiled, ifaces, maps, wideKeys, modest, calm, conditions, laid).
  DERIVED. THE GIVEN ROWS OF THIS SEAT. 3 by the template 'for every input the law returns true; each argument reads behind the call as it read before'; 0 by the template 'total and deterministic' (their statements: YtcaklodecejkhaaTotals.lean).
  GIVEN WITH THE SEED: the statements are not yours to turn. If you find one false, say at which input.
  Laid BY PROGRAM, IN A SANDBOX (cutbox-rows.mjs): the forced cells as the released guide's own fill.sh prints them over the translation 4035c88a76d4d229… (all of the seat's roots in one cut). By AI agents, Wed Nov 11 2026. No macro, syntax, notation, axiom, sorry.
-/
import Derived.Test.YtcaklodecejkhaaChecked
import GoSem.Claim
import GoSem.ClaimJoined
import GoSem.ClaimMapViews
import Derived.JoinedTies
import Derived.KernelRfl
namespace Go.Proofs.Ytcaklodecejkhaa
/- THE CELL 'sum', in the pinned program and in every row, IS THE sha256 OF THE DUMP (.gsa) THAT YtcaklodecejkhaaProg.lean LOADS. Nothing in Lean hashes anything: it is a label: what it is worth is what the hold of that sum in a sandbox is worth. -/
noncomputable def Try.pinned : Pinned := { name := "ytcaklodecejkhaa", sum := "4035c88a76d4d22911717475497b1ca44b46e52dbcd9bd5a821d62d985eaaabd", checked := Try.checked }
namespace Rows
def none {H : Type} : Left H := { results := [], args := [] }

/-- 'laws.FnExactInstanceNamed': WHATEVER THE INPUT: true; the input reads as it did. -/
def fnExactInstanceNamedSpec : ChangeSpec := { name := "fnExactInstanceNamed", fn := fun _ => fun
  | [d1, d2] => { results := [.lit (.bool true)], args := [d1, d2] }
  | _ => none }
def fnExactInstanceNamedRow : OpenClaim := { program := "ytcaklodecejkhaa", sum := "4035c88a76d4d22911717475497b1ca44b46e52dbcd9bd5a821d62d985eaaabd", func := "loop.example/g00861/laws.FnExactInstanceNamed", spec := "fnExactInstanceNamed", unfollowed := true, recurses := true, apart := false }
def FnExactInstanceNamedSaid : Prop := fnExactInstanceNamedRow.holds Try.pinned (OpenSpec.ofChange fnExactInstanceNamedSpec)

/-- ITS FALSE NEIGHBOUR: 'it returns false'. Refute it at one input. -/
def fnExactInstanceNamedWrong : ChangeSpec := { name := "fnExactInstanceNamed", fn := fun _ => fun
  | [d1, d2] => { results := [.lit (.bool false)], args := [d1, d2] }
  | _ => none }
def FnExactInstanceNamedWrongFalsely : Prop := fnExactInstanceNamedRow.holds Try.pinned (OpenSpec.ofChange fnExactInstanceNamedWrong)

/-- 'laws.FnExactPortNamed': WHATEVER THE INPUT: true; the input reads as it did. -/
def fnExactPortNamedSpec : ChangeSpec := { name := "fnExactPortNamed", fn := fun _ => fun
  | [d1, d2] => { results := [.lit (.bool true)], args := [d1, d2] }
  | _ => none }
def fnExactPortNamedRow : OpenClaim := { program := "ytcaklodecejkhaa", sum := "4035c88a76d4d22911717475497b1ca44b46e52dbcd9bd5a821d62d985eaaabd", func := "loop.example/g00861/laws.FnExactPortNamed", spec := "fnExactPortNamed", unfollowed := true, recurses := true, apart := false }
def FnExactPortNamedSaid : Prop := fnExactPortNamedRow.holds Try.pinned (OpenSpec.ofChange fnExactPortNamedSpec)

/-- ITS FALSE NEIGHBOUR: 'it returns false'. Refute it at one input. -/
def fnExactPortNamedWrong : ChangeSpec := { name := "fnExactPortNamed", fn := fun _ => fun
  | [d1, d2] => { results := [.lit (.bool false)], args := [d1, d2] }
  | _ => none }
def FnExactPortNamedWrongFalsely : Prop := fnExactPortNamedRow.holds Try.pinned (OpenSpec.ofChange fnExactPortNamedWrong)

/-- 'laws.FnExactNetNamed': WHATEVER THE INPUT: true; the input reads as it did. -/
def fnExactNetNamedSpec : ChangeSpec := { name := "fnExactNetNamed", fn := fun _ => fun
  | [d1, d2] => { results := [.lit (.bool true)], args := [d1, d2] }
  | _ => none }
def fnExactNetNamedRow : OpenClaim := { program := "ytcaklodecejkhaa", sum := "4035c88a76d4d22911717475497b1ca44b46e52dbcd9bd5a821d62d985eaaabd", func := "loop.example/g00861/laws.FnExactNetNamed", spec := "fnExactNetNamed", apart := false }
def FnExactNetNamedSaid : Prop := fnExactNetNamedRow.holds Try.pinned (OpenSpec.ofChange fnExactNetNamedSpec)

/-- ITS FALSE NEIGHBOUR: 'it returns false'. Refute it at one input. -/
def fnExactNetNamedWrong : ChangeSpec := { name := "fnExactNetNamed", fn := fun _ => fun
  | [d1, d2] => { results := [.lit (.bool false)], args := [d1, d2] }
  | _ => none }
def FnExactNetNamedWrongFalsely : Prop := fnExactNetNamedRow.holds Try.pinned (OpenSpec.ofChange fnExactNetNamedWrong)

/- THE SECOND FORM. 'bulk': how many values and letters a reading holds, each counted each time it is reached (what is shared counts as often as it is met; a slice's spare places count too). A statement '..UptoSaid' is the law's where the arguments, and the package variables that the reading takes, are together of bulk at most 1048576: NARROWER than '..Said'. Prove '..Said' where nothing that the law and all that it calls make is longer than what came in: it says more and counts as full. Else prove '..UptoSaid'. A law counts once. -/
mutual
def uptoBulk {H : Type} : DataW H → Nat
  | .lit (.string bytes) => bytes.length + 1
  | .lit _ => 1
  | .nil => 1
  | .ptr d => uptoBulk d + 1
  | .slice elems spare => uptoBulkAll elems + uptoBulkAll spare + 1
  | .agg parts => uptoBulkAll parts + 1
  | .iface _ d => uptoBulk d + 1
  | .map entries => uptoBulkEntries entries + 1
  | .held _ => 1
def uptoBulkAll {H : Type} : List (DataW H) → Nat
  | [] => 0
  | d :: r => uptoBulk d + uptoBulkAll r
def uptoBulkEntries {H : Type} : List (Lit × DataW H) → Nat
  | [] => 0
  | x :: r => uptoBulkEntry x + uptoBulkEntries r
def uptoBulkEntry {H : Type} : Lit × DataW H → Nat
  | (.string bytes, d) => bytes.length + uptoBulk d + 1
  | (_, d) => uptoBulk d + 1
 end
def uptoSmall : (H : Type) → List (DataW H) → Bool := fun _ ds => decide (uptoBulkAll ds ≤ 1048576)
def OpenSpec.upto (s : _root_.Go.ChangeSpec) : _root_.Go.OpenSpec := { _root_.Go.OpenSpec.ofChange s with cond := some uptoSmall }

/-- 'laws.FnExactInstanceNamed', WHERE WHAT IT READS IS OF BULK AT MOST 1048576: true; the input reads as it did. -/
def fnExactInstanceNamedUptoRow : OpenClaim := { program := "ytcaklodecejkhaa", sum := "4035c88a76d4d22911717475497b1ca44b46e52dbcd9bd5a821d62d985eaaabd", func := "loop.example/g00861/laws.FnExactInstanceNamed", spec := "fnExactInstanceNamed", unfollowed := true, recurses := true, apart := false, narrowed := true }
def FnExactInstanceNamedUptoSaid : Prop := fnExactInstanceNamedUptoRow.holds Try.pinned (OpenSpec.upto fnExactInstanceNamedSpec)

/-- 'laws.FnExactPortNamed', WHERE WHAT IT READS IS OF BULK AT MOST 1048576: true; the input reads as it did. -/
def fnExactPortNamedUptoRow : OpenClaim := { program := "ytcaklodecejkhaa", sum := "4035c88a76d4d22911717475497b1ca44b46e52dbcd9bd5a821d62d985eaaabd", func := "loop.example/g00861/laws.FnExactPortNamed", spec := "fnExactPortNamed", unfollowed := true, recurses := true, apart := false, narrowed := true }
def FnExactPortNamedUptoSaid : Prop := fnExactPortNamedUptoRow.holds Try.pinned (OpenSpec.upto fnExactPortNamedSpec)

/-- 'laws.FnExactNetNamed', WHERE WHAT IT READS IS OF BULK AT MOST 1048576: true; the input reads as it did. -/
def fnExactNetNamedUptoRow : OpenClaim := { program := "ytcaklodecejkhaa", sum := "4035c88a76d4d22911717475497b1ca44b46e52dbcd9bd5a821d62d985eaaabd", func := "loop.example/g00861/laws.FnExactNetNamed", spec := "fnExactNetNamed", apart := false, narrowed := true }
def FnExactNetNamedUptoSaid : Prop := fnExactNetNamedUptoRow.holds Try.pinned (OpenSpec.upto fnExactNetNamedSpec)

end Rows
end Go.Proofs.Ytcaklodecejkhaa
