/-
  A span that comes in as an argument: the pair of its numbers.
-/
import Derived.Test.YtkedpeihdjbldaaProg
import Derived.Test.YtkedpeihdjbldaaLaw
import Derived.Lib.SmallJoins
namespace Go.Proofs.Ytkedpeihdjbldaa
open Go.ChangeShapes Go.WideShapes Go.ChangeAt Go.RowKit Go.Joins
theorem cellsSpan : Try.prog.cellsOf 24 = 2 := by kernel_rfl
theorem open_Span {H : Type} {enc : TypeId × Value → H} {W : World} {base : Nat} {v : Value} {d : DataW H} {p : List MemPlace}
    (hv : Value.okWide Try.prog W .any base 24 v) (h : DataW.Trod enc Try.prog W 0 (fun _ => true) true 24 v d p) (_ : ∀ x ∈ p, x.block < W.heap.size) :
    ∃ a : Int × Int, v = .agg #[.int .i64 a.1, .int .i64 a.2] := by
  obtain ⟨c0, c1, y0, y1, m, rfl, rfl, rfl, hy0, hy1⟩ := open_agg2 Try.underlying24 (by kernel_rfl) cellsSpan hv h
  obtain ⟨a, e0, rfl, wa⟩ := DataW.trod_int Try.underlying2 hy0
  obtain ⟨b, e1, rfl, wb⟩ := DataW.trod_int Try.underlying2 hy1
  simp at e0 e1
  subst e0 e1
  exact ⟨(a, b), rfl⟩
end Go.Proofs.Ytkedpeihdjbldaa
