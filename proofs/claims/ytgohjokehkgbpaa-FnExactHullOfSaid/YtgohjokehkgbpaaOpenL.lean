/-
  Arguments that are slices of structs, opened.
-/
import Derived.Test.YtgohjokehkgbpaaOpen
import Derived.Test.YtgohjokehkgbpaaLists
namespace Go.Proofs.Ytgohjokehkgbpaa
open Go.ChangeShapes Go.WideShapes Go.ChangeAt Go.RowKit Go.Deep

set_option maxRecDepth 100000 in
theorem trod_span {H : Type} {enc : TypeId × Value → H} {w : World} {sp : Nat → Bool} {held : Bool} {fuel : Nat} {cs : List Value} {x : DataW H × List MemPlace} (hl : cs.length = 2) (h : DataW.trod enc Try.prog w 0 sp held fuel 83 cs = some x) : ∃ y : SpanD, RSpan w cs y := by
  obtain ⟨ys, m, _, _, _, hyl, hf⟩ := DataW.trod_struct Try.underlying83 h
  match cs, hl with
  | [c0, c1], _ =>
    have e0 := hf 0 _ rfl
    obtain ⟨z0, f0⟩ := field_some e0 (by rw [hyl]; decide)
    clear e0
    have f0 : DataW.trod enc Try.prog w 0 sp held m 2 ((([c0, c1] : List Value).drop 0).take (Try.prog.cellsOf 2)) = some z0 := f0
    rw [show Try.prog.cellsOf 2 = 1 from by kernel_rfl] at f0
    obtain ⟨a0, q0⟩ := trod_i64 Try.underlying2 f0
    simp at q0
    subst q0
    have e1 := hf 1 _ rfl
    obtain ⟨z1, f1⟩ := field_some e1 (by rw [hyl]; decide)
    clear e1
    have f1 : DataW.trod enc Try.prog w 0 sp held m 2 ((([.int .i64 a0, c1] : List Value).drop 1).take (Try.prog.cellsOf 2)) = some z1 := f1
    rw [show Try.prog.cellsOf 2 = 1 from by kernel_rfl] at f1
    obtain ⟨a1, q1⟩ := trod_i64 Try.underlying2 f1
    simp at q1
    subst q1
    exact ⟨(a0, a1), rfl⟩
theorem trod_spans {H : Type} {enc : TypeId × Value → H} {w : World} {sp : Nat → Bool} {held : Bool} {fuel : Nat} {cs : List Value} {x : DataW H × List MemPlace} (h : DataW.trod enc Try.prog w 0 sp held fuel 30 cs = some x) (hl : cs.length = 1) : ∃ (v : Value) (xs : List SpanD), cs = [v] ∧ RList 2 RSpan w v xs := by
  match cs, hl with
  | [v], _ =>
    obtain ⟨xs, hx⟩ := trod_list (sz := 2) (R := RSpan) Try.underlying30 (by kernel_rfl) (by decide) (fun f cs x hl h => trod_span hl h) h
    exact ⟨v, xs, rfl, hx⟩
set_option maxRecDepth 100000 in
theorem open_Spans {H : Type} {enc : TypeId × Value → H} {W : World} {base : Nat} {v : Value} {d : DataW H} {p : List MemPlace}
    (hv : Value.okWide Try.prog W .any base 30 v) (h : DataW.Trod enc Try.prog W 0 (fun _ => true) true 30 v d p) (_ : ∀ x ∈ p, x.block < W.heap.size) :
    ∃ xs : List SpanD, RSpans W v xs := by
  obtain ⟨A, l, c, rfl⟩ := okWide_slice Try.underlying30 hv
  obtain ⟨fuel, hf⟩ := h
  obtain ⟨v', xs, e, hr⟩ := trod_spans hf rfl
  have e2 : ([.slice A l c] : List Value) = [v'] := e
  injection e2 with e3
  subst e3
  exact ⟨xs, hr⟩
end Go.Proofs.Ytgohjokehkgbpaa
