/-
  An argument that is a slice of integers, opened.
-/
import Derived.Test.YtcaklodecejkhaaDoorOpen
namespace Go.Proofs.YtcaklodecejkhaaDoor
open Go.ChangeShapes Go.WideShapes Go.ChangeAt Go.RowKit Go.Deep
set_option maxRecDepth 100000 in
theorem open_Ints {H : Type} {enc : TypeId × Value → H} {W : World} {base : Nat} {v : Value} {d : DataW H} {p : List MemPlace}
    (hv : Value.okWide Tryd.prog W .any base 24 v) (h : DataW.Trod enc Tryd.prog W 0 (fun _ => true) true 24 v d p) (_ : ∀ x ∈ p, x.block < W.heap.size) :
    ∃ xs : List Int, RInts W v xs := by
  obtain ⟨A, l, c, rfl⟩ := okWide_slice Tryd.underlying24 hv
  obtain ⟨fuel, hf⟩ := h
  obtain ⟨v', xs, e, hr⟩ := trod_ints hf rfl
  have e2 : ([.slice A l c] : List Value) = [v'] := e
  injection e2 with e3
  subst e3
  exact ⟨xs, hr⟩
end Go.Proofs.YtcaklodecejkhaaDoor
