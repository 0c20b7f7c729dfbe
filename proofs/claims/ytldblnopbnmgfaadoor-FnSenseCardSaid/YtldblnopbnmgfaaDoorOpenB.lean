/-
  An argument that is a slice of bytes, opened; laws.big.
-/
import Derived.Test.YtldblnopbnmgfaaDoorOpen
import Derived.Test.YtldblnopbnmgfaaDoorDraw
namespace Go.Proofs.YtldblnopbnmgfaaDoor
open Go.ChangeShapes Go.WideShapes Go.ChangeAt Go.RowKit Go.Deep

theorem trod_bytes {H : Type} {enc : TypeId × Value → H} {w : World} {sp : Nat → Bool} {held : Bool} {fuel : Nat} {cs : List Value} {x : DataW H × List MemPlace} (h : DataW.trod enc Tryd.prog w 0 sp held fuel 22 cs = some x) (hl : cs.length = 1) : ∃ (v : Value) (xs : List Int), cs = [v] ∧ RList 1 RU8 w v xs := by
  match cs, hl with
  | [v], _ =>
    obtain ⟨xs, hx⟩ := trod_list (sz := 1) (R := RU8) Tryd.underlying22 (by kernel_rfl) (by decide) (fun f cs x hl h => by obtain ⟨y, hy, _, hw⟩ := DataW.trod_int Tryd.underlying5 h; exact ⟨y, hy, bounds_u8 hw⟩) h
    exact ⟨v, xs, rfl, hx⟩
set_option maxRecDepth 100000 in
theorem open_Bytes {H : Type} {enc : TypeId × Value → H} {W : World} {base : Nat} {v : Value} {d : DataW H} {p : List MemPlace}
    (hv : Value.okWide Tryd.prog W .any base 22 v) (h : DataW.Trod enc Tryd.prog W 0 (fun _ => true) true 22 v d p) (_ : ∀ x ∈ p, x.block < W.heap.size) :
    ∃ xs : List Int, RBytes W v xs := by
  obtain ⟨A, l, c, rfl⟩ := okWide_slice Tryd.underlying22 hv
  obtain ⟨fuel, hf⟩ := h
  obtain ⟨v', xs, e, hr⟩ := trod_bytes hf rfl
  have e2 : ([.slice A l c] : List Value) = [v'] := e
  injection e2 with e3
  subst e3
  exact ⟨xs, hr⟩
theorem big_any {v : Value} {xs : List Int} (w : World) (h : RBytes w v xs) :
    Calls Tryd.prog 4 #[v] w fun e w' => e = .returned (.bool (decide ((xs.length : Int) > 4096))) ∧ w = w' := by
  have hl := RList.len h
  obtain ⟨A, c, rfl, -, -, -⟩ := RList.form h
  clear h
  go_enter Tryd.func4, Tryd.ntmps4
  go_wp2
  go_ret
  exact ⟨rfl, rfl⟩
end Go.Proofs.YtldblnopbnmgfaaDoor
