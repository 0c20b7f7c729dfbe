/-
  Base of the texts on slices of structs.
-/
import Derived.Test.YtcaklodecejkhaaDoorList
import Derived.Test.YtcaklodecejkhaaDoorFind
namespace Go.Proofs.YtcaklodecejkhaaDoor
open Go.RowKit
theorem eq_of_getElem2? {α : Type} {xs ys : List α} (hl : xs.length = ys.length) (h : ∀ i, i < xs.length → xs[i]? = ys[i]?) : xs = ys := by
  apply List.ext_getElem?
  intro i
  rcases Nat.lt_or_ge i xs.length with hi | hi
  · exact h i hi
  · rw [List.getElem?_eq_none hi, List.getElem?_eq_none (by omega)]
theorem list2 {cs : List Value} (h : cs.length = 2) : ∃ c0 c1 : Value, cs = [c0, c1] := by
  match cs, h with
  | [a, b], _ => exact ⟨a, b, rfl⟩
theorem strNe {a b : ByteArray} (h : ¬ a = b) : (a.toList == b.toList) = false := by
  rw [Bool.eq_false_iff]
  intro e
  rw [beq_iff_eq, ByteArray.toList_eq, ByteArray.toList_eq] at e
  exact h (ByteArray.ext (Array.toList_inj.mp e))
end Go.Proofs.YtcaklodecejkhaaDoor
