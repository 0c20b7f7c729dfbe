/-
  'Grows w w'': behind w's own blocks there are at most new ones; what was there is as it was.
-/
import Derived.WalkKit
import Derived.WalkSpells
import Derived.WalkLawsBesides
import Derived.BigQuiet
import Derived.Deep.QuietTactic
import Derived.Deep.RegionHeld3
import Derived.Deep.DrawnRows
import Derived.Deep.DeepCutAuto
import Derived.Handy

namespace Go.Proofs.YtgglgghlndhfbaaDoor
open Go.RowKit

theorem hideIt {p : Prop} (h : p) : Hid p := h
def Grows (w w' : World) : Prop := Below w.heap.size w w'
theorem Grows.below {w w' : World} (h : Grows w w') : Below w.heap.size w w' := h
theorem Grows.refl (w : World) : Grows w w := Below.refl _ _
theorem Grows.size {w w' : World} (h : Grows w w') : w.heap.size ≤ w'.heap.size := Below.size h
theorem Grows.trans {a b c : World} (h : Grows a b) (k : Grows b c) : Grows a c := Below.trans h (Below.mono k h.size)
theorem Grows.alloc {a w : World} (h : Grows a w) (o : Obj) : Grows a (w.alloc o) := Below.alloc h h.size o
theorem Grows.drew {a w : World} (h : Grows a w) : Grows a w.drew := Below.drew h
theorem Grows.drewN {a w : World} (h : Grows a w) (n : Nat) : Grows a (w.drewN n) := ⟨h.os, h.tape, h.output, h.size, h.block⟩
theorem Grows.setCell {a w : World} (h : Grows a w) {p : Addr} (hp : a.heap.size ≤ p.block) (u : Value) : Grows a (w.setCell p u) := Below.setCell h hp u
theorem Grows.grown {a w w' : World} {row : Option Nat} (h : Grows a w) (hg : w.grownBy w' row) (hr : ∀ k, row = some k → a.heap.size ≤ k) : Grows a w' := Below.grown h hg h.size hr
/-- old cells and old marks, as two rules for the walk -/
theorem Grows.cells {W w1 : World} (hb : Grows W w1) : (∀ b o, b < W.heap.size → w1.cell? ⟨b, o, none⟩ = W.cell? ⟨b, o, none⟩) ∧ (∀ b o, b < W.heap.size → w1.frozen? ⟨b, o, none⟩ = W.frozen? ⟨b, o, none⟩) :=
  ⟨fun b o h => Below.cell (p := ⟨b, o, none⟩) hb h, fun b o h => Below.frozen (p := ⟨b, o, none⟩) hb h⟩
theorem Grows.blk {W w1 : World} (hb : Grows W w1) {g : Nat} {o : Obj} (h : W.heap[g]? = some o) (hlt : g < W.heap.size) : w1.heap[g]? = some o := (Below.block hb g hlt).trans h

theorem ret_int {k : IntKind} {a b : Int} (h : a = b) : Ending.returned (.int k a) = .returned (.int k b) := by rw [h]
theorem ret_bool {a b : Bool} (h : a = b) : Ending.returned (.bool a) = .returned (.bool b) := by rw [h]
end Go.Proofs.YtgglgghlndhfbaaDoor
