/-
  Draws of times and spans.
-/
import Derived.Test.YtlnpefiipdkafaaGreatDoorDraw
namespace Go.Proofs.YtlnpefiipdkafaaGreatDoor
open Go.RowKit

theorem SrcAt.chg {w0 w w' : World} {b : Nat} {bs : List Nat} (h : SrcAt w0 w b) (c : Chg bs w w') (hb : b ∉ bs) (hg : ∀ g ∈ bs, w0.heap.size ≤ g) : SrcAt w0 w' b := by
  obtain ⟨v, xs, p, s, h1, h2, h3, h4, h5⟩ := h
  exact ⟨v, xs, p, s, h1, h2.chg c hg, h3, h4.chg c hb, h5⟩
theorem Chg.cells {bs : List Nat} {w w' : World} (h : Chg bs w w') : (∀ g o, g < w.heap.size → g ∉ bs → w'.cell? ⟨g, o, none⟩ = w.cell? ⟨g, o, none⟩) ∧ (∀ g o, g < w.heap.size → g ∉ bs → w'.frozen? ⟨g, o, none⟩ = w.frozen? ⟨g, o, none⟩) :=
  ⟨fun g o hg hn => World.cell?_of_block (a := ⟨g, o, none⟩) (h.block g hg hn), fun g o hg hn => World.frozen?_of_block (a := ⟨g, o, none⟩) (h.block g hg hn)⟩
theorem Chg.setNew {bs : List Nat} {a w : World} (h : Chg bs a w) {p : Addr} (hp : a.heap.size ≤ p.block) (u : Value) : Chg bs a (w.setCell p u) :=
  ⟨h.os, h.tape, h.output, by simpa [World.setCell] using h.size, fun g hg hn => (Below.heap_setCell w p u g (by rintro rfl; omega)).trans (h.block g hg hn)⟩
theorem ints4 {w : World} {g : Nat} {t : TypeId} {z0 z1 z2 z3 : Int} (h : Blk w g t #[.int .i64 z0, .int .i64 z1, .int .i64 z2, .int .i64 z3]) {q : Nat} (hq : q < 4) : ∃ z : Int, w.cell? ⟨g, q, none⟩ = some (.int .i64 z) ∧ (z = z0 ∨ z = z1 ∨ z = z2 ∨ z = z3) := by
  rw [h.cell]
  rcases (by omega : q = 0 ∨ q = 1 ∨ q = 2 ∨ q = 3) with rfl | rfl | rfl | rfl <;> exact ⟨_, rfl, by simp⟩

end Go.Proofs.YtlnpefiipdkafaaGreatDoor
