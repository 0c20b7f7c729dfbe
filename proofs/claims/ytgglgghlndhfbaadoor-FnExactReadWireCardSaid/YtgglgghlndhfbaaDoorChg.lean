/-
  What it means that at most certain blocks have turned.
-/
import Derived.Test.YtgglgghlndhfbaaDoorOwn
namespace Go.Proofs.YtgglgghlndhfbaaDoor
open Go.RowKit

/-- at most these blocks have turned; nothing has gone -/
structure Chg (bs : List Nat) (w w' : World) : Prop where
  os : w'.os = w.os
  tape : w'.tape = w.tape
  output : w'.output = w.output
  size : w.heap.size ≤ w'.heap.size
  block : ∀ g, g < w.heap.size → g ∉ bs → w'.heap[g]? = w.heap[g]?
theorem Chg.refl (bs : List Nat) (w : World) : Chg bs w w := ⟨rfl, rfl, rfl, Nat.le_refl _, fun _ _ _ => rfl⟩
theorem Chg.trans {bs : List Nat} {a b c : World} (h : Chg bs a b) (k : Chg bs b c) : Chg bs a c :=
  ⟨k.os.trans h.os, k.tape.trans h.tape, k.output.trans h.output, Nat.le_trans h.size k.size, fun g hg hn => (k.block g (Nat.lt_of_lt_of_le hg h.size) hn).trans (h.block g hg hn)⟩
theorem Chg.mono {bs cs : List Nat} {a b : World} (h : Chg bs a b) (hs : ∀ g ∈ bs, g ∈ cs) : Chg cs a b :=
  ⟨h.os, h.tape, h.output, h.size, fun g hg hn => h.block g hg fun hm => hn (hs g hm)⟩
theorem Chg.of_grows {bs : List Nat} {a b : World} (h : Grows a b) : Chg bs a b := ⟨h.os, h.tape, h.output, h.size, fun g hg _ => Below.block h g hg⟩
theorem Chg.setCell {bs : List Nat} {a w : World} (h : Chg bs a w) {p : Addr} (hp : p.block ∈ bs) (u : Value) : Chg bs a (w.setCell p u) :=
  ⟨h.os, h.tape, h.output, by simpa [World.setCell] using h.size, fun g hg hn => (Below.heap_setCell w p u g (by rintro rfl; exact hn hp)).trans (h.block g hg hn)⟩
theorem Grows.chg {W w w' : World} {bs : List Nat} (h : Grows W w) (k : Chg bs w w') (hb : ∀ g ∈ bs, W.heap.size ≤ g) : Grows W w' :=
  ⟨k.os.trans h.os, k.tape.trans h.tape, k.output.trans h.output, Nat.le_trans h.size k.size, fun g hg => (k.block g (Nat.lt_of_lt_of_le hg h.size) fun hm => by have := hb g hm; omega).trans (Below.block h g hg)⟩
theorem Chg.same {bs cs : List Nat} {w w' : World} (h : Chg bs w w') (hl : ∀ g ∈ cs, g < w.heap.size) (hd : ∀ g ∈ cs, g ∉ bs) : SameOn cs w w' := fun g hg => h.block g (hl g hg) (hd g hg)
theorem Blk.chg {w w' : World} {g : Nat} {t : TypeId} {cs : Array Value} {bs : List Nat} (h : Blk w g t cs) (k : Chg bs w w') (hn : g ∉ bs) : Blk w' g t cs := (k.block g h.lt hn).trans h

theorem Chg.drewN {bs : List Nat} {a w : World} (h : Chg bs a w) (n : Nat) : Chg bs a (w.drewN n) := ⟨h.os, h.tape, h.output, h.size, h.block⟩
theorem Chg.drew {bs : List Nat} {a w : World} (h : Chg bs a w) : Chg bs a w.drew := ⟨h.os, h.tape, h.output, h.size, h.block⟩
theorem Chg.alloc {bs : List Nat} {a w : World} (h : Chg bs a w) (o : Obj) : Chg bs a (w.alloc o) := h.trans (Chg.of_grows ((Grows.refl w).alloc o))
theorem Blk.drewN {w : World} {g : Nat} {t : TypeId} {cs : Array Value} (h : Blk w g t cs) (n : Nat) : Blk (w.drewN n) g t cs := h
theorem Blk.setE {w : World} {g : Nat} {t : TypeId} {cs ds : Array Value} {i : Nat} {u : Value} (h : Blk w g t cs) (e : ds = cs.setIfInBounds i u) : Blk (w.setCell ⟨g, i, none⟩ u) g t ds := by subst e; exact h.set_ i u
end Go.Proofs.YtgglgghlndhfbaaDoor
