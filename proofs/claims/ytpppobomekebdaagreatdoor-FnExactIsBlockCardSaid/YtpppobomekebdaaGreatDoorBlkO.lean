/-
  Owned blocks: kept, bounded, in visible shape.
-/
import Derived.Test.YtpppobomekebdaaGreatDoorGE
namespace Go.Proofs.YtpppobomekebdaaGreatDoor
open Go.RowKit
theorem OBlock.same {w w' : World} {cs : List Value} {x : BlockD} {bs : List Nat} (h : OBlock w cs x bs) (g : SameOn bs w w') : OBlock w' cs x bs := by
  obtain ⟨l, i, n, p, ws, b0, b1, b2, e, h0, h1, h2, rfl⟩ := h
  exact ⟨l, i, n, p, ws, b0, b1, b2, e, h0.same (g.sub (by simp +contextual)), h1.same (g.sub (by simp +contextual)), h2.same (g.sub (by simp +contextual)), rfl⟩
theorem OBlock.lt {w : World} {cs : List Value} {x : BlockD} {bs : List Nat} (h : OBlock w cs x bs) : ∀ g ∈ bs, g < w.heap.size := by
  obtain ⟨l, i, n, p, ws, b0, b1, b2, e, h0, h1, h2, rfl⟩ := h
  intro g hg
  simp only [List.mem_append] at hg
  rcases hg with (hg | hg) | hg
  · exact h0.lt g hg
  · exact h1.lt g hg
  · exact h2.lt g hg
theorem OBlock.shape {w : World} {l i n p ws : Value} {x : BlockD} {bs : List Nat} (h : OBlock w [l, i, n, p, ws] x bs) : (∃ (A : Option Addr) (c : Nat), l = .slice A x.lib.length c) ∧ (∃ (A : Option Addr) (c : Nat), i = .slice A x.design.insts.length c) ∧ (∃ (A : Option Addr) (c : Nat), n = .slice A x.design.nets.length c) ∧ (∃ (A : Option Addr) (c : Nat), p = .slice A x.design.ports.length c) ∧ (∃ (A : Option Addr) (c : Nat), ws = .slice A x.wires.length c) := h.reads.shape
end Go.Proofs.YtpppobomekebdaaGreatDoor
