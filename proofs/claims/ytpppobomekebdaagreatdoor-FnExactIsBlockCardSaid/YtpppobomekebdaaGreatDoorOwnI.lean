/-
  An own row of integers that was appended to; blocks that turn.
-/
import Derived.Test.YtpppobomekebdaaGreatDoorGO
import Derived.Maps.AppendAt
namespace Go.Proofs.YtpppobomekebdaaGreatDoor
open Go.RowKit
theorem Chg.grown {bs : List Nat} {a w w' : World} {row : Option Nat} (h : Chg bs a w) (hg : w.grownBy w' row) (hr : ∀ k, row = some k → k ∈ bs ∨ a.heap.size ≤ k) : Chg bs a w' :=
  ⟨hg.os.trans h.os, hg.tape.trans h.tape, hg.output.trans h.output, Nat.le_trans h.size hg.size, fun g hlt hn => (hg.block g (Nat.lt_of_lt_of_le hlt h.size) (fun e => by
    rcases hr g e.symm with hm | hm
    · exact hn hm
    · omega)).trans (h.block g hlt hn)⟩
theorem Chg.cell {bs : List Nat} {w w' : World} (h : Chg bs w w') {a : Addr} {v : Value} (hc : w.cell? a = some v) (hn : a.block ∉ bs) : w'.cell? a = some v := by
  rw [← hc]
  exact World.cell?_of_block (h.block a.block (cell_lt hc) hn)
theorem blk_empty_ne {w : World} {g b o : Nat} {t : TypeId} {v : Value} (h : Blk w g t #[]) (hc : w.cell? ⟨b, o, none⟩ = some v) : b ≠ g := by
  rintro rfl
  rw [h.cell] at hc
  simp at hc
theorem ret_slice {A : Option Addr} {a b c : Nat} (h : a = b) : Ending.returned (.slice A a c) = .returned (.slice A b c) := by rw [h]
theorem info_i64' : (Tryz.prog.info? 2).map (fun i => (i.zero, i.size, i.bytes)) = some (some (.int .i64 0), 1, 8) := by kernel_rfl
theorem own_oints {w : World} {base : Nat} {v : Value} {xs : List Int} (h : w.ownsRow base 2 1 v xs.length (xs.map (Value.int .i64))) : ∃ (A : Option Addr) (c : Nat) (bs : List Nat), v = .slice A xs.length c ∧ OInts w v xs bs ∧ Own base w.heap.size bs := by
  obtain ⟨hl, ⟨rfl, h0⟩ | ⟨g, c, cur, rfl, hb, hg, h1, h2, h3, h4⟩⟩ := h
  · have hx : xs = [] := List.eq_nil_of_length_eq_zero h0
    subst hx
    exact ⟨none, 0, [], rfl, .inl ⟨rfl, rfl, rfl⟩, Own.nil⟩
  · have hB : Blk w g 2 cur := hg
    refine ⟨_, _, [g], rfl, .inr ⟨g, c, cur, List.replicate xs.length [], rfl, h1, h2, hB, by simp, ?_, fun i x hx => ?_⟩, Own.one hb hB.lt⟩
    · congr 1
      symm
      rw [List.flatten_eq_nil_iff]
      intro l hl
      exact (List.mem_replicate.1 hl).2
    · have hi : i < xs.length := (List.getElem?_eq_some_iff.1 hx).1
      have h5 : (cur.toList.take (xs.length * 1))[i]? = some (.int .i64 x) := by rw [h4, List.getElem?_map, hx]; rfl
      rw [Nat.mul_one, List.getElem?_take_of_lt hi] at h5
      refine ⟨[.int .i64 x], [], rfl, fun j u hu => ?_, by rw [List.getElem?_replicate, if_pos hi], rfl, rfl⟩
      match j, hu with
      | 0, hu =>
        simp at hu
        subst hu
        simpa using h5
end Go.Proofs.YtpppobomekebdaaGreatDoor
