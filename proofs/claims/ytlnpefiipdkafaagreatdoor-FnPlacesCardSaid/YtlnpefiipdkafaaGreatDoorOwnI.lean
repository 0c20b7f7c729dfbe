/-
  An own row of integers that was appended to; blocks that turn.
-/
import Derived.Test.YtlnpefiipdkafaaGreatDoorGO
import Derived.Maps.AppendAt
namespace Go.Proofs.YtlnpefiipdkafaaGreatDoor
open Go.RowKit
theorem Chg.grown {bs : List Nat} {a w w' : World} {row : Option Nat} (h : Chg bs a w) (hg : w.grownBy w' row) (hr : ∀ k, row = some k → k ∈ bs ∨ a.heap.size ≤ k) : Chg bs a w' :=
  ⟨hg.os.trans h.os, hg.tape.trans h.tape, hg.output.trans h.output, Nat.le_trans h.size hg.size, fun g hlt hn => (hg.block g (Nat.lt_of_lt_of_le hlt h.size) (fun e => by
    rcases hr g e.symm with hm | hm
    · exact hn hm
    · omega)).trans (h.block g hlt hn)⟩
theorem Chg.cell {bs : List Nat} {w w' : World} (h : Chg bs w w') {a : Addr} {v : Value} (hc : w.cell? a = some v) (hn : a.block ∉ bs) : w'.cell? a = some v := by
  rw [← hc]
  exact World.cell?_of_block (h.block a.block (cell_lt hc) hn)
theorem blk_empty_ne {w : World} {g b o : Nat} {t : TypeId} {v : Value} (h : Blk w g t #[]) (hc : w.cell? ⟨b, o, none⟩ = some v) : b ≠ g := by
  rintro rfl
  rw [h.cell] at hc
  simp at hc
theorem ret_slice {A : Option Addr} {a b c : Nat} (h : a = b) : Ending.returned (.slice A a c) = .returned (.slice A b c) := by rw [h]
theorem info_i64' : (Tryz.prog.info? 2).map (fun i => (i.zero, i.size, i.bytes)) = some (some (.int .i64 0), 1, 8) := by kernel_rfl
theorem own_oints {w : World} {base : Nat} {v : Value} {xs : List Int} (h : w.ownsRow base 2 1 v xs.length (xs.map (Value.int .i64))) : ∃ (A : Option Addr) (c : Nat) (bs : List Nat), v = .slice A xs.length c ∧ OInts w v xs bs ∧ Own base w.heap.size bs := by
  obtain ⟨hl, ⟨rfl, h0⟩ | ⟨g, c, cur, rfl, hb, hg, h1, h2, h3, h4⟩⟩ := h
  · have hx : xs = [] := List.eq_nil_of_length_eq_zero h0
    subst hx
    exact ⟨none, 0, [], rfl, .inl ⟨rfl, rfl, rfl⟩, Own.nil⟩
  · have hB : Blk w g 2 cur := hg
    refine ⟨_, _, [g], rfl, .inr ⟨g, c, cur, List.replicate xs.length [], rfl, h1, h2, hB, by simp, ?_, fun i x hx => ?_⟩, Own.one hb hB.lt⟩
    · congr 1
      symm
      rw [List.flatten_eq_nil_iff]
      intro l hl
      exact (List.mem_replicate.1 hl).2
    · have hi : i < xs.length := (List.getElem?_eq_some_iff.1 hx).1
      have h5 : (cur.toList.take (xs.length * 1))[i]? = some (.int .i64 x) := by rw [h4, List.getElem?_map, hx]; rfl
      rw [Nat.mul_one, List.getElem?_take_of_lt hi] at h5
      refine ⟨[.int .i64 x], [], rfl, fun j u hu => ?_, by rw [List.getElem?_replicate, if_pos hi], rfl, rfl⟩
      match j, hu with
      | 0, hu =>
        simp at hu
        subst hu
        simpa using h5
theorem OInts.row {w : World} {v : Value} {xs : List Int} {bs : List Nat} (h : OInts w v xs bs) (hn : 1 ≤ xs.length) :
    ∃ (g c : Nat) (cs : Array Value), v = .slice (some ⟨g, 0, none⟩) xs.length c ∧ bs = [g] ∧ xs.length ≤ c ∧ c ≤ maxLen ∧ Blk w g 2 cs ∧ xs.length ≤ cs.size ∧ ∀ (i : Nat) (x : Int), xs[i]? = some x → cs[i]? = some (.int .i64 x) := by
  rcases h with ⟨rfl, rfl, rfl⟩ | ⟨g, c, cs, bss, rfl, h1, h2, hb, hl, rfl, hc⟩
  · simp at hn
  · have hflat : bss.flatten = [] := by
      rw [List.flatten_eq_nil_iff]
      intro l hl'
      obtain ⟨i, hi⟩ := List.getElem?_of_mem hl'
      have hlt : i < xs.length := by have := (List.getElem?_eq_some_iff.1 hi).1; omega
      obtain ⟨es, b', _, _, hbi, ho⟩ := hc i _ (List.getElem?_eq_getElem hlt)
      rw [hi] at hbi
      injection hbi with hbi
      rw [hbi, ho.2]
    have hat : ∀ (i : Nat) (x : Int), xs[i]? = some x → cs[i]? = some (.int .i64 x) := fun i x hx => by
      obtain ⟨es, b', hes, hcs, _, ho⟩ := hc i x hx
      have ho1 : es = [.int .i64 x] := ho.1
      subst ho1
      simpa using hcs 0 _ rfl
    refine ⟨g, c, cs, rfl, by rw [hflat], h1, h2, hb, ?_, hat⟩
    have := hat (xs.length - 1) _ (List.getElem?_eq_getElem (by omega))
    have := (Array.getElem?_eq_some_iff.1 this).1
    omega
theorem OInts.of_row {w : World} {g c : Nat} {cs : Array Value} {xs : List Int} (h1 : xs.length ≤ c) (h2 : c ≤ maxLen) (hb : Blk w g 2 cs) (hc : ∀ (i : Nat) (x : Int), xs[i]? = some x → cs[i]? = some (.int .i64 x)) : OInts w (.slice (some ⟨g, 0, none⟩) xs.length c) xs [g] := by
  refine .inr ⟨g, c, cs, List.replicate xs.length [], rfl, h1, h2, hb, by simp, ?_, fun i x hx => ?_⟩
  · congr 1
    symm
    rw [List.flatten_eq_nil_iff]
    intro l hl
    exact (List.mem_replicate.1 hl).2
  · have hi : i < xs.length := (List.getElem?_eq_some_iff.1 hx).1
    refine ⟨[.int .i64 x], [], rfl, fun j u hu => ?_, by rw [List.getElem?_replicate, if_pos hi], rfl, rfl⟩
    match j, hu with
    | 0, hu =>
      simp at hu
      subst hu
      simpa using hc i x hx
theorem OInts.at {w : World} {g c n : Nat} {xs : List Int} (h : OInts w (.slice (some ⟨g, 0, none⟩) n c) xs [g]) {j : Nat} {x : Int} (hx : xs[j]? = some x) : w.cell? ⟨g, j, none⟩ = some (.int .i64 x) := by
  have hj := (List.getElem?_eq_some_iff.1 hx).1
  obtain ⟨g', c', cs, e, eb, -, -, hb, -, h6⟩ := h.row (by omega)
  injection eb with eb
  subst eb
  rw [hb.cell]
  exact h6 _ _ hx
theorem OInts.set_ {w : World} {g c n i : Nat} {xs : List Int} (h : OInts w (.slice (some ⟨g, 0, none⟩) n c) xs [g]) (hi : i < xs.length) (z : Int) : OInts (w.setCell ⟨g, i, none⟩ (.int .i64 z)) (.slice (some ⟨g, 0, none⟩) n c) (xs.set i z) [g] := by
  obtain ⟨g', c', cs, e, eb, h1, h2, hb, h3, h6⟩ := h.row (by omega)
  injection eb with eb
  subst eb
  injection e with e1 e2 e3
  subst e2 e3
  have key := OInts.of_row (w := w.setCell ⟨g, i, none⟩ (.int .i64 z)) (g := g) (c := c) (cs := cs.setIfInBounds i (.int .i64 z)) (xs := xs.set i z) (by rw [List.length_set]; exact h1) h2 (hb.set_ i _) (fun j x hx => by
    by_cases e : j = i
    · subst e
      rw [List.getElem?_set_self hi] at hx
      injection hx with hx
      subst hx
      rw [Array.getElem?_setIfInBounds_self_of_lt (by omega)]
    · rw [List.getElem?_set_ne (fun q => e q.symm)] at hx
      rw [Array.getElem?_setIfInBounds_ne (fun q => e q.symm)]
      exact h6 _ _ hx)
  rwa [List.length_set] at key
theorem OInts.one {w : World} {v : Value} {xs : List Int} {bs : List Nat} (h : OInts w v xs bs) (hn : 1 ≤ xs.length) : ∃ g c : Nat, v = .slice (some ⟨g, 0, none⟩) xs.length c ∧ bs = [g] ∧ xs.length ≤ c ∧ c ≤ maxLen ∧ g < w.heap.size ∧ (∀ o, w.frozen? ⟨g, o, none⟩ = false) := by
  obtain ⟨g, c, cs, e, eb, h1, h2, hb, -, -⟩ := h.row hn
  exact ⟨g, c, e, eb, h1, h2, hb.lt, hb.frozen⟩
theorem OInts.fr {w : World} {g c n : Nat} {xs : List Int} (h : OInts w (.slice (some ⟨g, 0, none⟩) n c) xs [g]) (hn : 1 ≤ xs.length) : ∀ o, w.frozen? ⟨g, o, none⟩ = false := by
  obtain ⟨g', c', cs, e, eb, h1, h2, hb, -, -⟩ := h.row hn
  injection eb with eb
  subst eb
  exact hb.frozen
theorem OInts.chg {w w' : World} {v : Value} {xs : List Int} {bs cs : List Nat} (h : OInts w v xs bs) (c : Chg cs w w') (hd : ∀ g ∈ bs, g ∉ cs) : OInts w' v xs bs := h.same (c.same h.lt hd)
end Go.Proofs.YtlnpefiipdkafaaGreatDoor
