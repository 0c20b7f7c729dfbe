/-
  An own row of integers that was appended to; blocks that turn.
-/
import Derived.Test.YtocahjbmnkadjaaGreatDoorGO
import Derived.Maps.AppendAt
namespace Go.Proofs.YtocahjbmnkadjaaGreatDoor
open Go.RowKit
theorem Chg.grown {bs : List Nat} {a w w' : World} {row : Option Nat} (h : Chg bs a w) (hg : w.grownBy w' row) (hr : ∀ k, row = some k → k ∈ bs ∨ a.heap.size ≤ k) : Chg bs a w' :=
  ⟨hg.os.trans h.os, hg.tape.trans h.tape, hg.output.trans h.output, Nat.le_trans h.size hg.size, fun g hlt hn => (hg.block g (Nat.lt_of_lt_of_le hlt h.size) (fun e => by
    rcases hr g e.symm with hm | hm
    · exact hn hm
    · omega)).trans (h.block g hlt hn)⟩
theorem Chg.cell {bs : List Nat} {w w' : World} (h : Chg bs w w') {a : Addr} {v : Value} (hc : w.cell? a = some v) (hn : a.block ∉ bs) : w'.cell? a = some v := by
  rw [← hc]
  exact World.cell?_of_block (h.block a.block (cell_lt hc) hn)
theorem blk_empty_ne {w : World} {g b o : Nat} {t : TypeId} {v : Value} (h : Blk w g t #[]) (hc : w.cell? ⟨b, o, none⟩ = some v) : b ≠ g := by
  rintro rfl
  rw [h.cell] at hc
  simp at hc
theorem ret_slice {A : Option Addr} {a b c : Nat} (h : a = b) : Ending.returned (.slice A a c) = .returned (.slice A b c) := by rw [h]
theorem info_i64' : (Tryz.prog.info? 2).map (fun i => (i.zero, i.size, i.bytes)) = some (some (.int .i64 0), 1, 8) := by kernel_rfl
theorem own_oints {w : World} {base : Nat} {v : Value} {xs : List Int} (h : w.ownsRow base 2 1 v xs.length (xs.map (Value.int .i64))) : ∃ (A : Option Addr) (c : Nat) (bs : List Nat), v = .slice A xs.length c ∧ OInts w v xs bs ∧ Own base w.heap.size bs := by
  obtain ⟨hl, ⟨rfl, h0⟩ | ⟨g, c, cur, rfl, hb, hg, h1, h2, h3, h4⟩⟩ := h
  · have hx : xs = [] := List.eq_nil_of_length_eq_zero h0
    subst hx
    exact ⟨none, 0, [], rfl, .inl ⟨rfl, rfl, rfl⟩, Own.nil⟩
  · have hB : Blk w g 2 cur := hg
    refine ⟨_, _, [g], rfl, .inr ⟨g, c, cur, List.replicate xs.length [], rfl, h1, h2, hB, by simp, ?_, fun i x hx => ?_⟩, Own.one hb hB.lt⟩
    · congr 1
      symm
      rw [List.flatten_eq_nil_iff]
      intro l hl
      exact (List.mem_replicate.1 hl).2
    · have hi : i < xs.length := (List.getElem?_eq_some_iff.1 hx).1
      have h5 : (cur.toList.take (xs.length * 1))[i]? = some (.int .i64 x) := by rw [h4, List.getElem?_map, hx]; rfl
      rw [Nat.mul_one, List.getElem?_take_of_lt hi] at h5
      refine ⟨[.int .i64 x], [], rfl, fun j u hu => ?_, by rw [List.getElem?_replicate, if_pos hi], rfl, rfl⟩
      match j, hu with
      | 0, hu =>
        simp at hu
        subst hu
        simpa using h5
theorem OInts.row {w : World} {v : Value} {xs : List Int} {bs : List Nat} (h : OInts w v xs bs) (hn : 1 ≤ xs.length) :
    ∃ (g c : Nat) (cs : Array Value), v = .slice (some ⟨g, 0, none⟩) xs.length c ∧ bs = [g] ∧ xs.length ≤ c ∧ c ≤ maxLen ∧ Blk w g 2 cs ∧ xs.length ≤ cs.size ∧ ∀ (i : Nat) (x : Int), xs[i]? = some x → cs[i]? = some (.int .i64 x) := by
  rcases h with ⟨rfl, rfl, rfl⟩ | ⟨g, c, cs, bss, rfl, h1, h2, hb, hl, rfl, hc⟩
  · simp at hn
  · have hflat : bss.flatten = [] := by
      rw [List.flatten_eq_nil_iff]
      intro l hl'
      obtain ⟨i, hi⟩ := List.getElem?_of_mem hl'
      have hlt : i < xs.length := by have := (List.getElem?_eq_some_iff.1 hi).1; omega
      obtain ⟨es, b', _, _, hbi, ho⟩ := hc i _ (List.getElem?_eq_getElem hlt)
      rw [hi] at hbi
      injection hbi with hbi
      rw [hbi, ho.2]
    have hat : ∀ (i : Nat) (x : Int), xs[i]? = some x → cs[i]? = some (.int .i64 x) := fun i x hx => by
      obtain ⟨es, b', hes, hcs, _, ho⟩ := hc i x hx
      have ho1 : es = [.int .i64 x] := ho.1
      subst ho1
      simpa using hcs 0 _ rfl
    refine ⟨g, c, cs, rfl, by rw [hflat], h1, h2, hb, ?_, hat⟩
    have := hat (xs.length - 1) _ (List.getElem?_eq_getElem (by omega))
    have := (Array.getElem?_eq_some_iff.1 this).1
    omega
theorem OInts.of_row {w : World} {g c : Nat} {cs : Array Value} {xs : List Int} (h1 : xs.length ≤ c) (h2 : c ≤ maxLen) (hb : Blk w g 2 cs) (hc : ∀ (i : Nat) (x : Int), xs[i]? = some x → cs[i]? = some (.int .i64 x)) : OInts w (.slice (some ⟨g, 0, none⟩) xs.length c) xs [g] := by
  refine .inr ⟨g, c, cs, List.replicate xs.length [], rfl, h1, h2, hb, by simp, ?_, fun i x hx => ?_⟩
  · congr 1
    symm
    rw [List.flatten_eq_nil_iff]
    intro l hl
    exact (List.mem_replicate.1 hl).2
  · have hi : i < xs.length := (List.getElem?_eq_some_iff.1 hx).1
    refine ⟨[.int .i64 x], [], rfl, fun j u hu => ?_, by rw [List.getElem?_replicate, if_pos hi], rfl, rfl⟩
    match j, hu with
    | 0, hu =>
      simp at hu
      subst hu
      simpa using hc i x hx
theorem OInts.at {w : World} {g c n : Nat} {xs : List Int} (h : OInts w (.slice (some ⟨g, 0, none⟩) n c) xs [g]) {j : Nat} {x : Int} (hx : xs[j]? = some x) : w.cell? ⟨g, j, none⟩ = some (.int .i64 x) := by
  have hj := (List.getElem?_eq_some_iff.1 hx).1
  obtain ⟨g', c', cs, e, eb, -, -, hb, -, h6⟩ := h.row (by omega)
  injection eb with eb
  subst eb
  rw [hb.cell]
  exact h6 _ _ hx
theorem OInts.set_ {w : World} {g c n i : Nat} {xs : List Int} (h : OInts w (.slice (some ⟨g, 0, none⟩) n c) xs [g]) (hi : i < xs.length) (z : Int) : OInts (w.setCell ⟨g, i, none⟩ (.int .i64 z)) (.slice (some ⟨g, 0, none⟩) n c) (xs.set i z) [g] := by
  obtain ⟨g', c', cs, e, eb, h1, h2, hb, h3, h6⟩ := h.row (by omega)
  injection eb with eb
  subst eb
  injection e with e1 e2 e3
  subst e2 e3
  have key := OInts.of_row (w := w.setCell ⟨g, i, none⟩ (.int .i64 z)) (g := g) (c := c) (cs := cs.setIfInBounds i (.int .i64 z)) (xs := xs.set i z) (by rw [List.length_set]; exact h1) h2 (hb.set_ i _) (fun j x hx => by
    by_cases e : j = i
    · subst e
      rw [List.getElem?_set_self hi] at hx
      injection hx with hx
      subst hx
      rw [Array.getElem?_setIfInBounds_self_of_lt (by omega)]
    · rw [List.getElem?_set_ne (fun q => e q.symm)] at hx
      rw [Array.getElem?_setIfInBounds_ne (fun q => e q.symm)]
      exact h6 _ _ hx)
  rwa [List.length_set] at key
theorem OInts.one {w : World} {v : Value} {xs : List Int} {bs : List Nat} (h : OInts w v xs bs) (hn : 1 ≤ xs.length) : ∃ g c : Nat, v = .slice (some ⟨g, 0, none⟩) xs.length c ∧ bs = [g] ∧ xs.length ≤ c ∧ c ≤ maxLen ∧ g < w.heap.size ∧ (∀ o, w.frozen? ⟨g, o, none⟩ = false) := by
  obtain ⟨g, c, cs, e, eb, h1, h2, hb, -, -⟩ := h.row hn
  exact ⟨g, c, e, eb, h1, h2, hb.lt, hb.frozen⟩
theorem OInts.fr {w : World} {g c n : Nat} {xs : List Int} (h : OInts w (.slice (some ⟨g, 0, none⟩) n c) xs [g]) (hn : 1 ≤ xs.length) : ∀ o, w.frozen? ⟨g, o, none⟩ = false := by
  obtain ⟨g', c', cs, e, eb, h1, h2, hb, -, -⟩ := h.row hn
  injection eb with eb
  subst eb
  exact hb.frozen
theorem OInts.chg {w w' : World} {v : Value} {xs : List Int} {bs cs : List Nat} (h : OInts w v xs bs) (c : Chg cs w w') (hd : ∀ g ∈ bs, g ∉ cs) : OInts w' v xs bs := h.same (c.same h.lt hd)
theorem own_cells' {α : Type} {w : World} {base : Nat} {t : TypeId} {v : Value} {xs : List α} {f : α → Value} (h : w.ownsRow base t 1 v xs.length (xs.map f)) (hn : 1 ≤ xs.length) :
    ∃ g c : Nat, v = .slice (some ⟨g, 0, none⟩) xs.length c ∧ base ≤ g ∧ ∀ (j : Nat) (x : α), xs[j]? = some x → w.cell? ⟨g, j, none⟩ = some (f x) := by
  obtain ⟨hl, ⟨rfl, h0⟩ | ⟨g, c, cur, rfl, hb, hg, h1, h2, h3, h4⟩⟩ := h
  · omega
  · have hB : Blk w g t cur := hg
    refine ⟨g, c, rfl, hb, fun j x hx => ?_⟩
    have hi : j < xs.length := (List.getElem?_eq_some_iff.1 hx).1
    have h5 : (cur.toList.take (xs.length * 1))[j]? = some (f x) := by rw [h4, List.getElem?_map, hx]; rfl
    rw [Nat.mul_one, List.getElem?_take_of_lt hi] at h5
    rw [hB.cell]
    simpa using h5
theorem own_slice' {w : World} {base n : Nat} {t : TypeId} {v : Value} {xs : List Value} (h : w.ownsRow base t 1 v n xs) : ∃ (A : Option Addr) (c : Nat), v = .slice A n c := by
  obtain ⟨hl, ⟨rfl, h0⟩ | ⟨g, c, cur, rfl, _⟩⟩ := h
  · exact ⟨none, 0, by rw [h0]⟩
  · exact ⟨_, _, rfl⟩
end Go.Proofs.YtocahjbmnkadjaaGreatDoor
/-
  Own lists that grow: their elements cell by cell; a list that is laid, appended to, changed in one cell.
-/
namespace Go.Proofs.YtocahjbmnkadjaaGreatDoor
open Go.RowKit
theorem ownsRow_ne {w : World} {base : Nat} {e t : TypeId} {size : Nat} {v : Value} {n : Nat} {xs : List Value} {g : Nat} {cs : Array Value} (h : w.ownsRow base e size v n xs) (b : Blk w g t cs) (ht : t ≠ e) : ∀ k, v.ownBlock = some k → k ≠ g := by
  obtain ⟨hl, ⟨rfl, h0⟩ | ⟨q, c, cur, rfl, hb, hq, h1, h2, h3, h4⟩⟩ := h
  · intro k hk; cases hk
  · intro k hk e1
    injection hk with hk
    subst hk
    subst e1
    have h5 := Option.some.inj ((show w.heap[q]? = some (.cells cs t) from b).symm.trans (show w.heap[q]? = some (.cells cur e) from hq))
    injection h5 with h6 h7
    exact ht h7
theorem blk_grown {w w' : World} {row : Option Nat} {g : Nat} {t : TypeId} {cs : Array Value} (h : Blk w g t cs) (hg : w.grownBy w' row) (hr : ∀ k, row = some k → k ≠ g) : Blk w' g t cs :=
  (hg.block g h.lt (fun e => hr g e.symm rfl)).trans h
/-- the cells are the elements', one behind the other -/
def Els {α : Type} (sz : Nat) (O : World → List Value → α → List Nat → Prop) (w : World) : List Value → List α → List (List Nat) → Prop
  | cells, [], bss => cells = [] ∧ bss = []
  | cells, x :: xs, bss => ∃ es rest b bss', cells = es ++ rest ∧ es.length = sz ∧ O w es x b ∧ bss = b :: bss' ∧ Els sz O w rest xs bss'
section
variable {α : Type} {sz : Nat} {O : World → List Value → α → List Nat → Prop} {w w' : World}
theorem Els.nil : Els sz O w [] [] [] := ⟨rfl, rfl⟩
theorem Els.cons {es rest : List Value} {x : α} {xs : List α} {b : List Nat} {bss : List (List Nat)} (he : es.length = sz) (ho : O w es x b) (h : Els sz O w rest xs bss) : Els sz O w (es ++ rest) (x :: xs) (b :: bss) := ⟨es, rest, b, bss, rfl, he, ho, rfl, h⟩
theorem Els.len : ∀ {xs : List α} {cells : List Value} {bss : List (List Nat)}, Els sz O w cells xs bss → cells.length = xs.length * sz ∧ bss.length = xs.length
  | [], _, _, ⟨h1, h2⟩ => by subst h1 h2; simp
  | x :: xs, _, _, ⟨es, rest, b, bss', h1, h2, _, h4, h5⟩ => by
    have ih := Els.len h5
    subst h1 h4
    exact ⟨by rw [List.length_append, List.length_cons, ih.1, h2, Nat.add_mul, Nat.one_mul, Nat.add_comm], by rw [List.length_cons, List.length_cons, ih.2]⟩
theorem Els.at : ∀ {xs : List α} {cells : List Value} {bss : List (List Nat)} {i : Nat} {x : α}, Els sz O w cells xs bss → xs[i]? = some x →
    ∃ (es : List Value) (b : List Nat), es.length = sz ∧ (∀ (j : Nat) (u : Value), es[j]? = some u → cells[i * sz + j]? = some u) ∧ bss[i]? = some b ∧ O w es x b
  | [], _, _, i, x, _, hx => by simp at hx
  | y :: xs, _, _, 0, x, ⟨es, rest, b, bss', h1, h2, h3, h4, h5⟩, hx => by
    subst h1 h4
    simp at hx
    subst hx
    refine ⟨es, b, h2, fun j u hu => ?_, rfl, h3⟩
    have hj : j < es.length := (List.getElem?_eq_some_iff.1 hu).1
    rw [Nat.zero_mul, Nat.zero_add, List.getElem?_append_left hj]
    exact hu
  | y :: xs, _, _, i + 1, x, ⟨es, rest, b, bss', h1, h2, h3, h4, h5⟩, hx => by
    subst h1 h4
    obtain ⟨es', b', e1, e2, e3, e4⟩ := Els.at h5 (i := i) (x := x) (by simpa using hx)
    refine ⟨es', b', e1, fun j u hu => ?_, by simpa using e3, e4⟩
    have e : (i + 1) * sz + j = es.length + (i * sz + j) := by rw [h2, Nat.add_mul, Nat.one_mul]; omega
    rw [e, List.getElem?_append_right (by omega)]
    simpa using e2 j u hu
theorem Els.snoc {es : List Value} {x : α} {b : List Nat} (he : es.length = sz) (ho : O w es x b) : ∀ {xs : List α} {cells : List Value} {bss : List (List Nat)}, Els sz O w cells xs bss → Els sz O w (cells ++ es) (xs ++ [x]) (bss ++ [b])
  | [], _, _, ⟨h1, h2⟩ => by
    subst h1 h2
    exact ⟨es, [], b, [], by simp, he, ho, rfl, rfl, rfl⟩
  | y :: xs, _, _, ⟨es', rest, b', bss', h1, h2, h3, h4, h5⟩ => by
    subst h1 h4
    exact ⟨es', rest ++ es, b', bss' ++ [b], by simp, h2, h3, rfl, Els.snoc he ho h5⟩
theorem Els.mono {O' : World → List Value → α → List Nat → Prop} : ∀ {xs : List α} {cells : List Value} {bss : List (List Nat)}, Els sz O w cells xs bss → (∀ es x b, b ∈ bss → O w es x b → O' w' es x b) → Els sz O' w' cells xs bss
  | [], _, _, h, _ => h
  | x :: xs, _, _, ⟨es, rest, b, bss', h1, h2, h3, h4, h5⟩, hO => by
    subst h1 h4
    exact ⟨es, rest, b, bss', rfl, h2, hO _ _ _ (List.mem_cons_self ..) h3, rfl, Els.mono h5 fun es x b hb => hO es x b (List.mem_cons_of_mem _ hb)⟩
theorem Els.all {p : α → Prop} : ∀ {xs : List α} {cells : List Value} {bss : List (List Nat)}, Els sz (fun w es x b => O w es x b ∧ p x) w cells xs bss → ∀ x ∈ xs, p x
  | [], _, _, _, x, hx => by cases hx
  | y :: xs, _, _, ⟨es, rest, b, bss', h1, h2, h3, h4, h5⟩, x, hx => by
    rcases List.mem_cons.1 hx with rfl | hx
    · exact h3.2
    · exact Els.all h5 x hx
theorem Els.lt (hO : ∀ es x b, O w es x b → ∀ g ∈ b, g < w.heap.size) : ∀ {xs : List α} {cells : List Value} {bss : List (List Nat)}, Els sz O w cells xs bss → ∀ g ∈ bss.flatten, g < w.heap.size
  | [], _, _, ⟨h1, h2⟩, g, hg => by subst h2; simp at hg
  | x :: xs, _, _, ⟨es, rest, b, bss', h1, h2, h3, h4, h5⟩, g, hg => by
    subst h4
    simp only [List.flatten_cons, List.mem_append] at hg
    rcases hg with hg | hg
    · exact hO _ _ _ h3 g hg
    · exact Els.lt hO h5 g hg

/-- an own row of elements: room behind it is its own, too -/
def ORow (sz : Nat) (t : TypeId) (O : World → List Value → α → List Nat → Prop) (lo : Nat) (w : World) (v : Value) (xs : List α) (bss : List (List Nat)) : Prop :=
  ∃ cells, w.ownsRow lo t sz v xs.length cells ∧ Els sz O w cells xs bss ∧ Own lo w.heap.size (v.ownBlock.toList ++ bss.flatten)
variable {t : TypeId} {lo : Nat} {v v' : Value} {xs : List α} {bss : List (List Nat)}
theorem ORow.list (h : ORow sz t O lo w v xs bss) : OList sz t O w v xs (v.ownBlock.toList ++ bss.flatten) := by
  obtain ⟨cells, ⟨hl, ⟨rfl, h0⟩ | ⟨g, c, cur, rfl, hb, hg, h1, h2, h3, h4⟩⟩, hE, hO⟩ := h
  · have hx : xs = [] := List.eq_nil_of_length_eq_zero h0
    subst hx
    obtain ⟨e1, e2⟩ := hE
    subst e2
    exact .inl ⟨rfl, rfl, rfl⟩
  · refine .inr ⟨g, c, cur, bss, rfl, h1, h2, hg, hE.len.2, rfl, fun i x hx => ?_⟩
    obtain ⟨es, b, e1, e2, e3, e4⟩ := hE.at hx
    refine ⟨es, b, e1, fun j u hu => ?_, e3, e4⟩
    have := e2 j u hu
    rw [← h4, List.getElem?_take] at this
    split at this
    · simpa using this
    · cases this
theorem ORow.slice (h : ORow sz t O lo w v xs bss) : ∃ (A : Option Addr) (c : Nat), v = .slice A xs.length c := by
  obtain ⟨cells, ⟨hl, ⟨rfl, h0⟩ | ⟨g, c, cur, rfl, _⟩⟩, -, -⟩ := h
  · exact ⟨none, 0, by rw [h0]⟩
  · exact ⟨_, _, rfl⟩
theorem ORow.own (h : ORow sz t O lo w v xs bss) : Own lo w.heap.size (v.ownBlock.toList ++ bss.flatten) := by
  obtain ⟨_, _, _, h⟩ := h
  exact h
theorem ownsRow_same {n : Nat} {cells : List Value} (h : w.ownsRow lo t sz v n cells) (g : SameOn v.ownBlock.toList w w') : w'.ownsRow lo t sz v n cells := by
  obtain ⟨hl, ⟨rfl, h0⟩ | ⟨q, c, cur, rfl, hb, hg, rest⟩⟩ := h
  · exact ⟨hl, .inl ⟨rfl, h0⟩⟩
  · exact ⟨hl, .inr ⟨q, c, cur, rfl, hb, (g q (by simp [Value.ownBlock])).trans hg, rest⟩⟩
theorem ORow.same (h : ORow sz t O lo w v xs bss) (g : SameOn (v.ownBlock.toList ++ bss.flatten) w w') (hs : w.heap.size ≤ w'.heap.size) (hO : ∀ es x b, O w es x b → SameOn b w w' → O w' es x b) : ORow sz t O lo w' v xs bss := by
  obtain ⟨cells, h1, h2, h3⟩ := h
  refine ⟨cells, ownsRow_same h1 (g.sub (by simp +contextual)), h2.mono fun es x b hb ho => hO _ _ _ ho (g.sub fun q hq => ?_), h3.mono (Nat.le_refl _) hs⟩
  exact List.mem_append_right _ (List.mem_flatten.2 ⟨b, hb, hq⟩)
theorem ORow.base {lo' : Nat} (h : ORow sz t O lo w v xs bss) (hl : lo' ≤ lo) : ORow sz t O lo' w v xs bss := by
  obtain ⟨cells, ⟨q, h1⟩, h2, h3⟩ := h
  refine ⟨cells, ⟨q, ?_⟩, h2, h3.mono hl (Nat.le_refl _)⟩
  rcases h1 with h1 | ⟨g, c, cur, hv, hb, rest⟩
  · exact .inl h1
  · exact .inr ⟨g, c, cur, hv, Nat.le_trans hl hb, rest⟩
theorem ORow.chg {ds : List Nat} (h : ORow sz t O lo w v xs bss) (c : Chg ds w w') (hd : ∀ g ∈ ds, g < lo) (hO : ∀ w' es x b, O w es x b → SameOn b w w' → O w' es x b) : ORow sz t O lo w' v xs bss :=
  h.same (c.same (fun g hg => (h.own.2 g hg).2) (fun g hg hm => by have := hd g hm; have := (h.own.2 g hg).1; omega)) c.size (hO w')
theorem ORow.empty (hl : lo ≤ w.heap.size) : ORow sz t O lo (w.alloc (.cells #[] t)) (.slice (some ⟨w.heap.size, 0, none⟩) 0 0) ([] : List α) [] :=
  ⟨[], ⟨by simp, .inr ⟨_, 0, #[], rfl, hl, Blk.new w _ _, Nat.le_refl _, Nat.zero_le _, by simp, by simp⟩⟩, Els.nil, by simp [Value.ownBlock]; exact Own.one hl (by simp)⟩
/-- a row that is laid at once -/
theorem ORow.lit {cs : Array Value} (hE : Els sz O (w.alloc (.cells cs t)) cs.toList xs bss) (hm : xs.length ≤ maxLen) (hl : lo ≤ w.heap.size) (ho : Own lo w.heap.size bss.flatten) :
    ORow sz t O lo (w.alloc (.cells cs t)) (.slice (some ⟨w.heap.size, 0, none⟩) xs.length xs.length) xs bss := by
  refine ⟨cs.toList, World.ownsRow_lit w cs xs.length hl hm (by simpa using hE.len.1), hE, ?_⟩
  refine ⟨?_, fun g hg => ?_⟩
  · simp only [Value.ownBlock, Option.toList_some, List.singleton_append, List.nodup_cons]
    exact ⟨fun hm => by have := ho.2 _ hm; omega, ho.1⟩
  · simp only [Value.ownBlock, Option.toList_some, List.singleton_append, List.mem_cons] at hg
    rcases hg with rfl | hg
    · exact ⟨hl, by simp⟩
    · have := ho.2 g hg
      exact ⟨this.1, by simp; omega⟩
/-- an element more: u is the world just ahead of the append -/
theorem ORow.snoc {u w4 : World} {cells es : List Value} {x : α} {b : List Nat} (hE : Els sz O u cells xs bss) (hon : Own lo u.heap.size (v.ownBlock.toList ++ bss.flatten ++ b)) (hlo : lo ≤ u.heap.size) (g : u.grownBy w4 v.ownBlock) (hat : v'.ownBlock = v.ownBlock ∨ v'.ownBlock = some u.heap.size)
    (hrow : w4.ownsRow lo t sz v' (xs.length + 1) (cells ++ es)) (hel : es.length = sz) (he : O u es x b) (hO : ∀ es x b, O u es x b → SameOn b u w4 → O w4 es x b) : ORow sz t O lo w4 v' (xs ++ [x]) (bss ++ [b]) := by
  have key : ∀ b', (∀ q ∈ b', q ∈ bss.flatten ++ b) → SameOn b' u w4 := fun b' hb q hq => by
    have hm := hb q hq
    refine g.block q (hon.2 q (by rw [List.append_assoc]; exact List.mem_append_right _ hm)).2 fun e => ?_
    have hn := hon.1
    rw [List.append_assoc, List.nodup_append] at hn
    exact hn.2.2 q (by rw [← e]; simp) q hm rfl
  refine ⟨cells ++ es, by rw [List.length_append]; exact hrow, ?_, ?_⟩
  · refine (Els.snoc hel he hE).mono fun es x b' hb ho => hO _ _ _ ho (key _ fun q hq => ?_)
    rcases List.mem_append.1 hb with hb | hb
    · exact List.mem_append_left _ (List.mem_flatten.2 ⟨b', hb, hq⟩)
    · simp at hb
      subst hb
      exact List.mem_append_right _ hq
  · rw [List.flatten_append, List.flatten_singleton, ← List.append_assoc]
    rcases hat with hat | hat
    · rw [hat]
      exact hon.mono (Nat.le_refl _) g.size
    · rw [hat]
      have hlt : u.heap.size < w4.heap.size := (hrow.lt _ hat).2
      refine ⟨?_, fun q hq => ?_⟩
      · have hn := hon.1
        rw [List.append_assoc, List.nodup_append] at hn
        simp only [Option.toList_some, List.cons_append, List.nodup_cons]
        exact ⟨fun hm => by have := (hon.2 _ (by rw [List.append_assoc]; exact List.mem_append_right _ hm)).2; omega, hn.2.1⟩
      · simp only [Option.toList_some, List.cons_append, List.mem_cons] at hq
        rcases hq with rfl | hq
        · exact ⟨hlo, hlt⟩
        · have := hon.2 q (by rw [List.append_assoc]; exact List.mem_append_right _ hq)
          exact ⟨this.1, by omega⟩
/-- one cell of an element is written -/
theorem OList.put {g c n i j : Nat} {bs : List Nat} {u : Value} {x x' : α} (h : OList sz t O w (.slice (some ⟨g, 0, none⟩) n c) xs bs) (hn : bs.Nodup) (hj : j < sz) (hx : xs[i]? = some x) (hu : ∀ es b, O w es x b → O w (es.set j u) x' b)
    (hO : ∀ es x b, O w es x b → SameOn b w (w.setCell ⟨g, i * sz + j, none⟩ u) → O (w.setCell ⟨g, i * sz + j, none⟩ u) es x b) : OList sz t O (w.setCell ⟨g, i * sz + j, none⟩ u) (.slice (some ⟨g, 0, none⟩) n c) (xs.set i x') bs := by
  rcases h with ⟨h, _, _⟩ | ⟨g', c', cs, bss, hv, h1, h2, hb, hl, rfl, hc⟩
  · cases h
  · injection hv with e1 e2 e3
    injection e1 with e1
    injection e1 with e1
    subst e1 e2 e3
    have hi : i < xs.length := (List.getElem?_eq_some_iff.1 hx).1
    have key : ∀ b, b ∈ bss → SameOn b w (w.setCell ⟨g, i * sz + j, none⟩ u) := fun b hb' q hq => Below.heap_setCell _ _ _ _ (by
      rintro rfl
      rw [List.nodup_cons] at hn
      exact hn.1 (List.mem_flatten.2 ⟨b, hb', hq⟩))
    refine .inr ⟨g, c, cs.setIfInBounds (i * sz + j) u, bss, by rw [List.length_set], by rw [List.length_set]; exact h1, h2, hb.set_ _ _, by rw [List.length_set]; exact hl, rfl, fun k y hy => ?_⟩
    by_cases hk : k = i
    · subst hk
      rw [List.getElem?_set_self hi] at hy
      injection hy with hy
      subst hy
      obtain ⟨es, b, e1, e2, e3, e4⟩ := hc k x hx
      refine ⟨es.set j u, b, by rw [List.length_set]; exact e1, fun j' u' hu' => ?_, e3, hO _ _ _ (hu _ _ e4) (key b (List.mem_of_getElem? e3))⟩
      by_cases hjj : j' = j
      · subst hjj
        rw [List.getElem?_set_self (by omega)] at hu'
        obtain ⟨u0, hu0⟩ : ∃ u0, es[j']? = some u0 := ⟨_, List.getElem?_eq_getElem (by omega)⟩
        have := (Array.getElem?_eq_some_iff.1 (e2 _ _ hu0)).1
        rw [Array.getElem?_setIfInBounds_self_of_lt this]
        exact hu'
      · rw [List.getElem?_set_ne (fun q => hjj q.symm)] at hu'
        rw [Array.getElem?_setIfInBounds_ne (by omega)]
        exact e2 _ _ hu'
    · rw [List.getElem?_set_ne (fun q => hk q.symm)] at hy
      obtain ⟨es, b, e1, e2, e3, e4⟩ := hc k y hy
      refine ⟨es, b, e1, fun j' u' hu' => ?_, e3, hO _ _ _ e4 (key b (List.mem_of_getElem? e3))⟩
      have hj' : j' < sz := by have := (List.getElem?_eq_some_iff.1 hu').1; omega
      rw [Array.getElem?_setIfInBounds_ne ?_]
      · exact e2 _ _ hu'
      · intro e
        rcases Nat.lt_or_gt_of_ne hk with hlt | hgt
        · have : (k + 1) * sz ≤ i * sz := Nat.mul_le_mul_right _ hlt
          rw [Nat.add_mul, Nat.one_mul] at this
          omega
        · have : (i + 1) * sz ≤ k * sz := Nat.mul_le_mul_right _ hgt
          rw [Nat.add_mul, Nat.one_mul] at this
          omega
/-- what an element's cells hold -/
theorem OList.cellAt {g c n i : Nat} {bs : List Nat} {x : α} (h : OList sz t O w (.slice (some ⟨g, 0, none⟩) n c) xs bs) (hx : xs[i]? = some x) :
    ∃ (es : List Value) (b : List Nat), es.length = sz ∧ (∀ (j : Nat) (u : Value), es[j]? = some u → w.cell? ⟨g, i * sz + j, none⟩ = some u) ∧ O w es x b ∧ (∀ q ∈ b, q ∈ bs) ∧ (bs.Nodup → b.Nodup ∧ g ∉ b) := by
  rcases h with ⟨h, _, _⟩ | ⟨g', c', cs, bss, hv, h1, h2, hb, hl, rfl, hc⟩
  · cases h
  · injection hv with e1 e2 e3
    injection e1 with e1
    injection e1 with e1
    subst e1 e2 e3
    obtain ⟨es, b, e1, e2, e3, e4⟩ := hc i x hx
    have hm : b ∈ bss := List.mem_of_getElem? e3
    refine ⟨es, b, e1, fun j u hu => by rw [hb.cell]; exact e2 j u hu, e4, fun q hq => List.mem_cons_of_mem _ (List.mem_flatten.2 ⟨b, hm, hq⟩), fun hn => ?_⟩
    rw [List.nodup_cons] at hn
    exact ⟨(List.sublist_flatten_of_mem hm).nodup hn.2, fun hq => hn.1 (List.mem_flatten.2 ⟨b, hm, hq⟩)⟩
theorem OList.rowAt {bs : List Nat} (h : OList sz t O w v xs bs) (hn : 1 ≤ xs.length) : ∃ g c : Nat, v = .slice (some ⟨g, 0, none⟩) xs.length c ∧ g ∈ bs ∧ xs.length ≤ c ∧ c ≤ maxLen ∧ g < w.heap.size ∧ (∀ o, w.frozen? ⟨g, o, none⟩ = false) ∧ v.ownBlock = some g := by
  rcases h with ⟨_, rfl, _⟩ | ⟨g, c, cs, bss, hv, h1, h2, hb, hl, rfl, hc⟩
  · simp at hn
  · exact ⟨g, c, hv, List.mem_cons_self .., h1, h2, hb.lt, hb.frozen, by rw [hv]; rfl⟩
end
theorem cells_new (w : World) (cs : Array Value) (t : TypeId) : ∀ (j : Nat) (u : Value), cs.toList[j]? = some u → (w.alloc (.cells cs t)).cell? ((⟨w.heap.size, 0, none⟩ : Addr).add j) = some u := fun j u hu => by
  have h := (Blk.new w t cs).cell j
  rcases j with _ | j
  · simpa [Addr.add, h] using hu
  · simpa [Addr.add, h] using hu
section
variable {P : Program} {w : World} {α : Type} {sz : Nat} {e : TypeId} {O : World → List Value → α → List Nat → Prop} {lo : Nat} {v : Value} {xs : List α} {bss : List (List Nat)} {i : TypeInfo} {z : Value}
/-- an element is appended to an own row -/
theorem run_append_row (ts ty : TypeId) (ht : P.underlying ts = some (.slice e)) (hi : P.info? e = some i) (hz : i.zero = some z) (hsz : i.size = sz) (hb : i.bytes ≤ 256) (hzs : z.cells.size = sz) (h0 : 0 < sz)
    (hrow : ORow sz e O lo w v xs bss) (hlo : lo ≤ w.heap.size) (ad : Addr) (c : Nat) (es : List Value) (y : α) (b : List Nat) (hl : es.length = sz) (hnews : ∀ j u, es[j]? = some u → w.cell? (ad.add j) = some u) (h1 : ∀ u ∈ es, u.oneCell' = true)
    (hn : xs.length ≤ 100000) (hO : O w es y b) (hown : Own lo w.heap.size (v.ownBlock.toList ++ bss.flatten ++ b)) (hkeep : ∀ w' es x b, O w es x b → SameOn b w w' → O w' es x b) :
    ∃ v' w', (Builtin.append_ #[ts, ts] ty #[v, .slice (some ad) 1 c]).run P w = .ok v' w' ∧ ORow sz e O lo w' v' (xs ++ [y]) (bss ++ [b]) ∧ w.grownBy w' v.ownBlock ∧ (v'.ownBlock = v.ownBlock ∨ v'.ownBlock = some w.heap.size) := by
  obtain ⟨cells, hr, hE, hO'⟩ := hrow
  have hbb : (xs.length + 1) * i.bytes ≤ 100001 * 256 := Nat.mul_le_mul (by omega) hb
  obtain ⟨v', w', e1, e2, e3, -, e5⟩ := run_append_own_at (P := P) w lo ts ty e i z sz i.bytes ht hi hz hsz rfl hzs h0 v xs.length cells hr ad 1 c es (by rw [hl, Nat.one_mul]) hnews h1 (by unfold maxLen; omega) (by omega) hlo
  exact ⟨v', w', e1, ORow.snoc hE hown hlo e3 e5 e2 hl hO (hkeep _), e3, e5⟩
theorem wp_append_row {o : Oper} {a : Act} {K : Act → World → Prop} {Q : Exit → Act → World → Prop} (s x : Operand) (ts : TypeId) (ho : o.op = .call { callee := .builtin .append, args := #[s, x], argTypes := #[ts, ts] })
    (ht : P.underlying ts = some (.slice e)) (hi : P.info? e = some i) (hz : i.zero = some z) (hsz : i.size = sz) (hb : i.bytes ≤ 256) (hzs : z.cells.size = sz) (h0 : 0 < sz) (hs : a.eval s = v)
    (hrow : ORow sz e O lo w v xs bss) (hlo : lo ≤ w.heap.size) (ad : Addr) (c : Nat) (es : List Value) (y : α) (b : List Nat) (hx : a.eval x = .slice (some ad) 1 c) (hl : es.length = sz) (hnews : ∀ j u, es[j]? = some u → w.cell? (ad.add j) = some u) (h1 : ∀ u ∈ es, u.oneCell' = true)
    (hn : xs.length ≤ 100000) (hO : O w es y b) (hown : Own lo w.heap.size (v.ownBlock.toList ++ bss.flatten ++ b)) (hkeep : ∀ w' es x b, O w es x b → SameOn b w w' → O w' es x b)
    (h : ∀ v' w', ORow sz e O lo w' v' (xs ++ [y]) (bss ++ [b]) → w.grownBy w' v.ownBlock → (v'.ownBlock = v.ownBlock ∨ v'.ownBlock = some w.heap.size) → K (a.put o.dst v') w') : o.wp P a w K Q := by
  obtain ⟨v', w', hr, h2, h3, h4⟩ := run_append_row (P := P) ts o.type ht hi hz hsz hb hzs h0 hrow hlo ad c es y b hl hnews h1 hn hO hown hkeep
  unfold Oper.wp execOp
  simp only [ho, resolve, invoke, builtin, Sem.run_bind, Sem.run_pure, Result.andThen_ok, List.map_toArray, List.map_cons, List.map_nil, hs, hx, hr]
  exact h v' w' h2 h3 h4
theorem wpList_append_row {ops : Array Oper} {rest : List Oper} {o : Oper} {a : Act} {Q : Exit → Act → World → Prop} (hgd : o.guard = none) (s x : Operand) (ts : TypeId) (ho : o.op = .call { callee := .builtin .append, args := #[s, x], argTypes := #[ts, ts] })
    (ht : P.underlying ts = some (.slice e)) (hi : P.info? e = some i) (hz : i.zero = some z) (hsz : i.size = sz) (hb : i.bytes ≤ 256) (hzs : z.cells.size = sz) (h0 : 0 < sz) (hs : a.eval s = v)
    (hrow : ORow sz e O lo w v xs bss) (hlo : lo ≤ w.heap.size) (ad : Addr) (c : Nat) (es : List Value) (y : α) (b : List Nat) (hx : a.eval x = .slice (some ad) 1 c) (hl : es.length = sz) (hnews : ∀ j u, es[j]? = some u → w.cell? (ad.add j) = some u) (h1 : ∀ u ∈ es, u.oneCell' = true)
    (hn : xs.length ≤ 100000) (hO : O w es y b) (hown : Own lo w.heap.size (v.ownBlock.toList ++ bss.flatten ++ b)) (hkeep : ∀ w' es x b, O w es x b → SameOn b w w' → O w' es x b)
    (h : ∀ v' w', ORow sz e O lo w' v' (xs ++ [y]) (bss ++ [b]) → w.grownBy w' v.ownBlock → (v'.ownBlock = v.ownBlock ∨ v'.ownBlock = some w.heap.size) → wpList P ops Q rest (a.put o.dst v') w') : wpList P ops Q (o :: rest) a w :=
  wpList_plain hgd fun _ hK => wp_append_row s x ts ho ht hi hz hsz hb hzs h0 hs hrow hlo ad c es y b hx hl hnews h1 hn hO hown hkeep fun v' w' h2 h3 h4 => hK _ _ (h v' w' h2 h3 h4)
end
end Go.Proofs.YtocahjbmnkadjaaGreatDoor
/-
  Readings that stay while blocks stay; blocks of a kind; an element that turns; an append in a drawn region.
-/
namespace Go.Proofs.YtocahjbmnkadjaaGreatDoor
open Go.RowKit
/-- a reading that stays while these blocks stay -/
def SR (bs : List Nat) (w : World) (P : World → Prop) : Prop := ∀ w', SameOn bs w w' → P w'
theorem SR.now {bs : List Nat} {w : World} {P : World → Prop} (h : SR bs w P) : P w := h w (SameOn.refl _ _)
theorem SR.same {bs : List Nat} {w w' : World} {P : World → Prop} (h : SR bs w P) (g : SameOn bs w w') : SR bs w' P := fun w2 g2 => h w2 (g.trans g2)
theorem ownsRow_up {w : World} {base lo n sz : Nat} {t : TypeId} {v : Value} {xs : List Value} (h : w.ownsRow base t sz v n xs) (hl : ∀ k, v.ownBlock = some k → lo ≤ k) : w.ownsRow lo t sz v n xs := by
  obtain ⟨h1, h2 | ⟨g, c, cur, rfl, hb, rest⟩⟩ := h
  · exact ⟨h1, .inl h2⟩
  · exact ⟨h1, .inr ⟨g, c, cur, rfl, hl g rfl, rest⟩⟩
theorem OList.of_row {α : Type} {sz lo : Nat} {t : TypeId} {O : World → List Value → α → List Nat → Prop} {w : World} {v : Value} {xs : List α} {cells : List Value} {bss : List (List Nat)} (h : w.ownsRow lo t sz v xs.length cells) (hE : Els sz O w cells xs bss) : OList sz t O w v xs (v.ownBlock.toList ++ bss.flatten) := by
  obtain ⟨hl, ⟨rfl, h0⟩ | ⟨g, c, cur, rfl, hb, hg, h1, h2, h3, h4⟩⟩ := h
  · have hx : xs = [] := List.eq_nil_of_length_eq_zero h0
    subst hx
    obtain ⟨e1, e2⟩ := hE
    subst e2
    exact .inl ⟨rfl, rfl, rfl⟩
  · refine .inr ⟨g, c, cur, bss, rfl, h1, h2, hg, hE.len.2, rfl, fun i x hx => ?_⟩
    obtain ⟨es, b, e1, e2, e3, e4⟩ := hE.at hx
    refine ⟨es, b, e1, fun j u hu => ?_, e3, e4⟩
    have := e2 j u hu
    rw [← h4, List.getElem?_take] at this
    split at this
    · simpa using this
    · cases this
theorem RList.tail {α : Type} {sz : Nat} {R : World → List Value → α → Prop} {w : World} {g o n c : Nat} {xs : List α} (h : RList sz R w (.slice (some ⟨g, o, none⟩) n c) xs) (hn : 1 ≤ xs.length) : RList sz R w (.slice (some ⟨g, o + sz, none⟩) (n - 1) (c - 1)) xs.tail := by
  obtain ⟨A, c', e, h1, h2, h3⟩ := h
  injection e with e1 e2 e3
  subst e1 e2 e3
  refine ⟨_, _, by rw [List.length_tail], by rw [List.length_tail]; omega, by omega, ?_⟩
  rcases h3 with rfl | ⟨b, off, e, hc⟩
  · simp at hn
  · injection e with e
    injection e with e1 e2
    subst e1 e2
    refine .inr ⟨_, _, rfl, fun i x hx => ?_⟩
    rw [List.getElem?_tail] at hx
    obtain ⟨cs, l, hcs, hr⟩ := hc (i + 1) x hx
    refine ⟨cs, l, fun j u hu => ?_, hr⟩
    rw [← hcs j u hu]
    congr 2
    rw [Nat.add_mul, Nat.one_mul]
    omega
/-- blocks of one's own, each of a kind -/
def OwnQ (Q : Nat → Prop) (hi : Nat) (bs : List Nat) : Prop := bs.Nodup ∧ ∀ g ∈ bs, Q g ∧ g < hi
theorem OwnQ.mono {Q : Nat → Prop} {hi hi' : Nat} {bs : List Nat} (h : OwnQ Q hi bs) (h2 : hi ≤ hi') : OwnQ Q hi' bs := ⟨h.1, fun g hg => ⟨(h.2 g hg).1, Nat.lt_of_lt_of_le (h.2 g hg).2 h2⟩⟩
section
variable {w : World}
/-- one element's cells, or its memory, turn -/
theorem OList.turn {α : Type} {sz : Nat} {t : TypeId} {O O' : World → List Value → α → List Nat → Prop} {v : Value} {xs : List α} {bs : List Nat} {i : Nat} {y : α} (h : OList sz t O w v xs bs) (hn : bs.Nodup) (hy : xs[i]? = some y) :
    ∃ (g c : Nat) (cs : Array Value) (es : List Value) (b : List Nat), v = .slice (some ⟨g, 0, none⟩) xs.length c ∧ Blk w g t cs ∧ g ∈ bs ∧ g ∉ b ∧ (∀ q ∈ b, q ∈ bs) ∧ b.Nodup ∧ es.length = sz ∧ (∀ (j : Nat) (u : Value), es[j]? = some u → cs[i * sz + j]? = some u) ∧ O w es y b ∧
      ∀ (w' : World) (cs' : Array Value) (es' : List Value) (y' : α) (b' : List Nat), Blk w' g t cs' → (∀ m, m < i * sz ∨ i * sz + sz ≤ m → cs'[m]? = cs[m]?) → es'.length = sz → (∀ (j : Nat) (u : Value), es'[j]? = some u → cs'[i * sz + j]? = some u) → O' w' es' y' b' →
        (∀ es z d, (∀ q ∈ d, q ∈ bs ∧ q ∉ b ∧ q ≠ g) → O w es z d → O' w' es z d) → ∃ bs', OList sz t O' w' v (xs.set i y') bs' ∧ ∀ q ∈ bs', q ∈ bs ∨ q ∈ b' := by
  have hi : i < xs.length := (List.getElem?_eq_some_iff.1 hy).1
  rcases h with ⟨_, rfl, _⟩ | ⟨g, c, cs, bss, hv, h1, h2, hb, hl, rfl, hc⟩
  · simp at hy
  obtain ⟨es, b, e1, e2, e3, e4⟩ := hc i y hy
  rw [List.nodup_cons] at hn
  have hm : b ∈ bss := List.mem_of_getElem? e3
  refine ⟨g, c, cs, es, b, hv, hb, List.mem_cons_self .., fun hq => hn.1 (List.mem_flatten.2 ⟨b, hm, hq⟩), fun q hq => List.mem_cons_of_mem _ (List.mem_flatten.2 ⟨b, hm, hq⟩), (List.sublist_flatten_of_mem hm).nodup hn.2, e1, e2, e4, fun w' cs' es' y' b' hb' hcs hel hes ho hO => ?_⟩
  refine ⟨g :: (bss.set i b').flatten, .inr ⟨g, c, cs', bss.set i b', by rw [List.length_set]; exact hv, by rw [List.length_set]; exact h1, h2, hb', by rw [List.length_set, List.length_set]; exact hl, rfl, fun k z hz => ?_⟩, fun q hq => ?_⟩
  · by_cases hk : k = i
    · subst hk
      rw [List.getElem?_set_self hi] at hz
      injection hz with hz
      subst hz
      exact ⟨es', b', hel, hes, by rw [List.getElem?_set_self (by omega)], ho⟩
    · rw [List.getElem?_set_ne (fun q => hk q.symm)] at hz
      obtain ⟨es2, b2, f1, f2, f3, f4⟩ := hc k z hz
      have hm2 : b2 ∈ bss := List.mem_of_getElem? f3
      refine ⟨es2, b2, f1, fun j u hu => ?_, by rw [List.getElem?_set_ne (fun q => hk q.symm)]; exact f3, hO _ _ _ (fun q hq => ⟨List.mem_cons_of_mem _ (List.mem_flatten.2 ⟨b2, hm2, hq⟩), fun hq2 => ?_, fun e => hn.1 (by rw [← e]; exact List.mem_flatten.2 ⟨b2, hm2, hq⟩)⟩) f4⟩
      · have hj : j < sz := by have := (List.getElem?_eq_some_iff.1 hu).1; omega
        rw [hcs]
        · exact f2 j u hu
        · rcases Nat.lt_or_gt_of_ne hk with hlt | hgt
          · have : (k + 1) * sz ≤ i * sz := Nat.mul_le_mul_right _ hlt
            rw [Nat.add_mul, Nat.one_mul] at this
            omega
          · have : (i + 1) * sz ≤ k * sz := Nat.mul_le_mul_right _ hgt
            rw [Nat.add_mul, Nat.one_mul] at this
            omega
      · obtain ⟨hi2, e3'⟩ := List.getElem?_eq_some_iff.1 e3
        obtain ⟨hk2, f3'⟩ := List.getElem?_eq_some_iff.1 f3
        have hp := List.pairwise_flatten.1 hn.2
        rcases Nat.lt_or_gt_of_ne hk with hlt | hgt
        · have := (List.pairwise_iff_getElem.1 hp.2) k i hk2 hi2 hlt
          rw [e3', f3'] at this
          exact this _ hq _ hq2 rfl
        · have := (List.pairwise_iff_getElem.1 hp.2) i k hi2 hk2 hgt
          rw [e3', f3'] at this
          exact this _ hq2 _ hq rfl
  · rcases List.mem_cons.1 hq with hq | hq
    · exact .inl (by rw [hq]; exact List.mem_cons_self ..)
    · obtain ⟨d, hd, hq⟩ := List.mem_flatten.1 hq
      rcases List.mem_or_eq_of_mem_set hd with h | h
      · exact .inl (List.mem_cons_of_mem _ (List.mem_flatten.2 ⟨d, h, hq⟩))
      · exact .inr (by rw [← h]; exact hq)
end
theorem wp_append_at {P : Program} {w : World} {o : Oper} {a : Act} {K : Act → World → Prop} {Q : Exit → Act → World → Prop} (s x : Operand) (t : TypeId) (ho : o.op = .call { callee := .builtin .append, args := #[s, x], argTypes := #[t, t] })
    {e : TypeId} {i : TypeInfo} {z : Value} {size : Nat} (ht : P.underlying t = some (.slice e)) (hi : P.info? e = some i) (hz : i.zero = some z) (hsize : i.size = size) (hby : i.bytes ≤ 256) (hzs : z.cells.size = size) (hsz : 0 < size)
    (v : Value) (n : Nat) (xs : List Value) (hs : a.eval s = v) (hown : w.ownsRow 0 e size v n xs)
    (ad : Addr) (c : Nat) (news : List Value) (hx : a.eval x = .slice (some ad) 1 c) (hl : news.length = size) (hnews : ∀ j u, news[j]? = some u → w.cell? (ad.add j) = some u) (h1 : ∀ u ∈ news, u.oneCell' = true) (hn : n ≤ 100000)
    (h : ∀ v' w', w'.ownsRow 0 e size v' (n + 1) (xs ++ news) → w.grownBy w' v.ownBlock → (v'.ownBlock = v.ownBlock ∨ v'.ownBlock = some w.heap.size) → K (a.put o.dst v') w') : o.wp P a w K Q := by
  have hbb : (n + 1) * i.bytes ≤ 100001 * 256 := Nat.mul_le_mul (by omega) hby
  obtain ⟨v', w', hr, h2, h3, h4, h5⟩ := run_append_own_at (P := P) w 0 t o.type e i z size i.bytes ht hi hz hsize rfl hzs hsz v n xs hown ad 1 c news (by rw [hl, Nat.one_mul]) hnews h1 (by unfold maxLen; omega) (by omega) (Nat.zero_le _)
  unfold Oper.wp execOp
  simp only [ho, resolve, invoke, builtin, Sem.run_bind, Sem.run_pure, Result.andThen_ok, List.map_toArray, List.map_cons, List.map_nil, hs, hx, hr]
  exact h v' w' h2 h3 h5
end Go.Proofs.YtocahjbmnkadjaaGreatDoor
