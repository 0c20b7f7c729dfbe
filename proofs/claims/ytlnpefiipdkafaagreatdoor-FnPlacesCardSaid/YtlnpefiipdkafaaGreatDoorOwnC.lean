/-
  Own lists that grow: their elements cell by cell; a list that is laid, appended to, changed in one cell.
-/
import Derived.Test.YtlnpefiipdkafaaGreatDoorOwnI
namespace Go.Proofs.YtlnpefiipdkafaaGreatDoor
open Go.RowKit
/-- the cells are the elements', one behind the other -/
def Els {α : Type} (sz : Nat) (O : World → List Value → α → List Nat → Prop) (w : World) : List Value → List α → List (List Nat) → Prop
  | cells, [], bss => cells = [] ∧ bss = []
  | cells, x :: xs, bss => ∃ es rest b bss', cells = es ++ rest ∧ es.length = sz ∧ O w es x b ∧ bss = b :: bss' ∧ Els sz O w rest xs bss'
section
variable {α : Type} {sz : Nat} {O : World → List Value → α → List Nat → Prop} {w w' : World}
theorem Els.nil : Els sz O w [] [] [] := ⟨rfl, rfl⟩
theorem Els.cons {es rest : List Value} {x : α} {xs : List α} {b : List Nat} {bss : List (List Nat)} (he : es.length = sz) (ho : O w es x b) (h : Els sz O w rest xs bss) : Els sz O w (es ++ rest) (x :: xs) (b :: bss) := ⟨es, rest, b, bss, rfl, he, ho, rfl, h⟩
theorem Els.len : ∀ {xs : List α} {cells : List Value} {bss : List (List Nat)}, Els sz O w cells xs bss → cells.length = xs.length * sz ∧ bss.length = xs.length
  | [], _, _, ⟨h1, h2⟩ => by subst h1 h2; simp
  | x :: xs, _, _, ⟨es, rest, b, bss', h1, h2, _, h4, h5⟩ => by
    have ih := Els.len h5
    subst h1 h4
    exact ⟨by rw [List.length_append, List.length_cons, ih.1, h2, Nat.add_mul, Nat.one_mul, Nat.add_comm], by rw [List.length_cons, List.length_cons, ih.2]⟩
theorem Els.at : ∀ {xs : List α} {cells : List Value} {bss : List (List Nat)} {i : Nat} {x : α}, Els sz O w cells xs bss → xs[i]? = some x →
    ∃ (es : List Value) (b : List Nat), es.length = sz ∧ (∀ (j : Nat) (u : Value), es[j]? = some u → cells[i * sz + j]? = some u) ∧ bss[i]? = some b ∧ O w es x b
  | [], _, _, i, x, _, hx => by simp at hx
  | y :: xs, _, _, 0, x, ⟨es, rest, b, bss', h1, h2, h3, h4, h5⟩, hx => by
    subst h1 h4
    simp at hx
    subst hx
    refine ⟨es, b, h2, fun j u hu => ?_, rfl, h3⟩
    have hj : j < es.length := (List.getElem?_eq_some_iff.1 hu).1
    rw [Nat.zero_mul, Nat.zero_add, List.getElem?_append_left hj]
    exact hu
  | y :: xs, _, _, i + 1, x, ⟨es, rest, b, bss', h1, h2, h3, h4, h5⟩, hx => by
    subst h1 h4
    obtain ⟨es', b', e1, e2, e3, e4⟩ := Els.at h5 (i := i) (x := x) (by simpa using hx)
    refine ⟨es', b', e1, fun j u hu => ?_, by simpa using e3, e4⟩
    have e : (i + 1) * sz + j = es.length + (i * sz + j) := by rw [h2, Nat.add_mul, Nat.one_mul]; omega
    rw [e, List.getElem?_append_right (by omega)]
    simpa using e2 j u hu
theorem Els.snoc {es : List Value} {x : α} {b : List Nat} (he : es.length = sz) (ho : O w es x b) : ∀ {xs : List α} {cells : List Value} {bss : List (List Nat)}, Els sz O w cells xs bss → Els sz O w (cells ++ es) (xs ++ [x]) (bss ++ [b])
  | [], _, _, ⟨h1, h2⟩ => by
    subst h1 h2
    exact ⟨es, [], b, [], by simp, he, ho, rfl, rfl, rfl⟩
  | y :: xs, _, _, ⟨es', rest, b', bss', h1, h2, h3, h4, h5⟩ => by
    subst h1 h4
    exact ⟨es', rest ++ es, b', bss' ++ [b], by simp, h2, h3, rfl, Els.snoc he ho h5⟩
theorem Els.mono {O' : World → List Value → α → List Nat → Prop} : ∀ {xs : List α} {cells : List Value} {bss : List (List Nat)}, Els sz O w cells xs bss → (∀ es x b, b ∈ bss → O w es x b → O' w' es x b) → Els sz O' w' cells xs bss
  | [], _, _, h, _ => h
  | x :: xs, _, _, ⟨es, rest, b, bss', h1, h2, h3, h4, h5⟩, hO => by
    subst h1 h4
    exact ⟨es, rest, b, bss', rfl, h2, hO _ _ _ (List.mem_cons_self ..) h3, rfl, Els.mono h5 fun es x b hb => hO es x b (List.mem_cons_of_mem _ hb)⟩
theorem Els.all {p : α → Prop} : ∀ {xs : List α} {cells : List Value} {bss : List (List Nat)}, Els sz (fun w es x b => O w es x b ∧ p x) w cells xs bss → ∀ x ∈ xs, p x
  | [], _, _, _, x, hx => by cases hx
  | y :: xs, _, _, ⟨es, rest, b, bss', h1, h2, h3, h4, h5⟩, x, hx => by
    rcases List.mem_cons.1 hx with rfl | hx
    · exact h3.2
    · exact Els.all h5 x hx
theorem Els.lt (hO : ∀ es x b, O w es x b → ∀ g ∈ b, g < w.heap.size) : ∀ {xs : List α} {cells : List Value} {bss : List (List Nat)}, Els sz O w cells xs bss → ∀ g ∈ bss.flatten, g < w.heap.size
  | [], _, _, ⟨h1, h2⟩, g, hg => by subst h2; simp at hg
  | x :: xs, _, _, ⟨es, rest, b, bss', h1, h2, h3, h4, h5⟩, g, hg => by
    subst h4
    simp only [List.flatten_cons, List.mem_append] at hg
    rcases hg with hg | hg
    · exact hO _ _ _ h3 g hg
    · exact Els.lt hO h5 g hg

/-- an own row of elements: room behind it is its own, too -/
def ORow (sz : Nat) (t : TypeId) (O : World → List Value → α → List Nat → Prop) (lo : Nat) (w : World) (v : Value) (xs : List α) (bss : List (List Nat)) : Prop :=
  ∃ cells, w.ownsRow lo t sz v xs.length cells ∧ Els sz O w cells xs bss ∧ Own lo w.heap.size (v.ownBlock.toList ++ bss.flatten)
variable {t : TypeId} {lo : Nat} {v v' : Value} {xs : List α} {bss : List (List Nat)}
theorem ORow.list (h : ORow sz t O lo w v xs bss) : OList sz t O w v xs (v.ownBlock.toList ++ bss.flatten) := by
  obtain ⟨cells, ⟨hl, ⟨rfl, h0⟩ | ⟨g, c, cur, rfl, hb, hg, h1, h2, h3, h4⟩⟩, hE, hO⟩ := h
  · have hx : xs = [] := List.eq_nil_of_length_eq_zero h0
    subst hx
    obtain ⟨e1, e2⟩ := hE
    subst e2
    exact .inl ⟨rfl, rfl, rfl⟩
  · refine .inr ⟨g, c, cur, bss, rfl, h1, h2, hg, hE.len.2, rfl, fun i x hx => ?_⟩
    obtain ⟨es, b, e1, e2, e3, e4⟩ := hE.at hx
    refine ⟨es, b, e1, fun j u hu => ?_, e3, e4⟩
    have := e2 j u hu
    rw [← h4, List.getElem?_take] at this
    split at this
    · simpa using this
    · cases this
theorem ORow.slice (h : ORow sz t O lo w v xs bss) : ∃ (A : Option Addr) (c : Nat), v = .slice A xs.length c := by
  obtain ⟨cells, ⟨hl, ⟨rfl, h0⟩ | ⟨g, c, cur, rfl, _⟩⟩, -, -⟩ := h
  · exact ⟨none, 0, by rw [h0]⟩
  · exact ⟨_, _, rfl⟩
theorem ORow.own (h : ORow sz t O lo w v xs bss) : Own lo w.heap.size (v.ownBlock.toList ++ bss.flatten) := by
  obtain ⟨_, _, _, h⟩ := h
  exact h
theorem ownsRow_same {n : Nat} {cells : List Value} (h : w.ownsRow lo t sz v n cells) (g : SameOn v.ownBlock.toList w w') : w'.ownsRow lo t sz v n cells := by
  obtain ⟨hl, ⟨rfl, h0⟩ | ⟨q, c, cur, rfl, hb, hg, rest⟩⟩ := h
  · exact ⟨hl, .inl ⟨rfl, h0⟩⟩
  · exact ⟨hl, .inr ⟨q, c, cur, rfl, hb, (g q (by simp [Value.ownBlock])).trans hg, rest⟩⟩
theorem ORow.same (h : ORow sz t O lo w v xs bss) (g : SameOn (v.ownBlock.toList ++ bss.flatten) w w') (hs : w.heap.size ≤ w'.heap.size) (hO : ∀ es x b, O w es x b → SameOn b w w' → O w' es x b) : ORow sz t O lo w' v xs bss := by
  obtain ⟨cells, h1, h2, h3⟩ := h
  refine ⟨cells, ownsRow_same h1 (g.sub (by simp +contextual)), h2.mono fun es x b hb ho => hO _ _ _ ho (g.sub fun q hq => ?_), h3.mono (Nat.le_refl _) hs⟩
  exact List.mem_append_right _ (List.mem_flatten.2 ⟨b, hb, hq⟩)
theorem ORow.base {lo' : Nat} (h : ORow sz t O lo w v xs bss) (hl : lo' ≤ lo) : ORow sz t O lo' w v xs bss := by
  obtain ⟨cells, ⟨q, h1⟩, h2, h3⟩ := h
  refine ⟨cells, ⟨q, ?_⟩, h2, h3.mono hl (Nat.le_refl _)⟩
  rcases h1 with h1 | ⟨g, c, cur, hv, hb, rest⟩
  · exact .inl h1
  · exact .inr ⟨g, c, cur, hv, Nat.le_trans hl hb, rest⟩
theorem ORow.chg {ds : List Nat} (h : ORow sz t O lo w v xs bss) (c : Chg ds w w') (hd : ∀ g ∈ ds, g < lo) (hO : ∀ w' es x b, O w es x b → SameOn b w w' → O w' es x b) : ORow sz t O lo w' v xs bss :=
  h.same (c.same (fun g hg => (h.own.2 g hg).2) (fun g hg hm => by have := hd g hm; have := (h.own.2 g hg).1; omega)) c.size (hO w')
theorem ORow.empty (hl : lo ≤ w.heap.size) : ORow sz t O lo (w.alloc (.cells #[] t)) (.slice (some ⟨w.heap.size, 0, none⟩) 0 0) ([] : List α) [] :=
  ⟨[], ⟨by simp, .inr ⟨_, 0, #[], rfl, hl, Blk.new w _ _, Nat.le_refl _, Nat.zero_le _, by simp, by simp⟩⟩, Els.nil, by simp [Value.ownBlock]; exact Own.one hl (by simp)⟩
/-- a row that is laid at once -/
theorem ORow.lit {cs : Array Value} (hE : Els sz O (w.alloc (.cells cs t)) cs.toList xs bss) (hm : xs.length ≤ maxLen) (hl : lo ≤ w.heap.size) (ho : Own lo w.heap.size bss.flatten) :
    ORow sz t O lo (w.alloc (.cells cs t)) (.slice (some ⟨w.heap.size, 0, none⟩) xs.length xs.length) xs bss := by
  refine ⟨cs.toList, World.ownsRow_lit w cs xs.length hl hm (by simpa using hE.len.1), hE, ?_⟩
  refine ⟨?_, fun g hg => ?_⟩
  · simp only [Value.ownBlock, Option.toList_some, List.singleton_append, List.nodup_cons]
    exact ⟨fun hm => by have := ho.2 _ hm; omega, ho.1⟩
  · simp only [Value.ownBlock, Option.toList_some, List.singleton_append, List.mem_cons] at hg
    rcases hg with rfl | hg
    · exact ⟨hl, by simp⟩
    · have := ho.2 g hg
      exact ⟨this.1, by simp; omega⟩
/-- an element more: u is the world just ahead of the append -/
theorem ORow.snoc {u w4 : World} {cells es : List Value} {x : α} {b : List Nat} (hE : Els sz O u cells xs bss) (hon : Own lo u.heap.size (v.ownBlock.toList ++ bss.flatten ++ b)) (hlo : lo ≤ u.heap.size) (g : u.grownBy w4 v.ownBlock) (hat : v'.ownBlock = v.ownBlock ∨ v'.ownBlock = some u.heap.size)
    (hrow : w4.ownsRow lo t sz v' (xs.length + 1) (cells ++ es)) (hel : es.length = sz) (he : O u es x b) (hO : ∀ es x b, O u es x b → SameOn b u w4 → O w4 es x b) : ORow sz t O lo w4 v' (xs ++ [x]) (bss ++ [b]) := by
  have key : ∀ b', (∀ q ∈ b', q ∈ bss.flatten ++ b) → SameOn b' u w4 := fun b' hb q hq => by
    have hm := hb q hq
    refine g.block q (hon.2 q (by rw [List.append_assoc]; exact List.mem_append_right _ hm)).2 fun e => ?_
    have hn := hon.1
    rw [List.append_assoc, List.nodup_append] at hn
    exact hn.2.2 q (by rw [← e]; simp) q hm rfl
  refine ⟨cells ++ es, by rw [List.length_append]; exact hrow, ?_, ?_⟩
  · refine (Els.snoc hel he hE).mono fun es x b' hb ho => hO _ _ _ ho (key _ fun q hq => ?_)
    rcases List.mem_append.1 hb with hb | hb
    · exact List.mem_append_left _ (List.mem_flatten.2 ⟨b', hb, hq⟩)
    · simp at hb
      subst hb
      exact List.mem_append_right _ hq
  · rw [List.flatten_append, List.flatten_singleton, ← List.append_assoc]
    rcases hat with hat | hat
    · rw [hat]
      exact hon.mono (Nat.le_refl _) g.size
    · rw [hat]
      have hlt : u.heap.size < w4.heap.size := (hrow.lt _ hat).2
      refine ⟨?_, fun q hq => ?_⟩
      · have hn := hon.1
        rw [List.append_assoc, List.nodup_append] at hn
        simp only [Option.toList_some, List.cons_append, List.nodup_cons]
        exact ⟨fun hm => by have := (hon.2 _ (by rw [List.append_assoc]; exact List.mem_append_right _ hm)).2; omega, hn.2.1⟩
      · simp only [Option.toList_some, List.cons_append, List.mem_cons] at hq
        rcases hq with rfl | hq
        · exact ⟨hlo, hlt⟩
        · have := hon.2 q (by rw [List.append_assoc]; exact List.mem_append_right _ hq)
          exact ⟨this.1, by omega⟩
/-- one cell of an element is written -/
theorem OList.put {g c n i j : Nat} {bs : List Nat} {u : Value} {x x' : α} (h : OList sz t O w (.slice (some ⟨g, 0, none⟩) n c) xs bs) (hn : bs.Nodup) (hj : j < sz) (hx : xs[i]? = some x) (hu : ∀ es b, O w es x b → O w (es.set j u) x' b)
    (hO : ∀ es x b, O w es x b → SameOn b w (w.setCell ⟨g, i * sz + j, none⟩ u) → O (w.setCell ⟨g, i * sz + j, none⟩ u) es x b) : OList sz t O (w.setCell ⟨g, i * sz + j, none⟩ u) (.slice (some ⟨g, 0, none⟩) n c) (xs.set i x') bs := by
  rcases h with ⟨h, _, _⟩ | ⟨g', c', cs, bss, hv, h1, h2, hb, hl, rfl, hc⟩
  · cases h
  · injection hv with e1 e2 e3
    injection e1 with e1
    injection e1 with e1
    subst e1 e2 e3
    have hi : i < xs.length := (List.getElem?_eq_some_iff.1 hx).1
    have key : ∀ b, b ∈ bss → SameOn b w (w.setCell ⟨g, i * sz + j, none⟩ u) := fun b hb' q hq => Below.heap_setCell _ _ _ _ (by
      rintro rfl
      rw [List.nodup_cons] at hn
      exact hn.1 (List.mem_flatten.2 ⟨b, hb', hq⟩))
    refine .inr ⟨g, c, cs.setIfInBounds (i * sz + j) u, bss, by rw [List.length_set], by rw [List.length_set]; exact h1, h2, hb.set_ _ _, by rw [List.length_set]; exact hl, rfl, fun k y hy => ?_⟩
    by_cases hk : k = i
    · subst hk
      rw [List.getElem?_set_self hi] at hy
      injection hy with hy
      subst hy
      obtain ⟨es, b, e1, e2, e3, e4⟩ := hc k x hx
      refine ⟨es.set j u, b, by rw [List.length_set]; exact e1, fun j' u' hu' => ?_, e3, hO _ _ _ (hu _ _ e4) (key b (List.mem_of_getElem? e3))⟩
      by_cases hjj : j' = j
      · subst hjj
        rw [List.getElem?_set_self (by omega)] at hu'
        obtain ⟨u0, hu0⟩ : ∃ u0, es[j']? = some u0 := ⟨_, List.getElem?_eq_getElem (by omega)⟩
        have := (Array.getElem?_eq_some_iff.1 (e2 _ _ hu0)).1
        rw [Array.getElem?_setIfInBounds_self_of_lt this]
        exact hu'
      · rw [List.getElem?_set_ne (fun q => hjj q.symm)] at hu'
        rw [Array.getElem?_setIfInBounds_ne (by omega)]
        exact e2 _ _ hu'
    · rw [List.getElem?_set_ne (fun q => hk q.symm)] at hy
      obtain ⟨es, b, e1, e2, e3, e4⟩ := hc k y hy
      refine ⟨es, b, e1, fun j' u' hu' => ?_, e3, hO _ _ _ e4 (key b (List.mem_of_getElem? e3))⟩
      have hj' : j' < sz := by have := (List.getElem?_eq_some_iff.1 hu').1; omega
      rw [Array.getElem?_setIfInBounds_ne ?_]
      · exact e2 _ _ hu'
      · intro e
        rcases Nat.lt_or_gt_of_ne hk with hlt | hgt
        · have : (k + 1) * sz ≤ i * sz := Nat.mul_le_mul_right _ hlt
          rw [Nat.add_mul, Nat.one_mul] at this
          omega
        · have : (i + 1) * sz ≤ k * sz := Nat.mul_le_mul_right _ hgt
          rw [Nat.add_mul, Nat.one_mul] at this
          omega
/-- what an element's cells hold -/
theorem OList.cellAt {g c n i : Nat} {bs : List Nat} {x : α} (h : OList sz t O w (.slice (some ⟨g, 0, none⟩) n c) xs bs) (hx : xs[i]? = some x) :
    ∃ (es : List Value) (b : List Nat), es.length = sz ∧ (∀ (j : Nat) (u : Value), es[j]? = some u → w.cell? ⟨g, i * sz + j, none⟩ = some u) ∧ O w es x b ∧ (∀ q ∈ b, q ∈ bs) ∧ (bs.Nodup → b.Nodup ∧ g ∉ b) := by
  rcases h with ⟨h, _, _⟩ | ⟨g', c', cs, bss, hv, h1, h2, hb, hl, rfl, hc⟩
  · cases h
  · injection hv with e1 e2 e3
    injection e1 with e1
    injection e1 with e1
    subst e1 e2 e3
    obtain ⟨es, b, e1, e2, e3, e4⟩ := hc i x hx
    have hm : b ∈ bss := List.mem_of_getElem? e3
    refine ⟨es, b, e1, fun j u hu => by rw [hb.cell]; exact e2 j u hu, e4, fun q hq => List.mem_cons_of_mem _ (List.mem_flatten.2 ⟨b, hm, hq⟩), fun hn => ?_⟩
    rw [List.nodup_cons] at hn
    exact ⟨(List.sublist_flatten_of_mem hm).nodup hn.2, fun hq => hn.1 (List.mem_flatten.2 ⟨b, hm, hq⟩)⟩
theorem OList.rowAt {bs : List Nat} (h : OList sz t O w v xs bs) (hn : 1 ≤ xs.length) : ∃ g c : Nat, v = .slice (some ⟨g, 0, none⟩) xs.length c ∧ g ∈ bs ∧ xs.length ≤ c ∧ c ≤ maxLen ∧ g < w.heap.size ∧ (∀ o, w.frozen? ⟨g, o, none⟩ = false) ∧ v.ownBlock = some g := by
  rcases h with ⟨_, rfl, _⟩ | ⟨g, c, cs, bss, hv, h1, h2, hb, hl, rfl, hc⟩
  · simp at hn
  · exact ⟨g, c, hv, List.mem_cons_self .., h1, h2, hb.lt, hb.frozen, by rw [hv]; rfl⟩
end
theorem cells_new (w : World) (cs : Array Value) (t : TypeId) : ∀ (j : Nat) (u : Value), cs.toList[j]? = some u → (w.alloc (.cells cs t)).cell? ((⟨w.heap.size, 0, none⟩ : Addr).add j) = some u := fun j u hu => by
  have h := (Blk.new w t cs).cell j
  rcases j with _ | j
  · simpa [Addr.add, h] using hu
  · simpa [Addr.add, h] using hu
section
variable {P : Program} {w : World} {α : Type} {sz : Nat} {e : TypeId} {O : World → List Value → α → List Nat → Prop} {lo : Nat} {v : Value} {xs : List α} {bss : List (List Nat)} {i : TypeInfo} {z : Value}
/-- an element is appended to an own row -/
theorem run_append_row (ts ty : TypeId) (ht : P.underlying ts = some (.slice e)) (hi : P.info? e = some i) (hz : i.zero = some z) (hsz : i.size = sz) (hb : i.bytes ≤ 256) (hzs : z.cells.size = sz) (h0 : 0 < sz)
    (hrow : ORow sz e O lo w v xs bss) (hlo : lo ≤ w.heap.size) (ad : Addr) (c : Nat) (es : List Value) (y : α) (b : List Nat) (hl : es.length = sz) (hnews : ∀ j u, es[j]? = some u → w.cell? (ad.add j) = some u) (h1 : ∀ u ∈ es, u.oneCell' = true)
    (hn : xs.length ≤ 1000) (hO : O w es y b) (hown : Own lo w.heap.size (v.ownBlock.toList ++ bss.flatten ++ b)) (hkeep : ∀ w' es x b, O w es x b → SameOn b w w' → O w' es x b) :
    ∃ v' w', (Builtin.append_ #[ts, ts] ty #[v, .slice (some ad) 1 c]).run P w = .ok v' w' ∧ ORow sz e O lo w' v' (xs ++ [y]) (bss ++ [b]) ∧ w.grownBy w' v.ownBlock ∧ (v'.ownBlock = v.ownBlock ∨ v'.ownBlock = some w.heap.size) := by
  obtain ⟨cells, hr, hE, hO'⟩ := hrow
  have hbb : (xs.length + 1) * i.bytes ≤ 1001 * 256 := Nat.mul_le_mul (by omega) hb
  obtain ⟨v', w', e1, e2, e3, -, e5⟩ := run_append_own_at (P := P) w lo ts ty e i z sz i.bytes ht hi hz hsz rfl hzs h0 v xs.length cells hr ad 1 c es (by rw [hl, Nat.one_mul]) hnews h1 (by unfold maxLen; omega) (by omega) hlo
  exact ⟨v', w', e1, ORow.snoc hE hown hlo e3 e5 e2 hl hO (hkeep _), e3, e5⟩
theorem wp_append_row {o : Oper} {a : Act} {K : Act → World → Prop} {Q : Exit → Act → World → Prop} (s x : Operand) (ts : TypeId) (ho : o.op = .call { callee := .builtin .append, args := #[s, x], argTypes := #[ts, ts] })
    (ht : P.underlying ts = some (.slice e)) (hi : P.info? e = some i) (hz : i.zero = some z) (hsz : i.size = sz) (hb : i.bytes ≤ 256) (hzs : z.cells.size = sz) (h0 : 0 < sz) (hs : a.eval s = v)
    (hrow : ORow sz e O lo w v xs bss) (hlo : lo ≤ w.heap.size) (ad : Addr) (c : Nat) (es : List Value) (y : α) (b : List Nat) (hx : a.eval x = .slice (some ad) 1 c) (hl : es.length = sz) (hnews : ∀ j u, es[j]? = some u → w.cell? (ad.add j) = some u) (h1 : ∀ u ∈ es, u.oneCell' = true)
    (hn : xs.length ≤ 1000) (hO : O w es y b) (hown : Own lo w.heap.size (v.ownBlock.toList ++ bss.flatten ++ b)) (hkeep : ∀ w' es x b, O w es x b → SameOn b w w' → O w' es x b)
    (h : ∀ v' w', ORow sz e O lo w' v' (xs ++ [y]) (bss ++ [b]) → w.grownBy w' v.ownBlock → (v'.ownBlock = v.ownBlock ∨ v'.ownBlock = some w.heap.size) → K (a.put o.dst v') w') : o.wp P a w K Q := by
  obtain ⟨v', w', hr, h2, h3, h4⟩ := run_append_row (P := P) ts o.type ht hi hz hsz hb hzs h0 hrow hlo ad c es y b hl hnews h1 hn hO hown hkeep
  unfold Oper.wp execOp
  simp only [ho, resolve, invoke, builtin, Sem.run_bind, Sem.run_pure, Result.andThen_ok, List.map_toArray, List.map_cons, List.map_nil, hs, hx, hr]
  exact h v' w' h2 h3 h4
theorem wpList_append_row {ops : Array Oper} {rest : List Oper} {o : Oper} {a : Act} {Q : Exit → Act → World → Prop} (hgd : o.guard = none) (s x : Operand) (ts : TypeId) (ho : o.op = .call { callee := .builtin .append, args := #[s, x], argTypes := #[ts, ts] })
    (ht : P.underlying ts = some (.slice e)) (hi : P.info? e = some i) (hz : i.zero = some z) (hsz : i.size = sz) (hb : i.bytes ≤ 256) (hzs : z.cells.size = sz) (h0 : 0 < sz) (hs : a.eval s = v)
    (hrow : ORow sz e O lo w v xs bss) (hlo : lo ≤ w.heap.size) (ad : Addr) (c : Nat) (es : List Value) (y : α) (b : List Nat) (hx : a.eval x = .slice (some ad) 1 c) (hl : es.length = sz) (hnews : ∀ j u, es[j]? = some u → w.cell? (ad.add j) = some u) (h1 : ∀ u ∈ es, u.oneCell' = true)
    (hn : xs.length ≤ 1000) (hO : O w es y b) (hown : Own lo w.heap.size (v.ownBlock.toList ++ bss.flatten ++ b)) (hkeep : ∀ w' es x b, O w es x b → SameOn b w w' → O w' es x b)
    (h : ∀ v' w', ORow sz e O lo w' v' (xs ++ [y]) (bss ++ [b]) → w.grownBy w' v.ownBlock → (v'.ownBlock = v.ownBlock ∨ v'.ownBlock = some w.heap.size) → wpList P ops Q rest (a.put o.dst v') w') : wpList P ops Q (o :: rest) a w :=
  wpList_plain hgd fun _ hK => wp_append_row s x ts ho ht hi hz hsz hb hzs h0 hs hrow hlo ad c es y b hx hl hnews h1 hn hO hown hkeep fun v' w' h2 h3 h4 => hK _ _ (h v' w' h2 h3 h4)
end
end Go.Proofs.YtlnpefiipdkafaaGreatDoor
