/-
  The state of a loop that copies a slice's elements into a new slice, each of sz cells.
-/
import Derived.Test.YtocahjbmnkadjaaGreatDoorGA
namespace Go.Proofs.YtocahjbmnkadjaaGreatDoor
open Go.RowKit

/-- cells stored one behind the other -/
def setAll (w : World) (g : Nat) : Nat → List Value → World
  | _, [] => w
  | o, e :: es => setAll (w.setCell ⟨g, o, none⟩ e) g (o + 1) es
def arrSet (cs : Array Value) : Nat → List Value → Array Value
  | _, [] => cs
  | o, e :: es => arrSet (cs.setIfInBounds o e) (o + 1) es
theorem setAll_blk {g : Nat} {t : TypeId} (es : List Value) : ∀ {w : World} {cs : Array Value} (o : Nat), Blk w g t cs → Blk (setAll w g o es) g t (arrSet cs o es) := by
  induction es with
  | nil => exact fun o h => h
  | cons e es ih => exact fun o h => ih (o + 1) (h.set_ o e)
theorem arrSet_size (es : List Value) : ∀ {cs : Array Value} (o : Nat), (arrSet cs o es).size = cs.size := by
  induction es with
  | nil => exact fun _ => rfl
  | cons e es ih => intro cs o; unfold arrSet; rw [ih]; simp
theorem arrSet_far (es : List Value) : ∀ {cs : Array Value} (o i : Nat), i < o ∨ o + es.length ≤ i → (arrSet cs o es)[i]? = cs[i]? := by
  induction es with
  | nil => exact fun _ _ _ => rfl
  | cons e es ih =>
    intro cs o i h
    unfold arrSet
    simp only [List.length_cons] at h
    rw [ih (o + 1) i (by omega), Array.getElem?_setIfInBounds, if_neg (by omega)]
theorem arrSet_at (es : List Value) : ∀ {cs : Array Value} (o j : Nat) (u : Value), es[j]? = some u → o + es.length ≤ cs.size → (arrSet cs o es)[o + j]? = some u := by
  induction es with
  | nil => intro cs o j u h; simp at h
  | cons e es ih =>
    intro cs o j u h hs
    unfold arrSet
    simp only [List.length_cons] at hs
    cases j with
    | zero =>
      show (arrSet (cs.setIfInBounds o e) (o + 1) es)[o]? = some u
      rw [arrSet_far es (o + 1) o (.inl (by omega)), Array.getElem?_setIfInBounds, if_pos rfl, if_pos (by omega)]
      simpa using h
    | succ j =>
      have := ih (cs := cs.setIfInBounds o e) (o + 1) j u (by simpa using h) (by simp; omega)
      rw [← this]
      congr 1
      omega
theorem setAll_grows {w0 : World} {g : Nat} (hg : w0.heap.size ≤ g) (es : List Value) : ∀ {w : World} (o : Nat), Grows w0 w → Grows w0 (setAll w g o es) := by
  induction es with
  | nil => exact fun _ h => h
  | cons e es ih => exact fun o h => ih (o + 1) (h.setCell hg e)
theorem setAll_size {g : Nat} (es : List Value) : ∀ {w : World} (o : Nat), (setAll w g o es).heap.size = w.heap.size := by
  induction es with
  | nil => exact fun _ => rfl
  | cons e es ih => intro w o; unfold setAll; rw [ih]; simp
theorem setAll_same {g : Nat} {bs : List Nat} (hg : ∀ q ∈ bs, q ≠ g) (es : List Value) : ∀ {w0 w : World} (o : Nat), SameOn bs w0 w → SameOn bs w0 (setAll w g o es) := by
  induction es with
  | nil => exact fun _ h => h
  | cons e es ih => exact fun o h => ih (o + 1) (h.set hg e)

/-- the copy's state behind k rounds: the new slice's block is the first behind w -/
def CopyG {α : Type} (sz : Nat) (t : TypeId) (O : World → List Value → α → List Nat → Prop) (w wr : World) (xs : List α) (k : Nat) : Prop :=
  ∃ (cs : Array Value) (bss : List (List Nat)), Blk wr w.heap.size t cs ∧ cs.size = xs.length * sz ∧ bss.length = k ∧ Own (w.heap.size + 1) wr.heap.size bss.flatten ∧ Grows w wr ∧
    ∀ (i : Nat) (x : α), i < k → xs[i]? = some x → ∃ (es : List Value) (b : List Nat), es.length = sz ∧ (∀ (j : Nat) (u : Value), es[j]? = some u → cs[i * sz + j]? = some u) ∧ bss[i]? = some b ∧ O wr es x b
section
variable {α : Type} {sz : Nat} {t : TypeId} {O : World → List Value → α → List Nat → Prop} {w wr u : World} {xs : List α} {k : Nat} {x : α}
theorem lt_of_at (h : xs[k]? = some x) : k < xs.length := (List.getElem?_eq_some_iff.1 h).1
theorem CopyG.start (cs : Array Value) (hb : Blk wr w.heap.size t cs) (hs : cs.size = xs.length * sz) (hg : Grows w wr) : CopyG sz t O w wr xs 0 :=
  ⟨cs, [], hb, hs, rfl, Own.nil, hg, fun _ _ hi => absurd hi (Nat.not_lt_zero _)⟩
theorem CopyG.step (h : CopyG sz t O w wr xs k) (hO : ∀ (w w' : World) cs x b, O w cs x b → SameOn b w w' → O w' cs x b) (hx : xs[k]? = some x) (g : Grows wr u) {es : List Value} {b : List Nat}
    (ho : O u es x b) (ow : Own wr.heap.size u.heap.size b) (hes : es.length = sz) : CopyG sz t O w (setAll u w.heap.size (k * sz) es) xs (k + 1) := by
  obtain ⟨cs, bss, hb, hs, hl, hown, hg, hc⟩ := h
  have hk := lt_of_at hx
  have hlt := hb.lt
  have hm : k * sz + sz ≤ xs.length * sz := by
    have := Nat.mul_le_mul_right sz hk
    rw [Nat.succ_mul] at this
    exact this
  refine ⟨_, bss ++ [b], setAll_blk es _ (hb.grows g), by rw [arrSet_size, hs], by simp [hl], ?_, setAll_grows (Nat.le_refl _) es _ (hg.trans g), fun i y hi hy => ?_⟩
  · rw [setAll_size]
    have := hown.append ow hlt g.size
    simpa using this
  · by_cases e : i = k
    · subst e
      rw [hx] at hy
      injection hy with hy
      subst hy
      refine ⟨es, b, hes, fun j v hv => arrSet_at es _ j v hv (by rw [hs, hes]; exact hm), by rw [List.getElem?_append_right (by omega), hl]; simp, hO _ _ _ _ _ ho (setAll_same (fun q hq e => ?_) es _ (SameOn.refl _ _))⟩
      have := (ow.2 q hq).1
      omega
    · have hik : i < k := by omega
      obtain ⟨fs, b', hf, hcs, hbi, ho'⟩ := hc i y hik hy
      have hin : ∀ q ∈ b', q ∈ bss.flatten := fun q hq => List.mem_flatten.2 ⟨b', List.mem_of_getElem? hbi, hq⟩
      refine ⟨fs, b', hf, fun j v hv => ?_, by rw [List.getElem?_append_left (by omega)]; exact hbi, hO _ _ _ _ _ ho' (setAll_same (fun q hq e => ?_) es _ ((SameOn.refl _ _).grows (fun q hq => (hown.2 q (hin q hq)).2) g))⟩
      · have hj := lt_of_at hv
        have : i * sz + sz ≤ k * sz := by
          have := Nat.mul_le_mul_right sz hik
          rw [Nat.succ_mul] at this
          exact this
        rw [arrSet_far es _ _ (.inl (by omega))]
        exact hcs j v hv
      · have := (hown.2 q (hin q hq)).1
        omega
theorem CopyG.done (h : CopyG sz t O w wr xs xs.length) (hl : xs.length ≤ maxLen) :
    ∃ bs, OList sz t O wr (.slice (some ⟨w.heap.size, 0, none⟩) xs.length xs.length) xs bs ∧ Own w.heap.size wr.heap.size bs ∧ Grows w wr := by
  obtain ⟨cs, bss, hb, hs, hl2, hown, hg, hc⟩ := h
  refine ⟨_, .inr ⟨_, _, cs, bss, rfl, Nat.le_refl _, hl, hb, hl2, rfl, fun i x hx => hc i x (lt_of_at hx) hx⟩, ?_, hg⟩
  have := (Own.one (Nat.le_refl w.heap.size) (Nat.lt_succ_self _)).append hown (Nat.le_succ _) hb.lt
  simpa using this
end
end Go.Proofs.YtocahjbmnkadjaaGreatDoor
/-
  Base of the texts on slices of structs.
-/
namespace Go.Proofs.YtocahjbmnkadjaaGreatDoor
open Go.RowKit
theorem eq_of_getElem2? {α : Type} {xs ys : List α} (hl : xs.length = ys.length) (h : ∀ i, i < xs.length → xs[i]? = ys[i]?) : xs = ys := by
  apply List.ext_getElem?
  intro i
  rcases Nat.lt_or_ge i xs.length with hi | hi
  · exact h i hi
  · rw [List.getElem?_eq_none hi, List.getElem?_eq_none (by omega)]
theorem list2 {cs : List Value} (h : cs.length = 2) : ∃ c0 c1 : Value, cs = [c0, c1] := by
  match cs, h with
  | [a, b], _ => exact ⟨a, b, rfl⟩
theorem strNe {a b : ByteArray} (h : ¬ a = b) : (a.toList == b.toList) = false := by
  rw [Bool.eq_false_iff]
  intro e
  rw [beq_iff_eq, ByteArray.toList_eq, ByteArray.toList_eq] at e
  exact h (ByteArray.ext (Array.toList_inj.mp e))
end Go.Proofs.YtocahjbmnkadjaaGreatDoor
/-
  A struct and the slices of it: owned, small, its budget, copy and equality.
-/
namespace Go.Proofs.YtocahjbmnkadjaaGreatDoor
open Go.RowKit

theorem szInts_s {v : Value} {xs : List Int} (left : Int) (w : World) (h : RInts w v xs) (h1 : 0 ≤ left) (h2 : left ≤ 1048576) :
    Calls Tryz.prog 57 #[v, .int .i64 left] w (SzPost (SmL xs) w) :=
  (szInts_p left w h h1 h2).mono fun _ _ ⟨r, he, a, b, s, hw⟩ => ⟨r, he, a, b, s, by rw [← hw]; exact Grows.refl _⟩
theorem szInts_w {v : Value} {xs : List Int} (left : Int) (w : World) (h : RInts w v xs) (h1 : 0 ≤ left) (h2 : left ≤ 1048576) :
    Calls Tryz.prog 57 #[v, .int .i64 left] w (SzPostW (SmL xs) xs.length left w) :=
  (szInts_q left w h h1 h2).mono fun _ _ ⟨r, he, a, b, s, hw⟩ => ⟨r, he, a, b, s, by rw [← hw]; exact Grows.refl _⟩
end Go.Proofs.YtocahjbmnkadjaaGreatDoor
