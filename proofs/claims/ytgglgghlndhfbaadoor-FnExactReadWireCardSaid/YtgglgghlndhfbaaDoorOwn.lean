/-
  A value that reads as a datum and whose memory is all its own: the blocks that it lies in are listed, each known whole.
-/
import Derived.Test.YtgglgghlndhfbaaDoorInts
namespace Go.Proofs.YtgglgghlndhfbaaDoor
open Go.RowKit

/-- blocks of one's own, from lo on, below hi -/
def Own (lo hi : Nat) (bs : List Nat) : Prop := bs.Nodup ∧ ∀ g ∈ bs, lo ≤ g ∧ g < hi
theorem Own.nil {lo hi : Nat} : Own lo hi [] := ⟨List.nodup_nil, fun _ h => by cases h⟩
theorem Own.one {lo hi g : Nat} (h : lo ≤ g) (h2 : g < hi) : Own lo hi [g] := ⟨by simp, fun x hx => by simp at hx; omega⟩
theorem Own.mono {lo hi lo' hi' : Nat} {bs : List Nat} (h : Own lo hi bs) (h1 : lo' ≤ lo) (h2 : hi ≤ hi') : Own lo' hi' bs := ⟨h.1, fun g hg => by have := h.2 g hg; omega⟩
theorem Own.append {lo m hi : Nat} {bs cs : List Nat} (h : Own lo m bs) (k : Own m hi cs) (h1 : lo ≤ m) (h2 : m ≤ hi) : Own lo hi (bs ++ cs) := by
  refine ⟨List.nodup_append.2 ⟨h.1, k.1, fun a ha b hb e => ?_⟩, fun g hg => ?_⟩
  · have := h.2 a ha; have := k.2 b hb; omega
  · rcases List.mem_append.1 hg with hg | hg
    · have := h.2 g hg; omega
    · have := k.2 g hg; omega

/-- these blocks are as they were -/
def SameOn (bs : List Nat) (w w' : World) : Prop := ∀ g ∈ bs, w'.heap[g]? = w.heap[g]?
theorem SameOn.refl (bs : List Nat) (w : World) : SameOn bs w w := fun _ _ => rfl
theorem SameOn.trans {bs : List Nat} {a b c : World} (h : SameOn bs a b) (k : SameOn bs b c) : SameOn bs a c := fun g hg => (k g hg).trans (h g hg)
theorem SameOn.set {bs : List Nat} {w w' : World} (h : SameOn bs w w') {p : Addr} (hp : ∀ g ∈ bs, g ≠ p.block) (u : Value) : SameOn bs w (w'.setCell p u) :=
  fun g hg => (Below.heap_setCell _ _ _ _ (hp g hg)).trans (h g hg)
theorem SameOn.grows {bs : List Nat} {w w' w'' : World} (h : SameOn bs w w') (hb : ∀ g ∈ bs, g < w'.heap.size) (k : Grows w' w'') : SameOn bs w w'' :=
  fun g hg => (Below.block k g (hb g hg)).trans (h g hg)
theorem SameOn.sub {bs cs : List Nat} {w w' : World} (h : SameOn bs w w') (hs : ∀ g ∈ cs, g ∈ bs) : SameOn cs w w' := fun g hg => h g (hs g hg)

/-- a slice of elements of sz cells each, in a block of its own of element type t -/
def OList {α : Type} (sz : Nat) (t : TypeId) (O : World → List Value → α → List Nat → Prop) (w : World) (v : Value) (xs : List α) (bs : List Nat) : Prop :=
  (v = .slice none 0 0 ∧ xs = [] ∧ bs = []) ∨
  ∃ (g c : Nat) (cs : Array Value) (bss : List (List Nat)), v = .slice (some ⟨g, 0, none⟩) xs.length c ∧ xs.length ≤ c ∧ c ≤ maxLen ∧ Blk w g t cs ∧ bss.length = xs.length ∧ bs = g :: bss.flatten ∧
    ∀ (i : Nat) (x : α), xs[i]? = some x → ∃ (es : List Value) (b : List Nat), es.length = sz ∧ (∀ (j : Nat) (u : Value), es[j]? = some u → cs[i * sz + j]? = some u) ∧ bss[i]? = some b ∧ O w es x b

section
variable {α : Type} {sz : Nat} {t : TypeId} {O : World → List Value → α → List Nat → Prop} {R : World → List Value → α → Prop} {w w' : World} {v : Value} {xs : List α} {bs : List Nat}
theorem OList.reads (h : OList sz t O w v xs bs) (hR : ∀ cs x b, O w cs x b → R w cs x) : RList sz R w v xs := by
  rcases h with ⟨rfl, rfl, rfl⟩ | ⟨g, c, cs, bss, rfl, h1, h2, hb, hl, rfl, hc⟩
  · exact ⟨_, _, rfl, Nat.le_refl _, by unfold maxLen; omega, .inl rfl⟩
  · refine ⟨_, _, rfl, h1, h2, .inr ⟨_, _, rfl, fun i x hx => ?_⟩⟩
    obtain ⟨es, b, hes, hcs, _, ho⟩ := hc i x hx
    exact ⟨es, hes, fun j u hu => by rw [hb.cell, Nat.zero_add]; exact hcs j u hu, hR _ _ _ ho⟩
theorem OList.same (h : OList sz t O w v xs bs) (hg : SameOn bs w w') (hO : ∀ cs x b, O w cs x b → SameOn b w w' → O w' cs x b) : OList sz t O w' v xs bs := by
  rcases h with h | ⟨g, c, cs, bss, hv, h1, h2, hb, hl, hbs, hc⟩
  · exact .inl h
  · subst hbs
    refine .inr ⟨g, c, cs, bss, hv, h1, h2, (hg g (List.mem_cons_self ..)).trans hb, hl, rfl, fun i x hx => ?_⟩
    obtain ⟨es, b, hes, hcs, hbi, ho⟩ := hc i x hx
    exact ⟨es, b, hes, hcs, hbi, hO _ _ _ ho (hg.sub fun q hq => List.mem_cons_of_mem _ (List.mem_flatten.2 ⟨b, List.mem_of_getElem? hbi, hq⟩))⟩
theorem OList.lt (h : OList sz t O w v xs bs) (hO : ∀ cs x b, O w cs x b → ∀ g ∈ b, g < w.heap.size) : ∀ g ∈ bs, g < w.heap.size := by
  rcases h with ⟨_, _, rfl⟩ | ⟨g, c, cs, bss, hv, h1, h2, hb, hl, rfl, hc⟩
  · intro g hg; cases hg
  · intro q hq
    rcases List.mem_cons.1 hq with rfl | hq
    · exact hb.lt
    · obtain ⟨b, hb, hq⟩ := List.mem_flatten.1 hq
      obtain ⟨i, hi⟩ := List.getElem?_of_mem hb
      have hlt : i < xs.length := by have := (List.getElem?_eq_some_iff.1 hi).1; omega
      obtain ⟨es, b', _, _, hbi, ho⟩ := hc i _ (List.getElem?_eq_getElem hlt)
      rw [hi] at hbi
      injection hbi with hbi
      subst hbi
      exact hO _ _ _ ho q hq
end

def OI (_ : World) (cs : List Value) (x : Int) (b : List Nat) : Prop := cs = [.int .i64 x] ∧ b = []
def OInts : World → Value → List Int → List Nat → Prop := OList 1 2 OI
theorem OInts.reads {w : World} {v : Value} {xs : List Int} {bs : List Nat} (h : OInts w v xs bs) : RInts w v xs := OList.reads h fun _ _ _ h => h.1
theorem OInts.same {w w' : World} {v : Value} {xs : List Int} {bs : List Nat} (h : OInts w v xs bs) (g : SameOn bs w w') : OInts w' v xs bs := OList.same h g fun _ _ _ h _ => h
theorem OInts.lt {w : World} {v : Value} {xs : List Int} {bs : List Nat} (h : OInts w v xs bs) : ∀ g ∈ bs, g < w.heap.size := OList.lt h fun _ _ _ h g hg => by rw [h.2] at hg; cases hg
theorem NewInts.own {w w' : World} {v : Value} {xs : List Int} (h : NewInts w w' v xs) (hl : xs.length ≤ maxLen) : OInts w' v xs [w.heap.size] ∧ Own w.heap.size w'.heap.size [w.heap.size] ∧ Grows w w' := by
  obtain ⟨cs, hv, hb, hs, hc, hg⟩ := h
  refine ⟨.inr ⟨_, _, cs, List.replicate xs.length [], hv, Nat.le_refl _, hl, hb, by simp, ?_, fun i x hx => ?_⟩, Own.one (Nat.le_refl _) hb.lt, hg⟩
  · congr 1
    symm
    rw [List.flatten_eq_nil_iff]
    intro l hl
    exact (List.mem_replicate.1 hl).2
  · have hi : i < xs.length := (List.getElem?_eq_some_iff.1 hx).1
    refine ⟨[.int .i64 x], [], rfl, fun j u hu => ?_, by rw [List.getElem?_replicate, if_pos hi], rfl, rfl⟩
    match j, hu with
    | 0, hu =>
      simp at hu
      subst hu
      simpa using hc i x hx
def OTable (w : World) (cs : List Value) (t : TableD) (bs : List Nat) : Prop :=
  ∃ (a b c : Value) (b1 b2 b3 : List Nat), cs = [a, b, c] ∧ OInts w a t.slews b1 ∧ OInts w b t.loads b2 ∧ OInts w c t.values b3 ∧ bs = b1 ++ b2 ++ b3
theorem OTable.reads {w : World} {cs : List Value} {t : TableD} {bs : List Nat} (h : OTable w cs t bs) : RTable w cs t := by
  obtain ⟨a, b, c, _, _, _, e, h1, h2, h3, _⟩ := h
  exact ⟨a, b, c, e, h1.reads, h2.reads, h3.reads⟩
theorem OTable.same {w w' : World} {cs : List Value} {t : TableD} {bs : List Nat} (h : OTable w cs t bs) (g : SameOn bs w w') : OTable w' cs t bs := by
  obtain ⟨a, b, c, b1, b2, b3, e, h1, h2, h3, rfl⟩ := h
  exact ⟨a, b, c, b1, b2, b3, e, h1.same (g.sub (by simp +contextual)), h2.same (g.sub (by simp +contextual)), h3.same (g.sub (by simp +contextual)), rfl⟩
theorem OTable.lt {w : World} {cs : List Value} {t : TableD} {bs : List Nat} (h : OTable w cs t bs) : ∀ g ∈ bs, g < w.heap.size := by
  obtain ⟨a, b, c, b1, b2, b3, e, h1, h2, h3, rfl⟩ := h
  intro g hg
  simp only [List.mem_append] at hg
  rcases hg with (hg | hg) | hg
  · exact h1.lt g hg
  · exact h2.lt g hg
  · exact h3.lt g hg

/-- so small that a copy of it is soon made -/
def SmL {α : Type} (xs : List α) : Prop := xs.length ≤ 1048576
def SmTable (t : TableD) : Prop := SmL t.slews ∧ SmL t.loads ∧ SmL t.values
/-- what a budget's count says -/
def SzPost (S : Prop) (w : World) (e : Ending) (w' : World) : Prop := ∃ r : Int, e = .returned (.int .i64 r) ∧ -1 ≤ r ∧ r ≤ 1048576 ∧ (0 ≤ r → S) ∧ Grows w w'
theorem subL_pos {left : Int} {n : Nat} (h : 0 ≤ subL left n) : (n : Int) ≤ left := by
  unfold subL at h
  split at h <;> omega
theorem subL_le {left : Int} {n : Nat} (h0 : 0 ≤ left) : -1 ≤ subL left n ∧ subL left n ≤ left := by
  unfold subL
  split <;> omega

/-- .. and that what was counted comes off the budget -/
def SzPostW (S : Prop) (wt : Nat) (left : Int) (w : World) (e : Ending) (w' : World) : Prop := ∃ r : Int, e = .returned (.int .i64 r) ∧ -1 ≤ r ∧ r ≤ 1048576 ∧ (0 ≤ r → S ∧ (wt : Int) + r ≤ left) ∧ Grows w w'
theorem SzPostW.post {S : Prop} {wt : Nat} {left : Int} {w w' : World} {e : Ending} (h : SzPostW S wt left w e w') : SzPost S w e w' := by
  obtain ⟨r, he, h1, h2, h3, g⟩ := h
  exact ⟨r, he, h1, h2, fun h => (h3 h).1, g⟩
theorem subL_eq {left : Int} {n : Nat} (h : 0 ≤ subL left n) : (n : Int) + subL left n ≤ left := by
  unfold subL at h ⊢
  split at h
  · omega
  · rename_i h2
    rw [if_neg h2]
    omega
def wtTable (t : TableD) : Nat := t.slews.length + t.loads.length + t.values.length
/-- what the elements of a list weigh, each with one for itself -/
def wtL {α : Type} (f : α → Nat) (xs : List α) : Nat := xs.length + (xs.map f).sum
theorem sum_take_succ {α : Type} {f : α → Nat} {xs : List α} {k : Nat} {x : α} (h : xs[k]? = some x) : ((xs.take (k + 1)).map f).sum = ((xs.take k).map f).sum + f x := by
  rw [List.take_add_one, h, List.map_append, List.sum_append]
  simp
theorem sum_take_le {α : Type} (f : α → Nat) (xs : List α) (k : Nat) : ((xs.take k).map f).sum ≤ (xs.map f).sum := by
  have h : (xs.map f).sum = ((xs.take k).map f).sum + ((xs.drop k).map f).sum := by rw [← List.sum_append, ← List.map_append, List.take_append_drop]
  omega
theorem eqInts_same {v1 v2 : Value} {xs : List Int} (w : World) (h1 : RInts w v1 xs) (h2 : RInts w v2 xs) :
    Calls Tryd.prog 37 #[v1, v2] w fun e w' => e = .returned (.bool true) ∧ Grows w w' :=
  (eqInts_any w h1 h2).mono fun e w' ⟨he, hg⟩ => ⟨by rw [he]; exact ret_bool (by simp), hg⟩
end Go.Proofs.YtgglgghlndhfbaaDoor
