/-
  A value that reads as a datum and whose memory is all its own: the blocks that it lies in are listed, each known whole.
-/
import Derived.Test.YtgglgghlndhfbaaInts
namespace Go.Proofs.Ytgglgghlndhfbaa
open Go.RowKit

/-- blocks of one's own, from lo on, below hi -/
def Own (lo hi : Nat) (bs : List Nat) : Prop := bs.Nodup ∧ ∀ g ∈ bs, lo ≤ g ∧ g < hi
theorem Own.nil {lo hi : Nat} : Own lo hi [] := ⟨List.nodup_nil, fun _ h => by cases h⟩
theorem Own.one {lo hi g : Nat} (h : lo ≤ g) (h2 : g < hi) : Own lo hi [g] := ⟨by simp, fun x hx => by simp at hx; omega⟩
theorem Own.mono {lo hi lo' hi' : Nat} {bs : List Nat} (h : Own lo hi bs) (h1 : lo' ≤ lo) (h2 : hi ≤ hi') : Own lo' hi' bs := ⟨h.1, fun g hg => by have := h.2 g hg; omega⟩
theorem Own.append {lo m hi : Nat} {bs cs : List Nat} (h : Own lo m bs) (k : Own m hi cs) (h1 : lo ≤ m) (h2 : m ≤ hi) : Own lo hi (bs ++ cs) := by
  refine ⟨List.nodup_append.2 ⟨h.1, k.1, fun a ha b hb e => ?_⟩, fun g hg => ?_⟩
  · have := h.2 a ha; have := k.2 b hb; omega
  · rcases List.mem_append.1 hg with hg | hg
    · have := h.2 g hg; omega
    · have := k.2 g hg; omega

/-- these blocks are as they were -/
def SameOn (bs : List Nat) (w w' : World) : Prop := ∀ g ∈ bs, w'.heap[g]? = w.heap[g]?
theorem SameOn.refl (bs : List Nat) (w : World) : SameOn bs w w := fun _ _ => rfl
theorem SameOn.trans {bs : List Nat} {a b c : World} (h : SameOn bs a b) (k : SameOn bs b c) : SameOn bs a c := fun g hg => (k g hg).trans (h g hg)
theorem SameOn.set {bs : List Nat} {w w' : World} (h : SameOn bs w w') {p : Addr} (hp : ∀ g ∈ bs, g ≠ p.block) (u : Value) : SameOn bs w (w'.setCell p u) :=
  fun g hg => (Below.heap_setCell _ _ _ _ (hp g hg)).trans (h g hg)
theorem SameOn.grows {bs : List Nat} {w w' w'' : World} (h : SameOn bs w w') (hb : ∀ g ∈ bs, g < w'.heap.size) (k : Grows w' w'') : SameOn bs w w'' :=
  fun g hg => (Below.block k g (hb g hg)).trans (h g hg)
theorem SameOn.sub {bs cs : List Nat} {w w' : World} (h : SameOn bs w w') (hs : ∀ g ∈ cs, g ∈ bs) : SameOn cs w w' := fun g hg => h g (hs g hg)

/-- a slice of elements of sz cells each, in a block of its own of element type t -/
def OList {α : Type} (sz : Nat) (t : TypeId) (O : World → List Value → α → List Nat → Prop) (w : World) (v : Value) (xs : List α) (bs : List Nat) : Prop :=
  (v = .slice none 0 0 ∧ xs = [] ∧ bs = []) ∨
  ∃ (g c : Nat) (cs : Array Value) (bss : List (List Nat)), v = .slice (some ⟨g, 0, none⟩) xs.length c ∧ xs.length ≤ c ∧ c ≤ maxLen ∧ Blk w g t cs ∧ bss.length = xs.length ∧ bs = g :: bss.flatten ∧
    ∀ (i : Nat) (x : α), xs[i]? = some x → ∃ (es : List Value) (b : List Nat), es.length = sz ∧ (∀ (j : Nat) (u : Value), es[j]? = some u → cs[i * sz + j]? = some u) ∧ bss[i]? = some b ∧ O w es x b

section
variable {α : Type} {sz : Nat} {t : TypeId} {O : World → List Value → α → List Nat → Prop} {R : World → List Value → α → Prop} {w w' : World} {v : Value} {xs : List α} {bs : List Nat}
theorem OList.reads (h : OList sz t O w v xs bs) (hR : ∀ cs x b, O w cs x b → R w cs x) : RList sz R w v xs := by
  rcases h with ⟨rfl, rfl, rfl⟩ | ⟨g, c, cs, bss, rfl, h1, h2, hb, hl, rfl, hc⟩
  · exact ⟨_, _, rfl, Nat.le_refl _, by unfold maxLen; omega, .inl rfl⟩
  · refine ⟨_, _, rfl, h1, h2, .inr ⟨_, _, rfl, fun i x hx => ?_⟩⟩
    obtain ⟨es, b, hes, hcs, _, ho⟩ := hc i x hx
    exact ⟨es, hes, fun j u hu => by rw [hb.cell, Nat.zero_add]; exact hcs j u hu, hR _ _ _ ho⟩
theorem OList.same (h : OList sz t O w v xs bs) (hg : SameOn bs w w') (hO : ∀ cs x b, O w cs x b → SameOn b w w' → O w' cs x b) : OList sz t O w' v xs bs := by
  rcases h with h | ⟨g, c, cs, bss, hv, h1, h2, hb, hl, hbs, hc⟩
  · exact .inl h
  · subst hbs
    refine .inr ⟨g, c, cs, bss, hv, h1, h2, (hg g (List.mem_cons_self ..)).trans hb, hl, rfl, fun i x hx => ?_⟩
    obtain ⟨es, b, hes, hcs, hbi, ho⟩ := hc i x hx
    exact ⟨es, b, hes, hcs, hbi, hO _ _ _ ho (hg.sub fun q hq => List.mem_cons_of_mem _ (List.mem_flatten.2 ⟨b, List.mem_of_getElem? hbi, hq⟩))⟩
theorem OList.lt (h : OList sz t O w v xs bs) (hO : ∀ cs x b, O w cs x b → ∀ g ∈ b, g < w.heap.size) : ∀ g ∈ bs, g < w.heap.size := by
  rcases h with ⟨_, _, rfl⟩ | ⟨g, c, cs, bss, hv, h1, h2, hb, hl, rfl, hc⟩
  · intro g hg; cases hg
  · intro q hq
    rcases List.mem_cons.1 hq with rfl | hq
    · exact hb.lt
    · obtain ⟨b, hb, hq⟩ := List.mem_flatten.1 hq
      obtain ⟨i, hi⟩ := List.getElem?_of_mem hb
      have hlt : i < xs.length := by have := (List.getElem?_eq_some_iff.1 hi).1; omega
      obtain ⟨es, b', _, _, hbi, ho⟩ := hc i _ (List.getElem?_eq_getElem hlt)
      rw [hi] at hbi
      injection hbi with hbi
      subst hbi
      exact hO _ _ _ ho q hq
end

def OI (_ : World) (cs : List Value) (x : Int) (b : List Nat) : Prop := cs = [.int .i64 x] ∧ b = []
def OInts : World → Value → List Int → List Nat → Prop := OList 1 2 OI
theorem OInts.reads {w : World} {v : Value} {xs : List Int} {bs : List Nat} (h : OInts w v xs bs) : RInts w v xs := OList.reads h fun _ _ _ h => h.1
theorem OInts.same {w w' : World} {v : Value} {xs : List Int} {bs : List Nat} (h : OInts w v xs bs) (g : SameOn bs w w') : OInts w' v xs bs := OList.same h g fun _ _ _ h _ => h
theorem OInts.lt {w : World} {v : Value} {xs : List Int} {bs : List Nat} (h : OInts w v xs bs) : ∀ g ∈ bs, g < w.heap.size := OList.lt h fun _ _ _ h g hg => by rw [h.2] at hg; cases hg
theorem NewInts.own {w w' : World} {v : Value} {xs : List Int} (h : NewInts w w' v xs) (hl : xs.length ≤ maxLen) : OInts w' v xs [w.heap.size] ∧ Own w.heap.size w'.heap.size [w.heap.size] ∧ Grows w w' := by
  obtain ⟨cs, hv, hb, hs, hc, hg⟩ := h
  refine ⟨.inr ⟨_, _, cs, List.replicate xs.length [], hv, Nat.le_refl _, hl, hb, by simp, ?_, fun i x hx => ?_⟩, Own.one (Nat.le_refl _) hb.lt, hg⟩
  · congr 1
    symm
    rw [List.flatten_eq_nil_iff]
    intro l hl
    exact (List.mem_replicate.1 hl).2
  · have hi : i < xs.length := (List.getElem?_eq_some_iff.1 hx).1
    refine ⟨[.int .i64 x], [], rfl, fun j u hu => ?_, by rw [List.getElem?_replicate, if_pos hi], rfl, rfl⟩
    match j, hu with
    | 0, hu =>
      simp at hu
      subst hu
      simpa using hc i x hx
def OTable (w : World) (cs : List Value) (t : TableD) (bs : List Nat) : Prop :=
  ∃ (a b c : Value) (b1 b2 b3 : List Nat), cs = [a, b, c] ∧ OInts w a t.slews b1 ∧ OInts w b t.loads b2 ∧ OInts w c t.values b3 ∧ bs = b1 ++ b2 ++ b3
theorem OTable.reads {w : World} {cs : List Value} {t : TableD} {bs : List Nat} (h : OTable w cs t bs) : RTable w cs t := by
  obtain ⟨a, b, c, _, _, _, e, h1, h2, h3, _⟩ := h
  exact ⟨a, b, c, e, h1.reads, h2.reads, h3.reads⟩
theorem OTable.same {w w' : World} {cs : List Value} {t : TableD} {bs : List Nat} (h : OTable w cs t bs) (g : SameOn bs w w') : OTable w' cs t bs := by
  obtain ⟨a, b, c, b1, b2, b3, e, h1, h2, h3, rfl⟩ := h
  exact ⟨a, b, c, b1, b2, b3, e, h1.same (g.sub (by simp +contextual)), h2.same (g.sub (by simp +contextual)), h3.same (g.sub (by simp +contextual)), rfl⟩
theorem OTable.lt {w : World} {cs : List Value} {t : TableD} {bs : List Nat} (h : OTable w cs t bs) : ∀ g ∈ bs, g < w.heap.size := by
  obtain ⟨a, b, c, b1, b2, b3, e, h1, h2, h3, rfl⟩ := h
  intro g hg
  simp only [List.mem_append] at hg
  rcases hg with (hg | hg) | hg
  · exact h1.lt g hg
  · exact h2.lt g hg
  · exact h3.lt g hg

/-- so small that a copy of it is soon made -/
def SmL {α : Type} (xs : List α) : Prop := xs.length ≤ 1048576
def SmTable (t : TableD) : Prop := SmL t.slews ∧ SmL t.loads ∧ SmL t.values
/-- what a budget's count says -/
def SzPost (S : Prop) (w : World) (e : Ending) (w' : World) : Prop := ∃ r : Int, e = .returned (.int .i64 r) ∧ -1 ≤ r ∧ r ≤ 1048576 ∧ (0 ≤ r → S) ∧ Grows w w'
theorem subL_pos {left : Int} {n : Nat} (h : 0 ≤ subL left n) : (n : Int) ≤ left := by
  unfold subL at h
  split at h <;> omega
theorem subL_le {left : Int} {n : Nat} (h0 : 0 ≤ left) : -1 ≤ subL left n ∧ subL left n ≤ left := by
  unfold subL
  split <;> omega

/-- .. and that what was counted comes off the budget -/
def SzPostW (S : Prop) (wt : Nat) (left : Int) (w : World) (e : Ending) (w' : World) : Prop := ∃ r : Int, e = .returned (.int .i64 r) ∧ -1 ≤ r ∧ r ≤ 1048576 ∧ (0 ≤ r → S ∧ (wt : Int) + r ≤ left) ∧ Grows w w'
theorem SzPostW.post {S : Prop} {wt : Nat} {left : Int} {w w' : World} {e : Ending} (h : SzPostW S wt left w e w') : SzPost S w e w' := by
  obtain ⟨r, he, h1, h2, h3, g⟩ := h
  exact ⟨r, he, h1, h2, fun h => (h3 h).1, g⟩
theorem subL_eq {left : Int} {n : Nat} (h : 0 ≤ subL left n) : (n : Int) + subL left n ≤ left := by
  unfold subL at h ⊢
  split at h
  · omega
  · rename_i h2
    rw [if_neg h2]
    omega
theorem szInts_q {v : Value} {xs : List Int} (left : Int) (w : World) (h : RInts w v xs) (h1 : 0 ≤ left) (h2 : left ≤ 1048576) :
    Calls Try.prog 23 #[v, .int .i64 left] w fun e w' => ∃ r : Int, e = .returned (.int .i64 r) ∧ -1 ≤ r ∧ r ≤ 1048576 ∧ (0 ≤ r → SmL xs ∧ (xs.length : Int) + r ≤ left) ∧ w = w' :=
  (szInts_any left w h h1 h2).mono fun e w' ⟨he, hw⟩ => by
    have := subL_le (n := xs.length) h1
    exact ⟨_, he, by omega, by omega, fun h => ⟨by have := subL_pos h; unfold SmL; omega, subL_eq h⟩, hw⟩
theorem szInts_p {v : Value} {xs : List Int} (left : Int) (w : World) (h : RInts w v xs) (h1 : 0 ≤ left) (h2 : left ≤ 1048576) :
    Calls Try.prog 23 #[v, .int .i64 left] w fun e w' => ∃ r : Int, e = .returned (.int .i64 r) ∧ -1 ≤ r ∧ r ≤ 1048576 ∧ (0 ≤ r → SmL xs) ∧ w = w' :=
  (szInts_any left w h h1 h2).mono fun e w' ⟨he, hw⟩ => by
    have := subL_le (n := xs.length) h1
    exact ⟨_, he, by omega, by omega, fun h => by have := subL_pos h; unfold SmL; omega, hw⟩
def wtTable (t : TableD) : Nat := t.slews.length + t.loads.length + t.values.length
/-- what the elements of a list weigh, each with one for itself -/
def wtL {α : Type} (f : α → Nat) (xs : List α) : Nat := xs.length + (xs.map f).sum
theorem sum_take_succ {α : Type} {f : α → Nat} {xs : List α} {k : Nat} {x : α} (h : xs[k]? = some x) : ((xs.take (k + 1)).map f).sum = ((xs.take k).map f).sum + f x := by
  rw [List.take_add_one, h, List.map_append, List.sum_append]
  simp
theorem sum_take_le {α : Type} (f : α → Nat) (xs : List α) (k : Nat) : ((xs.take k).map f).sum ≤ (xs.map f).sum := by
  have h : (xs.map f).sum = ((xs.take k).map f).sum + ((xs.drop k).map f).sum := by rw [← List.sum_append, ← List.map_append, List.take_append_drop]
  omega
set_option maxHeartbeats 1000000 in
theorem szTable_w {a b c : Value} {t : TableD} (left : Int) (w : World) (h : RTable w [a, b, c] t) (h1 : 0 ≤ left) (h2 : left ≤ 1048576) :
    Calls Try.prog 6 #[.agg #[a, b, c], .int .i64 left] w (SzPostW (SmTable t) (wtTable t) left w) := by
  obtain ⟨a', b', c', he, ha, hb, hc⟩ := h
  injection he with e1 he
  injection he with e2 he
  injection he with e3 he
  subst e1 e2 e3
  clear he
  have g0 := (Grows.refl w).alloc (.cells #[a, b, c] 24)
  have HA := hideIt (ha.keep g0.keeps)
  have HB := hideIt (hb.keep g0.keeps)
  have HC := hideIt (hc.keep g0.keeps)
  have G0 := hideIt g0
  clear g0 ha hb hc
  go_enter Try.func6, Try.ntmps6
  go_wp2_with fail
  refine (szInts_q _ _ HA.out h1 h2).mono ?_
  rintro e w1 ⟨r1, rfl, p1, p2, p3, rfl⟩
  have P3 := hideIt p3
  clear p3
  by_cases n1 : r1 < 0
  · go_wp2
    go_ret
    exact ⟨-1, rfl, by omega, by omega, fun h => by omega, G0.out⟩
  go_wp2_with fail
  refine (szInts_q _ _ HB.out (by omega) (by omega)).mono ?_
  rintro e w1 ⟨r2, rfl, q1, q2, q3, rfl⟩
  have Q3 := hideIt q3
  clear q3
  by_cases n2 : r2 < 0
  · go_wp2
    go_ret
    exact ⟨-1, rfl, by omega, by omega, fun h => by omega, G0.out⟩
  go_wp2_with fail
  refine (szInts_q _ _ HC.out (by omega) (by omega)).mono ?_
  rintro e w1 ⟨r3, rfl, s1, s2, s3, rfl⟩
  have S3 := hideIt s3
  clear s3
  by_cases n3 : r3 < 0
  · go_wp2
    go_ret
    exact ⟨-1, rfl, by omega, by omega, fun h => by omega, G0.out⟩
  · go_wp2
    go_ret
    exact ⟨r3, rfl, by omega, by omega, fun _ => ⟨⟨(P3.out (by omega)).1, (Q3.out (by omega)).1, (S3.out (by omega)).1⟩, by have h1 := (P3.out (by omega)).2; have h2 := (Q3.out (by omega)).2; have h3 := (S3.out (by omega)).2; unfold wtTable; omega⟩, G0.out⟩
theorem szTable_any {a b c : Value} {t : TableD} (left : Int) (w : World) (h : RTable w [a, b, c] t) (h1 : 0 ≤ left) (h2 : left ≤ 1048576) :
    Calls Try.prog 6 #[.agg #[a, b, c], .int .i64 left] w (SzPost (SmTable t) w) := (szTable_w left w h h1 h2).mono fun _ _ h => h.post
theorem toInts_o {v : Value} {xs : List Int} (w : World) (h : RInts w v xs) (hn : SmL xs) :
    Calls Try.prog 28 #[v] w fun e w' => ∃ (A : Option Addr) (c : Nat) (bs : List Nat), e = .returned (.slice A xs.length c) ∧ OInts w' (.slice A xs.length c) xs bs ∧ Own w.heap.size w'.heap.size bs ∧ Grows w w' :=
  (toInts_any w h hn).mono fun e w' ⟨v', he, hn'⟩ => by
    have hv : v' = .slice (some ⟨w.heap.size, 0, none⟩) xs.length xs.length := hn'.choose_spec.1
    subst hv
    exact ⟨_, _, _, he, hn'.own (by unfold SmL at hn; unfold maxLen; omega)⟩
theorem eqInts_same {v1 v2 : Value} {xs : List Int} (w : World) (h1 : RInts w v1 xs) (h2 : RInts w v2 xs) :
    Calls Try.prog 34 #[v1, v2] w fun e w' => e = .returned (.bool true) ∧ Grows w w' :=
  (eqInts_any w h1 h2).mono fun e w' ⟨he, hg⟩ => ⟨by rw [he]; exact ret_bool (by simp), hg⟩
set_option maxHeartbeats 1000000 in
theorem toTable_any {a b c : Value} {t : TableD} (w : World) (h : RTable w [a, b, c] t) (hs : SmTable t) :
    Calls Try.prog 8 #[.agg #[a, b, c]] w fun e w' => ∃ (x y z : Value) (bs : List Nat), e = .returned (.agg #[x, y, z]) ∧ OTable w' [x, y, z] t bs ∧ Own w.heap.size w'.heap.size bs ∧ Grows w w' := by
  obtain ⟨a', b', c', he, ha, hb, hc⟩ := h
  injection he with e1 he
  injection he with e2 he
  injection he with e3 he
  subst e1 e2 e3
  clear he
  obtain ⟨s1, s2, s3⟩ := hs
  have H0 := hideIt ha
  have H1 := hideIt hb
  have H2 := hideIt hc
  have M0 := hideIt s1
  have M1 := hideIt s2
  have M2 := hideIt s3
  clear ha hb hc s1 s2 s3
  have g0 : Grows w (((w.alloc (.cells #[a, b, c] 24)).alloc (.cells #[.slice none 0 0, .slice none 0 0, .slice none 0 0] 26)).alloc (.cells #[.slice none 0 0, .slice none 0 0, .slice none 0 0] 26)) := (((Grows.refl w).alloc _).alloc _).alloc _
  have s0 : Blk (((w.alloc (.cells #[a, b, c] 24)).alloc (.cells #[.slice none 0 0, .slice none 0 0, .slice none 0 0] 26)).alloc (.cells #[.slice none 0 0, .slice none 0 0, .slice none 0 0] 26)) (w.heap.size) 24 #[a, b, c] := ((Blk.new w _ _).grows ((Grows.refl _).alloc _)).grows ((Grows.refl _).alloc _)
  have r0 : Blk (((w.alloc (.cells #[a, b, c] 24)).alloc (.cells #[.slice none 0 0, .slice none 0 0, .slice none 0 0] 26)).alloc (.cells #[.slice none 0 0, .slice none 0 0, .slice none 0 0] 26)) (w.heap.size + 1) 26 #[.slice none 0 0, .slice none 0 0, .slice none 0 0] := by have := (Blk.new (w.alloc (.cells #[a, b, c] 24)) 26 #[.slice none 0 0, .slice none 0 0, .slice none 0 0]).grows ((Grows.refl _).alloc (.cells #[.slice none 0 0, .slice none 0 0, .slice none 0 0] 26)); simpa using this
  have b0 : Blk (((w.alloc (.cells #[a, b, c] 24)).alloc (.cells #[.slice none 0 0, .slice none 0 0, .slice none 0 0] 26)).alloc (.cells #[.slice none 0 0, .slice none 0 0, .slice none 0 0] 26)) (w.heap.size + 1 + 1) 26 #[.slice none 0 0, .slice none 0 0, .slice none 0 0] := by have := Blk.new ((w.alloc (.cells #[a, b, c] 24)).alloc (.cells #[.slice none 0 0, .slice none 0 0, .slice none 0 0] 26)) 26 #[.slice none 0 0, .slice none 0 0, .slice none 0 0]; simpa using this
  have G0 := hideIt g0
  have S0 := hideIt s0
  have R0 := hideIt r0
  have B0 := hideIt b0
  clear g0 s0 r0 b0
  go_enter Try.func8, Try.ntmps8
  go_wp2_with fail
  refine (toInts_o _ (H0.out.keep G0.out.keeps) M0.out).mono ?_
  rintro e u0 ⟨A0, c0, y0, rfl, o0, n0, g0⟩
  have s1 := S0.out.grows g0
  have ks0_0 : u0.cell? ⟨w.heap.size, 0, none⟩ = some (a) := s1.cell 0
  have ks0_1 : u0.cell? ⟨w.heap.size, 1, none⟩ = some (b) := s1.cell 1
  have ks0_2 : u0.cell? ⟨w.heap.size, 2, none⟩ = some (c) := s1.cell 2
  have fs0 := s1.frozen
  have r1 := R0.out.grows g0
  have kr0_0 : u0.cell? ⟨w.heap.size + 1, 0, none⟩ = some (.slice none 0 0) := r1.cell 0
  have kr0_1 : u0.cell? ⟨w.heap.size + 1, 1, none⟩ = some (.slice none 0 0) := r1.cell 1
  have kr0_2 : u0.cell? ⟨w.heap.size + 1, 2, none⟩ = some (.slice none 0 0) := r1.cell 2
  have fr0 := r1.frozen
  have b1 := B0.out.grows g0
  have kb0_0 : u0.cell? ⟨w.heap.size + 1 + 1, 0, none⟩ = some (.slice none 0 0) := b1.cell 0
  have kb0_1 : u0.cell? ⟨w.heap.size + 1 + 1, 1, none⟩ = some (.slice none 0 0) := b1.cell 1
  have kb0_2 : u0.cell? ⟨w.heap.size + 1 + 1, 2, none⟩ = some (.slice none 0 0) := b1.cell 2
  have fb0 := b1.frozen
  have z0 := b1.lt
  have v0 : w.heap.size + 1 + 1 + 1 ≤ u0.heap.size := by have := g0.size; simpa using this
  have G1 := hideIt ((G0.out.trans g0).setCell (p := ⟨w.heap.size + 1 + 1, 0, none⟩) (by simp <;> omega) (.slice A0 t.slews.length c0))
  have S1 := hideIt (s1.far (p := ⟨w.heap.size + 1 + 1, 0, none⟩) (by simp <;> omega) (.slice A0 t.slews.length c0))
  have R1 := hideIt (r1.far (p := ⟨w.heap.size + 1 + 1, 0, none⟩) (by simp <;> omega) (.slice A0 t.slews.length c0))
  have B1 := hideIt (b1.set_ 0 (.slice A0 t.slews.length c0))
  have O0 := hideIt o0
  have N0 := hideIt n0
  have Q0 := hideIt g0
  clear s1 r1 b1 o0 n0 g0
  go_wp2_with fail
  clear ks0_0 kr0_0 kb0_0 ks0_1 kr0_1 kb0_1 ks0_2 kr0_2 kb0_2 fs0 fr0 fb0
  refine (toInts_o _ (H1.out.keep G1.out.keeps) M1.out).mono ?_
  rintro e u1 ⟨A1, c1, y1, rfl, o1, n1, g1⟩
  have s2 := S1.out.grows g1
  have ks1_0 : u1.cell? ⟨w.heap.size, 0, none⟩ = some (a) := s2.cell 0
  have ks1_1 : u1.cell? ⟨w.heap.size, 1, none⟩ = some (b) := s2.cell 1
  have ks1_2 : u1.cell? ⟨w.heap.size, 2, none⟩ = some (c) := s2.cell 2
  have fs1 := s2.frozen
  have r2 := R1.out.grows g1
  have kr1_0 : u1.cell? ⟨w.heap.size + 1, 0, none⟩ = some (.slice none 0 0) := r2.cell 0
  have kr1_1 : u1.cell? ⟨w.heap.size + 1, 1, none⟩ = some (.slice none 0 0) := r2.cell 1
  have kr1_2 : u1.cell? ⟨w.heap.size + 1, 2, none⟩ = some (.slice none 0 0) := r2.cell 2
  have fr1 := r2.frozen
  have b2 := B1.out.grows g1
  have kb1_0 : u1.cell? ⟨w.heap.size + 1 + 1, 0, none⟩ = some (.slice A0 t.slews.length c0) := b2.cell 0
  have kb1_1 : u1.cell? ⟨w.heap.size + 1 + 1, 1, none⟩ = some (.slice none 0 0) := b2.cell 1
  have kb1_2 : u1.cell? ⟨w.heap.size + 1 + 1, 2, none⟩ = some (.slice none 0 0) := b2.cell 2
  have fb1 := b2.frozen
  have z1 := b2.lt
  have v1 : u0.heap.size ≤ u1.heap.size := by have := g1.size; simpa using this
  have G2 := hideIt ((G1.out.trans g1).setCell (p := ⟨w.heap.size + 1 + 1, 1, none⟩) (by simp <;> omega) (.slice A1 t.loads.length c1))
  have S2 := hideIt (s2.far (p := ⟨w.heap.size + 1 + 1, 1, none⟩) (by simp <;> omega) (.slice A1 t.loads.length c1))
  have R2 := hideIt (r2.far (p := ⟨w.heap.size + 1 + 1, 1, none⟩) (by simp <;> omega) (.slice A1 t.loads.length c1))
  have B2 := hideIt (b2.set_ 1 (.slice A1 t.loads.length c1))
  have O1 := hideIt o1
  have N1 := hideIt n1
  have Q1 := hideIt g1
  clear s2 r2 b2 o1 n1 g1
  go_wp2_with fail
  clear ks1_0 kr1_0 kb1_0 ks1_1 kr1_1 kb1_1 ks1_2 kr1_2 kb1_2 fs1 fr1 fb1
  refine (toInts_o _ (H2.out.keep G2.out.keeps) M2.out).mono ?_
  rintro e u2 ⟨A2, c2, y2, rfl, o2, n2, g2⟩
  have s3 := S2.out.grows g2
  have ks2_0 : u2.cell? ⟨w.heap.size, 0, none⟩ = some (a) := s3.cell 0
  have ks2_1 : u2.cell? ⟨w.heap.size, 1, none⟩ = some (b) := s3.cell 1
  have ks2_2 : u2.cell? ⟨w.heap.size, 2, none⟩ = some (c) := s3.cell 2
  have fs2 := s3.frozen
  have r3 := R2.out.grows g2
  have kr2_0 : u2.cell? ⟨w.heap.size + 1, 0, none⟩ = some (.slice none 0 0) := r3.cell 0
  have kr2_1 : u2.cell? ⟨w.heap.size + 1, 1, none⟩ = some (.slice none 0 0) := r3.cell 1
  have kr2_2 : u2.cell? ⟨w.heap.size + 1, 2, none⟩ = some (.slice none 0 0) := r3.cell 2
  have fr2 := r3.frozen
  have b3 := B2.out.grows g2
  have kb2_0 : u2.cell? ⟨w.heap.size + 1 + 1, 0, none⟩ = some (.slice A0 t.slews.length c0) := b3.cell 0
  have kb2_1 : u2.cell? ⟨w.heap.size + 1 + 1, 1, none⟩ = some (.slice A1 t.loads.length c1) := b3.cell 1
  have kb2_2 : u2.cell? ⟨w.heap.size + 1 + 1, 2, none⟩ = some (.slice none 0 0) := b3.cell 2
  have fb2 := b3.frozen
  have z2 := b3.lt
  have v2 : u1.heap.size ≤ u2.heap.size := by have := g2.size; simpa using this
  have G3 := hideIt ((G2.out.trans g2).setCell (p := ⟨w.heap.size + 1 + 1, 2, none⟩) (by simp <;> omega) (.slice A2 t.values.length c2))
  have S3 := hideIt (s3.far (p := ⟨w.heap.size + 1 + 1, 2, none⟩) (by simp <;> omega) (.slice A2 t.values.length c2))
  have R3 := hideIt (r3.far (p := ⟨w.heap.size + 1 + 1, 2, none⟩) (by simp <;> omega) (.slice A2 t.values.length c2))
  have B3 := hideIt (b3.set_ 2 (.slice A2 t.values.length c2))
  have O2 := hideIt o2
  have N2 := hideIt n2
  have Q2 := hideIt g2
  clear s3 r3 b3 o2 n2 g2
  go_wp2
  refine bodyPost_ret (by simp [*, results, Try.results8, go_sem]; try rfl) rfl ?_
  exact ⟨_, _, _, _, rfl, ⟨_, _, _, _, _, _, rfl, O0.out.same (((((((((SameOn.refl y0 u0).set (p := ⟨w.heap.size + 1 + 1, 0, none⟩) (fun g hg => by have := (N0.out.2 g hg).1; simp at this ⊢; omega) (.slice A0 t.slews.length c0)).grows (fun g hg => by have := (N0.out.2 g hg).2; simp; omega) Q1.out).set (p := ⟨w.heap.size + 1 + 1, 1, none⟩) (fun g hg => by have := (N0.out.2 g hg).1; simp at this ⊢; omega) (.slice A1 t.loads.length c1)).grows (fun g hg => by have := (N0.out.2 g hg).2; simp; omega) Q2.out).set (p := ⟨w.heap.size + 1 + 1, 2, none⟩) (fun g hg => by have := (N0.out.2 g hg).1; simp at this ⊢; omega) (.slice A2 t.values.length c2)).set (p := ⟨w.heap.size + 1, 0, none⟩) (fun g hg => by have := (N0.out.2 g hg).1; simp at this ⊢; omega) (.slice A0 t.slews.length c0)).set (p := ⟨w.heap.size + 1, 1, none⟩) (fun g hg => by have := (N0.out.2 g hg).1; simp at this ⊢; omega) (.slice A1 t.loads.length c1)).set (p := ⟨w.heap.size + 1, 2, none⟩) (fun g hg => by have := (N0.out.2 g hg).1; simp at this ⊢; omega) (.slice A2 t.values.length c2)), O1.out.same (((((((SameOn.refl y1 u1).set (p := ⟨w.heap.size + 1 + 1, 1, none⟩) (fun g hg => by have := (N1.out.2 g hg).1; simp at this ⊢; omega) (.slice A1 t.loads.length c1)).grows (fun g hg => by have := (N1.out.2 g hg).2; simp; omega) Q2.out).set (p := ⟨w.heap.size + 1 + 1, 2, none⟩) (fun g hg => by have := (N1.out.2 g hg).1; simp at this ⊢; omega) (.slice A2 t.values.length c2)).set (p := ⟨w.heap.size + 1, 0, none⟩) (fun g hg => by have := (N1.out.2 g hg).1; simp at this ⊢; omega) (.slice A0 t.slews.length c0)).set (p := ⟨w.heap.size + 1, 1, none⟩) (fun g hg => by have := (N1.out.2 g hg).1; simp at this ⊢; omega) (.slice A1 t.loads.length c1)).set (p := ⟨w.heap.size + 1, 2, none⟩) (fun g hg => by have := (N1.out.2 g hg).1; simp at this ⊢; omega) (.slice A2 t.values.length c2)), O2.out.same (((((SameOn.refl y2 u2).set (p := ⟨w.heap.size + 1 + 1, 2, none⟩) (fun g hg => by have := (N2.out.2 g hg).1; simp at this ⊢; omega) (.slice A2 t.values.length c2)).set (p := ⟨w.heap.size + 1, 0, none⟩) (fun g hg => by have := (N2.out.2 g hg).1; simp at this ⊢; omega) (.slice A0 t.slews.length c0)).set (p := ⟨w.heap.size + 1, 1, none⟩) (fun g hg => by have := (N2.out.2 g hg).1; simp at this ⊢; omega) (.slice A1 t.loads.length c1)).set (p := ⟨w.heap.size + 1, 2, none⟩) (fun g hg => by have := (N2.out.2 g hg).1; simp at this ⊢; omega) (.slice A2 t.values.length c2)), rfl⟩, ((Own.append (Own.append (N0.out.mono (lo' := w.heap.size) (hi' := u0.heap.size) (by simp <;> omega) (Nat.le_refl _)) (N1.out.mono (lo' := u0.heap.size) (hi' := u1.heap.size) (by simp <;> omega) (Nat.le_refl _)) (by omega) (by omega)) (N2.out.mono (lo' := u1.heap.size) (hi' := u2.heap.size) (by simp <;> omega) (Nat.le_refl _)) (by omega) (by omega))).mono (Nat.le_refl _) (by simp), (((G3.out.setCell (p := ⟨w.heap.size + 1, 0, none⟩) (by simp <;> omega) (.slice A0 t.slews.length c0)).setCell (p := ⟨w.heap.size + 1, 1, none⟩) (by simp <;> omega) (.slice A1 t.loads.length c1)).setCell (p := ⟨w.heap.size + 1, 2, none⟩) (by simp <;> omega) (.slice A2 t.values.length c2))⟩
end Go.Proofs.Ytgglgghlndhfbaa
