/-
  Wires as texts.
-/
import Derived.Test.YtgglgghlndhfbaaDoorSRead
import Derived.Test.YtgglgghlndhfbaaDoorIRead
import Derived.Test.YtgglgghlndhfbaaDoorIsWire
namespace Go.Proofs.YtgglgghlndhfbaaDoor
open Go.RowKit
def wireL (x : WireD) : List UInt8 := joinL 124 [listL x.parent, listL x.res, listL x.cap, listL x.sink]
theorem wireL_parts (x : WireD) : splitL 124 (wireL x) = [listL x.parent, listL x.res, listL x.cap, listL x.sink] :=
  split_join (by simp) (fun w hw => by
    simp at hw
    rcases hw with rfl | rfl | rfl | rfl <;> exact listL_no _)
theorem wire_open {x : WireD} {k : Int} (h : wireB x k = true) : (1 ≤ x.parent.length ∧ x.parent.length ≤ 8) ∧ x.res.length = x.parent.length ∧ x.cap.length = x.parent.length ∧ treeB x.parent x.res = true ∧ wiB x.res 0 1000 = true ∧ wiB x.cap 0 500 = true ∧ wiB x.sink 0 ((x.parent.length : Int) - 1) = true := by
  simp only [wireB, Bool.and_eq_true, decide_eq_true_eq] at h
  obtain ⟨⟨⟨⟨⟨⟨⟨h1, h2⟩, h3⟩, h4⟩, h5⟩, h6⟩, h7⟩, h8⟩ := h
  have := inB_true h1
  exact ⟨⟨by omega, by omega⟩, h2, h3, h4, h5, h6, h8⟩
theorem wi_ok {xs : List Int} {lo hi : Int} (a : -1000000000 ≤ lo) (b : hi ≤ 1000000000) (hw : wiB xs lo hi = true) : ∀ x ∈ xs, okN x := fun x hx => by
  obtain ⟨i, hi'⟩ := List.getElem?_of_mem hx
  have := wiB_at hw hi'
  unfold okN
  omega
theorem tree_ok {p r : List Int} (h : treeB p r = true) (hl : p.length ≤ 8) : ∀ x ∈ p, okN x := fun x hx => by
  obtain ⟨i, hi⟩ := List.getElem?_of_mem hx
  have hlt := (List.getElem?_eq_some_iff.1 hi).1
  have h1 := (List.all_eq_true.1 h) i (List.mem_range.2 hlt)
  unfold treeOk at h1
  unfold okN
  split at h1
  · rename_i h0
    subst h0
    simp [List.getD, hi] at h1
    omega
  · simp only [List.getD, hi, Option.getD_some] at h1
    have := inB_true h1
    omega
theorem wire_ok {x : WireD} {k : Int} (h : wireB x k = true) : (∀ y ∈ x.parent, okN y) ∧ (∀ y ∈ x.res, okN y) ∧ (∀ y ∈ x.cap, okN y) ∧ (∀ y ∈ x.sink, okN y) := by
  obtain ⟨h1, h2, h3, h4, h5, h6, h8⟩ := wire_open h
  exact ⟨tree_ok h4 h1.2, wi_ok (by omega) (by omega) h5, wi_ok (by omega) (by omega) h6, wi_ok (by omega) (by omega) h8⟩
theorem list_uniq0 {xs ys : List Int} (hx : ∀ x ∈ xs, okN x) (hy : ∀ x ∈ ys, okN x) (h : listL xs = listL ys) : xs = ys := by
  by_cases h1 : xs = []
  · subst h1
    by_cases h2 : ys = []
    · exact h2.symm
    · exact absurd h.symm (listL_ne h2)
  · by_cases h2 : ys = []
    · subst h2
      exact absurd h (listL_ne h1)
    · exact list_uniq ⟨h1, hx⟩ ⟨h2, hy⟩ h
theorem wire_uniq {x y : WireD} {k : Int} (hx : wireB x k = true) (hy : wireB y k = true) (h : wireL x = wireL y) : x = y := by
  have h1 := wireL_parts x
  rw [h, wireL_parts y] at h1
  simp only [List.cons.injEq, and_true] at h1
  obtain ⟨a1, a2, a3, a4⟩ := wire_ok hx
  obtain ⟨b1, b2, b3, b4⟩ := wire_ok hy
  have e1 := list_uniq0 a1 b1 h1.1.symm
  have e2 := list_uniq0 a2 b2 h1.2.1.symm
  have e3 := list_uniq0 a3 b3 h1.2.2.1.symm
  have e4 := list_uniq0 a4 b4 h1.2.2.2.symm
  cases x
  cases y
  simp only at e1 e2 e3 e4
  subst e1 e2 e3 e4
  rfl
/-- what reading a wire gives -/
def RW (s : ByteArray) (k : Int) (x : WireD) (ok : Bool) : Prop := (ok = true ∧ wireB x k = true ∧ s.data.toList = wireL x) ∨ (ok = false ∧ x = ⟨[], [], [], []⟩ ∧ ∀ u, wireB u k = true → s.data.toList ≠ wireL u)
theorem RW.uniq {s : ByteArray} {k : Int} {t u : WireD} {a b : Bool} (h : RW s k t a) (q : RW s k u b) : t = u ∧ a = b := by
  rcases h with ⟨rfl, h1, h2⟩ | ⟨rfl, rfl, h3⟩ <;> rcases q with ⟨rfl, k1, k2⟩ | ⟨rfl, rfl, k3⟩
  · exact ⟨wire_uniq h1 k1 (h2.symm.trans k2), rfl⟩
  · exact absurd h2 (k3 t h1)
  · exact absurd k2 (h3 u k1)
  · exact ⟨rfl, rfl⟩
theorem join_ge {c : UInt8} : ∀ (ws : List (List UInt8)), (∀ w ∈ ws, w ≠ []) → ws.length ≤ (joinL c ws).length
  | [], _ => Nat.le_refl _
  | [x], h => by
    have := List.length_pos_iff.2 (h x (by simp))
    show 1 ≤ x.length
    omega
  | x :: y :: r, h => by
    have ih := join_ge (c := c) (y :: r) (fun w hw => h w (by simp at hw ⊢; exact .inr hw))
    show _ ≤ (x ++ c :: joinL c (y :: r)).length
    simp at ih ⊢
    omega
theorem listL_ge (xs : List Int) : xs.length ≤ (listL xs).length := by
  unfold listL
  have := join_ge (c := 44) (xs.map Lib.itoa) (fun w hw => by
    obtain ⟨n, _, rfl⟩ := List.mem_map.1 hw
    exact itoa_ne n)
  simpa using this
theorem RW.small {s : ByteArray} {k : Int} {x : WireD} {ok : Bool} (h : RW s k x ok) (hs : s.size ≤ 1048576) : SmWire x := by
  rcases h with ⟨_, h, e⟩ | ⟨_, rfl, _⟩
  · obtain ⟨h1, h2, h3, -⟩ := wire_open h
    have h4 := listL_ge x.sink
    have h5 := congrArg List.length e
    rw [dsize] at h5
    simp [wireL, joinL] at h5
    unfold SmWire SmL
    omega
  · exact ⟨by simp [SmL], by simp [SmL], by simp [SmL], by simp [SmL]⟩
/-- a list that may be empty -/
def ListW (w : List UInt8) (xs : List Int) (ok : Bool) : Prop := (ok = true → w = listL xs) ∧ ∀ ys, (∀ y ∈ ys, okN y) → w = listL ys → ok = true ∧ xs = ys
theorem ListW.of {w : List UInt8} {xs : List Int} {ok : Bool} (h : ListP w xs ok) (hn : w ≠ []) : ListW w xs ok :=
  ⟨h.1, fun ys hy e => h.2 ys (fun e0 => hn (by rw [e, e0]; rfl)) hy e⟩
theorem ListW.nil : ListW [] [] true := ⟨fun _ => rfl, fun ys _ e => ⟨rfl, by
  by_cases h : ys = []
  · exact h.symm
  · exact absurd e.symm (listL_ne h)⟩⟩
theorem RW.yes {s : ByteArray} {k : Int} {p q r t : List UInt8} {a b c d : List Int} (hs : splitL 124 s.data.toList = [p, q, r, t]) (h1 : ListW p a true) (h2 : ListW q b true) (h3 : ListW r c true) (h4 : ListW t d true) (ht : wireB ⟨a, b, c, d⟩ k = true) : RW s k ⟨a, b, c, d⟩ true := by
  refine .inl ⟨rfl, ht, ?_⟩
  have := join_split 124 s.data.toList
  rw [hs, h1.1 rfl, h2.1 rfl, h3.1 rfl, h4.1 rfl] at this
  exact this.symm
theorem RW.parts {s : ByteArray} {p q r t : List UInt8} (hs : splitL 124 s.data.toList = [p, q, r, t]) {u : WireD} (e : s.data.toList = wireL u) : p = listL u.parent ∧ q = listL u.res ∧ r = listL u.cap ∧ t = listL u.sink := by
  rw [e, wireL_parts] at hs
  simp only [List.cons.injEq, and_true] at hs
  exact ⟨hs.1.symm, hs.2.1.symm, hs.2.2.1.symm, hs.2.2.2.symm⟩
theorem RW.few {s : ByteArray} {k : Int} (h : (splitL 124 s.data.toList).length ≠ 4) : RW s k ⟨[], [], [], []⟩ false :=
  .inr ⟨rfl, rfl, fun u _ e => h (by rw [e, wireL_parts]; rfl)⟩
/-- a part that is no list -/
theorem RW.bad {s : ByteArray} {k : Int} {j : Nat} {p : List UInt8} {xs : List Int} (hp : (splitL 124 s.data.toList)[j]? = some p) (h : ListW p xs false) : RW s k ⟨[], [], [], []⟩ false :=
  .inr ⟨rfl, rfl, fun u hu e => by
    obtain ⟨o1, o2, o3, o4⟩ := wire_ok hu
    rw [e, wireL_parts] at hp
    have key : ∀ ys, (∀ y ∈ ys, okN y) → p = listL ys → False := fun ys hy e => by
      have := (h.2 ys hy e).1
      cases this
    match j, hp with
    | 0, hp => simp at hp; exact key _ o1 hp.symm
    | 1, hp => simp at hp; exact key _ o2 hp.symm
    | 2, hp => simp at hp; exact key _ o3 hp.symm
    | 3, hp => simp at hp; exact key _ o4 hp.symm⟩
theorem RW.not {s : ByteArray} {k : Int} {p q r t : List UInt8} {a b c d : List Int} {o1 o2 o3 o4 : Bool} (hs : splitL 124 s.data.toList = [p, q, r, t]) (h1 : ListW p a o1) (h2 : ListW q b o2) (h3 : ListW r c o3) (h4 : ListW t d o4) (ht : wireB ⟨a, b, c, d⟩ k = false) : RW s k ⟨[], [], [], []⟩ false :=
  .inr ⟨rfl, rfl, fun u hu e => by
    obtain ⟨e1, e2, e3, e4⟩ := RW.parts hs e
    obtain ⟨b1, b2, b3, b4⟩ := wire_ok hu
    have y1 := (h1.2 _ b1 e1).2
    have y2 := (h2.2 _ b2 e2).2
    have y3 := (h3.2 _ b3 e3).2
    have y4 := (h4.2 _ b4 e4).2
    subst y1 y2 y3 y4
    rw [hu] at ht
    cases ht⟩
/-- the reference's text of a wire -/
def wtextB (x : WireD) (k : Int) : ByteArray := if wireB x k = true then ⟨(wireL x).toArray⟩ else ⟨#[]⟩
theorem wtext_cat {x : WireD} {k : Int} (h : wireB x k = true) : listB x.parent ++ (⟨#[124]⟩ : ByteArray) ++ listB x.res ++ (⟨#[124]⟩ : ByteArray) ++ listB x.cap ++ (⟨#[124]⟩ : ByteArray) ++ listB x.sink = wtextB x k := by
  unfold wtextB
  rw [if_pos h]
  unfold listB wireL
  apply ByteArray.ext
  simp [joinL, ByteArray.data_append]
theorem wire_of {s : ByteArray} {k : Int} {p q r t : List UInt8} {a b c d : List Int} (hs : splitL 124 s.data.toList = [p, q, r, t]) (h1 : ∀ ys, (∀ y ∈ ys, okN y) → p = listL ys → a = ys) (h2 : ∀ ys, (∀ y ∈ ys, okN y) → q = listL ys → b = ys) (h3 : ∀ ys, (∀ y ∈ ys, okN y) → r = listL ys → c = ys) (h4 : ∀ ys, (∀ y ∈ ys, okN y) → t = listL ys → d = ys) {u : WireD} (hu : wireB u k = true) (e : s.data.toList = wireL u) : u = ⟨a, b, c, d⟩ := by
  obtain ⟨e1, e2, e3, e4⟩ := RW.parts hs e
  obtain ⟨b1, b2, b3, b4⟩ := wire_ok hu
  have y1 := h1 _ b1 e1
  have y2 := h2 _ b2 e2
  have y3 := h3 _ b3 e3
  have y4 := h4 _ b4 e4
  cases u
  simp only at y1 y2 y3 y4
  subst y1 y2 y3 y4
  rfl
theorem wtext_yes {s : ByteArray} {k : Int} {x : WireD} {p q r t : List UInt8} (h : wtextB x k = s) (hs : splitL 124 s.data.toList = [p, q, r, t]) : RW s k x true := by
  unfold wtextB at h
  split at h
  · rename_i ht
    exact .inl ⟨rfl, ht, by rw [← h]⟩
  · rw [← h] at hs
    cases hs
theorem wtext_no {s : ByteArray} {k : Int} {x : WireD} (h : wtextB x k ≠ s) (hp : ∀ u, wireB u k = true → s.data.toList = wireL u → u = x) : RW s k ⟨[], [], [], []⟩ false :=
  .inr ⟨rfl, rfl, fun u hu e => h (by
    have h1 := hp u hu e
    subst h1
    unfold wtextB
    rw [if_pos hu]
    apply ByteArray.ext
    apply Array.ext'
    exact e.symm)⟩
theorem some4 {s : ByteArray} {p q r t : List UInt8} (hs : splitL 124 s.data.toList = [p, q, r, t]) : s.toList.isEmpty = false := by
  cases h : s.toList with
  | nil =>
    rw [ByteArray.toList_eq] at h
    rw [h] at hs
    cases hs
  | cons x l => rfl
/-- what is returned -/
def ReadWPost (s : ByteArray) (k : Int) (w : World) (e : Ending) (w' : World) : Prop :=
  ∃ (t : WireD) (ok : Bool) (A1 : Option Addr) (n1 : Nat) (A2 : Option Addr) (n2 : Nat) (A3 : Option Addr) (n3 : Nat) (A4 : Option Addr) (n4 : Nat) (bs : List Nat),
    e = .returned (.tuple #[.agg #[.slice A1 t.parent.length n1, .slice A2 t.res.length n2, .slice A3 t.cap.length n3, .slice A4 t.sink.length n4], .bool ok]) ∧
    OWire w' [.slice A1 t.parent.length n1, .slice A2 t.res.length n2, .slice A3 t.cap.length n3, .slice A4 t.sink.length n4] t bs ∧ Own w.heap.size w'.heap.size bs ∧ RW s k t ok ∧ Grows w w'
theorem ReadWPost.no {s : ByteArray} {k : Int} {w w' : World} (h : RW s k ⟨[], [], [], []⟩ false) (g : Grows w w') : ReadWPost s k w (.returned (.tuple #[.agg #[.slice none 0 0, .slice none 0 0, .slice none 0 0, .slice none 0 0], .bool false])) w' :=
  ⟨⟨[], [], [], []⟩, false, none, 0, none, 0, none, 0, none, 0, [], rfl, ⟨_, _, _, _, [], [], [], [], rfl, OInts.nil, OInts.nil, OInts.nil, OInts.nil, rfl⟩, Own.nil, h, g⟩
theorem ReadWPost.yes {s : ByteArray} {k : Int} {w w' : World} {A1 A2 A3 A4 : Option Addr} {c1 c2 c3 c4 : Nat} {xs1 xs2 xs3 xs4 : List Int} {b1 b2 b3 b4 : List Nat} {lo m1 m2 m3 : Nat} (hl : w.heap.size ≤ lo) (l1 : lo ≤ m1) (l2 : m1 ≤ m2) (l3 : m2 ≤ m3) (l4 : m3 ≤ w'.heap.size)
    (o1 : OInts w' (.slice A1 xs1.length c1) xs1 b1) (o2 : OInts w' (.slice A2 xs2.length c2) xs2 b2) (o3 : OInts w' (.slice A3 xs3.length c3) xs3 b3) (o4 : OInts w' (.slice A4 xs4.length c4) xs4 b4) (w1 : Own lo m1 b1) (w2 : Own m1 m2 b2) (w3 : Own m2 m3 b3) (w4 : Own m3 w'.heap.size b4)
    (h : RW s k ⟨xs1, xs2, xs3, xs4⟩ true) (g : Grows w w') : ReadWPost s k w (.returned (.tuple #[.agg #[.slice A1 xs1.length c1, .slice A2 xs2.length c2, .slice A3 xs3.length c3, .slice A4 xs4.length c4], .bool true])) w' :=
  ⟨⟨xs1, xs2, xs3, xs4⟩, true, A1, c1, A2, c2, A3, c3, A4, c4, b1 ++ b2 ++ b3 ++ b4, rfl, ⟨_, _, _, _, b1, b2, b3, b4, rfl, o1, o2, o3, o4, rfl⟩, (((w1.append w2 l1 l2).append w3 (Nat.le_trans l1 l2) l3).append w4 (Nat.le_trans (Nat.le_trans l1 l2) l3) l4).mono hl (Nat.le_refl _), h, g⟩
end Go.Proofs.YtgglgghlndhfbaaDoor
