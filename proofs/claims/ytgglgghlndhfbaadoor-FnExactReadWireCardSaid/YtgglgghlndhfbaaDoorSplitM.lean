/-
  Texts cut at a byte and joined by it; lists of numbers and tables as texts.
-/
import Derived.Test.YtgglgghlndhfbaaDoorParseM
import Derived.Test.YtgglgghlndhfbaaDoorTab
import Derived.Lib.SplitLaws
namespace Go.Proofs.YtgglgghlndhfbaaDoor
open Go.RowKit
def splitL (c : UInt8) : List UInt8 → List (List UInt8)
  | [] => [[]]
  | x :: l => if x = c then [] :: splitL c l else match splitL c l with
    | [] => [[x]]
    | h :: t => (x :: h) :: t
theorem split_none {c : UInt8} : ∀ {a : List UInt8}, c ∉ a → splitL c a = [a]
  | [], _ => rfl
  | x :: a, h => by
    simp at h
    have ih := split_none (a := a) h.2
    unfold splitL
    rw [if_neg (fun e => h.1 e.symm), ih]
theorem split_app {c : UInt8} {b : List UInt8} : ∀ {a : List UInt8}, c ∉ a → splitL c (a ++ c :: b) = a :: splitL c b
  | [], _ => by simp [splitL]
  | x :: a, h => by
    simp at h
    have ih := split_app (b := b) (a := a) h.2
    show (if x = c then [] :: splitL c (a ++ c :: b) else match splitL c (a ++ c :: b) with
      | [] => [[x]]
      | h :: t => (x :: h) :: t) = _
    rw [if_neg (fun e => h.1 e.symm), ih]
theorem cut_at {c : UInt8} : ∀ {l : List UInt8}, c ∈ l → ∃ a b, l = a ++ c :: b ∧ c ∉ a
  | x :: l, h => by
    by_cases e : x = c
    · subst e
      exact ⟨[], l, rfl, by simp⟩
    · have h2 : c ∈ l := by
        rcases List.mem_cons.1 h with h | h
        · exact absurd h.symm e
        · exact h
      obtain ⟨a, b, hl, ha⟩ := cut_at h2
      exact ⟨x :: a, b, by rw [hl]; rfl, by simp; exact ⟨fun q => e q.symm, ha⟩⟩
theorem split_lib (c : UInt8) : ∀ (n : Nat) (l : List UInt8), l.length ≤ n → Lib.splitK [c] 0 (Lib.count l [c]) l = splitL c l
  | n, l, hn => by
    by_cases h : c ∈ l
    · obtain ⟨a, b, rfl, ha⟩ := cut_at h
      have hi := index_at c b a ha
      have hc : Lib.count (a ++ c :: b) [c] = Lib.count b [c] + 1 := by
        rw [Lib.count_hit (by simp) hi]
        simp [Nat.add_comm]
      rw [hc, Lib.splitK]
      rw [if_neg (by rw [hi]; simp), hi, split_app ha]
      have e2 : ((a.length : Int).toNat + [c].length) = a.length + 1 := by simp
      rw [e2]
      match n with
      | 0 => simp at hn
      | n + 1 =>
        have ih := split_lib c n b (by simp at hn; omega)
        congr 1
        · simp
        · rw [← ih]
          congr 1
          rw [List.drop_append]
          simp
    · rw [split_none h]
      have hi : Lib.index l [c] = -1 := by
        rcases Lib.index_spec l [c] with ⟨h1, _⟩ | ⟨i, h1, h2, h3, _⟩
        · exact h1
        · exfalso
          unfold Lib.occAt at h3
          cases hd : l.drop i with
          | nil => rw [hd] at h3; simp [List.isPrefixOf] at h3
          | cons x r =>
            rw [hd] at h3
            simp [List.isPrefixOf] at h3
            have : x ∈ l := List.mem_of_mem_drop (i := i) (by rw [hd]; simp)
            exact h (h3 ▸ this)
      rw [Lib.count_miss hi]
      rfl
def joinL (c : UInt8) : List (List UInt8) → List UInt8
  | [] => []
  | [x] => x
  | x :: y :: r => x ++ c :: joinL c (y :: r)
theorem split_ne (c : UInt8) (l : List UInt8) : splitL c l ≠ [] := by
  cases l with
  | nil => simp [splitL]
  | cons x l =>
    unfold splitL
    split
    · simp
    · split <;> simp
theorem join_split (c : UInt8) : ∀ l : List UInt8, joinL c (splitL c l) = l
  | [] => rfl
  | x :: l => by
    have ih := join_split c l
    have hn := split_ne c l
    unfold splitL
    by_cases e : x = c
    · rw [if_pos e]
      cases hs : splitL c l with
      | nil => exact absurd hs hn
      | cons y r =>
        rw [hs] at ih
        show [] ++ c :: joinL c (y :: r) = _
        rw [ih, e]; rfl
    · rw [if_neg e]
      cases hs : splitL c l with
      | nil => exact absurd hs hn
      | cons y r =>
        rw [hs] at ih
        cases r with
        | nil => show x :: y = _; rw [← ih]; rfl
        | cons z r => show (x :: y) ++ c :: joinL c (z :: r) = _; rw [← ih]; rfl
theorem split_join {c : UInt8} : ∀ {ws : List (List UInt8)}, ws ≠ [] → (∀ w ∈ ws, c ∉ w) → splitL c (joinL c ws) = ws
  | [], h, _ => absurd rfl h
  | [x], _, h => split_none (h x (by simp))
  | x :: y :: r, _, h => by
    show splitL c (x ++ c :: joinL c (y :: r)) = _
    rw [split_app (h x (by simp)), split_join (by simp) (fun w hw => h w (by simp at hw ⊢; exact .inr hw))]
theorem mem_join {c x : UInt8} : ∀ {ws : List (List UInt8)}, x ∈ joinL c ws → x = c ∨ ∃ w ∈ ws, x ∈ w
  | [w], h => .inr ⟨w, by simp, h⟩
  | w :: y :: r, h => by
    have h' : x ∈ w ++ c :: joinL c (y :: r) := h
    rcases List.mem_append.1 h' with h | h
    · exact .inr ⟨w, by simp, h⟩
    · rcases List.mem_cons.1 h with h | h
      · exact .inl h
      · rcases mem_join h with h | ⟨w', hw, hx⟩
        · exact .inl h
        · exact .inr ⟨w', by simp at hw ⊢; exact .inr hw, hx⟩
/-- a number's text -/
theorem itoa_chars {n : Int} {x : UInt8} (h : x ∈ Lib.itoa n) : isDig x ∨ x = 45 := by
  unfold Lib.itoa at h
  split at h
  · rcases List.mem_cons.1 h with h | h
    · exact .inr h
    · exact .inl (dec_digs _ x h)
  · exact .inl (dec_digs _ x h)
theorem itoa_no {n : Int} {c : UInt8} (hc : c = 44 ∨ c = 124) : c ∉ Lib.itoa n := fun h => by
  rcases itoa_chars h with h | h
  · unfold isDig at h
    rcases hc with rfl | rfl <;> revert h <;> decide
  · rcases hc with rfl | rfl <;> revert h <;> decide
def okN (n : Int) : Prop := -1000000000 ≤ n ∧ n ≤ 1000000000
theorem parse_itoa {n : Int} (h : okN n) : Lib.parseIntB 64 (Lib.itoa n) = .ok n := by
  unfold okN at h
  have hp : ∀ u : Nat, u ≤ 1000000000 → Lib.parseUintB 64 (Lib.decDigits u) = .ok u := fun u hu => by
    unfold Lib.parseUintB
    rw [if_neg (dec_ne u), parseU (dec_digs u) (by rw [valOf_dec]; omega) (by rw [valOf_dec]; omega), valOf_dec]
  unfold Lib.itoa
  split
  · rename_i hn
    rw [Lib.parseIntB_minus, hp _ (by omega)]
    unfold Lib.signedC
    simp only []
    rw [if_neg (by omega)]
    congr 1
    omega
  · rename_i hn
    obtain ⟨c, l, e, hc⟩ := dec_head n.toNat
    have h2 := hp n.toNat (by omega)
    rw [e] at h2 ⊢
    unfold isDig at hc
    rw [Lib.parseIntB_plain 64 c _ (by omega) (by omega), h2]
    unfold Lib.signlessC
    simp only []
    rw [if_neg (by omega)]
    congr 1
    omega
/-- what reading a number gives -/
def NumP (w : List UInt8) (n : Int) (ok : Bool) : Prop := (ok = true → w = Lib.itoa n) ∧ ∀ m, okN m → w = Lib.itoa m → ok = true ∧ n = m
theorem itoa_inj {m n : Int} (hm : okN m) (h : Lib.itoa m = Lib.itoa n) (hn : okN n) : m = n := by
  have h1 := parse_itoa hm
  rw [h, parse_itoa hn] at h1
  injection h1 with h1
  exact h1.symm
theorem map_itoa_inj : ∀ {xs ys : List Int}, (∀ x ∈ xs, okN x) → (∀ y ∈ ys, okN y) → xs.map Lib.itoa = ys.map Lib.itoa → xs = ys
  | [], [], _, _, _ => rfl
  | [], y :: ys, _, _, h => by simp at h
  | x :: xs, [], _, _, h => by simp at h
  | x :: xs, y :: ys, hx, hy, h => by
    simp only [List.map_cons, List.cons.injEq] at h
    rw [itoa_inj (hx x (by simp)) h.1 (hy y (by simp)), map_itoa_inj (fun z hz => hx z (by simp [hz])) (fun z hz => hy z (by simp [hz])) h.2]
def listL (xs : List Int) : List UInt8 := joinL 44 (xs.map Lib.itoa)
def tableL (t : TableD) : List UInt8 := joinL 124 [listL t.slews, listL t.loads, listL t.values]
theorem listL_words {xs : List Int} (h : xs ≠ []) : splitL 44 (listL xs) = xs.map Lib.itoa :=
  split_join (by simpa using h) (fun w hw => by
    obtain ⟨n, _, rfl⟩ := List.mem_map.1 hw
    exact itoa_no (.inl rfl))
theorem listL_no (xs : List Int) : (124 : UInt8) ∉ listL xs := fun h => by
  rcases mem_join h with h | ⟨w, hw, hx⟩
  · revert h; decide
  · obtain ⟨n, _, rfl⟩ := List.mem_map.1 hw
    exact itoa_no (.inr rfl) hx
theorem tableL_parts (t : TableD) : splitL 124 (tableL t) = [listL t.slews, listL t.loads, listL t.values] :=
  split_join (by simp) (fun w hw => by
    simp at hw
    rcases hw with rfl | rfl | rfl <;> exact listL_no _)
theorem tab_ok {t : TableD} (h : tabB t = true) : (t.slews ≠ [] ∧ ∀ x ∈ t.slews, okN x) ∧ (t.loads ≠ [] ∧ ∀ x ∈ t.loads, okN x) ∧ (t.values ≠ [] ∧ ∀ x ∈ t.values, okN x) := by
  obtain ⟨h1, h2, h3, h4⟩ := tabB_parts h
  have l1 := axB_len h1
  have l2 := axB_len h2
  have q : ∀ {xs : List Int}, axB xs = true → wiB xs 0 100000 = true := fun h => by
    unfold axB at h
    simp only [Bool.and_eq_true] at h
    exact h.1.2
  have e : ∀ (xs : List Int) (lo hi : Int), -1000000000 ≤ lo → hi ≤ 1000000000 → wiB xs lo hi = true → ∀ x ∈ xs, okN x := fun xs lo hi a b hw x hx => by
    obtain ⟨i, hi'⟩ := List.getElem?_of_mem hx
    have := wiB_at hw hi'
    unfold okN
    omega
  refine ⟨⟨fun e0 => ?_, e _ _ _ (by omega) (by omega) (q h1)⟩, ⟨fun e0 => ?_, e _ _ _ (by omega) (by omega) (q h2)⟩, ⟨fun e0 => ?_, e _ _ _ (by omega) (by omega) h4⟩⟩
  · rw [e0] at l1; simp at l1
  · rw [e0] at l2; simp at l2
  · rw [e0] at h3
    have := Nat.mul_pos (show 0 < t.slews.length by omega) (show 0 < t.loads.length by omega)
    simp at h3
    omega
/-- the table that a text tells -/
def RT (s : ByteArray) (t : TableD) (ok : Bool) : Prop := (ok = true ∧ tabB t = true ∧ s.data.toList = tableL t) ∨ (ok = false ∧ t = ⟨[], [], []⟩ ∧ ∀ u, tabB u = true → s.data.toList ≠ tableL u)
theorem list_uniq {xs ys : List Int} (hx : xs ≠ [] ∧ ∀ x ∈ xs, okN x) (hy : ys ≠ [] ∧ ∀ x ∈ ys, okN x) (h : listL xs = listL ys) : xs = ys := by
  have h1 := listL_words hx.1
  rw [h, listL_words hy.1] at h1
  exact map_itoa_inj hx.2 hy.2 h1.symm
theorem table_uniq {t u : TableD} (ht : tabB t = true) (hu : tabB u = true) (h : tableL t = tableL u) : t = u := by
  have h1 := tableL_parts t
  rw [h, tableL_parts u] at h1
  simp only [List.cons.injEq, and_true] at h1
  obtain ⟨a1, a2, a3⟩ := tab_ok ht
  obtain ⟨b1, b2, b3⟩ := tab_ok hu
  have e1 := list_uniq b1 a1 h1.1
  have e2 := list_uniq b2 a2 h1.2.1
  have e3 := list_uniq b3 a3 h1.2.2
  cases t
  cases u
  simp only at e1 e2 e3
  subst e1 e2 e3
  rfl
theorem RT.uniq {s : ByteArray} {t u : TableD} {a b : Bool} (h : RT s t a) (k : RT s u b) : t = u ∧ a = b := by
  rcases h with ⟨rfl, h1, h2⟩ | ⟨rfl, rfl, h3⟩ <;> rcases k with ⟨rfl, k1, k2⟩ | ⟨rfl, rfl, k3⟩
  · exact ⟨table_uniq h1 k1 (h2.symm.trans k2), rfl⟩
  · exact absurd h2 (k3 t h1)
  · exact absurd k2 (h3 u k1)
  · exact ⟨rfl, rfl⟩
/-- the words of a text as numbers -/
def ListP (w : List UInt8) (xs : List Int) (ok : Bool) : Prop := (ok = true → w = listL xs) ∧ ∀ ys, ys ≠ [] → (∀ y ∈ ys, okN y) → w = listL ys → ok = true ∧ xs = ys
/-- the program's way -/
theorem RT.yes {s : ByteArray} {p q r : List UInt8} {a b c : List Int} {o1 o2 o3 : Bool} (hs : splitL 124 s.data.toList = [p, q, r]) (h1 : ListP p a o1) (h2 : ListP q b o2) (h3 : ListP r c o3) (e1 : o1 = true) (e2 : o2 = true) (e3 : o3 = true) (ht : tabB ⟨a, b, c⟩ = true) : RT s ⟨a, b, c⟩ true := by
  refine .inl ⟨rfl, ht, ?_⟩
  have := join_split 124 s.data.toList
  rw [hs, h1.1 e1, h2.1 e2, h3.1 e3] at this
  exact this.symm
theorem RT.parts {s : ByteArray} {p q r : List UInt8} {a b c : List Int} {o1 o2 o3 : Bool} (hs : splitL 124 s.data.toList = [p, q, r]) (h1 : ListP p a o1) (h2 : ListP q b o2) (h3 : ListP r c o3) (u : TableD) (hu : tabB u = true) (e : s.data.toList = tableL u) : o1 = true ∧ o2 = true ∧ o3 = true ∧ u = ⟨a, b, c⟩ := by
  rw [e, tableL_parts] at hs
  simp only [List.cons.injEq, and_true] at hs
  obtain ⟨b1, b2, b3⟩ := tab_ok hu
  obtain ⟨x1, y1⟩ := h1.2 _ b1.1 b1.2 hs.1.symm
  obtain ⟨x2, y2⟩ := h2.2 _ b2.1 b2.2 hs.2.1.symm
  obtain ⟨x3, y3⟩ := h3.2 _ b3.1 b3.2 hs.2.2.symm
  refine ⟨x1, x2, x3, ?_⟩
  cases u
  simp only at y1 y2 y3
  subst y1 y2 y3
  rfl
theorem RT.few {s : ByteArray} (h : (splitL 124 s.data.toList).length ≠ 3) : RT s ⟨[], [], []⟩ false :=
  .inr ⟨rfl, rfl, fun u _ e => h (by rw [e, tableL_parts]; rfl)⟩
end Go.Proofs.YtgglgghlndhfbaaDoor
