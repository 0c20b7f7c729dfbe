/-
  The look-up in a table, in plain Lean: it does not decrease where the table does not, it stays within the table's bounds, it has the table's own values at the elements of its axes.
-/
import Derived.Test.YtgglgghlndhfbaaLookM
import Derived.Test.YtgglgghlndhfbaaRdv
import Derived.Test.YtgglgghlndhfbaaMono
namespace Go.Proofs.Ytgglgghlndhfbaa
open Go.RowKit

theorem rdv_mono {N D N' D' m : Int} (hD : 1 ≤ D) (hD' : 1 ≤ D') (hm : m = 0 ∨ m = 1) (h : N * D' ≤ N' * D) : rdv N D m ≤ rdv N' D' m := by
  have hp : 0 < D * D' := Int.mul_pos (by omega) (by omega)
  rcases hm with rfl | rfl
  · obtain ⟨a1, a2⟩ := @rdv_low N D hD
    obtain ⟨b1, b2⟩ := @rdv_low N' D' hD'
    have h1 := Int.mul_le_mul_of_nonneg_right a1 (show 0 ≤ D' by omega)
    have h2 := Int.mul_lt_mul_of_pos_right b2 (show 0 < D by omega)
    have e1 : rdv N D 0 * D * D' = rdv N D 0 * (D * D') := by grind
    have e2 : (rdv N' D' 0 * D' + D') * D = (rdv N' D' 0 + 1) * (D * D') := by grind
    have h3 : rdv N D 0 * (D * D') < (rdv N' D' 0 + 1) * (D * D') := by omega
    have := Int.lt_of_mul_lt_mul_right h3 (by omega)
    omega
  · obtain ⟨a1, a2⟩ := @rdv_high N D hD
    obtain ⟨b1, b2⟩ := @rdv_high N' D' hD'
    have h1 := Int.mul_lt_mul_of_pos_right a2 (show 0 < D' by omega)
    have h2 := Int.mul_le_mul_of_nonneg_right b1 (show 0 ≤ D by omega)
    have e1 : rdv N D 1 * D * D' = rdv N D 1 * (D * D') := by grind
    have e2 : rdv N' D' 1 * D' * D = rdv N' D' 1 * (D * D') := by grind
    have e3 : (N + D) * D' = N * D' + D * D' := by grind
    have e4 : (rdv N' D' 1 + 1) * (D * D') = rdv N' D' 1 * (D * D') + D * D' := by grind
    have h3 : rdv N D 1 * (D * D') < (rdv N' D' 1 + 1) * (D * D') := by omega
    have := Int.lt_of_mul_lt_mul_right h3 (by omega)
    omega
/-- the rounded quotient of a number between multiples -/
theorem rdv_between {N D m lo hi : Int} (hD : 1 ≤ D) (hm : m = 0 ∨ m = 1) (h1 : lo * D ≤ N) (h2 : N ≤ hi * D) : lo ≤ rdv N D m ∧ rdv N D m ≤ hi := by
  rcases hm with rfl | rfl
  · obtain ⟨a1, a2⟩ := @rdv_low N D hD
    have e : (rdv N D 0 + 1) * D = rdv N D 0 * D + D := by grind
    have h3 : lo * D < (rdv N D 0 + 1) * D := by omega
    have := Int.lt_of_mul_lt_mul_right h3 (by omega)
    have h4 : rdv N D 0 * D ≤ hi * D := by omega
    have := Int.le_of_mul_le_mul_right h4 (by omega)
    omega
  · obtain ⟨a1, a2⟩ := @rdv_high N D hD
    have e : (hi + 1) * D = hi * D + D := by grind
    have h3 : rdv N D 1 * D < (hi + 1) * D := by omega
    have := Int.lt_of_mul_lt_mul_right h3 (by omega)
    have h4 : lo * D ≤ rdv N D 1 * D := by omega
    have := Int.le_of_mul_le_mul_right h4 (by omega)
    omega
theorem mix_up {u v a b M : Int} (ha : 0 ≤ a) (hb : 0 ≤ b) (hu : u ≤ M) (hv : 0 < b → v ≤ M) : u * a + v * b ≤ M * (a + b) := by
  have h1 := Int.mul_le_mul_of_nonneg_right hu ha
  have h2 : v * b ≤ M * b := by
    rcases Int.lt_or_eq_of_le hb with h | h
    · exact Int.mul_le_mul_of_nonneg_right (hv h) hb
    · rw [← h]; simp
  rw [Int.mul_add]
  omega
theorem mix_low {u v a b M : Int} (ha : 0 ≤ a) (hb : 0 ≤ b) (hu : M ≤ u) (hv : 0 < b → M ≤ v) : M * (a + b) ≤ u * a + v * b := by
  have h1 := Int.mul_le_mul_of_nonneg_right hu ha
  have h2 : M * b ≤ v * b := by
    rcases Int.lt_or_eq_of_le hb with h | h
    · exact Int.mul_le_mul_of_nonneg_right (hv h) hb
    · rw [← h]; simp
  rw [Int.mul_add]
  omega
theorem chain_le {F : Nat → Int} {n : Nat} (hF : ∀ j, j + 1 < n → F j ≤ F (j + 1)) {i : Nat} : ∀ (d : Nat), i + d < n → F i ≤ F (i + d)
  | 0, _ => Int.le_refl _
  | d + 1, h => Int.le_trans (chain_le hF d (by omega)) (hF (i + d) (by omega))
theorem chain_le' {F : Nat → Int} {n : Nat} (hF : ∀ j, j + 1 < n → F j ≤ F (j + 1)) {i j : Nat} (hij : i ≤ j) (hj : j < n) : F i ≤ F j := by
  have := chain_le hF (i := i) (j - i) (by omega)
  rwa [show i + (j - i) = j by omega] at this
/-- the weighted mean does not decrease along the axis -/
theorem lin_mono {F : Nat → Int} {xs : List Int} {y y' : Int} {i i' : Nat} {a b a' b' : Int} (hx : axB xs = true) (h : Wt xs y i a b) (h' : Wt xs y' i' a' b') (hy : y ≤ y') (hF : ∀ j, j + 1 < xs.length → F j ≤ F (j + 1)) :
    (F i * a + F (i + 1) * b) * (a' + b') ≤ (F i' * a' + F (i' + 1) * b') * (a + b) := by
  obtain ⟨_, hw, hi⟩ := axB_parts hx
  obtain ⟨a1, _, b1, _, li, lb⟩ := h.bd hx
  obtain ⟨a2, _, b2, _, li', lb'⟩ := h'.bd hx
  -- a number between both means
  have mid : ∀ M : Int, (F i ≤ M) → (0 < b → F (i + 1) ≤ M) → (M ≤ F i') → (0 < b' → M ≤ F (i' + 1)) → (F i * a + F (i + 1) * b) * (a' + b') ≤ (F i' * a' + F (i' + 1) * b') * (a + b) := by
    intro M m1 m2 m3 m4
    have u := Int.mul_le_mul_of_nonneg_right (mix_up (show 0 ≤ a by omega) b1 m1 m2) (show 0 ≤ a' + b' by omega)
    have l := Int.mul_le_mul_of_nonneg_right (mix_low (show 0 ≤ a' by omega) b2 m3 m4) (show 0 ≤ a + b by omega)
    have e : M * (a + b) * (a' + b') = M * (a' + b') * (a + b) := by grind
    exact Int.le_trans u (by rw [e]; exact l)
  have up' : 0 < b' → F i' ≤ F (i' + 1) := fun hb => hF i' (lb' hb)
  have up : 0 < b → F i ≤ F (i + 1) := fun hb => hF i (lb hb)
  by_cases hlt : i < i'
  · refine mid (F i') (chain_le' hF (by omega) li') (fun hb => chain_le' hF (by omega) li') (Int.le_refl _) up'
  · rcases h with ⟨h1, ea, eb⟩ | ⟨p, q, hp, hq, l1, l2, ea, eb⟩ <;> rcases h' with ⟨h2, ea', eb'⟩ | ⟨p2, q2, hp2, hq2, l3, l4, ea', eb'⟩
    · -- both at an element
      have : i ≤ i' := by
        rcases Int.lt_or_eq_of_le hy with h | h
        · exact Nat.le_of_lt ((inc_inj hi h1 h2).1 h)
        · exact Nat.le_of_eq ((inc_inj hi h1 h2).2 h)
      exact mid (F i) (Int.le_refl _) (fun h => by omega) (chain_le' hF this li') (fun h => by omega)
    · have : i < i' + 1 := (inc_inj hi h1 hq2).1 (by omega)
      have e := chain_le' hF (show i ≤ i' by omega) li'
      exact mid (F i) (Int.le_refl _) (fun h => by omega) e (fun h => Int.le_trans e (up' h))
    · have := (inc_inj hi hp h2).1 (by omega)
      omega
    · have : i < i' + 1 := (inc_inj hi hp hq2).1 (by omega)
      obtain rfl : i = i' := by omega
      rw [hp] at hp2
      rw [hq] at hq2
      injection hp2 with e1
      injection hq2 with e2
      subst e1 e2
      subst ea eb ea' eb'
      have hm := Int.mul_le_mul_of_nonneg_right (up (by omega)) (show 0 ≤ y' - y by omega)
      have hd : F i * (q - y) + F (i + 1) * (y - p) ≤ F i * (q - y') + F (i + 1) * (y' - p) := by
        have e1 : F i * (q - y) = F i * (q - y') + F i * (y' - y) := by grind
        have e2 : F (i + 1) * (y' - p) = F (i + 1) * (y - p) + F (i + 1) * (y' - y) := by grind
        omega
      have e : q - y' + (y' - p) = q - y + (y - p) := by omega
      rw [e]
      exact Int.mul_le_mul_of_nonneg_right hd (by omega)
def rowS (t : TableD) (k : Nat) (c d : Int) (i : Nat) : Int := t.values.getD (i * t.loads.length + k) 0 * c + t.values.getD (i * t.loads.length + (k + 1)) 0 * d
def colS (t : TableD) (i : Nat) (a b : Int) (k : Nat) : Int := t.values.getD (i * t.loads.length + k) 0 * a + t.values.getD ((i + 1) * t.loads.length + k) 0 * b
theorem sum4_rows (t : TableD) (i k : Nat) (a b c d : Int) : sum4 t i k a b c d = rowS t k c d i * a + rowS t k c d (i + 1) * b := by
  unfold sum4 rowS
  grind
theorem sum4_cols (t : TableD) (i k : Nat) (a b c d : Int) : sum4 t i k a b c d = colS t i a b k * c + colS t i a b (k + 1) * d := by
  unfold sum4 colS
  grind
theorem clamp_mono {xs : List Int} {x y : Int} (h : x ≤ y) : clampL xs x ≤ clampL xs y := by
  unfold clampL
  simp only
  (repeat' split) <;> omega
theorem idxl_lt {t : TableD} (ht : tabB t = true) {i k : Nat} (hi : i < t.slews.length) (hk : k < t.loads.length) : i * t.loads.length + k < t.values.length := by
  obtain ⟨_, _, hl, _⟩ := tabB_parts ht
  rw [hl]
  have := Nat.mul_le_mul_right t.loads.length (show i + 1 ≤ t.slews.length from hi)
  rw [Nat.add_mul] at this
  omega
theorem monB_tab {t : TableD} (h : monB t = true) : tabB t = true := by
  unfold monB at h
  rw [Bool.and_eq_true] at h
  exact h.1
theorem monB_at {t : TableD} (h : monB t = true) {j : Nat} (hj : j < t.values.length) : (j % t.loads.length = 0 ∨ t.values.getD (j - 1) 0 ≤ t.values.getD j 0) ∧ (j < t.loads.length ∨ t.values.getD (j - t.loads.length) 0 ≤ t.values.getD j 0) := by
  unfold monB at h
  rw [Bool.and_eq_true] at h
  have h2 := List.all_eq_true.1 h.2 j (List.mem_range.2 hj)
  simpa only [monOk, Bool.and_eq_true, Bool.or_eq_true, decide_eq_true_eq] using h2
theorem mon_up {t : TableD} (hm : monB t = true) {i k : Nat} (hi : i + 1 < t.slews.length) (hk : k < t.loads.length) : t.values.getD (i * t.loads.length + k) 0 ≤ t.values.getD ((i + 1) * t.loads.length + k) 0 := by
  have hlt := idxl_lt (monB_tab hm) hi hk
  have e : (i + 1) * t.loads.length + k = i * t.loads.length + k + t.loads.length := by rw [Nat.add_mul]; omega
  rw [e] at hlt ⊢
  have h := (monB_at hm hlt).2
  rw [Nat.add_sub_cancel] at h
  rcases h with h | h
  · omega
  · exact h
theorem mon_right {t : TableD} (hm : monB t = true) {i k : Nat} (hi : i < t.slews.length) (hk : k + 1 < t.loads.length) : t.values.getD (i * t.loads.length + k) 0 ≤ t.values.getD (i * t.loads.length + (k + 1)) 0 := by
  have hlt := idxl_lt (monB_tab hm) hi hk
  have h := (monB_at hm hlt).1
  rw [show i * t.loads.length + (k + 1) - 1 = i * t.loads.length + k by omega] at h
  rcases h with h | h
  · rw [Nat.mul_comm, Nat.mul_add_mod, Nat.mod_eq_of_lt hk] at h
    omega
  · exact h
/-- a look-up does not decrease with the slew -/
theorem look_slew {t : TableD} (hm : monB t = true) {sl sl' ld m r r' : Int} (hmo : m = 0 ∨ m = 1) (h : LookV t sl ld m r) (h' : LookV t sl' ld m r') (hs : sl ≤ sl') : r ≤ r' := by
  have ht := monB_tab hm
  obtain ⟨hS, hL, -, -⟩ := tabB_parts ht
  obtain ⟨i, a, b, k, c, d, w1, w2, rfl⟩ := h
  obtain ⟨i', a', b', k', c', d', w1', w2', rfl⟩ := h'
  obtain ⟨rfl, rfl, rfl⟩ := w2.uniq (axB_parts hL).2.2 w2'
  obtain ⟨q1, q2, q3, q4, q5, q6⟩ := w1.bd hS
  obtain ⟨p1, p2, p3, p4, p5, p6⟩ := w1'.bd hS
  obtain ⟨o1, o2, o3, o4, o5, o6⟩ := w2.bd hL
  have D1 := (wprod q1 q2 q3 q4 o1 o2 o3 o4).1
  have D2 := (wprod p1 p2 p3 p4 o1 o2 o3 o4).1
  refine rdv_mono D1 D2 hmo ?_
  have hF : ∀ j, j + 1 < t.slews.length → rowS t k c d j ≤ rowS t k c d (j + 1) := fun j hj => by
    unfold rowS
    have h1 := Int.mul_le_mul_of_nonneg_right (mon_up hm hj o5) (show 0 ≤ c by omega)
    have h2 : t.values.getD (j * t.loads.length + (k + 1)) 0 * d ≤ t.values.getD ((j + 1) * t.loads.length + (k + 1)) 0 * d := by
      rcases Int.lt_or_eq_of_le o3 with h | h
      · exact Int.mul_le_mul_of_nonneg_right (mon_up hm hj (o6 h)) o3
      · rw [← h]; simp
    omega
  have L := lin_mono (F := rowS t k c d) hS w1 w1' (clamp_mono hs) hF
  have L2 := Int.mul_le_mul_of_nonneg_right L (show 0 ≤ c + d by omega)
  rw [sum4_rows, sum4_rows]
  have e1 : (rowS t k c d i * a + rowS t k c d (i + 1) * b) * ((a' + b') * (c + d)) = (rowS t k c d i * a + rowS t k c d (i + 1) * b) * (a' + b') * (c + d) := by grind
  have e2 : (rowS t k c d i' * a' + rowS t k c d (i' + 1) * b') * ((a + b) * (c + d)) = (rowS t k c d i' * a' + rowS t k c d (i' + 1) * b') * (a + b) * (c + d) := by grind
  omega
/-- .. nor with the load -/
theorem look_load {t : TableD} (hm : monB t = true) {sl ld ld' m r r' : Int} (hmo : m = 0 ∨ m = 1) (h : LookV t sl ld m r) (h' : LookV t sl ld' m r') (hs : ld ≤ ld') : r ≤ r' := by
  have ht := monB_tab hm
  obtain ⟨hS, hL, -, -⟩ := tabB_parts ht
  obtain ⟨i, a, b, k, c, d, w1, w2, rfl⟩ := h
  obtain ⟨i', a', b', k', c', d', w1', w2', rfl⟩ := h'
  obtain ⟨rfl, rfl, rfl⟩ := w1.uniq (axB_parts hS).2.2 w1'
  obtain ⟨q1, q2, q3, q4, q5, q6⟩ := w1.bd hS
  obtain ⟨p1, p2, p3, p4, p5, p6⟩ := w2'.bd hL
  obtain ⟨o1, o2, o3, o4, o5, o6⟩ := w2.bd hL
  have D1 := (wprod q1 q2 q3 q4 o1 o2 o3 o4).1
  have D2 := (wprod q1 q2 q3 q4 p1 p2 p3 p4).1
  refine rdv_mono D1 D2 hmo ?_
  have hF : ∀ j, j + 1 < t.loads.length → colS t i a b j ≤ colS t i a b (j + 1) := fun j hj => by
    unfold colS
    have h1 := Int.mul_le_mul_of_nonneg_right (mon_right hm q5 hj) (show 0 ≤ a by omega)
    have h2 : t.values.getD ((i + 1) * t.loads.length + j) 0 * b ≤ t.values.getD ((i + 1) * t.loads.length + (j + 1)) 0 * b := by
      rcases Int.lt_or_eq_of_le q3 with h | h
      · exact Int.mul_le_mul_of_nonneg_right (mon_right hm (q6 h) hj) q3
      · rw [← h]; simp
    omega
  have L := lin_mono (F := colS t i a b) hL w2 w2' (clamp_mono hs) hF
  have L2 := Int.mul_le_mul_of_nonneg_right L (show 0 ≤ a + b by omega)
  rw [sum4_cols, sum4_cols]
  have e1 : (colS t i a b k * c + colS t i a b (k + 1) * d) * ((a + b) * (c' + d')) = (colS t i a b k * c + colS t i a b (k + 1) * d) * (c' + d') * (a + b) := by grind
  have e2 : (colS t i a b k' * c' + colS t i a b (k' + 1) * d') * ((a + b) * (c + d)) = (colS t i a b k' * c' + colS t i a b (k' + 1) * d') * (c + d) * (a + b) := by grind
  omega
/-- the early value is at most the late one, which is at most one more -/
theorem look_modes {t : TableD} (ht : tabB t = true) {sl ld r r' : Int} (h : LookV t sl ld 0 r) (h' : LookV t sl ld 1 r') : r ≤ r' ∧ r' - r ≤ 1 := by
  obtain ⟨hS, hL, -, -⟩ := tabB_parts ht
  obtain ⟨i, a, b, k, c, d, w1, w2, rfl⟩ := h
  obtain ⟨i', a', b', k', c', d', w1', w2', rfl⟩ := h'
  obtain ⟨rfl, rfl, rfl⟩ := w1.uniq (axB_parts hS).2.2 w1'
  obtain ⟨rfl, rfl, rfl⟩ := w2.uniq (axB_parts hL).2.2 w2'
  have := rdv_diff (sum4 t i k a b c d) ((a + b) * (c + d))
  omega
/-- a look-up stays within the table's bounds -/
theorem look_between {t : TableD} (ht : tabB t = true) {sl ld m r lo hi : Int} (hmo : m = 0 ∨ m = 1) (h : LookV t sl ld m r) (hb : ∀ x ∈ t.values, lo ≤ x ∧ x ≤ hi) : lo ≤ r ∧ r ≤ hi := by
  obtain ⟨hS, hL, -, -⟩ := tabB_parts ht
  obtain ⟨i, a, b, k, c, d, w1, w2, rfl⟩ := h
  obtain ⟨q1, q2, q3, q4, q5, q6⟩ := w1.bd hS
  obtain ⟨o1, o2, o3, o4, o5, o6⟩ := w2.bd hL
  have D1 := (wprod q1 q2 q3 q4 o1 o2 o3 o4).1
  have hv : ∀ {i k : Nat}, i < t.slews.length → k < t.loads.length → lo ≤ t.values.getD (i * t.loads.length + k) 0 ∧ t.values.getD (i * t.loads.length + k) 0 ≤ hi := fun h1 h2 => hb _ (List.mem_of_getElem? (getD_at (idxl_lt ht h1 h2)))
  have row : ∀ j, j < t.slews.length → lo * (c + d) ≤ rowS t k c d j ∧ rowS t k c d j ≤ hi * (c + d) := fun j hj =>
    ⟨mix_low (by omega) o3 (hv hj o5).1 (fun h => (hv hj (o6 h)).1), mix_up (by omega) o3 (hv hj o5).2 (fun h => (hv hj (o6 h)).2)⟩
  have e : ∀ z : Int, z * ((a + b) * (c + d)) = z * (c + d) * (a + b) := fun z => by grind
  refine rdv_between D1 hmo ?_ ?_
  · rw [sum4_rows, e]
    exact mix_low (by omega) q3 (row i q5).1 (fun h => (row _ (q6 h)).1)
  · rw [sum4_rows, e]
    exact mix_up (by omega) q3 (row i q5).2 (fun h => (row _ (q6 h)).2)
theorem clamp_own {xs : List Int} (h : axB xs = true) {i : Nat} {x : Int} (hx : xs[i]? = some x) : clampL xs x = x := by
  obtain ⟨hl, _, hi⟩ := axB_parts h
  have hlt : i < xs.length := (List.getElem?_eq_some_iff.1 hx).1
  have h0 : xs.getD 0 0 ≤ x := by
    rcases Nat.eq_zero_or_pos i with rfl | h1
    · rw [getD_of hx]; exact Int.le_refl _
    · exact Int.le_of_lt (inc_lt' hi (getD_at (i := 0) (by omega)) hx h1)
  have h1 : x ≤ xs.getD (xs.length - 1) 0 := by
    rcases Nat.lt_or_ge i (xs.length - 1) with h1 | h1
    · exact Int.le_of_lt (inc_lt' hi hx (getD_at (i := xs.length - 1) (by omega)) h1)
    · rw [show xs.length - 1 = i by omega, getD_of hx]; exact Int.le_refl _
  unfold clampL
  simp only
  split <;> split <;> omega
/-- the table's own value at elements of its axes -/
theorem look_own {t : TableD} (ht : tabB t = true) {i k : Nat} {x y m r : Int} (hx : t.slews[i]? = some x) (hy : t.loads[k]? = some y) (hmo : m = 0 ∨ m = 1) (h : LookV t x y m r) : r = t.values.getD (i * t.loads.length + k) 0 := by
  obtain ⟨hS, hL, -, -⟩ := tabB_parts ht
  obtain ⟨i', a, b, k', c, d, w1, w2, rfl⟩ := h
  rw [clamp_own hS hx] at w1
  rw [clamp_own hL hy] at w2
  obtain ⟨rfl, rfl, rfl⟩ := (show Wt t.slews x i 1 0 from .inl ⟨hx, rfl, rfl⟩).uniq (axB_parts hS).2.2 w1
  obtain ⟨rfl, rfl, rfl⟩ := (show Wt t.loads y k 1 0 from .inl ⟨hy, rfl, rfl⟩).uniq (axB_parts hL).2.2 w2
  have e : sum4 t i k 1 0 1 0 = t.values.getD (i * t.loads.length + k) 0 := by unfold sum4; simp
  rw [e]
  have := rdv_between (N := t.values.getD (i * t.loads.length + k) 0) (D := (1 + 0) * (1 + 0)) (m := m) (lo := t.values.getD (i * t.loads.length + k) 0) (hi := t.values.getD (i * t.loads.length + k) 0) (by decide) hmo (by simp) (by simp)
  omega
end Go.Proofs.Ytgglgghlndhfbaa
