/-
  Plain facts on looking up a table: the bracket of a number on an axis, and the weighted sum.
-/
import Derived.Test.YtgglgghlndhfbaaTab
namespace Go.Proofs.Ytgglgghlndhfbaa
open Go.RowKit

/-- x, moved into what the axis spans -/
def clampL (xs : List Int) (x : Int) : Int :=
  let m := if x < xs.getD 0 0 then xs.getD 0 0 else x
  if xs.getD (xs.length - 1) 0 < m then xs.getD (xs.length - 1) 0 else m
/-- the element at or below y, and the weights of it and of the next one -/
def Wt (xs : List Int) (y : Int) (i : Nat) (a b : Int) : Prop :=
  (xs[i]? = some y ∧ a = 1 ∧ b = 0) ∨ (∃ p q, xs[i]? = some p ∧ xs[i + 1]? = some q ∧ p < y ∧ y < q ∧ a = q - y ∧ b = y - p)
theorem inc_lt {xs : List Int} (h : incB xs = true) {i : Nat} {p : Int} (hp : xs[i]? = some p) : ∀ (d : Nat) (q : Int), xs[i + 1 + d]? = some q → p < q
  | 0, q, hq => incB_at h hp hq
  | d + 1, q, hq => by
    have hl : i + 1 + (d + 1) < xs.length := (List.getElem?_eq_some_iff.1 hq).1
    have h1 : xs[i + 1 + d]? = some xs[i + 1 + d] := List.getElem?_eq_getElem (by omega)
    have h2 := inc_lt h hp d _ h1
    have h3 := incB_at h h1 hq
    omega
theorem inc_lt' {xs : List Int} (h : incB xs = true) {i j : Nat} {p q : Int} (hp : xs[i]? = some p) (hq : xs[j]? = some q) (hij : i < j) : p < q :=
  inc_lt h hp (j - i - 1) q (by rw [show i + 1 + (j - i - 1) = j by omega]; exact hq)
theorem inc_inj {xs : List Int} (h : incB xs = true) {i j : Nat} {p q : Int} (hp : xs[i]? = some p) (hq : xs[j]? = some q) : (p < q → i < j) ∧ (p = q → i = j) := by
  rcases Nat.lt_trichotomy i j with hij | hij | hij
  · have := inc_lt' h hp hq hij
    exact ⟨fun _ => hij, fun e => by omega⟩
  · subst hij
    rw [hp] at hq
    injection hq with e
    exact ⟨fun l => by omega, fun _ => rfl⟩
  · have := inc_lt' h hq hp hij
    exact ⟨fun l => by omega, fun e => by omega⟩
theorem Wt.uniq {xs : List Int} {y : Int} {i j : Nat} {a b c d : Int} (h : incB xs = true) (h1 : Wt xs y i a b) (h2 : Wt xs y j c d) : i = j ∧ a = c ∧ b = d := by
  rcases h1 with ⟨h1, rfl, rfl⟩ | ⟨p, q, hp, hq, l1, l2, rfl, rfl⟩ <;> rcases h2 with ⟨h2, rfl, rfl⟩ | ⟨p2, q2, hp2, hq2, l3, l4, rfl, rfl⟩
  · exact ⟨(inc_inj h h1 h2).2 rfl, rfl, rfl⟩
  · have := (inc_inj h hp2 h1).1 l3
    have := (inc_inj h h1 hq2).1 l4
    omega
  · have := (inc_inj h hp h2).1 l1
    have := (inc_inj h h2 hq).1 l2
    omega
  · have k1 := (inc_inj h hp hq2).1 (by omega)
    have k2 := (inc_inj h hp2 hq).1 (by omega)
    obtain rfl : i = j := by omega
    rw [hp] at hp2
    rw [hq] at hq2
    injection hp2 with e1
    injection hq2 with e2
    subst e1 e2
    exact ⟨rfl, rfl, rfl⟩
theorem axB_parts {xs : List Int} (h : axB xs = true) : (1 ≤ xs.length ∧ xs.length ≤ 4) ∧ wiB xs 0 100000 = true ∧ incB xs = true := by
  have hl := axB_len h
  unfold axB at h
  simp only [Bool.and_eq_true] at h
  exact ⟨hl, h.1.2, h.2⟩
theorem Wt.bd {xs : List Int} {y : Int} {i : Nat} {a b : Int} (hx : axB xs = true) (h : Wt xs y i a b) : 1 ≤ a ∧ a ≤ 100000 ∧ 0 ≤ b ∧ b ≤ 100000 ∧ i < xs.length ∧ (0 < b → i + 1 < xs.length) := by
  obtain ⟨_, hw, hi⟩ := axB_parts hx
  rcases h with ⟨h1, rfl, rfl⟩ | ⟨p, q, hp, hq, l1, l2, rfl, rfl⟩
  · exact ⟨by omega, by omega, by omega, by omega, (List.getElem?_eq_some_iff.1 h1).1, fun h => by omega⟩
  · have b1 := wiB_at hw hp
    have b2 := wiB_at hw hq
    exact ⟨by omega, by omega, by omega, by omega, (List.getElem?_eq_some_iff.1 hp).1, fun _ => (List.getElem?_eq_some_iff.1 hq).1⟩
theorem getD_at {xs : List Int} {i : Nat} (h : i < xs.length) : xs[i]? = some (xs.getD i 0) := by
  simp [List.getD, List.getElem?_eq_getElem h]
theorem getD_of {xs : List Int} {i : Nat} {p : Int} (h : xs[i]? = some p) : xs.getD i 0 = p := by
  simp [List.getD, h]
theorem clampL_bd {xs : List Int} (h : axB xs = true) (x : Int) : xs.getD 0 0 ≤ clampL xs x ∧ clampL xs x ≤ xs.getD (xs.length - 1) 0 := by
  obtain ⟨hl, _, hi⟩ := axB_parts h
  have h0 : xs.getD 0 0 ≤ xs.getD (xs.length - 1) 0 := by
    by_cases h1 : xs.length = 1
    · rw [h1]; exact Int.le_refl _
    · have := inc_lt' hi (getD_at (i := 0) (by omega)) (getD_at (i := xs.length - 1) (by omega)) (by omega)
      omega
  unfold clampL
  simp only
  split <;> split <;> omega

/-- the sum of the weighted values -/
def sum4 (t : TableD) (i k : Nat) (a b c d : Int) : Int :=
  t.values.getD (i * t.loads.length + k) 0 * a * c + t.values.getD (i * t.loads.length + (k + 1)) 0 * a * d + (t.values.getD ((i + 1) * t.loads.length + k) 0 * b * c + t.values.getD ((i + 1) * t.loads.length + (k + 1)) 0 * b * d)
def LookV (t : TableD) (sl ld m : Int) (r : Int) : Prop :=
  ∃ (i : Nat) (a b : Int) (k : Nat) (c d : Int), Wt t.slews (clampL t.slews sl) i a b ∧ Wt t.loads (clampL t.loads ld) k c d ∧ r = rdv (sum4 t i k a b c d) ((a + b) * (c + d)) m
theorem LookV.uniq {t : TableD} {sl ld m r s : Int} (ht : tabB t = true) (h : LookV t sl ld m r) (h2 : LookV t sl ld m s) : r = s := by
  obtain ⟨hs, hl, -, -⟩ := tabB_parts ht
  obtain ⟨i, a, b, k, c, d, w1, w2, rfl⟩ := h
  obtain ⟨i', a', b', k', c', d', w1', w2', rfl⟩ := h2
  obtain ⟨rfl, rfl, rfl⟩ := w1.uniq (axB_parts hs).2.2 w1'
  obtain ⟨rfl, rfl, rfl⟩ := w2.uniq (axB_parts hl).2.2 w2'
  rfl
/-- what LookUp answers: the value and the code -/
def LookUpV (t : TableD) (sl ld m : Int) (r c : Int) : Prop :=
  if tabB t = true then (if isM m = true then LookV t sl ld m r ∧ c = 0 else r = 0 ∧ c = 2) else r = 0 ∧ c = 1
theorem LookUpV.uniq {t : TableD} {sl ld m r c s d : Int} (h : LookUpV t sl ld m r c) (h2 : LookUpV t sl ld m s d) : r = s ∧ c = d := by
  unfold LookUpV at h h2
  split at h
  · rename_i ht
    split at h
    · rw [if_pos ht, if_pos (by assumption)] at h2
      exact ⟨h.1.uniq ht h2.1, by omega⟩
    · rw [if_pos ht, if_neg (by assumption)] at h2
      omega
  · rw [if_neg (by assumption)] at h2
    omega
theorem mulB {x y X Y : Int} (h1 : -X ≤ x) (h2 : x ≤ X) (h3 : 0 ≤ y) (h4 : y ≤ Y) (hX : 0 ≤ X) : -(X * Y) ≤ x * y ∧ x * y ≤ X * Y := by
  have a1 : x * y ≤ X * y := Int.mul_le_mul_of_nonneg_right h2 h3
  have a2 : X * y ≤ X * Y := Int.mul_le_mul_of_nonneg_left h4 hX
  have a3 : -X * y ≤ x * y := Int.mul_le_mul_of_nonneg_right h1 h3
  rw [Int.neg_mul] at a3
  omega
theorem val_bd {t : TableD} (ht : tabB t = true) (j : Nat) : -1000000 ≤ t.values.getD j 0 ∧ t.values.getD j 0 ≤ 1000000 := by
  obtain ⟨_, _, _, hv⟩ := tabB_parts ht
  by_cases hj : j < t.values.length
  · exact wiB_at hv (getD_at hj)
  · have : t.values.getD j 0 = 0 := by simp [List.getD, List.getElem?_eq_none (Nat.le_of_not_lt hj)]
    omega
/-- one weighted value: bounds -/
theorem term_bd {t : TableD} (ht : tabB t = true) (j : Nat) {p q : Int} (h1 : 0 ≤ p) (h2 : p ≤ 100000) (h3 : 0 ≤ q) (h4 : q ≤ 100000) :
    (-100000000000 ≤ t.values.getD j 0 * p ∧ t.values.getD j 0 * p ≤ 100000000000) ∧ -10000000000000000 ≤ t.values.getD j 0 * p * q ∧ t.values.getD j 0 * p * q ≤ 10000000000000000 := by
  obtain ⟨v1, v2⟩ := val_bd ht j
  have m1 := mulB (X := 1000000) v1 v2 h1 h2 (by decide)
  have m2 := mulB (x := t.values.getD j 0 * p) (X := 100000000000) (by omega) (by omega) h3 h4 (by decide)
  omega
theorem wprod {a b c d : Int} (h1 : 1 ≤ a) (h2 : a ≤ 100000) (h3 : 0 ≤ b) (h4 : b ≤ 100000) (h5 : 1 ≤ c) (h6 : c ≤ 100000) (h7 : 0 ≤ d) (h8 : d ≤ 100000) :
    1 ≤ (a + b) * (c + d) ∧ (a + b) * (c + d) ≤ 40000000000 := by
  have m := mulB (x := a + b) (y := c + d) (X := 200000) (Y := 200000) (by omega) (by omega) (by omega) (by omega) (by decide)
  have p := Int.mul_pos (a := a + b) (b := c + d) (by omega) (by omega)
  omega
def sumN (f : Nat → Int) : Nat → Int
  | 0 => 0
  | n + 1 => sumN f n + f n
theorem sumN_bd {f : Nat → Int} {B : Int} (n : Nat) (h : ∀ k, k < n → -B ≤ f k ∧ f k ≤ B) : -(n * B) ≤ sumN f n ∧ sumN f n ≤ n * B := by
  induction n with
  | zero => simp [sumN]
  | succ n ih =>
    have h1 := ih fun k hk => h k (by omega)
    have h2 := h n (by omega)
    simp only [sumN, Int.natCast_succ, Int.add_mul, Int.one_mul]
    omega
end Go.Proofs.Ytgglgghlndhfbaa
