/-
  Square roots and the slew behind a wire, in plain Lean.
-/
import Derived.Test.YtpppobomekebdaaGreatDoorRdv
namespace Go.Proofs.YtpppobomekebdaaGreatDoor
def IsRt (n r : Int) : Prop := 0 ≤ r ∧ r * r ≤ n ∧ n < (r + 1) * (r + 1)
theorem sq_lt {a b : Int} (ha : 0 ≤ a) (hb : 0 ≤ b) (h : a * a < b * b) : a < b := by
  rcases Int.lt_or_le a b with h1 | h1
  · exact h1
  · have h2 := Int.mul_le_mul_of_nonneg_right h1 hb
    have h3 := Int.mul_le_mul_of_nonneg_left h1 ha
    omega
theorem sq_le {a b : Int} (ha : 0 ≤ a) (h : a ≤ b) : a * a ≤ b * b := by
  have h2 := Int.mul_le_mul_of_nonneg_right h ha
  have h3 := Int.mul_le_mul_of_nonneg_left h (show 0 ≤ b by omega)
  omega
theorem IsRt.uniq {n r s : Int} (h : IsRt n r) (k : IsRt n s) : r = s := by
  have h1 := sq_lt h.1 (show 0 ≤ s + 1 by have := k.1; omega) (Int.lt_of_le_of_lt h.2.1 k.2.2)
  have h2 := sq_lt k.1 (show 0 ≤ r + 1 by have := h.1; omega) (Int.lt_of_le_of_lt k.2.1 h.2.2)
  omega
theorem rdv0 {a b : Int} (hb : 1 ≤ b) {q : Int} (h1 : q * b ≤ a) (h2 : a < q * b + b) : rdv a b 0 = q := by
  obtain ⟨l1, l2⟩ := @rdv_low a b hb
  have e1 : (rdv a b 0 + 1) * b = rdv a b 0 * b + b := by rw [Int.add_mul, Int.one_mul]
  have e2 : (q + 1) * b = q * b + b := by rw [Int.add_mul, Int.one_mul]
  have x1 : q * b < (rdv a b 0 + 1) * b := by omega
  have x2 : rdv a b 0 * b < (q + 1) * b := by omega
  have := Int.lt_of_mul_lt_mul_right x1 (by omega)
  have := Int.lt_of_mul_lt_mul_right x2 (by omega)
  omega
theorem rdv1 {a b : Int} (hb : 1 ≤ b) {q : Int} (h1 : a ≤ q * b) (h2 : q * b < a + b) : rdv a b 1 = q := by
  obtain ⟨l1, l2⟩ := @rdv_high a b hb
  have e1 : (rdv a b 1 + 1) * b = rdv a b 1 * b + b := by rw [Int.add_mul, Int.one_mul]
  have e2 : (q + 1) * b = q * b + b := by rw [Int.add_mul, Int.one_mul]
  have x1 : q * b < (rdv a b 1 + 1) * b := by omega
  have x2 : rdv a b 1 * b < (q + 1) * b := by omega
  have := Int.lt_of_mul_lt_mul_right x1 (by omega)
  have := Int.lt_of_mul_lt_mul_right x2 (by omega)
  omega
/-- the square under both roots: 250000 slews and the delay -/
def slewX (s d : Int) : Int := 250000 * (s * s) + d * d
def SlewP (s d m r : Int) : Prop := ∃ b : Int, IsRt (slewX s d) b ∧ r = if m = 1 ∧ b * b < slewX s d then b / 500 + 1 else rdv b 500 m
theorem SlewP.uniq {s d m r r' : Int} (h : SlewP s d m r) (k : SlewP s d m r') : r = r' := by
  obtain ⟨b, hb, rfl⟩ := h
  obtain ⟨c, hc, rfl⟩ := k
  rw [hb.uniq hc]
/-- the quotients of both roots -/
theorem roots_q {X a b : Int} (ha : IsRt (4 * X) a) (hb : IsRt X b) : a / 1000 = b / 500 := by
  obtain ⟨q, hq⟩ : ∃ q, q = b / 500 := ⟨_, rfl⟩
  have q0 : 0 ≤ q := by have := hb.1; omega
  have h1 : 500 * q ≤ b := by omega
  have h2 : b + 1 ≤ 500 * (q + 1) := by omega
  have s1 := sq_le (show 0 ≤ 500 * q by omega) h1
  have s2 := sq_le (show 0 ≤ b + 1 by have := hb.1; omega) h2
  have e1 : 1000 * q * (1000 * q) = 4 * (500 * q * (500 * q)) := by grind
  have e2 : 1000 * (q + 1) * (1000 * (q + 1)) = 4 * (500 * (q + 1) * (500 * (q + 1))) := by grind
  have x1 : 1000 * q < a + 1 := sq_lt (by omega) (by have := ha.1; omega) (by have := hb.2.1; have := ha.2.2; omega)
  have x2 : a < 1000 * (q + 1) := sq_lt ha.1 (by omega) (by have := hb.2.2; have := ha.2.1; omega)
  omega
/-- the reference's slew is the program's -/
theorem slew_spec {s d m a : Int} (hm : m = 0 ∨ m = 1) (ha : IsRt (4 * slewX s d) a) (hx : ∃ b, IsRt (slewX s d) b) : SlewP s d m (rdv (if m = 1 ∧ a * a < 4 * slewX s d then a + 1 else a) 1000 m) := by
  obtain ⟨b, hb⟩ := hx
  refine ⟨b, hb, ?_⟩
  have hq := roots_q ha hb
  have a0 := ha.1
  have b0 := hb.1
  rcases hm with rfl | rfl
  · rw [if_neg (fun h => by have := h.1; omega), if_neg (fun h => by have := h.1; omega)]
    rw [rdv0 (q := a / 1000) (by omega) (by omega) (by omega), rdv0 (q := b / 500) (by omega) (by omega) (by omega)]
    exact hq
  · by_cases he : b * b < slewX s d
    · have ne : a * a < 4 * slewX s d := by
        rcases Int.lt_or_eq_of_le ha.2.1 with h | h
        · exact h
        · exfalso
          obtain ⟨c, hc⟩ : ∃ c, a = 2 * c ∨ a = 2 * c + 1 := ⟨a / 2, by omega⟩
          rcases hc with hc | hc
          · have e : a * a = 4 * (c * c) := by rw [hc]; grind
            have hcX : c * c = slewX s d := by omega
            have x1 : c < b + 1 := sq_lt (by omega) (by omega) (by have := hb.2.2; omega)
            have x2 := sq_le (show 0 ≤ c by omega) (show c ≤ b by omega)
            omega
          · have e : a * a = 4 * (c * c) + 4 * c + 1 := by rw [hc]; grind
            omega
      rw [if_pos ⟨rfl, ne⟩, if_pos ⟨rfl, he⟩]
      rw [rdv1 (q := a / 1000 + 1) (by omega) (by omega) (by omega), hq]
    · have hbX : b * b = slewX s d := by have := hb.2.1; omega
      have hab : a = 2 * b := by
        have e : 2 * b * (2 * b) = 4 * (b * b) := by grind
        have x1 : 2 * b < a + 1 := sq_lt (by omega) (by omega) (by have := ha.2.2; omega)
        have x2 : a < 2 * b + 1 := by
          have e2 : (2 * b + 1) * (2 * b + 1) = 4 * (b * b) + 4 * b + 1 := by grind
          exact sq_lt a0 (by omega) (by have := ha.2.1; omega)
        omega
      have e : a * a = 4 * slewX s d := by rw [hab, ← hbX]; grind
      rw [if_neg (fun h => by have := h.2; omega), if_neg (fun h => he h.2), hab]
      obtain ⟨r1, r2⟩ := @rdv_high b 500 (by omega)
      exact rdv1 (by omega) (by omega) (by omega)
end Go.Proofs.YtpppobomekebdaaGreatDoor
