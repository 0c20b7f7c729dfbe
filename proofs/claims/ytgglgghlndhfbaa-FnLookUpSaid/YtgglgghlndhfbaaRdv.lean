/-
  The rounded quotients of both modes enclose the exact one.
-/
import Derived.Test.YtgglgghlndhfbaaMath
namespace Go.Proofs.Ytgglgghlndhfbaa
theorem rdv_low {a b : Int} (hb : 1 ≤ b) : rdv a b 0 * b ≤ a ∧ a < rdv a b 0 * b + b := by
  have e := tdiv_add a b
  have m := @tmod_bd a b hb
  rw [Int.mul_comm] at e
  unfold rdv
  split
  · rename_i h
    rw [Int.sub_mul, Int.one_mul]
    rcases Int.le_total 0 a with h0 | h0
    · have := m.1 h0; omega
    · have := m.2 h0; omega
  · rename_i h
    split
    · omega
    · rcases Int.le_total 0 a with h0 | h0
      · have := m.1 h0; omega
      · have := m.2 h0; omega
theorem rdv_high {a b : Int} (hb : 1 ≤ b) : a ≤ rdv a b 1 * b ∧ rdv a b 1 * b < a + b := by
  have e := tdiv_add a b
  have m := @tmod_bd a b hb
  rw [Int.mul_comm] at e
  unfold rdv
  split
  · omega
  · split
    · rw [Int.add_mul, Int.one_mul]
      rcases Int.le_total 0 a with h0 | h0
      · have := m.1 h0; omega
      · have := m.2 h0; omega
    · rcases Int.le_total 0 a with h0 | h0
      · have := m.1 h0; omega
      · have := m.2 h0; omega
theorem rdv_diff (a b : Int) : 0 ≤ rdv a b 1 - rdv a b 0 ∧ rdv a b 1 - rdv a b 0 ≤ 1 ∧ (rdv a b 0 = rdv a b 1 ↔ a.tmod b = 0) := by
  unfold rdv
  (repeat' split) <;> omega
end Go.Proofs.Ytgglgghlndhfbaa
