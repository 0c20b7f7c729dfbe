/-
  Contracts of the small number functions: bounds, modes, division.
-/
import Derived.Test.YtgglgghlndhfbaaProg
import Derived.Test.YtgglgghlndhfbaaMath
import Derived.Test.YtgglgghlndhfbaaGrow
namespace Go.Proofs.Ytgglgghlndhfbaa
open Go.RowKit

set_option maxHeartbeats 400000 in
theorem l01In_any (n lo hi : Int) (w : World) :
    Calls Try.prog 24 #[.int .i64 n, .int .i64 lo, .int .i64 hi] w fun e w' => e = .returned (.bool (inB n lo hi)) ∧ w = w' := by
  by_cases h1 : lo ≤ n <;> by_cases h2 : n ≤ hi <;> go_enter Try.func24, Try.ntmps24 <;> go_wp2 <;> go_ret <;> exact ⟨by simp [inB]; omega, rfl⟩

set_option maxHeartbeats 400000 in
theorem within_any (n lo hi : Int) (w : World) :
    Calls Try.prog 48 #[.int .i64 n, .int .i64 lo, .int .i64 hi] w fun e w' => e = .returned (.bool (inB n lo hi)) ∧ w = w' := by
  by_cases h1 : lo ≤ n <;> by_cases h2 : n ≤ hi <;> go_enter Try.func48, Try.ntmps48 <;> go_wp2 <;> go_ret <;> exact ⟨by simp [inB]; omega, rfl⟩

set_option maxHeartbeats 400000 in
theorem isMode_any (m : Int) (w : World) :
    Calls Try.prog 31 #[.int .i64 m] w fun e w' => e = .returned (.bool (isM m)) ∧ w = w' := by
  by_cases h1 : (m == 0) = true
  · go_enter Try.func31, Try.ntmps31
    go_wp2
    go_ret
    exact ⟨by have := eq_of_beq h1; simp [isM, this], rfl⟩
  · have h2 : (m == 0) = false := by simpa using h1
    go_enter Try.func31, Try.ntmps31
    go_wp2
    go_ret
    exact ⟨by have : ¬ m = 0 := by simpa using h2
              simp [isM, this]; rfl, rfl⟩
set_option maxHeartbeats 400000 in
theorem l01Mode_any (m : Int) (w : World) :
    Calls Try.prog 25 #[.int .i64 m] w fun e w' => e = .returned (.bool (isM m)) ∧ w = w' := by
  by_cases h1 : (m == 0) = true
  · go_enter Try.func25, Try.ntmps25
    go_wp2
    go_ret
    exact ⟨by have := eq_of_beq h1; simp [isM, this], rfl⟩
  · have h2 : (m == 0) = false := by simpa using h1
    go_enter Try.func25, Try.ntmps25
    go_wp2
    go_ret
    exact ⟨by have : ¬ m = 0 := by simpa using h2
              simp [isM, this]; rfl, rfl⟩
set_option maxHeartbeats 400000 in
theorem l01Div_any (a b m : Int) (w : World) (hb : 1 ≤ b) (ha : -2000000000000000000 ≤ a) (ha2 : a ≤ 2000000000000000000) :
    Calls Try.prog 27 #[.int .i64 a, .int .i64 b, .int .i64 m] w fun e w' => e = .returned (.int .i64 (rdv a b m)) ∧ w = w' := by
  have hz : (b == 0) = false := by simp; omega
  have h0 := @tdiv_bd a b hb
  have h1 : -2000000000000000000 ≤ a.tdiv b := by rcases Int.le_total 0 a with h | h <;> omega
  have h2 : a.tdiv b ≤ 2000000000000000000 := by rcases Int.le_total 0 a with h | h <;> omega
  clear h0
  by_cases hr : a.tmod b < 0 <;> by_cases hr2 : 0 < a.tmod b
  · omega
  all_goals (cases hm : (m == 0) <;> cases hm1 : (m == 1))
  all_goals
    go_enter Try.func27, Try.ntmps27
    go_wp2
    go_ret
    simp only [beq_iff_eq, beq_eq_false_iff_ne, ne_eq] at hm hm1
    refine ⟨ret_int ?_, rfl⟩
    unfold rdv
    (repeat' split) <;> omega
set_option maxHeartbeats 400000 in
theorem divide_any (a b m : Int) (w : World) (hb : 1 ≤ b) (ha : -2000000000000000000 ≤ a) (ha2 : a ≤ 2000000000000000000) :
    Calls Try.prog 49 #[.int .i64 a, .int .i64 b, .int .i64 m] w fun e w' => e = .returned (.int .i64 (rdv a b m)) ∧ ∃ n, w.drewN n = w' := by
  have hz : (b == 0) = false := by simp; omega
  have h0 := @tdiv_bd a b hb
  have h1 : -2000000000000000000 ≤ a.tdiv b := by rcases Int.le_total 0 a with h | h <;> omega
  have h2 : a.tdiv b ≤ 2000000000000000000 := by rcases Int.le_total 0 a with h | h <;> omega
  clear h0
  by_cases hr : a.tmod b < 0 <;> by_cases hr2 : 0 < a.tmod b
  · omega
  all_goals (cases hm : (m == 0) <;> cases hm1 : (m == 1))
  all_goals
    go_enter Try.func49, Try.ntmps49
    go_wp2
    go_quiet (fail)
    go_wp2
    go_ret
    simp only [beq_iff_eq, beq_eq_false_iff_ne, ne_eq] at hm hm1
    refine ⟨ret_int ?_, _, rfl⟩
    unfold rdv
    (repeat' split) <;> omega
end Go.Proofs.Ytgglgghlndhfbaa
