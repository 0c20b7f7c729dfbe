/-
  Contracts of RoundDiv and ScaleTime, the reference's and the program's.
-/
import Derived.Test.YtkedpeihdjbldaaNum
namespace Go.Proofs.Ytkedpeihdjbldaa
open Go.RowKit

def roundV (a b m : Int) : Int × Int :=
  if inB a (-1000000000000000) 1000000000000000 = true ∧ inB b 1 1000000000000000 = true ∧ isM m = true then (rdv a b m, 0) else (0, 2)
def scaleV (t k m : Int) : Int × Int :=
  if inB t (-1000000000) 1000000000 = true ∧ inB k 0 10000 = true ∧ isM m = true then (rdv (t * k) 1000 m, 0) else (0, 2)

set_option maxHeartbeats 400000 in
theorem sRoundDiv_any (a b m : Int) (w : World) :
    Calls Try.prog 14 #[.int .i64 a, .int .i64 b, .int .i64 m] w fun e w' => e = .returned (.tuple #[.int .i64 (roundV a b m).1, .int .i64 (roundV a b m).2]) ∧ w = w' := by
  cases h1 : inB a (-1000000000000000) 1000000000000000 <;> cases h2 : inB b 1 1000000000000000 <;> cases h3 : isM m
  all_goals
    have E : Hid (roundV a b m = if inB a (-1000000000000000) 1000000000000000 = true ∧ inB b 1 1000000000000000 = true ∧ isM m = true then (rdv a b m, 0) else (0, 2)) := rfl
    have B1 : Hid (inB a (-1000000000000000) 1000000000000000 = true → -1000000000000000 ≤ a ∧ a ≤ 1000000000000000) := inB_true
    have B2 : Hid (inB b 1 1000000000000000 = true → 1 ≤ b ∧ b ≤ 1000000000000000) := inB_true
    go_enter Try.func14, Try.ntmps14
    go_wp2_with (first | (go_at_call 21; refine (l01In_any _ _ _ _).mono ?_; rintro e w' ⟨rfl, rfl⟩) | (go_at_call 24; refine (l01Mode_any _ _).mono ?_; rintro e w' ⟨rfl, rfl⟩) | (go_at_call 25; refine (l01Div_any _ _ _ _ (by have := B2.out h2; omega) (by have := B1.out h1; omega) (by have := B1.out h1; omega)).mono ?_; rintro e w' ⟨rfl, rfl⟩))
    go_ret2
    exact ⟨by rw [E.out]; simp [h1, h2, h3], rfl⟩
set_option maxHeartbeats 400000 in
theorem iRoundDiv_any (a b m : Int) (w : World) :
    Calls Try.prog 15 #[.int .i64 a, .int .i64 b, .int .i64 m] w fun e w' => e = .returned (.tuple #[.int .i64 (roundV a b m).1, .int .i64 (roundV a b m).2]) ∧ ∃ n, w.drewN n = w' := by
  cases h1 : inB a (-1000000000000000) 1000000000000000 <;> cases h2 : inB b 1 1000000000000000 <;> cases h3 : isM m
  all_goals
    have E : Hid (roundV a b m = if inB a (-1000000000000000) 1000000000000000 = true ∧ inB b 1 1000000000000000 = true ∧ isM m = true then (rdv a b m, 0) else (0, 2)) := rfl
    have B1 : Hid (inB a (-1000000000000000) 1000000000000000 = true → -1000000000000000 ≤ a ∧ a ≤ 1000000000000000) := inB_true
    have B2 : Hid (inB b 1 1000000000000000 = true → 1 ≤ b ∧ b ≤ 1000000000000000) := inB_true
    go_enter Try.func15, Try.ntmps15
    go_wp2_with (first | (go_at_call 26; refine (within_any _ _ _ _).mono ?_; rintro e w' ⟨rfl, rfl⟩) | (go_at_call 27; refine (isMode_any _ _).mono ?_; rintro e w' ⟨rfl, rfl⟩) | (go_at_call 28; refine (divide_any _ _ _ _ (by have := B2.out h2; omega) (by have := B1.out h1; omega) (by have := B1.out h1; omega)).mono ?_; rintro e w' ⟨rfl, nd, rfl⟩))
    go_ret2
    exact ⟨by rw [E.out]; simp [h1, h2, h3], by first | exact ⟨0, rfl⟩ | exact ⟨_, rfl⟩⟩
theorem mul_bd {t k : Int} (h : -1000000000 ≤ t ∧ t ≤ 1000000000) (h2 : 0 ≤ k ∧ k ≤ 10000) : -10000000000000 ≤ t * k ∧ t * k ≤ 10000000000000 := by
  constructor
  · have := Int.mul_le_mul_of_nonneg_right h.1 h2.1
    have := Int.mul_le_mul_of_nonneg_left h2.2 (show (0 : Int) ≤ 1000000000 by omega)
    omega
  · have := Int.mul_le_mul_of_nonneg_right h.2 h2.1
    have := Int.mul_le_mul_of_nonneg_left h2.2 (show (0 : Int) ≤ 1000000000 by omega)
    omega
set_option maxHeartbeats 400000 in
theorem sScaleTime_any (a b m : Int) (w : World) :
    Calls Try.prog 16 #[.int .i64 a, .int .i64 b, .int .i64 m] w fun e w' => e = .returned (.tuple #[.int .i64 (scaleV a b m).1, .int .i64 (scaleV a b m).2]) ∧ w = w' := by
  cases h1 : inB a (-1000000000) 1000000000 <;> cases h2 : inB b 0 10000 <;> cases h3 : isM m
  all_goals
    have E : Hid (scaleV a b m = if inB a (-1000000000) 1000000000 = true ∧ inB b 0 10000 = true ∧ isM m = true then (rdv (a * b) 1000 m, 0) else (0, 2)) := rfl
    try (have hb := mul_bd (inB_true h1) (inB_true h2); have hb1 := hb.1; have hb2 := hb.2; clear hb)
    go_enter Try.func16, Try.ntmps16
    go_wp2_with (first | (go_at_call 21; refine (l01In_any _ _ _ _).mono ?_; rintro e w' ⟨rfl, rfl⟩) | (go_at_call 24; refine (l01Mode_any _ _).mono ?_; rintro e w' ⟨rfl, rfl⟩) | (go_at_call 25; refine (l01Div_any _ _ _ _ (by omega) (by omega) (by omega)).mono ?_; rintro e w' ⟨rfl, rfl⟩))
    go_ret2
    exact ⟨by rw [E.out]; simp [h1, h2, h3], rfl⟩
set_option maxHeartbeats 400000 in
theorem isFactor_any (n : Int) (w : World) :
    Calls Try.prog 29 #[.int .i64 n] w fun e w' => e = .returned (.bool (inB n 0 10000)) ∧ w = w' := by
  go_enter Try.func29, Try.ntmps29
  go_wp2_with (go_at_call 26; refine (within_any _ _ _ _).mono ?_; rintro e w' ⟨rfl, rfl⟩)
  go_ret
  exact ⟨rfl, rfl⟩
set_option maxHeartbeats 400000 in
theorem scale_any (t k m : Int) (w : World) (h1 : -1000000000 ≤ t) (h2 : t ≤ 1000000000) (h3 : 0 ≤ k) (h4 : k ≤ 10000) :
    Calls Try.prog 30 #[.int .i64 t, .int .i64 k, .int .i64 m] w fun e w' => e = .returned (.int .i64 (rdv (t * k) 1000 m)) ∧ ∃ n, w.drewN n = w' := by
  have hb := mul_bd ⟨h1, h2⟩ ⟨h3, h4⟩
  have hb1 := hb.1
  have hb2 := hb.2
  clear hb
  go_enter Try.func30, Try.ntmps30
  go_wp2_with (go_at_call 28; refine (divide_any _ _ _ _ (by omega) (by omega) (by omega)).mono ?_; rintro e w' ⟨rfl, nd, rfl⟩)
  go_ret
  exact ⟨rfl, _, rfl⟩
set_option maxHeartbeats 400000 in
theorem iScaleTime_any (a b m : Int) (w : World) :
    Calls Try.prog 17 #[.int .i64 a, .int .i64 b, .int .i64 m] w fun e w' => e = .returned (.tuple #[.int .i64 (scaleV a b m).1, .int .i64 (scaleV a b m).2]) ∧ ∃ n, w.drewN n = w' := by
  cases h1 : inB a (-1000000000) 1000000000 <;> cases h2 : inB b 0 10000 <;> cases h3 : isM m
  all_goals
    have E : Hid (scaleV a b m = if inB a (-1000000000) 1000000000 = true ∧ inB b 0 10000 = true ∧ isM m = true then (rdv (a * b) 1000 m, 0) else (0, 2)) := rfl
    try (have hb := inB_true h1; have hb1 := hb.1; have hb2 := hb.2; clear hb; have hb := inB_true h2; have hb3 := hb.1; have hb4 := hb.2; clear hb)
    go_enter Try.func17, Try.ntmps17
    go_wp2_with (first | (go_at_call 22; refine (isTime_any _ _).mono ?_; rintro e w' ⟨rfl, rfl⟩) | (go_at_call 29; refine (isFactor_any _ _).mono ?_; rintro e w' ⟨rfl, rfl⟩) | (go_at_call 27; refine (isMode_any _ _).mono ?_; rintro e w' ⟨rfl, rfl⟩) | (go_at_call 30; refine (scale_any _ _ _ _ (by omega) (by omega) (by omega) (by omega)).mono ?_; rintro e w' ⟨rfl, nd, rfl⟩))
    go_ret2
    exact ⟨by rw [E.out]; simp [h1, h2, h3], by first | exact ⟨0, rfl⟩ | exact ⟨_, rfl⟩⟩
end Go.Proofs.Ytkedpeihdjbldaa
