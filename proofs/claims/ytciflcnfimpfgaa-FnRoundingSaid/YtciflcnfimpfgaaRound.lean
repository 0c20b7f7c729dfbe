/-
  Contracts of RoundDiv and ScaleTime, the reference's and the program's.
-/
import Derived.Test.YtciflcnfimpfgaaNum
namespace Go.Proofs.Ytciflcnfimpfgaa
open Go.RowKit

def roundV (a b m : Int) : Int × Int :=
  if inB a (-1000000000000000) 1000000000000000 = true ∧ inB b 1 1000000000000000 = true ∧ isM m = true then (rdv a b m, 0) else (0, 2)
def scaleV (t k m : Int) : Int × Int :=
  if inB t (-1000000000) 1000000000 = true ∧ inB k 0 10000 = true ∧ isM m = true then (rdv (t * k) 1000 m, 0) else (0, 2)

set_option maxHeartbeats 400000 in
theorem sRoundDiv_any (a b m : Int) (w : World) :
    Calls Try.prog 12 #[.int .i64 a, .int .i64 b, .int .i64 m] w fun e w' => e = .returned (.tuple #[.int .i64 (roundV a b m).1, .int .i64 (roundV a b m).2]) ∧ w = w' := by
  cases h1 : inB a (-1000000000000000) 1000000000000000 <;> cases h2 : inB b 1 1000000000000000 <;> cases h3 : isM m
  all_goals
    have E : Hid (roundV a b m = if inB a (-1000000000000000) 1000000000000000 = true ∧ inB b 1 1000000000000000 = true ∧ isM m = true then (rdv a b m, 0) else (0, 2)) := rfl
    have B1 : Hid (inB a (-1000000000000000) 1000000000000000 = true → -1000000000000000 ≤ a ∧ a ≤ 1000000000000000) := inB_true
    have B2 : Hid (inB b 1 1000000000000000 = true → 1 ≤ b ∧ b ≤ 1000000000000000) := inB_true
    go_enter Try.func12, Try.ntmps12
    go_wp2_with (first | (go_at_call 41; refine (l01In_any _ _ _ _).mono ?_; rintro e w' ⟨rfl, rfl⟩) | (go_at_call 42; refine (l01Mode_any _ _).mono ?_; rintro e w' ⟨rfl, rfl⟩) | (go_at_call 43; refine (l01Div_any _ _ _ _ (by have := B2.out h2; omega) (by have := B1.out h1; omega) (by have := B1.out h1; omega)).mono ?_; rintro e w' ⟨rfl, rfl⟩))
    go_ret2
    exact ⟨by rw [E.out]; simp [h1, h2, h3], rfl⟩
set_option maxHeartbeats 400000 in
theorem iRoundDiv_any (a b m : Int) (w : World) :
    Calls Try.prog 11 #[.int .i64 a, .int .i64 b, .int .i64 m] w fun e w' => e = .returned (.tuple #[.int .i64 (roundV a b m).1, .int .i64 (roundV a b m).2]) ∧ ∃ n, w.drewN n = w' := by
  cases h1 : inB a (-1000000000000000) 1000000000000000 <;> cases h2 : inB b 1 1000000000000000 <;> cases h3 : isM m
  all_goals
    have E : Hid (roundV a b m = if inB a (-1000000000000000) 1000000000000000 = true ∧ inB b 1 1000000000000000 = true ∧ isM m = true then (rdv a b m, 0) else (0, 2)) := rfl
    have B1 : Hid (inB a (-1000000000000000) 1000000000000000 = true → -1000000000000000 ≤ a ∧ a ≤ 1000000000000000) := inB_true
    have B2 : Hid (inB b 1 1000000000000000 = true → 1 ≤ b ∧ b ≤ 1000000000000000) := inB_true
    go_enter Try.func11, Try.ntmps11
    go_wp2_with (first | (go_at_call 38; refine (within_any _ _ _ _).mono ?_; rintro e w' ⟨rfl, rfl⟩) | (go_at_call 39; refine (isMode_any _ _).mono ?_; rintro e w' ⟨rfl, rfl⟩) | (go_at_call 40; refine (divide_any _ _ _ _ (by have := B2.out h2; omega) (by have := B1.out h1; omega) (by have := B1.out h1; omega)).mono ?_; rintro e w' ⟨rfl, nd, rfl⟩))
    go_ret2
    exact ⟨by rw [E.out]; simp [h1, h2, h3], by first | exact ⟨0, rfl⟩ | exact ⟨_, rfl⟩⟩
end Go.Proofs.Ytciflcnfimpfgaa
