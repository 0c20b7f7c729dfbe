/-
  Contracts of RoundDiv and ScaleTime, the reference's and the program's.
-/
import Derived.Test.YtgglgghlndhfbaaNum
namespace Go.Proofs.Ytgglgghlndhfbaa
open Go.RowKit

def roundV (a b m : Int) : Int × Int :=
  if inB a (-1000000000000000) 1000000000000000 = true ∧ inB b 1 1000000000000000 = true ∧ isM m = true then (rdv a b m, 0) else (0, 2)
def scaleV (t k m : Int) : Int × Int :=
  if inB t (-1000000000) 1000000000 = true ∧ inB k 0 10000 = true ∧ isM m = true then (rdv (t * k) 1000 m, 0) else (0, 2)

theorem mul_bd {t k : Int} (h : -1000000000 ≤ t ∧ t ≤ 1000000000) (h2 : 0 ≤ k ∧ k ≤ 10000) : -10000000000000 ≤ t * k ∧ t * k ≤ 10000000000000 := by
  constructor
  · have := Int.mul_le_mul_of_nonneg_right h.1 h2.1
    have := Int.mul_le_mul_of_nonneg_left h2.2 (show (0 : Int) ≤ 1000000000 by omega)
    omega
  · have := Int.mul_le_mul_of_nonneg_right h.2 h2.1
    have := Int.mul_le_mul_of_nonneg_left h2.2 (show (0 : Int) ≤ 1000000000 by omega)
    omega
set_option maxHeartbeats 400000 in
theorem isFactor_any (n : Int) (w : World) :
    Calls Try.prog 30 #[.int .i64 n] w fun e w' => e = .returned (.bool (inB n 0 10000)) ∧ w = w' := by
  go_enter Try.func30, Try.ntmps30
  go_wp2_with (go_at_call 48; refine (within_any _ _ _ _).mono ?_; rintro e w' ⟨rfl, rfl⟩)
  go_ret
  exact ⟨rfl, rfl⟩
set_option maxHeartbeats 400000 in
theorem scale_any (t k m : Int) (w : World) (h1 : -1000000000 ≤ t) (h2 : t ≤ 1000000000) (h3 : 0 ≤ k) (h4 : k ≤ 10000) :
    Calls Try.prog 33 #[.int .i64 t, .int .i64 k, .int .i64 m] w fun e w' => e = .returned (.int .i64 (rdv (t * k) 1000 m)) ∧ ∃ n, w.drewN n = w' := by
  have hb := mul_bd ⟨h1, h2⟩ ⟨h3, h4⟩
  have hb1 := hb.1
  have hb2 := hb.2
  clear hb
  go_enter Try.func33, Try.ntmps33
  go_wp2_with (go_at_call 49; refine (divide_any _ _ _ _ (by omega) (by omega) (by omega)).mono ?_; rintro e w' ⟨rfl, nd, rfl⟩)
  go_ret
  exact ⟨rfl, _, rfl⟩
end Go.Proofs.Ytgglgghlndhfbaa
