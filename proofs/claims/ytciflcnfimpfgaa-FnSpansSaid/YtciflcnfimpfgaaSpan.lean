/-
  Contracts of the functions on spans.
-/
import Derived.Test.YtciflcnfimpfgaaNum
import Derived.Laws.ResultCell
namespace Go.Proofs.Ytciflcnfimpfgaa
open Go.RowKit

def spanV (a b : Int) : Bool := inB a (-1000000000) 1000000000 && inB b (-1000000000) 1000000000 && decide (a ≤ b)

set_option maxHeartbeats 400000 in
theorem sIsSpan_any (a b : Int) (w : World) :
    Calls Try.prog 16 #[.agg #[.int .i64 a, .int .i64 b]] w fun e w' => e = .returned (.bool (spanV a b)) ∧ Grows w w' := by
  have E : Hid (spanV a b = (inB a (-1000000000) 1000000000 && inB b (-1000000000) 1000000000 && decide (a ≤ b))) := rfl
  cases h1 : inB a (-1000000000) 1000000000 <;> cases h2 : inB b (-1000000000) 1000000000 <;> by_cases h3 : a ≤ b
  all_goals
    go_enter Try.func16, Try.ntmps16
    go_wp2_with (go_at_call 41; refine (l01In_any _ _ _ _).mono ?_; rintro e w' ⟨rfl, rfl⟩)
    go_ret
    exact ⟨by rw [E.out]; simp [h1, h2, h3], (Grows.refl _).alloc _⟩
set_option maxHeartbeats 400000 in
theorem iIsSpan_any (a b : Int) (w : World) :
    Calls Try.prog 45 #[.agg #[.int .i64 a, .int .i64 b]] w fun e w' => e = .returned (.bool (spanV a b)) ∧ Grows w w' := by
  have E : Hid (spanV a b = (inB a (-1000000000) 1000000000 && inB b (-1000000000) 1000000000 && decide (a ≤ b))) := rfl
  cases h1 : inB a (-1000000000) 1000000000 <;> cases h2 : inB b (-1000000000) 1000000000 <;> by_cases h3 : a ≤ b
  all_goals
    go_enter Try.func45, Try.ntmps45
    go_wp2_with (go_at_call 67; refine (isTime_any _ _).mono ?_; rintro e w' ⟨rfl, rfl⟩)
    go_ret
    exact ⟨by rw [E.out]; simp [h1, h2, h3], (Grows.refl _).alloc _⟩
set_option maxHeartbeats 400000 in
theorem plus_any (a b c d : Int) (w : World) (h1 : -1000000000 ≤ a ∧ a ≤ 1000000000) (h2 : -1000000000 ≤ b ∧ b ≤ 1000000000) (h3 : -1000000000 ≤ c ∧ c ≤ 1000000000) (h4 : -1000000000 ≤ d ∧ d ≤ 1000000000) :
    Calls Try.prog 48 #[.agg #[.int .i64 a, .int .i64 b], .agg #[.int .i64 c, .int .i64 d]] w fun e w' => e = .returned (.agg #[.int .i64 (a + c), .int .i64 (b + d)]) ∧ Grows w w' := by
  obtain ⟨h1, h1'⟩ := h1
  obtain ⟨h2, h2'⟩ := h2
  obtain ⟨h3, h3'⟩ := h3
  obtain ⟨h4, h4'⟩ := h4
  go_enter Try.func48, Try.ntmps48
  go_wp2
  exact bodyPost_ret (v := .agg #[.int .i64 (a + c), .int .i64 (b + d)]) (by simp [results, Try.results48, go_sem]) rfl ⟨rfl, (((Grows.refl _).alloc _).alloc _).alloc _⟩
set_option maxHeartbeats 400000 in
theorem overlaps_any (a b c d : Int) (w : World) :
    Calls Try.prog 47 #[.agg #[.int .i64 a, .int .i64 b], .agg #[.int .i64 c, .int .i64 d]] w fun e w' => e = .returned (.bool (decide (a ≤ d) && decide (c ≤ b))) ∧ Grows w w' := by
  by_cases h1 : a ≤ d <;> by_cases h2 : c ≤ b
  all_goals
    go_enter Try.func47, Try.ntmps47
    go_wp2
    go_ret
    exact ⟨by simp [h1, h2], ((Grows.refl _).alloc _).alloc _⟩
end Go.Proofs.Ytciflcnfimpfgaa
