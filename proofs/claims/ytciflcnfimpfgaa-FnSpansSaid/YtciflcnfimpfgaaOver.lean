/-
  Contracts of SpansOverlap, the reference's and the program's.
-/
import Derived.Test.YtciflcnfimpfgaaSpan
namespace Go.Proofs.Ytciflcnfimpfgaa
open Go.RowKit
def overV (a b c d : Int) : Bool := spanV a b && spanV c d && (decide (a ≤ d) && decide (c ≤ b))
set_option maxHeartbeats 400000 in
theorem iOverlap_any (a b c d : Int) (w : World) :
    Calls Try.prog 17 #[.agg #[.int .i64 a, .int .i64 b], .agg #[.int .i64 c, .int .i64 d]] w fun e w' => e = .returned (.bool (overV a b c d)) ∧ Grows w w' := by
  have E : Hid (overV a b c d = (spanV a b && spanV c d && (decide (a ≤ d) && decide (c ≤ b)))) := rfl
  cases h1 : spanV a b <;> cases h2 : spanV c d
  all_goals
    go_enter Try.func17, Try.ntmps17
    go_wp2_with fail
    refine (iIsSpan_any _ _ _).mono ?_
    rintro e w1 ⟨rfl, g1⟩
    obtain ⟨c1, f1⟩ := g1.cells
    rw [h1]
  iterate 2
    · go_wp2_with (go_at_call 45; fail)
      go_ret
      exact ⟨by rw [E.out]; simp [h1, h2], (((Grows.refl _).alloc _).alloc _).trans g1⟩
  all_goals
    go_wp2_with fail
    refine (iIsSpan_any _ _ _).mono ?_
    rintro e w2 ⟨rfl, g2⟩
    obtain ⟨c2, f2⟩ := g2.cells
    have z1 : w.heap.size < w1.heap.size := by have := g1.size; simp at this; omega
    have z2 : w.heap.size + 1 < w1.heap.size := by have := g1.size; simp at this; omega
    rw [h2]
  · go_wp2
    go_ret
    exact ⟨by rw [E.out]; simp [h1, h2], ((((Grows.refl _).alloc _).alloc _).trans g1).trans g2⟩
  · go_wp2_with (go_at_call 47; refine (overlaps_any _ _ _ _ _).mono ?_; rintro e w3 ⟨rfl, g3⟩)
    go_ret
    exact ⟨by rw [E.out]; simp [h1, h2], (((((Grows.refl _).alloc _).alloc _).trans g1).trans g2).trans (by assumption)⟩
end Go.Proofs.Ytciflcnfimpfgaa
