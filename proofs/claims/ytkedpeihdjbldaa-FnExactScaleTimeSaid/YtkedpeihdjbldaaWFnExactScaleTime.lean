/-
  The walk of FnExactScaleTime.
-/
import Derived.Test.YtkedpeihdjbldaaRound
namespace Go.Proofs.Ytkedpeihdjbldaa
open Go.RowKit
theorem below_drewN {B : Nat} {a w : World} (h : Below B a w) (n : Nat) : Below B a (w.drewN n) := ⟨h.os, h.tape, h.output, h.size, h.block⟩
set_option maxHeartbeats 400000 in
theorem walk_FnExactScaleTime {a b m : Int} (_ : (Lit.int .i64 a).wf = true) (_ : (Lit.int .i64 b).wf = true) (_ : (Lit.int .i64 m).wf = true) (w : World) :
    Calls Try.prog 7 #[.int .i64 a, .int .i64 b, .int .i64 m] w fun e w' => e = .returned (.bool true) ∧ Below w.heap.size w w' := by
  generalize hv : scaleV a b m = v
  have E : Hid (scaleV a b m = v) := hv
  clear hv
  obtain ⟨v1, v2⟩ := v
  go_enter Try.func7, Try.ntmps7
  go_wp2_with (first | (go_at_call 16; refine (sScaleTime_any _ _ _ _).mono ?_; rintro e w' ⟨rfl, rfl⟩; rw [E.out]) | (go_at_call 17; refine (iScaleTime_any _ _ _ _).mono ?_; rintro e w' ⟨rfl, nd, rfl⟩; rw [E.out]))
  go_ret
  exact ⟨rfl, below_drewN (Below.refl _ _) _⟩
end Go.Proofs.Ytkedpeihdjbldaa
