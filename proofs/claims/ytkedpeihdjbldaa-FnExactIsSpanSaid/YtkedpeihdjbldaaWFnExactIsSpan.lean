/-
  The walk of FnExactIsSpan.
-/
import Derived.Test.YtkedpeihdjbldaaSpan
import Derived.Test.YtkedpeihdjbldaaOpenSpan
namespace Go.Proofs.Ytkedpeihdjbldaa
open Go.RowKit
set_option maxHeartbeats 400000 in
theorem walk_FnExactIsSpan {p : Int × Int} {v : Value} (hp : v = .agg #[.int .i64 p.1, .int .i64 p.2]) (w : World) :
    Calls Try.prog 4 #[v] w fun e w' => e = .returned (.bool true) ∧ Below w.heap.size w w' := by
  subst hp
  obtain ⟨a, b⟩ := p
  generalize hv : spanV a b = v
  have E : Hid (spanV a b = v) := hv
  clear hv
  dsimp only
  go_enter Try.func4, Try.ntmps4
  go_wp2_with fail
  refine (toSpan_any _ _ _).mono ?_
  rintro e w1 ⟨rfl, g1⟩
  obtain ⟨c1, f1⟩ := g1.cells
  go_wp2_with fail
  refine (sIsSpan_any _ _ _).mono ?_
  rintro e w2 ⟨rfl, g2⟩
  obtain ⟨c2, f2⟩ := g2.cells
  have z1 : w.heap.size < w1.heap.size := by have := g1.size; simp at this; omega
  rw [E.out]
  go_wp2_with fail
  refine (toSpan_any _ _ _).mono ?_
  rintro e w3 ⟨rfl, g3⟩
  go_wp2_with fail
  refine (iIsSpan_any _ _ _).mono ?_
  rintro e w4 ⟨rfl, g4⟩
  rw [E.out]
  go_wp2
  go_ret
  exact ⟨rfl, (((((Grows.refl _).alloc _).trans g1).trans g2).trans g3).trans g4⟩
end Go.Proofs.Ytkedpeihdjbldaa
