/-
  The walk of FnExactSpansOverlap.
-/
import Derived.Test.YtkedpeihdjbldaaSpan
import Derived.Test.YtkedpeihdjbldaaOpenSpan
namespace Go.Proofs.Ytkedpeihdjbldaa
open Go.RowKit
def overV (a b c d : Int) : Bool := spanV a b && spanV c d && (decide (a ≤ d) && decide (c ≤ b))
set_option maxHeartbeats 400000 in
theorem sOverlap_any (a b c d : Int) (w : World) :
    Calls Try.prog 12 #[.agg #[.int .i64 a, .int .i64 b], .agg #[.int .i64 c, .int .i64 d]] w fun e w' => e = .returned (.bool (overV a b c d)) ∧ Grows w w' := by
  have E : Hid (overV a b c d = (spanV a b && spanV c d && (decide (a ≤ d) && decide (c ≤ b)))) := rfl
  cases h1 : spanV a b <;> cases h2 : spanV c d <;> by_cases h3 : a ≤ d <;> by_cases h4 : c ≤ b
  all_goals
    go_enter Try.func12, Try.ntmps12
    go_wp2_with fail
    refine (sIsSpan_any _ _ _).mono ?_
    rintro e w1 ⟨rfl, g1⟩
    obtain ⟨c1, f1⟩ := g1.cells
    rw [h1]
  iterate 8
    · go_wp2_with (go_at_call 9; fail)
      go_ret
      exact ⟨by rw [E.out]; simp [h1, h2, h3, h4], (((Grows.refl _).alloc _).alloc _).trans g1⟩
  all_goals
    go_wp2_with fail
    refine (sIsSpan_any _ _ _).mono ?_
    rintro e w2 ⟨rfl, g2⟩
    obtain ⟨c2, f2⟩ := g2.cells
    have z1 : w.heap.size < w1.heap.size := by have := g1.size; simp at this; omega
    have z2 : w.heap.size + 1 < w1.heap.size := by have := g1.size; simp at this; omega
    rw [h2]
    go_wp2
    go_ret
    exact ⟨by rw [E.out]; simp [h1, h2, h3, h4], ((((Grows.refl _).alloc _).alloc _).trans g1).trans g2⟩
set_option maxHeartbeats 400000 in
theorem iOverlap_any (a b c d : Int) (w : World) :
    Calls Try.prog 13 #[.agg #[.int .i64 a, .int .i64 b], .agg #[.int .i64 c, .int .i64 d]] w fun e w' => e = .returned (.bool (overV a b c d)) ∧ Grows w w' := by
  have E : Hid (overV a b c d = (spanV a b && spanV c d && (decide (a ≤ d) && decide (c ≤ b)))) := rfl
  cases h1 : spanV a b <;> cases h2 : spanV c d
  all_goals
    go_enter Try.func13, Try.ntmps13
    go_wp2_with fail
    refine (iIsSpan_any _ _ _).mono ?_
    rintro e w1 ⟨rfl, g1⟩
    obtain ⟨c1, f1⟩ := g1.cells
    rw [h1]
  iterate 2
    · go_wp2_with (go_at_call 11; fail)
      go_ret
      exact ⟨by rw [E.out]; simp [h1, h2], (((Grows.refl _).alloc _).alloc _).trans g1⟩
  all_goals
    go_wp2_with fail
    refine (iIsSpan_any _ _ _).mono ?_
    rintro e w2 ⟨rfl, g2⟩
    obtain ⟨c2, f2⟩ := g2.cells
    have z1 : w.heap.size < w1.heap.size := by have := g1.size; simp at this; omega
    have z2 : w.heap.size + 1 < w1.heap.size := by have := g1.size; simp at this; omega
    rw [h2]
  · go_wp2
    go_ret
    exact ⟨by rw [E.out]; simp [h1, h2], ((((Grows.refl _).alloc _).alloc _).trans g1).trans g2⟩
  · go_wp2_with (go_at_call 23; refine (overlaps_any _ _ _ _ _).mono ?_; rintro e w3 ⟨rfl, g3⟩)
    go_ret
    exact ⟨by rw [E.out]; simp [h1, h2], (((((Grows.refl _).alloc _).alloc _).trans g1).trans g2).trans (by assumption)⟩
-- THE LAW
set_option maxHeartbeats 1000000 in
theorem walk_FnExactSpansOverlap {p q : Int × Int} {v1 v2 : Value} (hp : v1 = .agg #[.int .i64 p.1, .int .i64 p.2]) (hq : v2 = .agg #[.int .i64 q.1, .int .i64 q.2]) (w : World) :
    Calls Try.prog 5 #[v1, v2] w fun e w' => e = .returned (.bool true) ∧ Below w.heap.size w w' := by
  subst hp hq
  obtain ⟨a, b⟩ := p
  obtain ⟨c, d⟩ := q
  generalize hv : overV a b c d = v
  have E : Hid (overV a b c d = v) := hv
  clear hv
  dsimp only
  go_enter Try.func5, Try.ntmps5
  go_wp2_with fail
  go_region_held3 (fun w' => w'.cell? ⟨w.heap.size, 0, none⟩ = some (.int .i64 a) ∧ w'.cell? ⟨w.heap.size, 1, none⟩ = some (.int .i64 b) ∧ w'.cell? ⟨w.heap.size + 1, 0, none⟩ = some (.int .i64 c) ∧ w'.cell? ⟨w.heap.size + 1, 1, none⟩ = some (.int .i64 d) ∧ w.heap.size + 1 < w'.heap.size ∧ Grows w w')
    (first | (refine ⟨?_, ?_, ?_, ?_, ?_, ?_⟩; (· (simp; done)); (· (simp; done)); (· (simp; done)); (· (simp; done)); (· (simp; try omega)); (· exact (((Grows.refl _).alloc _).alloc _).drew)) | (go_split_ands; refine ⟨?_, ?_, ?_, ?_, ?_, ?_⟩; (· (rw [g.cells.1 _ _ (by omega)]; assumption)); (· (rw [g.cells.1 _ _ (by omega)]; assumption)); (· (rw [g.cells.1 _ _ (by omega)]; assumption)); (· (rw [g.cells.1 _ _ (by omega)]; assumption)); (· (have := g.size; omega)); (· exact Grows.trans (by assumption) g)) | (go_split_ands; refine ⟨?_, ?_, ?_, ?_, ?_, ?_⟩; (· (simp only [World.cell?_drew]; assumption)); (· (simp only [World.cell?_drew]; assumption)); (· (simp only [World.cell?_drew]; assumption)); (· (simp only [World.cell?_drew]; assumption)); (· (simp only [World.size_drew]; omega)); (· exact Grows.drew (by assumption))))
    (first | (go_at_call 10; refine (toSpan_any _ _ _).mono ?_; rintro e wx ⟨rfl, g⟩) | (go_at_call 12; refine (sOverlap_any _ _ _ _ _).mono ?_; rintro e wx ⟨rfl, g⟩; rw [E.out]))
  go_wp2_with fail
  go_region_held3 (fun w' => w'.cell? ⟨w.heap.size, 0, none⟩ = some (.int .i64 a) ∧ w'.cell? ⟨w.heap.size, 1, none⟩ = some (.int .i64 b) ∧ w'.cell? ⟨w.heap.size + 1, 0, none⟩ = some (.int .i64 c) ∧ w'.cell? ⟨w.heap.size + 1, 1, none⟩ = some (.int .i64 d) ∧ w.heap.size + 1 < w'.heap.size ∧ Grows w w')
    (first | (refine ⟨?_, ?_, ?_, ?_, ?_, ?_⟩; (· (simp; done)); (· (simp; done)); (· (simp; done)); (· (simp; done)); (· (simp; try omega)); (· exact (((Grows.refl _).alloc _).alloc _).drew)) | (go_split_ands; refine ⟨?_, ?_, ?_, ?_, ?_, ?_⟩; (· (rw [g.cells.1 _ _ (by omega)]; assumption)); (· (rw [g.cells.1 _ _ (by omega)]; assumption)); (· (rw [g.cells.1 _ _ (by omega)]; assumption)); (· (rw [g.cells.1 _ _ (by omega)]; assumption)); (· (have := g.size; omega)); (· exact Grows.trans (by assumption) g)) | (go_split_ands; refine ⟨?_, ?_, ?_, ?_, ?_, ?_⟩; (· (simp only [World.cell?_drew]; assumption)); (· (simp only [World.cell?_drew]; assumption)); (· (simp only [World.cell?_drew]; assumption)); (· (simp only [World.cell?_drew]; assumption)); (· (simp only [World.size_drew]; omega)); (· exact Grows.drew (by assumption))))
    (first | (go_at_call 10; refine (toSpan_any _ _ _).mono ?_; rintro e wx ⟨rfl, g⟩) | (go_at_call 13; refine (iOverlap_any _ _ _ _ _).mono ?_; rintro e wx ⟨rfl, g⟩; rw [E.out]))
  go_wp2
  go_ret
  go_split_ands
  exact ⟨rfl, Grows.below (by assumption)⟩
end Go.Proofs.Ytkedpeihdjbldaa
