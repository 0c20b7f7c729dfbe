/-
  Contracts of AddSpans, the reference's and the program's.
-/
import Derived.Test.YtciflcnfimpfgaaSpan
namespace Go.Proofs.Ytciflcnfimpfgaa
open Go.RowKit
def addV (a b c d : Int) : Int × Int × Int :=
  if spanV a b = true ∧ spanV c d = true then (if spanV (a + c) (b + d) = true then (a + c, b + d, 0) else (0, 0, 2)) else (0, 0, 1)
theorem spanV_bd {a b : Int} (h : spanV a b = true) : (-1000000000 ≤ a ∧ a ≤ 1000000000) ∧ (-1000000000 ≤ b ∧ b ≤ 1000000000) ∧ a ≤ b := by
  simp only [spanV, Bool.and_eq_true, decide_eq_true_eq] at h
  exact ⟨inB_true h.1.1, inB_true h.1.2, h.2⟩
set_option maxHeartbeats 400000 in
theorem sAddSpans_any (a b c d : Int) (w : World) :
    Calls Try.prog 49 #[.agg #[.int .i64 a, .int .i64 b], .agg #[.int .i64 c, .int .i64 d]] w fun e w' => e = .returned (.tuple #[.agg #[.int .i64 (addV a b c d).1, .int .i64 (addV a b c d).2.1], .int .i64 (addV a b c d).2.2]) ∧ Grows w w' := by
  have E : Hid (addV a b c d = if spanV a b = true ∧ spanV c d = true then (if spanV (a + c) (b + d) = true then (a + c, b + d, 0) else (0, 0, 2)) else (0, 0, 1)) := rfl
  cases h1 : spanV a b
  · go_enter Try.func49, Try.ntmps49
    go_wp2_with fail
    refine (sIsSpan_any _ _ _).mono ?_
    rintro e w1 ⟨rfl, g1⟩
    obtain ⟨c1, f1⟩ := g1.cells
    have z2 : w.heap.size + 1 + 1 < w1.heap.size := by have := g1.size; simp at this; omega
    rw [h1]
    go_wp2
    refine bodyPost_ret (by simp [*, results, Try.results49, go_sem]; try rfl) rfl ?_
    exact ⟨by rw [E.out]; simp [h1], (((((Grows.refl _).alloc _).alloc _).alloc _).trans g1).setCell (by simp; omega) _ |>.setCell (by simp; omega) _⟩
  · cases h2 : spanV c d
    · go_enter Try.func49, Try.ntmps49
      go_wp2_with fail
      refine (sIsSpan_any _ _ _).mono ?_
      rintro e w1 ⟨rfl, g1⟩
      obtain ⟨c1, f1⟩ := g1.cells
      have z1 : w.heap.size + 1 < w1.heap.size := by have := g1.size; simp at this; omega
      have z2 : w.heap.size + 1 + 1 < w1.heap.size := by have := g1.size; simp at this; omega
      rw [h1]
      go_wp2_with fail
      refine (sIsSpan_any _ _ _).mono ?_
      rintro e w2 ⟨rfl, g2⟩
      obtain ⟨c2, f2⟩ := g2.cells
      have y2 : w.heap.size + 1 + 1 < w2.heap.size := by have := g2.size; omega
      rw [h2]
      go_wp2
      refine bodyPost_ret (by simp [*, results, Try.results49, go_sem]; try rfl) rfl ?_
      exact ⟨by rw [E.out]; simp [h1, h2], ((((((Grows.refl _).alloc _).alloc _).alloc _).trans g1).trans g2).setCell (by simp; omega) _ |>.setCell (by simp; omega) _⟩
    · obtain ⟨⟨a1, a2⟩, ⟨a3, a4⟩, a5⟩ := spanV_bd h1
      obtain ⟨⟨b1, b2⟩, ⟨b3, b4⟩, b5⟩ := spanV_bd h2
      go_enter Try.func49, Try.ntmps49
      go_wp2_with fail
      refine (sIsSpan_any _ _ _).mono ?_
      rintro e w1 ⟨rfl, g1⟩
      obtain ⟨c1, f1⟩ := g1.cells
      have z0 : w.heap.size < w1.heap.size := by have := g1.size; simp at this; omega
      have z1 : w.heap.size + 1 < w1.heap.size := by have := g1.size; simp at this; omega
      have z2 : w.heap.size + 1 + 1 < w1.heap.size := by have := g1.size; simp at this; omega
      rw [h1]
      go_wp2_with fail
      refine (sIsSpan_any _ _ _).mono ?_
      rintro e w2 ⟨rfl, g2⟩
      obtain ⟨c2, f2⟩ := g2.cells
      have y0 : w.heap.size < w2.heap.size := by have := g2.size; omega
      have y1 : w.heap.size + 1 < w2.heap.size := by have := g2.size; omega
      have y2 : w.heap.size + 1 + 1 < w2.heap.size := by have := g2.size; omega
      rw [h2]
      go_wp2_with fail
      refine (sIsSpan_any _ _ _).mono ?_
      rintro e w3 ⟨rfl, g3⟩
      obtain ⟨c3, f3⟩ := g3.cells
      have x2 : w.heap.size + 1 + 1 < w3.heap.size := by have := g3.size; simp at this; omega
      have x3 : w2.heap.size < w3.heap.size := by have := g3.size; simp at this; omega
      cases h3 : spanV (a + c) (b + d)
      · go_wp2
        refine bodyPost_ret (by simp [*, results, Try.results49, go_sem]; try rfl) rfl ?_
        exact ⟨by rw [E.out]; simp [h1, h2, h3], (((((((Grows.refl _).alloc _).alloc _).alloc _).trans g1).trans g2).alloc _).trans g3 |>.setCell (by simp; omega) _ |>.setCell (by simp; omega) _⟩
      · go_wp2
        refine bodyPost_ret (by simp [*, results, Try.results49, go_sem]; try rfl) rfl ?_
        exact ⟨by rw [E.out]; simp [h1, h2, h3], (((((((Grows.refl _).alloc _).alloc _).alloc _).trans g1).trans g2).alloc _).trans g3 |>.setCell (by simp; omega) _ |>.setCell (by simp; omega) _⟩
-- THE PROGRAM
set_option maxHeartbeats 400000 in
theorem iAddSpans_any (a b c d : Int) (w : World) :
    Calls Try.prog 18 #[.agg #[.int .i64 a, .int .i64 b], .agg #[.int .i64 c, .int .i64 d]] w fun e w' => e = .returned (.tuple #[.agg #[.int .i64 (addV a b c d).1, .int .i64 (addV a b c d).2.1], .int .i64 (addV a b c d).2.2]) ∧ Grows w w' := by
  have E : Hid (addV a b c d = if spanV a b = true ∧ spanV c d = true then (if spanV (a + c) (b + d) = true then (a + c, b + d, 0) else (0, 0, 2)) else (0, 0, 1)) := rfl
  cases h1 : spanV a b
  · go_enter Try.func18, Try.ntmps18
    go_wp2_with fail
    refine (iIsSpan_any _ _ _).mono ?_
    rintro e w1 ⟨rfl, g1⟩
    obtain ⟨c1, f1⟩ := g1.cells
    have z1_0 : w.heap.size < w1.heap.size := by have := g1.size; (try simp at this); omega
    have z1_1 : w.heap.size + 1 < w1.heap.size := by have := g1.size; (try simp at this); omega
    have z1_2 : w.heap.size + 1 + 1 < w1.heap.size := by have := g1.size; (try simp at this); omega
    rw [h1]
    go_wp2
    refine bodyPost_ret (by simp [*, results, Try.results18, go_sem]; try rfl) rfl ?_
    exact ⟨by rw [E.out]; simp [h1], ((((Grows.refl _).alloc _).alloc _).alloc _).trans g1 |>.setCell (by simp; omega) _ |>.setCell (by simp; omega) _⟩
  · cases h2 : spanV c d
    · go_enter Try.func18, Try.ntmps18
      go_wp2_with fail
      refine (iIsSpan_any _ _ _).mono ?_
      rintro e w1 ⟨rfl, g1⟩
      obtain ⟨c1, f1⟩ := g1.cells
      have z1_0 : w.heap.size < w1.heap.size := by have := g1.size; (try simp at this); omega
      have z1_1 : w.heap.size + 1 < w1.heap.size := by have := g1.size; (try simp at this); omega
      have z1_2 : w.heap.size + 1 + 1 < w1.heap.size := by have := g1.size; (try simp at this); omega
      rw [h1]
      go_wp2_with fail
      refine (iIsSpan_any _ _ _).mono ?_
      rintro e w2 ⟨rfl, g2⟩
      obtain ⟨c2, f2⟩ := g2.cells
      have z2_0 : w.heap.size < w2.heap.size := by have := g2.size; (try simp at this); omega
      have z2_1 : w.heap.size + 1 < w2.heap.size := by have := g2.size; (try simp at this); omega
      have z2_2 : w.heap.size + 1 + 1 < w2.heap.size := by have := g2.size; (try simp at this); omega
      rw [h2]
      go_wp2
      refine bodyPost_ret (by simp [*, results, Try.results18, go_sem]; try rfl) rfl ?_
      exact ⟨by rw [E.out]; simp [h1, h2], (((((Grows.refl _).alloc _).alloc _).alloc _).trans g1).trans g2 |>.setCell (by simp; omega) _ |>.setCell (by simp; omega) _⟩
    · obtain ⟨a1, a2, a5⟩ := spanV_bd h1
      obtain ⟨b1, b2, b5⟩ := spanV_bd h2
      have A1 := hideIt a1
      have A2 := hideIt a2
      have B1 := hideIt b1
      have B2 := hideIt b2
      clear a1 a2 a5 b1 b2 b5
      go_enter Try.func18, Try.ntmps18
      go_wp2_with fail
      refine (iIsSpan_any _ _ _).mono ?_
      rintro e w1 ⟨rfl, g1⟩
      obtain ⟨c1, f1⟩ := g1.cells
      have z1_0 : w.heap.size < w1.heap.size := by have := g1.size; (try simp at this); omega
      have z1_1 : w.heap.size + 1 < w1.heap.size := by have := g1.size; (try simp at this); omega
      have z1_2 : w.heap.size + 1 + 1 < w1.heap.size := by have := g1.size; (try simp at this); omega
      rw [h1]
      go_wp2_with fail
      refine (iIsSpan_any _ _ _).mono ?_
      rintro e w2 ⟨rfl, g2⟩
      obtain ⟨c2, f2⟩ := g2.cells
      have z2_0 : w.heap.size < w2.heap.size := by have := g2.size; (try simp at this); omega
      have z2_1 : w.heap.size + 1 < w2.heap.size := by have := g2.size; (try simp at this); omega
      have z2_2 : w.heap.size + 1 + 1 < w2.heap.size := by have := g2.size; (try simp at this); omega
      rw [h2]
      go_wp2_with fail
      refine (plus_any _ _ _ _ _ A1.out A2.out B1.out B2.out).mono ?_
      rintro e w3 ⟨rfl, g3⟩
      obtain ⟨c3, f3⟩ := g3.cells
      have z3_0 : w.heap.size < w3.heap.size := by have := g3.size; (try simp at this); omega
      have z3_1 : w.heap.size + 1 < w3.heap.size := by have := g3.size; (try simp at this); omega
      have z3_2 : w.heap.size + 1 + 1 < w3.heap.size := by have := g3.size; (try simp at this); omega
      go_wp2_with fail
      refine (iIsSpan_any _ _ _).mono ?_
      rintro e w4 ⟨rfl, g4⟩
      obtain ⟨c4, f4⟩ := g4.cells
      have z4_0 : w.heap.size < w4.heap.size := by have := g4.size; (try simp at this); omega
      have z4_1 : w.heap.size + 1 < w4.heap.size := by have := g4.size; (try simp at this); omega
      have z4_2 : w.heap.size + 1 + 1 < w4.heap.size := by have := g4.size; (try simp at this); omega
      cases h3 : spanV (a + c) (b + d)
      · go_wp2
        refine bodyPost_ret (by simp [*, results, Try.results18, go_sem]; try rfl) rfl ?_
        exact ⟨by rw [E.out]; simp [h1, h2, h3], (((((((Grows.refl _).alloc _).alloc _).alloc _).trans g1).trans g2).trans g3).trans g4 |>.setCell (by simp; omega) _ |>.setCell (by simp; omega) _⟩
      · go_wp2_with fail
        refine (plus_any _ _ _ _ _ A1.out A2.out B1.out B2.out).mono ?_
        rintro e w5 ⟨rfl, g5⟩
        obtain ⟨c5, f5⟩ := g5.cells
        have z5_0 : w.heap.size < w5.heap.size := by have := g5.size; (try simp at this); omega
        have z5_1 : w.heap.size + 1 < w5.heap.size := by have := g5.size; (try simp at this); omega
        have z5_2 : w.heap.size + 1 + 1 < w5.heap.size := by have := g5.size; (try simp at this); omega
        go_wp2
        refine bodyPost_ret (by simp [*, results, Try.results18, go_sem]; try rfl) rfl ?_
        exact ⟨by rw [E.out]; simp [h1, h2, h3], ((((((((Grows.refl _).alloc _).alloc _).alloc _).trans g1).trans g2).trans g3).trans g4).trans g5 |>.setCell (by simp; omega) _ |>.setCell (by simp; omega) _⟩
end Go.Proofs.Ytciflcnfimpfgaa
