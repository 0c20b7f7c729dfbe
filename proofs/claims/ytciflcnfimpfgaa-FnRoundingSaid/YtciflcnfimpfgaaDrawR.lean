/-
  DrawRoundDiv gives three numbers.
-/
import Derived.Test.YtciflcnfimpfgaaDraw
namespace Go.Proofs.Ytciflcnfimpfgaa
open Go.RowKit

theorem ints4 {w : World} {g : Nat} {t : TypeId} {z0 z1 z2 z3 : Int} (h : Blk w g t #[.int .i64 z0, .int .i64 z1, .int .i64 z2, .int .i64 z3]) {q : Nat} (hq : q < 4) : ∃ z : Int, w.cell? ⟨g, q, none⟩ = some (.int .i64 z) := by
  rw [h.cell]
  rcases (by omega : q = 0 ∨ q = 1 ∨ q = 2 ∨ q = 3) with rfl | rfl | rfl | rfl <;> exact ⟨_, rfl⟩
set_option maxHeartbeats 4000000 in
theorem drawRoundDiv_any {v : Value} {xs : List Int} {w : World} (hx : RBytes w v xs) :
    Calls Try.prog 10 #[v] w fun e w' => ∃ a b m : Int, e = .returned (.tuple #[.int .i64 a, .int .i64 b, .int .i64 m]) ∧ Grows w w' := by
  have HX := hideIt hx
  clear hx
  go_enter Try.func10, Try.ntmps10
  go_wp2_with fail
  refine (l01From_any HX.out).mono ?_
  rintro e u0 ⟨b, rfl, h, g⟩
  replace h := hideIt h
  clear g
  go_wp2_with fail
  refine (l01Next_any (w0 := w) _ (h.out.grows (by repeat (first | exact Grows.refl _ | refine Grows.drewN ?_ _ | refine Grows.alloc ?_ _)))).mono ?_
  rintro e u1 ⟨r1, rfl, r1a, r1b, h_, c_⟩
  replace h := hideIt h_
  clear h_ c_
  go_wp2_with fail
  refine (l01Next_any (w0 := w) _ (h.out.grows (by repeat (first | exact Grows.refl _ | refine Grows.drewN ?_ _ | refine Grows.alloc ?_ _)))).mono ?_
  rintro e u2 ⟨r2, rfl, r2a, r2b, h_, c_⟩
  replace h := hideIt h_
  clear h_ c_
  go_wp2_with fail
  refine (l01Next_any (w0 := w) _ (h.out.grows (by repeat (first | exact Grows.refl _ | refine Grows.drewN ?_ _ | refine Grows.alloc ?_ _)))).mono ?_
  rintro e u3 ⟨r3, rfl, r3a, r3b, h_, c_⟩
  replace h := hideIt h_
  clear h_ c_
  have p1 := r1b (by omega)
  have p2 := r2b (by omega)
  by_cases e0 : r3 = 0
  · subst e0
    go_wp2_with fail
    have lb := h.out.ge.2.2
    refine (l01Next_any (w0 := w) _ (h.out.grows (by repeat (first | exact Grows.refl _ | refine Grows.drewN ?_ _ | refine Grows.alloc ?_ _)))).mono ?_
    rintro e u5 ⟨r4, rfl, r4a, r4b, h_, c_⟩
    have bl := (Blk.new u3 2 #[.int .i64 1000000000000000, .int .i64 (-1000000000000000), .int .i64 1000000000000001, .int .i64 (-1000000000000001)]).chg c_ (by simp; omega)
    obtain ⟨q, rfl⟩ : ∃ q : Nat, r4 = (q : Int) := ⟨r4.toNat, by omega⟩
    obtain ⟨z, kz⟩ := ints4 bl (q := q) (by have := r4b (by omega); omega)
    clear bl lb
    have q4 : q < 4 := by have := r4b (by omega); omega
    replace h := hideIt h_
    clear h_ c_
    go_wp2_with fail
    refine (l01Next_any (w0 := w) _ (h.out.grows (by repeat (first | exact Grows.refl _ | refine Grows.drewN ?_ _ | refine Grows.alloc ?_ _)))).mono ?_
    rintro e u11 ⟨r5, rfl, r5a, r5b, h_, c_⟩
    replace h := hideIt h_
    clear h_ c_
    go_wp2_with fail
    refine (l01Next_any (w0 := w) _ (h.out.grows (by repeat (first | exact Grows.refl _ | refine Grows.drewN ?_ _ | refine Grows.alloc ?_ _)))).mono ?_
    rintro e u12 ⟨r6, rfl, r6a, r6b, h_, c_⟩
    replace h := hideIt h_
    clear h_ c_
    have q6 : r6 / 23 ≤ 1 := by omega
    have q7 : 0 ≤ r6 / 23 := by omega
    go_wp2
    refine bodyPost_ret (by simp [*, results, Try.results10, go_sem]; try rfl) rfl ?_
    exact ⟨_, _, _, rfl, h.out.ge.2.1⟩
  by_cases e1 : r3 = 1
  · subst e1
    go_wp2_with fail
    have lb := h.out.ge.2.2
    refine (l01Next_any (w0 := w) _ (h.out.grows (by repeat (first | exact Grows.refl _ | refine Grows.drewN ?_ _ | refine Grows.alloc ?_ _)))).mono ?_
    rintro e u5 ⟨r4, rfl, r4a, r4b, h_, c_⟩
    have bl := (Blk.new u3 2 #[.int .i64 0, .int .i64 (-3), .int .i64 1000000000000000, .int .i64 1000000000000001]).chg c_ (by simp; omega)
    obtain ⟨q, rfl⟩ : ∃ q : Nat, r4 = (q : Int) := ⟨r4.toNat, by omega⟩
    obtain ⟨z, kz⟩ := ints4 bl (q := q) (by have := r4b (by omega); omega)
    clear bl lb
    have q4 : q < 4 := by have := r4b (by omega); omega
    replace h := hideIt h_
    clear h_ c_
    go_wp2_with fail
    refine (l01Next_any (w0 := w) _ (h.out.grows (by repeat (first | exact Grows.refl _ | refine Grows.drewN ?_ _ | refine Grows.alloc ?_ _)))).mono ?_
    rintro e u11 ⟨r5, rfl, r5a, r5b, h_, c_⟩
    replace h := hideIt h_
    clear h_ c_
    go_wp2_with fail
    refine (l01Next_any (w0 := w) _ (h.out.grows (by repeat (first | exact Grows.refl _ | refine Grows.drewN ?_ _ | refine Grows.alloc ?_ _)))).mono ?_
    rintro e u12 ⟨r6, rfl, r6a, r6b, h_, c_⟩
    replace h := hideIt h_
    clear h_ c_
    have q6 : r6 / 23 ≤ 1 := by omega
    have q7 : 0 ≤ r6 / 23 := by omega
    go_wp2
    refine bodyPost_ret (by simp [*, results, Try.results10, go_sem]; try rfl) rfl ?_
    exact ⟨_, _, _, rfl, h.out.ge.2.1⟩
  by_cases e2 : r3 = 2
  · subst e2
    have hz : (1 + r2 == 0) = false := by simp; omega
    have td := @tdiv_bd (r1 - 1000000) (1 + r2) (by omega)
    have t1 : -1000000 ≤ (r1 - 1000000).tdiv (1 + r2) := by rcases Int.le_total 0 (r1 - 1000000) with h | h <;> omega
    have t2 : (r1 - 1000000).tdiv (1 + r2) ≤ 1000000 := by rcases Int.le_total 0 (r1 - 1000000) with h | h <;> omega
    have tm : -1000000000 ≤ (r1 - 1000000).tdiv (1 + r2) * (1 + r2) ∧ (r1 - 1000000).tdiv (1 + r2) * (1 + r2) ≤ 1000000000 := by
      have a1 := Int.mul_le_mul_of_nonneg_right t1 (show 0 ≤ 1 + r2 by omega)
      have a2 := Int.mul_le_mul_of_nonneg_right t2 (show 0 ≤ 1 + r2 by omega)
      omega
    clear td
    go_wp2_with fail
    refine (l01Next_any (w0 := w) _ (h.out.grows (by repeat (first | exact Grows.refl _ | refine Grows.drewN ?_ _ | refine Grows.alloc ?_ _)))).mono ?_
    rintro e u11 ⟨r5, rfl, r5a, r5b, h_, c_⟩
    replace h := hideIt h_
    clear h_ c_
    go_wp2_with fail
    refine (l01Next_any (w0 := w) _ (h.out.grows (by repeat (first | exact Grows.refl _ | refine Grows.drewN ?_ _ | refine Grows.alloc ?_ _)))).mono ?_
    rintro e u12 ⟨r6, rfl, r6a, r6b, h_, c_⟩
    replace h := hideIt h_
    clear h_ c_
    have q6 : r6 / 23 ≤ 1 := by omega
    have q7 : 0 ≤ r6 / 23 := by omega
    go_wp2
    refine bodyPost_ret (by simp [*, results, Try.results10, go_sem]; try rfl) rfl ?_
    exact ⟨_, _, _, rfl, h.out.ge.2.1⟩
  · skip
    go_wp2_with fail
    refine (l01Next_any (w0 := w) _ (h.out.grows (by repeat (first | exact Grows.refl _ | refine Grows.drewN ?_ _ | refine Grows.alloc ?_ _)))).mono ?_
    rintro e u11 ⟨r5, rfl, r5a, r5b, h_, c_⟩
    replace h := hideIt h_
    clear h_ c_
    go_wp2_with fail
    refine (l01Next_any (w0 := w) _ (h.out.grows (by repeat (first | exact Grows.refl _ | refine Grows.drewN ?_ _ | refine Grows.alloc ?_ _)))).mono ?_
    rintro e u12 ⟨r6, rfl, r6a, r6b, h_, c_⟩
    replace h := hideIt h_
    clear h_ c_
    have q6 : r6 / 23 ≤ 1 := by omega
    have q7 : 0 ≤ r6 / 23 := by omega
    go_wp2
    refine bodyPost_ret (by simp [*, results, Try.results10, go_sem]; try rfl) rfl ?_
    exact ⟨_, _, _, rfl, h.out.ge.2.1⟩
end Go.Proofs.Ytciflcnfimpfgaa
