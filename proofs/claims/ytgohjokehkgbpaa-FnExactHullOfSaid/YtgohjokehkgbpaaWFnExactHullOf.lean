/-
  The walk of FnExactHullOf.
-/
import Derived.Test.YtgohjokehkgbpaaHull
import Derived.Test.YtgohjokehkgbpaaOpenL
namespace Go.Proofs.Ytgohjokehkgbpaa
open Go.RowKit
set_option maxHeartbeats 2000000 in
theorem walk_FnExactHullOf {xs : List SpanD} {v : Value} {w : World} (hr : RSpans w v xs) :
    Calls Try.prog 4 #[v] w fun e w' => e = .returned (.bool true) ∧ Below w.heap.size w w' := by
  generalize hv : hullV xs = v'
  have E : Hid (hullV xs = v') := hv
  clear hv
  obtain ⟨v1, v2, v3⟩ := v'
  obtain ⟨A0, n0, rfl⟩ : ∃ A n, v = .slice A xs.length n := by
    obtain ⟨A, c, h, -⟩ := hr.form
    exact ⟨A, c, h⟩
  have g : Grows w w := Grows.refl w
  have G : Hid (Grows w w) := hideIt (Grows.refl w)
  clear g
  replace hr := hideIt (hr.keep G.out.keeps)
  go_enter Try.func4, Try.ntmps4
  go_wp2_with fail
  refine (szSpans_any _ _ hr.out (by omega) (by omega)).mono ?_
  rintro e u1 ⟨r, rfl, b1, b2, sm, g⟩
  replace G := hideIt (G.out.trans g)
  replace hr := hideIt (hr.out.keep g.keeps)
  have SM := hideIt sm
  clear sm
  clear g
  by_cases n1 : r < 0
  · go_wp2
    go_ret
    exact ⟨rfl, G.out.below⟩
  replace SM := hideIt (SM.out (by omega))
  go_wp2_with fail
  refine (toSpans_any _ hr.out SM.out).mono ?_
  rintro e u2 ⟨q1, bs, rfl, o, ow, g⟩
  replace G := hideIt (G.out.trans g)
  replace hr := hideIt (hr.out.keep g.keeps)
  have r1 := o.reads
  clear o ow
  obtain ⟨A1, m1, rfl⟩ : ∃ A n, q1 = .slice A xs.length n := by
    obtain ⟨A, c, h, -⟩ := r1.form
    exact ⟨A, c, h⟩
  clear g
  replace r1 := hideIt r1
  go_wp2_with fail
  refine (sHull_any _ r1.out).mono ?_
  rintro e u3 ⟨rfl, g⟩
  replace G := hideIt (G.out.trans g)
  replace hr := hideIt (hr.out.keep g.keeps)
  replace r1 := hideIt (r1.out.keep g.keeps)
  rw [E.out]
  clear g
  have gl : Grows u3 (u3.alloc (.cells #[.int .i64 v1, .int .i64 v2] 33)) := (Grows.refl _).alloc _
  replace G := hideIt (G.out.trans gl)
  replace hr := hideIt (hr.out.keep gl.keeps)
  replace r1 := hideIt (r1.out.keep gl.keeps)
  have P1 := hideIt (Blk.new u3 33 #[.int .i64 v1, .int .i64 v2])
  clear gl
  go_wp2_with fail
  refine (toSpans_any _ hr.out SM.out).mono ?_
  rintro e u4 ⟨q2, bs2, rfl, o, ow, g⟩
  replace G := hideIt (G.out.trans g)
  replace hr := hideIt (hr.out.keep g.keeps)
  replace r1 := hideIt (r1.out.keep g.keeps)
  replace P1 := hideIt (P1.out.grows g)
  have r2 := o.reads
  clear o ow
  obtain ⟨A2, m2, rfl⟩ : ∃ A n, q2 = .slice A xs.length n := by
    obtain ⟨A, c, h, -⟩ := r2.form
    exact ⟨A, c, h⟩
  clear g
  have kP1_0 : u4.cell? ⟨u3.heap.size, 0, none⟩ = some (.int .i64 v1) := P1.out.cell 0
  have kP1_1 : u4.cell? ⟨u3.heap.size, 1, none⟩ = some (.int .i64 v2) := P1.out.cell 1
  have fP1 := P1.out.frozen
  have lP1 : u3.heap.size < u4.heap.size := P1.out.lt
  replace r2 := hideIt r2
  go_wp2_with fail
  clear kP1_0 kP1_1 fP1 lP1
  refine (iHull_any _ r2.out).mono ?_
  rintro e u5 ⟨rfl, g⟩
  replace G := hideIt (G.out.trans g)
  replace hr := hideIt (hr.out.keep g.keeps)
  replace r1 := hideIt (r1.out.keep g.keeps)
  replace r2 := hideIt (r2.out.keep g.keeps)
  replace P1 := hideIt (P1.out.grows g)
  rw [E.out]
  clear g
  have kP1_0 : u5.cell? ⟨u3.heap.size, 0, none⟩ = some (.int .i64 v1) := P1.out.cell 0
  have kP1_1 : u5.cell? ⟨u3.heap.size, 1, none⟩ = some (.int .i64 v2) := P1.out.cell 1
  have fP1 := P1.out.frozen
  have lP1 : u3.heap.size < u5.heap.size := P1.out.lt
  have gl : Grows u5 (u5.alloc (.cells #[.int .i64 v1, .int .i64 v2] 33)) := (Grows.refl _).alloc _
  replace G := hideIt (G.out.trans gl)
  replace hr := hideIt (hr.out.keep gl.keeps)
  replace r1 := hideIt (r1.out.keep gl.keeps)
  replace r2 := hideIt (r2.out.keep gl.keeps)
  replace P1 := hideIt (P1.out.grows gl)
  have P2 := hideIt (Blk.new u5 33 #[.int .i64 v1, .int .i64 v2])
  clear gl
  go_wp2_with fail
  clear kP1_0 kP1_1 fP1 lP1
  refine (eqSpan_any _ _ _ _ _).mono ?_
  rintro e u6 ⟨rfl, g⟩
  replace G := hideIt (G.out.trans g)
  replace hr := hideIt (hr.out.keep g.keeps)
  replace r1 := hideIt (r1.out.keep g.keeps)
  replace r2 := hideIt (r2.out.keep g.keeps)
  replace P1 := hideIt (P1.out.grows g)
  replace P2 := hideIt (P2.out.grows g)
  clear g
  have kP1_0 : u6.cell? ⟨u3.heap.size, 0, none⟩ = some (.int .i64 v1) := P1.out.cell 0
  have kP1_1 : u6.cell? ⟨u3.heap.size, 1, none⟩ = some (.int .i64 v2) := P1.out.cell 1
  have fP1 := P1.out.frozen
  have lP1 : u3.heap.size < u6.heap.size := P1.out.lt
  have kP2_0 : u6.cell? ⟨u5.heap.size, 0, none⟩ = some (.int .i64 v1) := P2.out.cell 0
  have kP2_1 : u6.cell? ⟨u5.heap.size, 1, none⟩ = some (.int .i64 v2) := P2.out.cell 1
  have fP2 := P2.out.frozen
  have lP2 : u5.heap.size < u6.heap.size := P2.out.lt
  have d1 : decide (v1 = v1) = true := by simp
  have d2 : decide (v2 = v2) = true := by simp
  go_wp2_with fail
  clear kP1_0 kP1_1 fP1 lP1 kP2_0 kP2_1 fP2 lP2
  refine (toSpans_any _ hr.out SM.out).mono ?_
  rintro e u7 ⟨q3, bs3, rfl, o, ow, g⟩
  replace G := hideIt (G.out.trans g)
  replace hr := hideIt (hr.out.keep g.keeps)
  replace r1 := hideIt (r1.out.keep g.keeps)
  replace r2 := hideIt (r2.out.keep g.keeps)
  replace P1 := hideIt (P1.out.grows g)
  replace P2 := hideIt (P2.out.grows g)
  have r3 := o.reads
  clear o ow
  obtain ⟨A3, m3, rfl⟩ : ∃ A n, q3 = .slice A xs.length n := by
    obtain ⟨A, c, h, -⟩ := r3.form
    exact ⟨A, c, h⟩
  clear g
  have kP1_0 : u7.cell? ⟨u3.heap.size, 0, none⟩ = some (.int .i64 v1) := P1.out.cell 0
  have kP1_1 : u7.cell? ⟨u3.heap.size, 1, none⟩ = some (.int .i64 v2) := P1.out.cell 1
  have fP1 := P1.out.frozen
  have lP1 : u3.heap.size < u7.heap.size := P1.out.lt
  have kP2_0 : u7.cell? ⟨u5.heap.size, 0, none⟩ = some (.int .i64 v1) := P2.out.cell 0
  have kP2_1 : u7.cell? ⟨u5.heap.size, 1, none⟩ = some (.int .i64 v2) := P2.out.cell 1
  have fP2 := P2.out.frozen
  have lP2 : u5.heap.size < u7.heap.size := P2.out.lt
  replace r3 := hideIt r3
  go_wp2_with fail
  clear kP1_0 kP1_1 fP1 lP1 kP2_0 kP2_1 fP2 lP2
  refine (eqSpans_same _ r2.out r3.out).mono ?_
  rintro e u8 ⟨rfl, g⟩
  replace G := hideIt (G.out.trans g)
  replace hr := hideIt (hr.out.keep g.keeps)
  replace r1 := hideIt (r1.out.keep g.keeps)
  replace r2 := hideIt (r2.out.keep g.keeps)
  replace r3 := hideIt (r3.out.keep g.keeps)
  replace P1 := hideIt (P1.out.grows g)
  replace P2 := hideIt (P2.out.grows g)
  clear g
  have kP1_0 : u8.cell? ⟨u3.heap.size, 0, none⟩ = some (.int .i64 v1) := P1.out.cell 0
  have kP1_1 : u8.cell? ⟨u3.heap.size, 1, none⟩ = some (.int .i64 v2) := P1.out.cell 1
  have fP1 := P1.out.frozen
  have lP1 : u3.heap.size < u8.heap.size := P1.out.lt
  have kP2_0 : u8.cell? ⟨u5.heap.size, 0, none⟩ = some (.int .i64 v1) := P2.out.cell 0
  have kP2_1 : u8.cell? ⟨u5.heap.size, 1, none⟩ = some (.int .i64 v2) := P2.out.cell 1
  have fP2 := P2.out.frozen
  have lP2 : u5.heap.size < u8.heap.size := P2.out.lt
  go_wp2
  go_ret
  exact ⟨rfl, G.out.below⟩
end Go.Proofs.Ytgohjokehkgbpaa
