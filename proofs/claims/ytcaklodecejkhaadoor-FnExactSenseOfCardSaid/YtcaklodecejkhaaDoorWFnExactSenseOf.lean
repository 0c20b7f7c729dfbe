/-
  The walk of FnExactSenseOf.
-/
import Derived.Test.YtcaklodecejkhaaDoorReg
import Derived.Test.YtcaklodecejkhaaDoorSenseOf
import Derived.Test.YtcaklodecejkhaaDoorOpenC
namespace Go.Proofs.YtcaklodecejkhaaDoor
open Go.RowKit
set_option maxHeartbeats 4000000 in
theorem walk_FnExactSenseOf {t : CellD} {v : Value} {w : World} (h : ∃ v0 v1 v2 v3 v4 v5 v6 : Value, v = .agg #[v0, v1, v2, v3, v4, v5, v6] ∧ RCell w [v0, v1, v2, v3, v4, v5, v6] t) {p : Int} (_ : (Lit.int IntKind.i64 p).wf = true) :
    Calls Tryd.prog 7 #[v, .int .i64 p] w fun e w' => e = .returned (.bool true) ∧ Below w.heap.size w w' := by
  obtain ⟨v0, v1, v2, v3, v4, v5, v6, rfl, hr⟩ := h
  generalize hv0 : sensV t p = r0
  have E0 : Hid (sensV t p = r0) := hv0
  clear hv0
  have g : Grows w w := Grows.refl w
  have G : Hid (Grows w (w.alloc (.cells #[v0, v1, v2, v3, v4, v5, v6] 26))) := hideIt ((Grows.refl w).alloc _)
  clear g
  have S : Hid (Blk (w.alloc (.cells #[v0, v1, v2, v3, v4, v5, v6] 26)) (w.heap.size) 26 #[v0, v1, v2, v3, v4, v5, v6]) := by
    have := (Blk.new w 26 #[v0, v1, v2, v3, v4, v5, v6]).grows (Grows.refl (w.alloc (.cells #[v0, v1, v2, v3, v4, v5, v6] 26)))
    exact hideIt (by simpa using this)
  replace hr := hideIt (hr.keep G.out.keeps)
  go_enter Tryd.func7, Tryd.ntmps7
  go_wp2_with fail
  refine (szCell_any _ _ hr.out (by omega) (by omega)).mono ?_
  rintro e u1 ⟨r, rfl, b1, b2, sm, g⟩
  replace G := hideIt (G.out.trans g)
  replace hr := hideIt (hr.out.keep g.keeps)
  replace S := hideIt (S.out.grows g)
  have SM := hideIt sm
  clear sm
  clear g
  have kS_0 : u1.cell? ⟨w.heap.size, 0, none⟩ = some (v0) := S.out.cell 0
  have kS_1 : u1.cell? ⟨w.heap.size, 1, none⟩ = some (v1) := S.out.cell 1
  have kS_2 : u1.cell? ⟨w.heap.size, 2, none⟩ = some (v2) := S.out.cell 2
  have kS_3 : u1.cell? ⟨w.heap.size, 3, none⟩ = some (v3) := S.out.cell 3
  have kS_4 : u1.cell? ⟨w.heap.size, 4, none⟩ = some (v4) := S.out.cell 4
  have kS_5 : u1.cell? ⟨w.heap.size, 5, none⟩ = some (v5) := S.out.cell 5
  have kS_6 : u1.cell? ⟨w.heap.size, 6, none⟩ = some (v6) := S.out.cell 6
  have fS := S.out.frozen
  have lS : w.heap.size < u1.heap.size := S.out.lt
  by_cases n1 : r < 0
  · go_wp2
    go_ret
    exact ⟨rfl, G.out.below⟩
  replace SM := hideIt (SM.out (by omega))
  go_wp2_with fail
  clear kS_0 kS_1 kS_2 kS_3 kS_4 kS_5 kS_6 fS lS
  refine (toCell_o _ hr.out SM.out).mono ?_
  rintro e u2 ⟨x0, x1, x2, x3, x4, x5, x6, bs, rfl, o, ow, g⟩
  replace G := hideIt (G.out.trans g)
  replace hr := hideIt (hr.out.keep g.keeps)
  replace S := hideIt (S.out.grows g)
  have q := o.reads
  clear o ow
  clear g
  have kS_0 : u2.cell? ⟨w.heap.size, 0, none⟩ = some (v0) := S.out.cell 0
  have kS_1 : u2.cell? ⟨w.heap.size, 1, none⟩ = some (v1) := S.out.cell 1
  have kS_2 : u2.cell? ⟨w.heap.size, 2, none⟩ = some (v2) := S.out.cell 2
  have kS_3 : u2.cell? ⟨w.heap.size, 3, none⟩ = some (v3) := S.out.cell 3
  have kS_4 : u2.cell? ⟨w.heap.size, 4, none⟩ = some (v4) := S.out.cell 4
  have kS_5 : u2.cell? ⟨w.heap.size, 5, none⟩ = some (v5) := S.out.cell 5
  have kS_6 : u2.cell? ⟨w.heap.size, 6, none⟩ = some (v6) := S.out.cell 6
  have fS := S.out.frozen
  have lS : w.heap.size < u2.heap.size := S.out.lt
  replace q := hideIt q
  go_wp2_with fail
  clear kS_0 kS_1 kS_2 kS_3 kS_4 kS_5 kS_6 fS lS
  refine (sSenseOf_any p _ q.out).mono ?_
  rintro e u3 ⟨rfl, g⟩
  replace G := hideIt (G.out.trans g)
  replace hr := hideIt (hr.out.keep g.keeps)
  replace q := hideIt (q.out.keep g.keeps)
  replace S := hideIt (S.out.grows g)
  rw [E0.out]
  clear g
  have kS_0 : u3.cell? ⟨w.heap.size, 0, none⟩ = some (v0) := S.out.cell 0
  have kS_1 : u3.cell? ⟨w.heap.size, 1, none⟩ = some (v1) := S.out.cell 1
  have kS_2 : u3.cell? ⟨w.heap.size, 2, none⟩ = some (v2) := S.out.cell 2
  have kS_3 : u3.cell? ⟨w.heap.size, 3, none⟩ = some (v3) := S.out.cell 3
  have kS_4 : u3.cell? ⟨w.heap.size, 4, none⟩ = some (v4) := S.out.cell 4
  have kS_5 : u3.cell? ⟨w.heap.size, 5, none⟩ = some (v5) := S.out.cell 5
  have kS_6 : u3.cell? ⟨w.heap.size, 6, none⟩ = some (v6) := S.out.cell 6
  have fS := S.out.frozen
  have lS : w.heap.size < u3.heap.size := S.out.lt
  go_wp2_with fail
  clear kS_0 kS_1 kS_2 kS_3 kS_4 kS_5 kS_6 fS lS
  refine (toCell_o _ hr.out SM.out).mono ?_
  rintro e u4 ⟨y0, y1, y2, y3, y4, y5, y6, bs2, rfl, o, ow, g⟩
  replace G := hideIt (G.out.trans g)
  replace hr := hideIt (hr.out.keep g.keeps)
  replace q := hideIt (q.out.keep g.keeps)
  replace S := hideIt (S.out.grows g)
  have q2 := o.reads
  obtain ⟨rfl, rfl, ⟨A1, m1, rfl⟩, ⟨A2, m2, rfl⟩, ⟨A3, m3, rfl⟩, rfl, rfl⟩ := o.shape
  clear o ow
  clear g
  have kS_0 : u4.cell? ⟨w.heap.size, 0, none⟩ = some (v0) := S.out.cell 0
  have kS_1 : u4.cell? ⟨w.heap.size, 1, none⟩ = some (v1) := S.out.cell 1
  have kS_2 : u4.cell? ⟨w.heap.size, 2, none⟩ = some (v2) := S.out.cell 2
  have kS_3 : u4.cell? ⟨w.heap.size, 3, none⟩ = some (v3) := S.out.cell 3
  have kS_4 : u4.cell? ⟨w.heap.size, 4, none⟩ = some (v4) := S.out.cell 4
  have kS_5 : u4.cell? ⟨w.heap.size, 5, none⟩ = some (v5) := S.out.cell 5
  have kS_6 : u4.cell? ⟨w.heap.size, 6, none⟩ = some (v6) := S.out.cell 6
  have fS := S.out.frozen
  have lS : w.heap.size < u4.heap.size := S.out.lt
  replace q2 := hideIt q2
  have gl : Grows u4 (u4.alloc (.cells #[.string t.name, .int .i64 t.kind, .slice A1 t.pins.length m1, .slice A2 t.arcs.length m2, .slice A3 t.truth.length m3, .int .i64 t.leak, .int .i64 t.energy] 32)) := (Grows.refl _).alloc _
  replace G := hideIt (G.out.trans gl)
  replace hr := hideIt (hr.out.keep gl.keeps)
  replace q := hideIt (q.out.keep gl.keeps)
  replace q2 := hideIt (q2.out.keep gl.keeps)
  replace S := hideIt (S.out.grows gl)
  have V := hideIt (Blk.new u4 32 #[.string t.name, .int .i64 t.kind, .slice A1 t.pins.length m1, .slice A2 t.arcs.length m2, .slice A3 t.truth.length m3, .int .i64 t.leak, .int .i64 t.energy])
  clear gl
  go_wp2_with fail
  clear kS_0 kS_1 kS_2 kS_3 kS_4 kS_5 kS_6 fS lS
  refine (iSenseOf_any p _ q2.out SM.out.2.1.1).mono ?_
  rintro e u5 ⟨rfl, g⟩
  replace G := hideIt (G.out.trans g)
  replace hr := hideIt (hr.out.keep g.keeps)
  replace q := hideIt (q.out.keep g.keeps)
  replace q2 := hideIt (q2.out.keep g.keeps)
  replace S := hideIt (S.out.grows g)
  replace V := hideIt (V.out.grows g)
  rw [E0.out]
  clear g
  have kS_0 : u5.cell? ⟨w.heap.size, 0, none⟩ = some (v0) := S.out.cell 0
  have kS_1 : u5.cell? ⟨w.heap.size, 1, none⟩ = some (v1) := S.out.cell 1
  have kS_2 : u5.cell? ⟨w.heap.size, 2, none⟩ = some (v2) := S.out.cell 2
  have kS_3 : u5.cell? ⟨w.heap.size, 3, none⟩ = some (v3) := S.out.cell 3
  have kS_4 : u5.cell? ⟨w.heap.size, 4, none⟩ = some (v4) := S.out.cell 4
  have kS_5 : u5.cell? ⟨w.heap.size, 5, none⟩ = some (v5) := S.out.cell 5
  have kS_6 : u5.cell? ⟨w.heap.size, 6, none⟩ = some (v6) := S.out.cell 6
  have fS := S.out.frozen
  have lS : w.heap.size < u5.heap.size := S.out.lt
  have kV_0 : u5.cell? ⟨u4.heap.size, 0, none⟩ = some (.string t.name) := V.out.cell 0
  have kV_1 : u5.cell? ⟨u4.heap.size, 1, none⟩ = some (.int .i64 t.kind) := V.out.cell 1
  have kV_2 : u5.cell? ⟨u4.heap.size, 2, none⟩ = some (.slice A1 t.pins.length m1) := V.out.cell 2
  have kV_3 : u5.cell? ⟨u4.heap.size, 3, none⟩ = some (.slice A2 t.arcs.length m2) := V.out.cell 3
  have kV_4 : u5.cell? ⟨u4.heap.size, 4, none⟩ = some (.slice A3 t.truth.length m3) := V.out.cell 4
  have kV_5 : u5.cell? ⟨u4.heap.size, 5, none⟩ = some (.int .i64 t.leak) := V.out.cell 5
  have kV_6 : u5.cell? ⟨u4.heap.size, 6, none⟩ = some (.int .i64 t.energy) := V.out.cell 6
  have fV := V.out.frozen
  have lV : u4.heap.size < u5.heap.size := V.out.lt
  go_wp2_with fail
  have K0 : ∀ w', Grows u5 w' → w'.cell? ⟨w.heap.size, 0, none⟩ = some (v0) ∧ w'.cell? ⟨w.heap.size, 1, none⟩ = some (v1) ∧ w'.cell? ⟨w.heap.size, 2, none⟩ = some (v2) ∧ w'.cell? ⟨w.heap.size, 3, none⟩ = some (v3) ∧ w'.cell? ⟨w.heap.size, 4, none⟩ = some (v4) ∧ w'.cell? ⟨w.heap.size, 5, none⟩ = some (v5) ∧ w'.cell? ⟨w.heap.size, 6, none⟩ = some (v6) ∧ w'.cell? ⟨u4.heap.size, 0, none⟩ = some (.string t.name) ∧ w'.cell? ⟨u4.heap.size, 1, none⟩ = some (.int .i64 t.kind) ∧ w'.cell? ⟨u4.heap.size, 2, none⟩ = some (.slice A1 t.pins.length m1) ∧ w'.cell? ⟨u4.heap.size, 3, none⟩ = some (.slice A2 t.arcs.length m2) ∧ w'.cell? ⟨u4.heap.size, 4, none⟩ = some (.slice A3 t.truth.length m3) ∧ w'.cell? ⟨u4.heap.size, 5, none⟩ = some (.int .i64 t.leak) ∧ w'.cell? ⟨u4.heap.size, 6, none⟩ = some (.int .i64 t.energy) ∧ Grows u5 w' := fun w' G => ⟨(G.cells.1 _ _ S.out.lt).trans (S.out.cell 0), (G.cells.1 _ _ S.out.lt).trans (S.out.cell 1), (G.cells.1 _ _ S.out.lt).trans (S.out.cell 2), (G.cells.1 _ _ S.out.lt).trans (S.out.cell 3), (G.cells.1 _ _ S.out.lt).trans (S.out.cell 4), (G.cells.1 _ _ S.out.lt).trans (S.out.cell 5), (G.cells.1 _ _ S.out.lt).trans (S.out.cell 6), (G.cells.1 _ _ V.out.lt).trans (V.out.cell 0), (G.cells.1 _ _ V.out.lt).trans (V.out.cell 1), (G.cells.1 _ _ V.out.lt).trans (V.out.cell 2), (G.cells.1 _ _ V.out.lt).trans (V.out.cell 3), (G.cells.1 _ _ V.out.lt).trans (V.out.cell 4), (G.cells.1 _ _ V.out.lt).trans (V.out.cell 5), (G.cells.1 _ _ V.out.lt).trans (V.out.cell 6), G⟩
  have HK := hideIt K0
  clear K0
  have gg : Grows u5 u5 := Grows.refl _
  go_region_held3 (fun w' => w'.cell? ⟨w.heap.size, 0, none⟩ = some (v0) ∧ w'.cell? ⟨w.heap.size, 1, none⟩ = some (v1) ∧ w'.cell? ⟨w.heap.size, 2, none⟩ = some (v2) ∧ w'.cell? ⟨w.heap.size, 3, none⟩ = some (v3) ∧ w'.cell? ⟨w.heap.size, 4, none⟩ = some (v4) ∧ w'.cell? ⟨w.heap.size, 5, none⟩ = some (v5) ∧ w'.cell? ⟨w.heap.size, 6, none⟩ = some (v6) ∧ w'.cell? ⟨u4.heap.size, 0, none⟩ = some (.string t.name) ∧ w'.cell? ⟨u4.heap.size, 1, none⟩ = some (.int .i64 t.kind) ∧ w'.cell? ⟨u4.heap.size, 2, none⟩ = some (.slice A1 t.pins.length m1) ∧ w'.cell? ⟨u4.heap.size, 3, none⟩ = some (.slice A2 t.arcs.length m2) ∧ w'.cell? ⟨u4.heap.size, 4, none⟩ = some (.slice A3 t.truth.length m3) ∧ w'.cell? ⟨u4.heap.size, 5, none⟩ = some (.int .i64 t.leak) ∧ w'.cell? ⟨u4.heap.size, 6, none⟩ = some (.int .i64 t.energy) ∧ Grows u5 w')
      ((refine HK.out _ ?_; (repeat (first | exact gg | refine Grows.drew ?_ | refine Grows.alloc ?_ _ | refine Grows.setCell ?_ (by simp <;> omega) _))))
      (first | (go_at_call 11; refine (toCell_o _ (hr.out.keep (Grows.keeps (by (repeat (first | exact gg | refine Grows.drew ?_ | refine Grows.alloc ?_ _ | refine Grows.setCell ?_ (by simp <;> omega) _))))) SM.out).mono ?_; rintro e wx ⟨z0, z1, z2, z3, z4, z5, z6, bs3, rfl, o3, -, g⟩; have q3 := hideIt o3.reads; clear o3; replace gg : Grows u5 wx := Grows.trans (by (repeat (first | exact gg | refine Grows.drew ?_ | refine Grows.alloc ?_ _ | refine Grows.setCell ?_ (by simp <;> omega) _))) g) | (go_at_call 13; refine (eqCell_same _ (q2.out.keep (Grows.keeps (by (repeat (first | exact gg | refine Grows.drew ?_ | refine Grows.alloc ?_ _ | refine Grows.setCell ?_ (by simp <;> omega) _))))) q3.out).mono ?_; rintro e wx ⟨rfl, g⟩; replace gg : Grows u5 wx := Grows.trans (by (repeat (first | exact gg | refine Grows.drew ?_ | refine Grows.alloc ?_ _ | refine Grows.setCell ?_ (by simp <;> omega) _))) g))
  all_goals go_split_ands
  all_goals go_wp2
  all_goals go_ret
  all_goals exact ⟨rfl, (G.out.trans gg).below⟩
end Go.Proofs.YtcaklodecejkhaaDoor
