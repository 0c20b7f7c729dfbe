/-
  The walk of FnExactLookUp.
-/
import Derived.Test.YtciflcnfimpfgaaLookUp
import Derived.Test.YtciflcnfimpfgaaOpen
namespace Go.Proofs.Ytciflcnfimpfgaa
open Go.RowKit
set_option maxHeartbeats 2000000 in
theorem walk_FnExactLookUp {t : TableD} {v : Value} {w : World} (h : ∃ a b c : Value, v = .agg #[a, b, c] ∧ RTable w [a, b, c] t) {sl ld m : Int} (_ : (Lit.int .i64 sl).wf = true) (_ : (Lit.int .i64 ld).wf = true) (_ : (Lit.int .i64 m).wf = true) :
    Calls Try.prog 6 #[v, .int .i64 sl, .int .i64 ld, .int .i64 m] w fun e w' => e = .returned (.bool true) ∧ Below w.heap.size w w' := by
  obtain ⟨a, b, c, rfl, hr⟩ := h
  have g : Grows w w := Grows.refl w
  have G : Hid (Grows w (w.alloc (.cells #[a, b, c] 42))) := hideIt ((Grows.refl w).alloc _)
  clear g
  have S : Hid (Blk (w.alloc (.cells #[a, b, c] 42)) (w.heap.size) 42 #[a, b, c]) := by
    have := (Blk.new w 42 #[a, b, c]).grows (Grows.refl (w.alloc (.cells #[a, b, c] 42)))
    exact hideIt (by simpa using this)
  replace hr := hideIt (hr.keep G.out.keeps)
  go_enter Try.func6, Try.ntmps6
  go_wp2_with fail
  refine (szTable_any _ _ hr.out (by omega) (by omega)).mono ?_
  rintro e u1 ⟨r, rfl, b1, b2, sm, g⟩
  replace G := hideIt (G.out.trans g)
  replace hr := hideIt (hr.out.keep g.keeps)
  replace S := hideIt (S.out.grows g)
  have SM := hideIt sm
  clear sm
  clear g
  have kS_0 : u1.cell? ⟨w.heap.size, 0, none⟩ = some (a) := S.out.cell 0
  have kS_1 : u1.cell? ⟨w.heap.size, 1, none⟩ = some (b) := S.out.cell 1
  have kS_2 : u1.cell? ⟨w.heap.size, 2, none⟩ = some (c) := S.out.cell 2
  have fS := S.out.frozen
  have lS : w.heap.size < u1.heap.size := S.out.lt
  by_cases n1 : r < 0
  · go_wp2
    go_ret
    exact ⟨rfl, G.out.below⟩
  replace SM := hideIt (SM.out (by omega))
  go_wp2_with fail
  clear kS_0 kS_1 kS_2 fS lS
  refine (toTable_any _ hr.out SM.out).mono ?_
  rintro e u2 ⟨x, y, z, bs, rfl, o, ow, g⟩
  replace G := hideIt (G.out.trans g)
  replace hr := hideIt (hr.out.keep g.keeps)
  replace S := hideIt (S.out.grows g)
  have q := o.reads
  clear o ow
  clear g
  have kS_0 : u2.cell? ⟨w.heap.size, 0, none⟩ = some (a) := S.out.cell 0
  have kS_1 : u2.cell? ⟨w.heap.size, 1, none⟩ = some (b) := S.out.cell 1
  have kS_2 : u2.cell? ⟨w.heap.size, 2, none⟩ = some (c) := S.out.cell 2
  have fS := S.out.frozen
  have lS : w.heap.size < u2.heap.size := S.out.lt
  replace q := hideIt q
  go_wp2_with fail
  clear kS_0 kS_1 kS_2 fS lS
  refine (sLookUp_any sl ld m _ q.out).mono ?_
  rintro e u3 ⟨r1, k1, rfl, lv1, g⟩
  replace G := hideIt (G.out.trans g)
  replace hr := hideIt (hr.out.keep g.keeps)
  replace q := hideIt (q.out.keep g.keeps)
  replace S := hideIt (S.out.grows g)
  have LV1 := hideIt lv1
  clear lv1
  clear g
  have kS_0 : u3.cell? ⟨w.heap.size, 0, none⟩ = some (a) := S.out.cell 0
  have kS_1 : u3.cell? ⟨w.heap.size, 1, none⟩ = some (b) := S.out.cell 1
  have kS_2 : u3.cell? ⟨w.heap.size, 2, none⟩ = some (c) := S.out.cell 2
  have fS := S.out.frozen
  have lS : w.heap.size < u3.heap.size := S.out.lt
  go_wp2_with fail
  clear kS_0 kS_1 kS_2 fS lS
  refine (toTable_any _ hr.out SM.out).mono ?_
  rintro e u4 ⟨x2, y2, z2, bs2, rfl, o, ow, g⟩
  replace G := hideIt (G.out.trans g)
  replace hr := hideIt (hr.out.keep g.keeps)
  replace q := hideIt (q.out.keep g.keeps)
  replace S := hideIt (S.out.grows g)
  have q2 := o.reads
  clear o ow
  obtain ⟨⟨A1, m1, rfl⟩, ⟨A2, m2, rfl⟩, ⟨A3, m3, rfl⟩⟩ := q2.shape
  clear g
  have kS_0 : u4.cell? ⟨w.heap.size, 0, none⟩ = some (a) := S.out.cell 0
  have kS_1 : u4.cell? ⟨w.heap.size, 1, none⟩ = some (b) := S.out.cell 1
  have kS_2 : u4.cell? ⟨w.heap.size, 2, none⟩ = some (c) := S.out.cell 2
  have fS := S.out.frozen
  have lS : w.heap.size < u4.heap.size := S.out.lt
  replace q2 := hideIt q2
  have gl : Grows u4 (u4.alloc (.cells #[.slice A1 t.slews.length m1, .slice A2 t.loads.length m2, .slice A3 t.values.length m3] 44)) := (Grows.refl _).alloc _
  replace G := hideIt (G.out.trans gl)
  replace hr := hideIt (hr.out.keep gl.keeps)
  replace q := hideIt (q.out.keep gl.keeps)
  replace q2 := hideIt (q2.out.keep gl.keeps)
  replace S := hideIt (S.out.grows gl)
  have V := hideIt (Blk.new u4 44 #[.slice A1 t.slews.length m1, .slice A2 t.loads.length m2, .slice A3 t.values.length m3])
  clear gl
  go_wp2_with fail
  clear kS_0 kS_1 kS_2 fS lS
  refine (iLookUp_any sl ld m _ q2.out).mono ?_
  rintro e u5 ⟨r2, k2, rfl, lv2, g⟩
  replace G := hideIt (G.out.trans g)
  replace hr := hideIt (hr.out.keep g.keeps)
  replace q := hideIt (q.out.keep g.keeps)
  replace q2 := hideIt (q2.out.keep g.keeps)
  replace S := hideIt (S.out.grows g)
  replace V := hideIt (V.out.grows g)
  obtain ⟨rfl, rfl⟩ := LV1.out.uniq lv2
  clear lv2
  clear g
  have kS_0 : u5.cell? ⟨w.heap.size, 0, none⟩ = some (a) := S.out.cell 0
  have kS_1 : u5.cell? ⟨w.heap.size, 1, none⟩ = some (b) := S.out.cell 1
  have kS_2 : u5.cell? ⟨w.heap.size, 2, none⟩ = some (c) := S.out.cell 2
  have fS := S.out.frozen
  have lS : w.heap.size < u5.heap.size := S.out.lt
  have kV_0 : u5.cell? ⟨u4.heap.size, 0, none⟩ = some (.slice A1 t.slews.length m1) := V.out.cell 0
  have kV_1 : u5.cell? ⟨u4.heap.size, 1, none⟩ = some (.slice A2 t.loads.length m2) := V.out.cell 1
  have kV_2 : u5.cell? ⟨u4.heap.size, 2, none⟩ = some (.slice A3 t.values.length m3) := V.out.cell 2
  have fV := V.out.frozen
  have lV : u4.heap.size < u5.heap.size := V.out.lt
  go_wp2_with fail
  have K0 : ∀ w', Grows u5 w' → w'.cell? ⟨w.heap.size, 0, none⟩ = some (a) ∧ w'.cell? ⟨w.heap.size, 1, none⟩ = some (b) ∧ w'.cell? ⟨w.heap.size, 2, none⟩ = some (c) ∧ w'.cell? ⟨u4.heap.size, 0, none⟩ = some (.slice A1 t.slews.length m1) ∧ w'.cell? ⟨u4.heap.size, 1, none⟩ = some (.slice A2 t.loads.length m2) ∧ w'.cell? ⟨u4.heap.size, 2, none⟩ = some (.slice A3 t.values.length m3) ∧ Grows u5 w' := fun w' G => ⟨(G.cells.1 _ _ S.out.lt).trans (S.out.cell 0), (G.cells.1 _ _ S.out.lt).trans (S.out.cell 1), (G.cells.1 _ _ S.out.lt).trans (S.out.cell 2), (G.cells.1 _ _ V.out.lt).trans (V.out.cell 0), (G.cells.1 _ _ V.out.lt).trans (V.out.cell 1), (G.cells.1 _ _ V.out.lt).trans (V.out.cell 2), G⟩
  have HK := hideIt K0
  clear K0
  have gg : Grows u5 u5 := Grows.refl _
  go_region_held3 (fun w' => w'.cell? ⟨w.heap.size, 0, none⟩ = some (a) ∧ w'.cell? ⟨w.heap.size, 1, none⟩ = some (b) ∧ w'.cell? ⟨w.heap.size, 2, none⟩ = some (c) ∧ w'.cell? ⟨u4.heap.size, 0, none⟩ = some (.slice A1 t.slews.length m1) ∧ w'.cell? ⟨u4.heap.size, 1, none⟩ = some (.slice A2 t.loads.length m2) ∧ w'.cell? ⟨u4.heap.size, 2, none⟩ = some (.slice A3 t.values.length m3) ∧ Grows u5 w')
      ((refine HK.out _ ?_; (repeat (first | exact gg | refine Grows.drew ?_ | refine Grows.alloc ?_ _ | refine Grows.setCell ?_ (by simp <;> omega) _))))
      (first | (go_at_call 22; refine (toTable_any _ (hr.out.keep (Grows.keeps (by (repeat (first | exact gg | refine Grows.drew ?_ | refine Grows.alloc ?_ _ | refine Grows.setCell ?_ (by simp <;> omega) _))))) SM.out).mono ?_; rintro e wx ⟨x3, y3, z3, bs3, rfl, o3, -, g⟩; have q3 := hideIt o3.reads; clear o3; replace gg : Grows u5 wx := Grows.trans (by (repeat (first | exact gg | refine Grows.drew ?_ | refine Grows.alloc ?_ _ | refine Grows.setCell ?_ (by simp <;> omega) _))) g) | (go_at_call 24; refine (eqTable_same _ (q2.out.keep (Grows.keeps (by (repeat (first | exact gg | refine Grows.drew ?_ | refine Grows.alloc ?_ _ | refine Grows.setCell ?_ (by simp <;> omega) _))))) q3.out).mono ?_; rintro e wx ⟨rfl, g⟩; replace gg : Grows u5 wx := Grows.trans (by (repeat (first | exact gg | refine Grows.drew ?_ | refine Grows.alloc ?_ _ | refine Grows.setCell ?_ (by simp <;> omega) _))) g))
  all_goals go_split_ands
  all_goals go_wp2
  all_goals go_ret
  all_goals exact ⟨rfl, (G.out.trans gg).below⟩
end Go.Proofs.Ytciflcnfimpfgaa
