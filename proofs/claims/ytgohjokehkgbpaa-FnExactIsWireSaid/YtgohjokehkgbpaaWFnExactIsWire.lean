/-
  The walk of FnExactIsWire.
-/
import Derived.Test.YtgohjokehkgbpaaSIsWire
import Derived.Test.YtgohjokehkgbpaaOpen
namespace Go.Proofs.Ytgohjokehkgbpaa
open Go.RowKit
set_option maxHeartbeats 4000000 in
theorem walk_FnExactIsWire {x : WireD} {v : Value} {sinks : Int} {w : World} (h : ∃ va vb vc vd : Value, v = .agg #[va, vb, vc, vd] ∧ RWire w [va, vb, vc, vd] x) (_ : (Lit.int .i64 sinks).wf = true) :
    Calls Try.prog 8 #[v, .int .i64 sinks] w fun e w' => e = .returned (.bool true) ∧ Below w.heap.size w w' := by
  obtain ⟨va, vb, vc, vd, rfl, hr⟩ := h
  generalize hv : wireB x sinks = v
  have E : Hid (wireB x sinks = v) := hv
  clear hv
  have g : Grows w w := Grows.refl w
  have G : Hid (Grows w (w.alloc (.cells #[va, vb, vc, vd] 61))) := hideIt ((Grows.refl w).alloc _)
  clear g
  have S : Hid (Blk (w.alloc (.cells #[va, vb, vc, vd] 61)) (w.heap.size) 61 #[va, vb, vc, vd]) := by
    have := (Blk.new w 61 #[va, vb, vc, vd]).grows (Grows.refl _)
    exact hideIt (by simpa using this)
  replace hr := hideIt (hr.keep G.out.keeps)
  go_enter Try.func8, Try.ntmps8
  go_wp2_with fail
  refine (szWire_any _ _ hr.out (by omega) (by omega)).mono ?_
  rintro e u1 ⟨r, rfl, b1, b2, sm, g⟩
  replace G := hideIt (G.out.trans g)
  replace hr := hideIt (hr.out.keep g.keeps)
  replace S := hideIt (S.out.grows g)
  have SM := hideIt sm
  clear sm
  clear g
  have kS_0 : u1.cell? ⟨w.heap.size, 0, none⟩ = some (va) := S.out.cell 0
  have kS_1 : u1.cell? ⟨w.heap.size, 1, none⟩ = some (vb) := S.out.cell 1
  have kS_2 : u1.cell? ⟨w.heap.size, 2, none⟩ = some (vc) := S.out.cell 2
  have kS_3 : u1.cell? ⟨w.heap.size, 3, none⟩ = some (vd) := S.out.cell 3
  have fS := S.out.frozen
  have lS : w.heap.size < u1.heap.size := S.out.lt
  by_cases n1 : r < 0
  · go_wp2
    go_ret
    exact ⟨rfl, G.out.below⟩
  replace SM := hideIt (SM.out (by omega))
  go_wp2_with fail
  clear kS_0 kS_1 kS_2 kS_3 fS lS
  refine (toWire_any _ hr.out SM.out).mono ?_
  rintro e u2 ⟨xa0, xa1, xa2, xa3, bs, rfl, o, ow, g⟩
  replace G := hideIt (G.out.trans g)
  replace hr := hideIt (hr.out.keep g.keeps)
  replace S := hideIt (S.out.grows g)
  have q := o.reads
  clear o ow
  clear g
  have kS_0 : u2.cell? ⟨w.heap.size, 0, none⟩ = some (va) := S.out.cell 0
  have kS_1 : u2.cell? ⟨w.heap.size, 1, none⟩ = some (vb) := S.out.cell 1
  have kS_2 : u2.cell? ⟨w.heap.size, 2, none⟩ = some (vc) := S.out.cell 2
  have kS_3 : u2.cell? ⟨w.heap.size, 3, none⟩ = some (vd) := S.out.cell 3
  have fS := S.out.frozen
  have lS : w.heap.size < u2.heap.size := S.out.lt
  replace q := hideIt q
  go_wp2_with fail
  clear kS_0 kS_1 kS_2 kS_3 fS lS
  refine (sIsWire_any _ q.out).mono ?_
  rintro e u3 ⟨rfl, g⟩
  replace G := hideIt (G.out.trans g)
  replace hr := hideIt (hr.out.keep g.keeps)
  replace q := hideIt (q.out.keep g.keeps)
  replace S := hideIt (S.out.grows g)
  rw [E.out]
  clear g
  have kS_0 : u3.cell? ⟨w.heap.size, 0, none⟩ = some (va) := S.out.cell 0
  have kS_1 : u3.cell? ⟨w.heap.size, 1, none⟩ = some (vb) := S.out.cell 1
  have kS_2 : u3.cell? ⟨w.heap.size, 2, none⟩ = some (vc) := S.out.cell 2
  have kS_3 : u3.cell? ⟨w.heap.size, 3, none⟩ = some (vd) := S.out.cell 3
  have fS := S.out.frozen
  have lS : w.heap.size < u3.heap.size := S.out.lt
  go_wp2_with fail
  clear kS_0 kS_1 kS_2 kS_3 fS lS
  refine (toWire_any _ hr.out SM.out).mono ?_
  rintro e u4 ⟨xb0, xb1, xb2, xb3, bs2, rfl, o, ow, g⟩
  replace G := hideIt (G.out.trans g)
  replace hr := hideIt (hr.out.keep g.keeps)
  replace q := hideIt (q.out.keep g.keeps)
  replace S := hideIt (S.out.grows g)
  have q2 := o.reads
  clear o ow
  obtain ⟨⟨Ab0, nb0, rfl⟩, ⟨Ab1, nb1, rfl⟩, ⟨Ab2, nb2, rfl⟩, ⟨Ab3, nb3, rfl⟩⟩ := q2.shape
  clear g
  have kS_0 : u4.cell? ⟨w.heap.size, 0, none⟩ = some (va) := S.out.cell 0
  have kS_1 : u4.cell? ⟨w.heap.size, 1, none⟩ = some (vb) := S.out.cell 1
  have kS_2 : u4.cell? ⟨w.heap.size, 2, none⟩ = some (vc) := S.out.cell 2
  have kS_3 : u4.cell? ⟨w.heap.size, 3, none⟩ = some (vd) := S.out.cell 3
  have fS := S.out.frozen
  have lS : w.heap.size < u4.heap.size := S.out.lt
  replace q2 := hideIt q2
  have gl : Grows u4 (u4.alloc (.cells #[.slice Ab0 x.parent.length nb0, .slice Ab1 x.res.length nb1, .slice Ab2 x.cap.length nb2, .slice Ab3 x.sink.length nb3] 42)) := (Grows.refl _).alloc _
  replace G := hideIt (G.out.trans gl)
  replace hr := hideIt (hr.out.keep gl.keeps)
  replace q := hideIt (q.out.keep gl.keeps)
  replace q2 := hideIt (q2.out.keep gl.keeps)
  replace S := hideIt (S.out.grows gl)
  have V := hideIt (Blk.new u4 42 #[.slice Ab0 x.parent.length nb0, .slice Ab1 x.res.length nb1, .slice Ab2 x.cap.length nb2, .slice Ab3 x.sink.length nb3])
  clear gl
  go_wp2_with fail
  clear kS_0 kS_1 kS_2 kS_3 fS lS
  refine (iIsWire_any _ q2.out).mono ?_
  rintro e u5 ⟨rfl, g⟩
  replace G := hideIt (G.out.trans g)
  replace hr := hideIt (hr.out.keep g.keeps)
  replace q := hideIt (q.out.keep g.keeps)
  replace q2 := hideIt (q2.out.keep g.keeps)
  replace S := hideIt (S.out.grows g)
  replace V := hideIt (V.out.grows g)
  rw [E.out]
  clear g
  have kS_0 : u5.cell? ⟨w.heap.size, 0, none⟩ = some (va) := S.out.cell 0
  have kS_1 : u5.cell? ⟨w.heap.size, 1, none⟩ = some (vb) := S.out.cell 1
  have kS_2 : u5.cell? ⟨w.heap.size, 2, none⟩ = some (vc) := S.out.cell 2
  have kS_3 : u5.cell? ⟨w.heap.size, 3, none⟩ = some (vd) := S.out.cell 3
  have fS := S.out.frozen
  have lS : w.heap.size < u5.heap.size := S.out.lt
  have kV_0 : u5.cell? ⟨u4.heap.size, 0, none⟩ = some (.slice Ab0 x.parent.length nb0) := V.out.cell 0
  have kV_1 : u5.cell? ⟨u4.heap.size, 1, none⟩ = some (.slice Ab1 x.res.length nb1) := V.out.cell 1
  have kV_2 : u5.cell? ⟨u4.heap.size, 2, none⟩ = some (.slice Ab2 x.cap.length nb2) := V.out.cell 2
  have kV_3 : u5.cell? ⟨u4.heap.size, 3, none⟩ = some (.slice Ab3 x.sink.length nb3) := V.out.cell 3
  have fV := V.out.frozen
  have lV : u4.heap.size < u5.heap.size := V.out.lt
  go_wp2_with fail
  have K0 : ∀ w', Grows u5 w' → w'.cell? ⟨w.heap.size, 0, none⟩ = some (va) ∧ w'.cell? ⟨w.heap.size, 1, none⟩ = some (vb) ∧ w'.cell? ⟨w.heap.size, 2, none⟩ = some (vc) ∧ w'.cell? ⟨w.heap.size, 3, none⟩ = some (vd) ∧ w'.cell? ⟨u4.heap.size, 0, none⟩ = some (.slice Ab0 x.parent.length nb0) ∧ w'.cell? ⟨u4.heap.size, 1, none⟩ = some (.slice Ab1 x.res.length nb1) ∧ w'.cell? ⟨u4.heap.size, 2, none⟩ = some (.slice Ab2 x.cap.length nb2) ∧ w'.cell? ⟨u4.heap.size, 3, none⟩ = some (.slice Ab3 x.sink.length nb3) ∧ Grows u5 w' := fun w' G => ⟨(G.cells.1 _ _ S.out.lt).trans (S.out.cell 0), (G.cells.1 _ _ S.out.lt).trans (S.out.cell 1), (G.cells.1 _ _ S.out.lt).trans (S.out.cell 2), (G.cells.1 _ _ S.out.lt).trans (S.out.cell 3), (G.cells.1 _ _ V.out.lt).trans (V.out.cell 0), (G.cells.1 _ _ V.out.lt).trans (V.out.cell 1), (G.cells.1 _ _ V.out.lt).trans (V.out.cell 2), (G.cells.1 _ _ V.out.lt).trans (V.out.cell 3), G⟩
  have HK := hideIt K0
  clear K0
  have gg : Grows u5 u5 := Grows.refl _
  go_region_held3 (fun w' => w'.cell? ⟨w.heap.size, 0, none⟩ = some (va) ∧ w'.cell? ⟨w.heap.size, 1, none⟩ = some (vb) ∧ w'.cell? ⟨w.heap.size, 2, none⟩ = some (vc) ∧ w'.cell? ⟨w.heap.size, 3, none⟩ = some (vd) ∧ w'.cell? ⟨u4.heap.size, 0, none⟩ = some (.slice Ab0 x.parent.length nb0) ∧ w'.cell? ⟨u4.heap.size, 1, none⟩ = some (.slice Ab1 x.res.length nb1) ∧ w'.cell? ⟨u4.heap.size, 2, none⟩ = some (.slice Ab2 x.cap.length nb2) ∧ w'.cell? ⟨u4.heap.size, 3, none⟩ = some (.slice Ab3 x.sink.length nb3) ∧ Grows u5 w')
      ((refine HK.out _ ?_; (repeat (first | exact gg | refine Grows.drew ?_ | refine Grows.alloc ?_ _ | refine Grows.setCell ?_ (by simp <;> omega) _))))
      (first | (go_at_call 44; refine (toWire_any _ (hr.out.keep (Grows.keeps (by (repeat (first | exact gg | refine Grows.drew ?_ | refine Grows.alloc ?_ _ | refine Grows.setCell ?_ (by simp <;> omega) _))))) SM.out).mono ?_; rintro e wx ⟨xc0, xc1, xc2, xc3, bs3, rfl, o3, -, g⟩; have q3 := hideIt o3.reads; clear o3; replace gg : Grows u5 wx := Grows.trans (by (repeat (first | exact gg | refine Grows.drew ?_ | refine Grows.alloc ?_ _ | refine Grows.setCell ?_ (by simp <;> omega) _))) g) | (go_at_call 28; refine (eqWire_same _ (q2.out.keep (Grows.keeps (by (repeat (first | exact gg | refine Grows.drew ?_ | refine Grows.alloc ?_ _ | refine Grows.setCell ?_ (by simp <;> omega) _))))) q3.out).mono ?_; rintro e wx ⟨rfl, g⟩; replace gg : Grows u5 wx := Grows.trans (by (repeat (first | exact gg | refine Grows.drew ?_ | refine Grows.alloc ?_ _ | refine Grows.setCell ?_ (by simp <;> omega) _))) g))
  all_goals go_split_ands
  all_goals go_wp2
  all_goals go_ret
  all_goals exact ⟨rfl, (G.out.trans gg).below⟩
end Go.Proofs.Ytgohjokehkgbpaa
