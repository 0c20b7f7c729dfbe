/-
  The walk of FnExactNetNamed.
-/
import Derived.Test.YtcaklodecejkhaaNamed
import Derived.Test.YtcaklodecejkhaaOpenD
namespace Go.Proofs.Ytcaklodecejkhaa
open Go.RowKit
set_option maxHeartbeats 2000000 in
theorem walk_FnExactNetNamed {t : DesignD} {v : Value} {w : World} (h : ∃ a b c : Value, v = .agg #[a, b, c] ∧ RDesign w [a, b, c] t) {s : ByteArray} (hs : s.size ≤ maxLen) :
    Calls Try.prog 5 #[v, .string s] w fun e w' => e = .returned (.bool true) ∧ Below w.heap.size w w' := by
  obtain ⟨a, b, c, rfl, hr⟩ := h
  have zs : (s.size : Int) ≤ 9223372036854775807 := by unfold maxLen at hs; omega
  clear hs
  generalize hv : idxF (fun y => decide (y = s)) t.nets = v
  have E : Hid (idxF (fun y => decide (y = s)) t.nets = v) := hv
  clear hv
  have g : Grows w w := Grows.refl w
  have G : Hid (Grows w (w.alloc (.cells #[a, b, c] 26))) := hideIt ((Grows.refl w).alloc _)
  clear g
  have S : Hid (Blk (w.alloc (.cells #[a, b, c] 26)) (w.heap.size) 26 #[a, b, c]) := by
    have := (Blk.new w 26 #[a, b, c]).grows (Grows.refl (w.alloc (.cells #[a, b, c] 26)))
    exact hideIt (by simpa using this)
  replace hr := hideIt (hr.keep G.out.keeps)
  go_enter Try.func5, Try.ntmps5
  by_cases nz : (s.size : Int) > 1048576
  · go_wp2
    go_ret
    exact ⟨rfl, G.out.below⟩
  go_wp2_with fail
  refine (szDesign_any _ _ hr.out (by omega) (by omega)).mono ?_
  rintro e u1 ⟨r, rfl, b1, b2, sm, g⟩
  replace G := hideIt (G.out.trans g)
  replace hr := hideIt (hr.out.keep g.keeps)
  replace S := hideIt (S.out.grows g)
  have SM := hideIt sm
  clear sm
  clear g
  have kS_0 : u1.cell? ⟨w.heap.size, 0, none⟩ = some (a) := S.out.cell 0
  have kS_1 : u1.cell? ⟨w.heap.size, 1, none⟩ = some (b) := S.out.cell 1
  have kS_2 : u1.cell? ⟨w.heap.size, 2, none⟩ = some (c) := S.out.cell 2
  have fS := S.out.frozen
  have lS : w.heap.size < u1.heap.size := S.out.lt
  by_cases n1 : r < 0
  · go_wp2
    go_ret
    exact ⟨rfl, G.out.below⟩
  replace SM := hideIt (SM.out (by omega))
  go_wp2_with fail
  clear kS_0 kS_1 kS_2 fS lS
  refine (toDesign_o _ hr.out SM.out).mono ?_
  rintro e u2 ⟨x, y, z, bs, rfl, o, ow, g⟩
  replace G := hideIt (G.out.trans g)
  replace hr := hideIt (hr.out.keep g.keeps)
  replace S := hideIt (S.out.grows g)
  have q := o.reads
  clear o ow
  clear g
  have kS_0 : u2.cell? ⟨w.heap.size, 0, none⟩ = some (a) := S.out.cell 0
  have kS_1 : u2.cell? ⟨w.heap.size, 1, none⟩ = some (b) := S.out.cell 1
  have kS_2 : u2.cell? ⟨w.heap.size, 2, none⟩ = some (c) := S.out.cell 2
  have fS := S.out.frozen
  have lS : w.heap.size < u2.heap.size := S.out.lt
  replace q := hideIt q
  go_wp2_with fail
  clear kS_0 kS_1 kS_2 fS lS
  refine (sNetNamed_any s _ q.out).mono ?_
  rintro e u3 ⟨rfl, g⟩
  replace G := hideIt (G.out.trans g)
  replace hr := hideIt (hr.out.keep g.keeps)
  replace q := hideIt (q.out.keep g.keeps)
  replace S := hideIt (S.out.grows g)
  rw [E.out]
  clear g
  have kS_0 : u3.cell? ⟨w.heap.size, 0, none⟩ = some (a) := S.out.cell 0
  have kS_1 : u3.cell? ⟨w.heap.size, 1, none⟩ = some (b) := S.out.cell 1
  have kS_2 : u3.cell? ⟨w.heap.size, 2, none⟩ = some (c) := S.out.cell 2
  have fS := S.out.frozen
  have lS : w.heap.size < u3.heap.size := S.out.lt
  go_wp2_with fail
  clear kS_0 kS_1 kS_2 fS lS
  refine (toDesign_o _ hr.out SM.out).mono ?_
  rintro e u4 ⟨x2, y2, z2, bs2, rfl, o, ow, g⟩
  replace G := hideIt (G.out.trans g)
  replace hr := hideIt (hr.out.keep g.keeps)
  replace q := hideIt (q.out.keep g.keeps)
  replace S := hideIt (S.out.grows g)
  have q2 := o.reads
  obtain ⟨⟨A1, m1, rfl⟩, ⟨A2, m2, rfl⟩, ⟨A3, m3, rfl⟩⟩ := o.shape
  clear o ow
  clear g
  have kS_0 : u4.cell? ⟨w.heap.size, 0, none⟩ = some (a) := S.out.cell 0
  have kS_1 : u4.cell? ⟨w.heap.size, 1, none⟩ = some (b) := S.out.cell 1
  have kS_2 : u4.cell? ⟨w.heap.size, 2, none⟩ = some (c) := S.out.cell 2
  have fS := S.out.frozen
  have lS : w.heap.size < u4.heap.size := S.out.lt
  replace q2 := hideIt q2
  have gl : Grows u4 (u4.alloc (.cells #[.slice A1 t.insts.length m1, .slice A2 t.nets.length m2, .slice A3 t.ports.length m3] 32)) := (Grows.refl _).alloc _
  replace G := hideIt (G.out.trans gl)
  replace hr := hideIt (hr.out.keep gl.keeps)
  replace q := hideIt (q.out.keep gl.keeps)
  replace q2 := hideIt (q2.out.keep gl.keeps)
  replace S := hideIt (S.out.grows gl)
  have V := hideIt (Blk.new u4 32 #[.slice A1 t.insts.length m1, .slice A2 t.nets.length m2, .slice A3 t.ports.length m3])
  clear gl
  go_wp2_with fail
  clear kS_0 kS_1 kS_2 fS lS
  refine (iNetNamed_any s _ q2.out).mono ?_
  rintro e u5 ⟨rfl, g⟩
  replace G := hideIt (G.out.trans g)
  replace hr := hideIt (hr.out.keep g.keeps)
  replace q := hideIt (q.out.keep g.keeps)
  replace q2 := hideIt (q2.out.keep g.keeps)
  replace S := hideIt (S.out.grows g)
  replace V := hideIt (V.out.grows g)
  rw [E.out]
  clear g
  have kS_0 : u5.cell? ⟨w.heap.size, 0, none⟩ = some (a) := S.out.cell 0
  have kS_1 : u5.cell? ⟨w.heap.size, 1, none⟩ = some (b) := S.out.cell 1
  have kS_2 : u5.cell? ⟨w.heap.size, 2, none⟩ = some (c) := S.out.cell 2
  have fS := S.out.frozen
  have lS : w.heap.size < u5.heap.size := S.out.lt
  have kV_0 : u5.cell? ⟨u4.heap.size, 0, none⟩ = some (.slice A1 t.insts.length m1) := V.out.cell 0
  have kV_1 : u5.cell? ⟨u4.heap.size, 1, none⟩ = some (.slice A2 t.nets.length m2) := V.out.cell 1
  have kV_2 : u5.cell? ⟨u4.heap.size, 2, none⟩ = some (.slice A3 t.ports.length m3) := V.out.cell 2
  have fV := V.out.frozen
  have lV : u4.heap.size < u5.heap.size := V.out.lt
  go_wp2_with fail
  have K0 : ∀ w', Grows u5 w' → w'.cell? ⟨w.heap.size, 0, none⟩ = some (a) ∧ w'.cell? ⟨w.heap.size, 1, none⟩ = some (b) ∧ w'.cell? ⟨w.heap.size, 2, none⟩ = some (c) ∧ w'.cell? ⟨u4.heap.size, 0, none⟩ = some (.slice A1 t.insts.length m1) ∧ w'.cell? ⟨u4.heap.size, 1, none⟩ = some (.slice A2 t.nets.length m2) ∧ w'.cell? ⟨u4.heap.size, 2, none⟩ = some (.slice A3 t.ports.length m3) ∧ Grows u5 w' := fun w' G => ⟨(G.cells.1 _ _ S.out.lt).trans (S.out.cell 0), (G.cells.1 _ _ S.out.lt).trans (S.out.cell 1), (G.cells.1 _ _ S.out.lt).trans (S.out.cell 2), (G.cells.1 _ _ V.out.lt).trans (V.out.cell 0), (G.cells.1 _ _ V.out.lt).trans (V.out.cell 1), (G.cells.1 _ _ V.out.lt).trans (V.out.cell 2), G⟩
  have HK := hideIt K0
  clear K0
  have gg : Grows u5 u5 := Grows.refl _
  go_region_held3 (fun w' => w'.cell? ⟨w.heap.size, 0, none⟩ = some (a) ∧ w'.cell? ⟨w.heap.size, 1, none⟩ = some (b) ∧ w'.cell? ⟨w.heap.size, 2, none⟩ = some (c) ∧ w'.cell? ⟨u4.heap.size, 0, none⟩ = some (.slice A1 t.insts.length m1) ∧ w'.cell? ⟨u4.heap.size, 1, none⟩ = some (.slice A2 t.nets.length m2) ∧ w'.cell? ⟨u4.heap.size, 2, none⟩ = some (.slice A3 t.ports.length m3) ∧ Grows u5 w')
      ((refine HK.out _ ?_; (repeat (first | exact gg | refine Grows.drew ?_ | refine Grows.alloc ?_ _ | refine Grows.setCell ?_ (by simp <;> omega) _))))
      (first | (go_at_call 8; refine (toDesign_o _ (hr.out.keep (Grows.keeps (by (repeat (first | exact gg | refine Grows.drew ?_ | refine Grows.alloc ?_ _ | refine Grows.setCell ?_ (by simp <;> omega) _))))) SM.out).mono ?_; rintro e wx ⟨x3, y3, z3, bs3, rfl, o3, -, g⟩; have q3 := hideIt o3.reads; clear o3; replace gg : Grows u5 wx := Grows.trans (by (repeat (first | exact gg | refine Grows.drew ?_ | refine Grows.alloc ?_ _ | refine Grows.setCell ?_ (by simp <;> omega) _))) g) | (go_at_call 10; refine (eqDesign_same _ (q2.out.keep (Grows.keeps (by (repeat (first | exact gg | refine Grows.drew ?_ | refine Grows.alloc ?_ _ | refine Grows.setCell ?_ (by simp <;> omega) _))))) q3.out).mono ?_; rintro e wx ⟨rfl, g⟩; replace gg : Grows u5 wx := Grows.trans (by (repeat (first | exact gg | refine Grows.drew ?_ | refine Grows.alloc ?_ _ | refine Grows.setCell ?_ (by simp <;> omega) _))) g))
  all_goals go_split_ands
  all_goals go_wp2
  all_goals go_ret
  all_goals exact ⟨rfl, (G.out.trans gg).below⟩
end Go.Proofs.Ytcaklodecejkhaa
