/-
  The walk of FnExactSinkSlew.
-/
import Derived.Test.YtpppobomekebdaaGreatDoorGJ
import Derived.Test.YtpppobomekebdaaGreatDoorSSlew
import Derived.Test.YtpppobomekebdaaGreatDoorISlew
import Derived.Test.YtpppobomekebdaaGreatDoorGT
import Derived.Test.YtpppobomekebdaaGreatDoorGF
namespace Go.Proofs.YtpppobomekebdaaGreatDoor
open Go.RowKit
set_option maxHeartbeats 8000000 in
theorem walk_FnExactSinkSlew {x : BlockD} {v0 : Value} {w : World} (h0 : ∃ x_0 x_1 x_2 x_3 x_4 : Value, v0 = .agg #[x_0, x_1, x_2, x_3, x_4] ∧ RBlock w [x_0, x_1, x_2, x_3, x_4] x) {p : Int} (_ : (Lit.int .i64 p).wf = true) {q : Int} (_ : (Lit.int .i64 q).wf = true) {r : Int} (_ : (Lit.int .i64 r).wf = true) {s : Int} (_ : (Lit.int .i64 s).wf = true) :
    Calls Tryz.prog 7 #[v0, .int .i64 p, .int .i64 q, .int .i64 r, .int .i64 s] w fun e w' => e = .returned (.bool true) ∧ Below w.heap.size w w' := by
  obtain ⟨x_0, x_1, x_2, x_3, x_4, rfl, hr0⟩ := h0
  generalize hv0 : slewVal x.lib x.design x.wires p q r s = r0_
  have E0 : Hid (slewVal x.lib x.design x.wires p q r s = r0_) := hv0
  clear hv0
  generalize hv1 : slewCode x.lib x.design x.wires p q r s = r1_
  have E1 : Hid (slewCode x.lib x.design x.wires p q r s = r1_) := hv1
  clear hv1
  have g : Grows w w := Grows.refl w
  have G : Hid (Grows w (w.alloc (.cells #[x_0, x_1, x_2, x_3, x_4] 32))) := hideIt ((Grows.refl w).alloc _)
  clear g
  have S0 : Hid (Blk (w.alloc (.cells #[x_0, x_1, x_2, x_3, x_4] 32)) (w.heap.size) 32 #[x_0, x_1, x_2, x_3, x_4]) := by
    have := (Blk.new w 32 #[x_0, x_1, x_2, x_3, x_4]).grows (Grows.refl (w.alloc (.cells #[x_0, x_1, x_2, x_3, x_4] 32)))
    exact hideIt (by simpa using this)
  replace hr0 := hideIt (hr0.keep G.out.keeps)
  go_enter Tryz.func7, Tryz.ntmps7
  go_wp2_with fail
  refine (szBlock_any _ _ hr0.out (by omega) (by omega)).mono ?_
  rintro e u1 ⟨l0, rfl, b0, c0, sm0, g⟩
  replace G := hideIt (G.out.trans g)
  replace hr0 := hideIt (hr0.out.keep g.keeps)
  replace S0 := hideIt (S0.out.grows g)
  have SM0 := hideIt sm0
  clear sm0
  clear g
  have kS0_0 : u1.cell? ⟨w.heap.size, 0, none⟩ = some (x_0) := S0.out.cell 0
  have kS0_1 : u1.cell? ⟨w.heap.size, 1, none⟩ = some (x_1) := S0.out.cell 1
  have kS0_2 : u1.cell? ⟨w.heap.size, 2, none⟩ = some (x_2) := S0.out.cell 2
  have kS0_3 : u1.cell? ⟨w.heap.size, 3, none⟩ = some (x_3) := S0.out.cell 3
  have kS0_4 : u1.cell? ⟨w.heap.size, 4, none⟩ = some (x_4) := S0.out.cell 4
  have fS0 := S0.out.frozen
  have lS0 : w.heap.size < u1.heap.size := S0.out.lt
  by_cases n0 : l0 < 0
  · go_wp2
    go_ret
    exact ⟨rfl, G.out.below⟩
  replace SM0 := hideIt (SM0.out (by omega))
  go_wp2_with fail
  clear kS0_0 kS0_1 kS0_2 kS0_3 kS0_4 fS0 lS0
  refine (toBlock_o _ hr0.out SM0.out).mono ?_
  rintro e u2 ⟨p0_0, p0_1, p0_2, p0_3, p0_4, bs_p0, rfl, o, ow, g⟩
  replace G := hideIt (G.out.trans g)
  replace hr0 := hideIt (hr0.out.keep g.keeps)
  replace S0 := hideIt (S0.out.grows g)
  have q0 := o.reads
  clear o ow
  clear g
  have kS0_0 : u2.cell? ⟨w.heap.size, 0, none⟩ = some (x_0) := S0.out.cell 0
  have kS0_1 : u2.cell? ⟨w.heap.size, 1, none⟩ = some (x_1) := S0.out.cell 1
  have kS0_2 : u2.cell? ⟨w.heap.size, 2, none⟩ = some (x_2) := S0.out.cell 2
  have kS0_3 : u2.cell? ⟨w.heap.size, 3, none⟩ = some (x_3) := S0.out.cell 3
  have kS0_4 : u2.cell? ⟨w.heap.size, 4, none⟩ = some (x_4) := S0.out.cell 4
  have fS0 := S0.out.frozen
  have lS0 : w.heap.size < u2.heap.size := S0.out.lt
  replace q0 := hideIt q0
  go_wp2_with fail
  clear kS0_0 kS0_1 kS0_2 kS0_3 kS0_4 fS0 lS0
  refine (sSinkSlew_any p q r s _ (q0.out).parts.1.parts (q0.out).parts.2.1 (q0.out).parts.2.2).mono ?_
  rintro e u3 ⟨rfl, g⟩
  replace G := hideIt (G.out.trans g)
  replace hr0 := hideIt (hr0.out.keep g.keeps)
  replace q0 := hideIt (q0.out.keep g.keeps)
  replace S0 := hideIt (S0.out.grows g)
  rw [E0.out, E1.out]
  clear g
  have kS0_0 : u3.cell? ⟨w.heap.size, 0, none⟩ = some (x_0) := S0.out.cell 0
  have kS0_1 : u3.cell? ⟨w.heap.size, 1, none⟩ = some (x_1) := S0.out.cell 1
  have kS0_2 : u3.cell? ⟨w.heap.size, 2, none⟩ = some (x_2) := S0.out.cell 2
  have kS0_3 : u3.cell? ⟨w.heap.size, 3, none⟩ = some (x_3) := S0.out.cell 3
  have kS0_4 : u3.cell? ⟨w.heap.size, 4, none⟩ = some (x_4) := S0.out.cell 4
  have fS0 := S0.out.frozen
  have lS0 : w.heap.size < u3.heap.size := S0.out.lt
  clear q0
  go_wp2_with fail
  clear kS0_0 kS0_1 kS0_2 kS0_3 kS0_4 fS0 lS0
  refine (toBlock_o _ hr0.out SM0.out).mono ?_
  rintro e u4 ⟨y0_0, y0_1, y0_2, y0_3, y0_4, bs_y0, rfl, o, ow, g⟩
  replace G := hideIt (G.out.trans g)
  replace hr0 := hideIt (hr0.out.keep g.keeps)
  replace S0 := hideIt (S0.out.grows g)
  have x0 := o.reads
  obtain ⟨⟨Ax0_0, mx0_0, rfl⟩, ⟨Ax0_1, mx0_1, rfl⟩, ⟨Ax0_2, mx0_2, rfl⟩, ⟨Ax0_3, mx0_3, rfl⟩, ⟨Ax0_4, mx0_4, rfl⟩⟩ := o.shape
  clear o ow
  clear g
  have kS0_0 : u4.cell? ⟨w.heap.size, 0, none⟩ = some (x_0) := S0.out.cell 0
  have kS0_1 : u4.cell? ⟨w.heap.size, 1, none⟩ = some (x_1) := S0.out.cell 1
  have kS0_2 : u4.cell? ⟨w.heap.size, 2, none⟩ = some (x_2) := S0.out.cell 2
  have kS0_3 : u4.cell? ⟨w.heap.size, 3, none⟩ = some (x_3) := S0.out.cell 3
  have kS0_4 : u4.cell? ⟨w.heap.size, 4, none⟩ = some (x_4) := S0.out.cell 4
  have fS0 := S0.out.frozen
  have lS0 : w.heap.size < u4.heap.size := S0.out.lt
  replace x0 := hideIt x0
  have gl : Grows u4 (u4.alloc (.cells #[.slice Ax0_0 x.lib.length mx0_0, .slice Ax0_1 x.design.insts.length mx0_1, .slice Ax0_2 x.design.nets.length mx0_2, .slice Ax0_3 x.design.ports.length mx0_3, .slice Ax0_4 x.wires.length mx0_4] 44)) := (Grows.refl _).alloc _
  replace G := hideIt (G.out.trans gl)
  replace hr0 := hideIt (hr0.out.keep gl.keeps)
  replace x0 := hideIt (x0.out.keep gl.keeps)
  replace S0 := hideIt (S0.out.grows gl)
  have V0 := hideIt (Blk.new u4 44 #[.slice Ax0_0 x.lib.length mx0_0, .slice Ax0_1 x.design.insts.length mx0_1, .slice Ax0_2 x.design.nets.length mx0_2, .slice Ax0_3 x.design.ports.length mx0_3, .slice Ax0_4 x.wires.length mx0_4])
  clear gl
  go_wp2_with fail
  clear kS0_0 kS0_1 kS0_2 kS0_3 kS0_4 fS0 lS0
  refine (iSinkSlew_any p q r s _ (x0.out).parts.1.parts (x0.out).parts.2.1 (x0.out).parts.2.2 SM0.out.1 SM0.out.2.1).mono ?_
  rintro e u5 ⟨rfl, g⟩
  replace G := hideIt (G.out.trans g)
  replace hr0 := hideIt (hr0.out.keep g.keeps)
  replace x0 := hideIt (x0.out.keep g.keeps)
  replace S0 := hideIt (S0.out.grows g)
  replace V0 := hideIt (V0.out.grows g)
  rw [E0.out, E1.out]
  clear g
  have kS0_0 : u5.cell? ⟨w.heap.size, 0, none⟩ = some (x_0) := S0.out.cell 0
  have kS0_1 : u5.cell? ⟨w.heap.size, 1, none⟩ = some (x_1) := S0.out.cell 1
  have kS0_2 : u5.cell? ⟨w.heap.size, 2, none⟩ = some (x_2) := S0.out.cell 2
  have kS0_3 : u5.cell? ⟨w.heap.size, 3, none⟩ = some (x_3) := S0.out.cell 3
  have kS0_4 : u5.cell? ⟨w.heap.size, 4, none⟩ = some (x_4) := S0.out.cell 4
  have fS0 := S0.out.frozen
  have lS0 : w.heap.size < u5.heap.size := S0.out.lt
  have kV0_0 : u5.cell? ⟨u4.heap.size, 0, none⟩ = some (.slice Ax0_0 x.lib.length mx0_0) := V0.out.cell 0
  have kV0_1 : u5.cell? ⟨u4.heap.size, 1, none⟩ = some (.slice Ax0_1 x.design.insts.length mx0_1) := V0.out.cell 1
  have kV0_2 : u5.cell? ⟨u4.heap.size, 2, none⟩ = some (.slice Ax0_2 x.design.nets.length mx0_2) := V0.out.cell 2
  have kV0_3 : u5.cell? ⟨u4.heap.size, 3, none⟩ = some (.slice Ax0_3 x.design.ports.length mx0_3) := V0.out.cell 3
  have kV0_4 : u5.cell? ⟨u4.heap.size, 4, none⟩ = some (.slice Ax0_4 x.wires.length mx0_4) := V0.out.cell 4
  have fV0 := V0.out.frozen
  have lV0 : u4.heap.size < u5.heap.size := V0.out.lt
  go_wp2_with fail
  clear kS0_0 kS0_1 kS0_2 kS0_3 kS0_4 fS0 lS0 kV0_0 kV0_1 kV0_2 kV0_3 kV0_4 fV0 lV0
  have K0 : ∀ w', Grows u5 w' → w'.cell? ⟨w.heap.size, 0, none⟩ = some (x_0) ∧ w'.cell? ⟨w.heap.size, 1, none⟩ = some (x_1) ∧ w'.cell? ⟨w.heap.size, 2, none⟩ = some (x_2) ∧ w'.cell? ⟨w.heap.size, 3, none⟩ = some (x_3) ∧ w'.cell? ⟨w.heap.size, 4, none⟩ = some (x_4) ∧ w'.cell? ⟨u4.heap.size, 0, none⟩ = some (.slice Ax0_0 x.lib.length mx0_0) ∧ w'.cell? ⟨u4.heap.size, 1, none⟩ = some (.slice Ax0_1 x.design.insts.length mx0_1) ∧ w'.cell? ⟨u4.heap.size, 2, none⟩ = some (.slice Ax0_2 x.design.nets.length mx0_2) ∧ w'.cell? ⟨u4.heap.size, 3, none⟩ = some (.slice Ax0_3 x.design.ports.length mx0_3) ∧ w'.cell? ⟨u4.heap.size, 4, none⟩ = some (.slice Ax0_4 x.wires.length mx0_4) ∧ Grows u5 w' := fun w' G => ⟨(G.cells.1 _ _ S0.out.lt).trans (S0.out.cell 0), (G.cells.1 _ _ S0.out.lt).trans (S0.out.cell 1), (G.cells.1 _ _ S0.out.lt).trans (S0.out.cell 2), (G.cells.1 _ _ S0.out.lt).trans (S0.out.cell 3), (G.cells.1 _ _ S0.out.lt).trans (S0.out.cell 4), (G.cells.1 _ _ V0.out.lt).trans (V0.out.cell 0), (G.cells.1 _ _ V0.out.lt).trans (V0.out.cell 1), (G.cells.1 _ _ V0.out.lt).trans (V0.out.cell 2), (G.cells.1 _ _ V0.out.lt).trans (V0.out.cell 3), (G.cells.1 _ _ V0.out.lt).trans (V0.out.cell 4), G⟩
  have HK := hideIt K0
  clear K0
  have gg : Grows u5 u5 := Grows.refl _
  refine wp_region_held_drew (S := (fun w' => w'.cell? ⟨w.heap.size, 0, none⟩ = some (x_0) ∧ w'.cell? ⟨w.heap.size, 1, none⟩ = some (x_1) ∧ w'.cell? ⟨w.heap.size, 2, none⟩ = some (x_2) ∧ w'.cell? ⟨w.heap.size, 3, none⟩ = some (x_3) ∧ w'.cell? ⟨w.heap.size, 4, none⟩ = some (x_4) ∧ w'.cell? ⟨u4.heap.size, 0, none⟩ = some (.slice Ax0_0 x.lib.length mx0_0) ∧ w'.cell? ⟨u4.heap.size, 1, none⟩ = some (.slice Ax0_1 x.design.insts.length mx0_1) ∧ w'.cell? ⟨u4.heap.size, 2, none⟩ = some (.slice Ax0_2 x.design.nets.length mx0_2) ∧ w'.cell? ⟨u4.heap.size, 3, none⟩ = some (.slice Ax0_3 x.design.ports.length mx0_3) ∧ w'.cell? ⟨u4.heap.size, 4, none⟩ = some (.slice Ax0_4 x.wires.length mx0_4) ∧ Grows u5 w')) (by kernel_rfl) ?_ (fun hh0 => ?_)
  · (try dsimp only); exact HK.out _ gk
  refine regTk 0 hh0 ?_
  refine regTk 1 hh0 ?_
  refine regCall 2 (fun K hK => ?_)
  go_simp
  refine (toBlock_o _ (hr0.out.keep (Grows.keeps gk)) SM0.out).mono ?_
  rintro e wx6_0 ⟨z0_0, z0_1, z0_2, z0_3, z0_4, bs_z0, rfl, o, ow, g⟩
  have e0 := o.reads
  clear o ow
  replace e0 := hideIt e0
  replace gg := gg.gt g
  clear g
  (try go_wp2_with fail)
  refine hK.out _ _ ?_ (fun hh1 => ?_)
  · (try dsimp only); exact HK.out _ gk
  clear hK K hh0
  try simp only [Act.put, List.setIfInBounds_toArray, List.set_cons_zero, List.set_cons_succ]
  refine regCall 3 (fun K hK => ?_)
  go_simp
  refine (eqBlock_same _ (x0.out.keep (Grows.keeps gk)) (e0.out)).mono ?_
  rintro e wx6_1 ⟨rfl, g⟩
  replace e0 := hideIt (e0.out.keep g.keeps)
  replace gg := gg.gt g
  clear g
  (try go_wp2_with fail)
  refine hK.out _ _ ?_ (fun hh2 => ?_)
  · (try dsimp only); exact HK.out _ gk
  clear hK K hh1
  try simp only [Act.put, List.setIfInBounds_toArray, List.set_cons_zero, List.set_cons_succ]
  refine regTk 4 hh2 ?_
  refine wpAnyH_done (by kernel_rfl) ?_ _
  clear hh2 HK
  replace G := hideIt (G.out.trans gg)
  replace hr0 := hideIt (hr0.out.keep (Grows.keeps gg))
  replace x0 := hideIt (x0.out.keep (Grows.keeps gg))
  replace S0 := hideIt (S0.out.grows gg)
  replace V0 := hideIt (V0.out.grows gg)
  clear gg
  have kS0_0 : wx6_1.cell? ⟨w.heap.size, 0, none⟩ = some (x_0) := S0.out.cell 0
  have kS0_1 : wx6_1.cell? ⟨w.heap.size, 1, none⟩ = some (x_1) := S0.out.cell 1
  have kS0_2 : wx6_1.cell? ⟨w.heap.size, 2, none⟩ = some (x_2) := S0.out.cell 2
  have kS0_3 : wx6_1.cell? ⟨w.heap.size, 3, none⟩ = some (x_3) := S0.out.cell 3
  have kS0_4 : wx6_1.cell? ⟨w.heap.size, 4, none⟩ = some (x_4) := S0.out.cell 4
  have fS0 := S0.out.frozen
  have lS0 : w.heap.size < wx6_1.heap.size := S0.out.lt
  have kV0_0 : wx6_1.cell? ⟨u4.heap.size, 0, none⟩ = some (.slice Ax0_0 x.lib.length mx0_0) := V0.out.cell 0
  have kV0_1 : wx6_1.cell? ⟨u4.heap.size, 1, none⟩ = some (.slice Ax0_1 x.design.insts.length mx0_1) := V0.out.cell 1
  have kV0_2 : wx6_1.cell? ⟨u4.heap.size, 2, none⟩ = some (.slice Ax0_2 x.design.nets.length mx0_2) := V0.out.cell 2
  have kV0_3 : wx6_1.cell? ⟨u4.heap.size, 3, none⟩ = some (.slice Ax0_3 x.design.ports.length mx0_3) := V0.out.cell 3
  have kV0_4 : wx6_1.cell? ⟨u4.heap.size, 4, none⟩ = some (.slice Ax0_4 x.wires.length mx0_4) := V0.out.cell 4
  have fV0 := V0.out.frozen
  have lV0 : u4.heap.size < wx6_1.heap.size := V0.out.lt
  go_wp2
  go_ret
  exact ⟨rfl, G.out.below⟩
end Go.Proofs.YtpppobomekebdaaGreatDoor
