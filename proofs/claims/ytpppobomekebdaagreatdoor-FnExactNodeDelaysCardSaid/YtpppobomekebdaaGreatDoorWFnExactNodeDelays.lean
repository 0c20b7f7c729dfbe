/-
  The walk of FnExactNodeDelays.
-/
import Derived.Test.YtpppobomekebdaaGreatDoorGJ
import Derived.Test.YtpppobomekebdaaGreatDoorMarkL
import Derived.Test.YtpppobomekebdaaGreatDoorGX
import Derived.Test.YtpppobomekebdaaGreatDoorGT
import Derived.Test.YtpppobomekebdaaGreatDoorGF
namespace Go.Proofs.YtpppobomekebdaaGreatDoor
open Go.RowKit
set_option maxHeartbeats 16000000 in
set_option maxRecDepth 10000 in
theorem walk_FnExactNodeDelays {x : BlockD} {v0 : Value} {w : World} (h0 : ∃ x_0 x_1 x_2 x_3 x_4 : Value, v0 = .agg #[x_0, x_1, x_2, x_3, x_4] ∧ RBlock w [x_0, x_1, x_2, x_3, x_4] x) {p : Int} (_ : (Lit.int .i64 p).wf = true) :
    Calls Tryz.prog 6 #[v0, .int .i64 p] w fun e w' => e = .returned (.bool true) ∧ Below w.heap.size w w' := by
  obtain ⟨x_0, x_1, x_2, x_3, x_4, rfl, hr0⟩ := h0
  have hxl : ((nodeDlV x.lib x.design x.wires p)).length ≤ 1048576 := nodeDlV_len x.lib x.design x.wires p
  have hxs : SmL ((nodeDlV x.lib x.design x.wires p)) := hxl
  have HXS := hideIt hxs
  clear hxs
  obtain ⟨cd, ecd⟩ : ∃ cd : Int, cd = codeV x.lib x.design x.wires p := ⟨_, rfl⟩
  have EC := hideIt ecd
  clear ecd
  have g : Grows w w := Grows.refl w
  have G : Hid (Grows w (w.alloc (.cells #[x_0, x_1, x_2, x_3, x_4] 32))) := hideIt ((Grows.refl w).alloc _)
  clear g
  have S0 : Hid (Blk (w.alloc (.cells #[x_0, x_1, x_2, x_3, x_4] 32)) (w.heap.size) 32 #[x_0, x_1, x_2, x_3, x_4]) := by
    have := (Blk.new w 32 #[x_0, x_1, x_2, x_3, x_4]).grows (Grows.refl (w.alloc (.cells #[x_0, x_1, x_2, x_3, x_4] 32)))
    exact hideIt (by simpa using this)
  replace hr0 := hideIt (hr0.keep G.out.keeps)
  go_enter Tryz.func6, Tryz.ntmps6
  go_wp2_with fail
  refine (szBlock_w _ _ hr0.out (by omega) (by omega)).mono ?_
  rintro e u1 ⟨l0, rfl, b0, c0, sm0, g⟩
  replace G := hideIt (G.out.trans g)
  replace hr0 := hideIt (hr0.out.keep g.keeps)
  replace S0 := hideIt (S0.out.grows g)
  have SM0 := hideIt sm0
  clear sm0
  clear g
  have kS0_0 : u1.cell? ⟨w.heap.size, 0, none⟩ = some (x_0) := S0.out.cell 0
  have kS0_1 : u1.cell? ⟨w.heap.size, 1, none⟩ = some (x_1) := S0.out.cell 1
  have kS0_2 : u1.cell? ⟨w.heap.size, 2, none⟩ = some (x_2) := S0.out.cell 2
  have kS0_3 : u1.cell? ⟨w.heap.size, 3, none⟩ = some (x_3) := S0.out.cell 3
  have kS0_4 : u1.cell? ⟨w.heap.size, 4, none⟩ = some (x_4) := S0.out.cell 4
  have fS0 := S0.out.frozen
  have lS0 : w.heap.size < u1.heap.size := S0.out.lt
  by_cases n0 : l0 < 0
  · go_wp2
    go_ret
    exact ⟨rfl, G.out.below⟩
  have WT0 := (SM0.out (by omega)).2
  replace SM0 := hideIt (SM0.out (by omega)).1
  go_wp2_with fail
  clear kS0_0 kS0_1 kS0_2 kS0_3 kS0_4 fS0 lS0
  refine (toBlock_o _ hr0.out SM0.out).mono ?_
  rintro e u2 ⟨p0_0, p0_1, p0_2, p0_3, p0_4, bs_p0, rfl, o, ow, g⟩
  replace G := hideIt (G.out.trans g)
  replace hr0 := hideIt (hr0.out.keep g.keeps)
  replace S0 := hideIt (S0.out.grows g)
  have q0 := o.reads
  clear o ow
  clear g
  have kS0_0 : u2.cell? ⟨w.heap.size, 0, none⟩ = some (x_0) := S0.out.cell 0
  have kS0_1 : u2.cell? ⟨w.heap.size, 1, none⟩ = some (x_1) := S0.out.cell 1
  have kS0_2 : u2.cell? ⟨w.heap.size, 2, none⟩ = some (x_2) := S0.out.cell 2
  have kS0_3 : u2.cell? ⟨w.heap.size, 3, none⟩ = some (x_3) := S0.out.cell 3
  have kS0_4 : u2.cell? ⟨w.heap.size, 4, none⟩ = some (x_4) := S0.out.cell 4
  have fS0 := S0.out.frozen
  have lS0 : w.heap.size < u2.heap.size := S0.out.lt
  replace q0 := hideIt q0
  go_wp2_with fail
  clear kS0_0 kS0_1 kS0_2 kS0_3 kS0_4 fS0 lS0
  refine (sNodeDelays_any p _ (q0.out).parts.1.parts (q0.out).parts.2.1 (q0.out).parts.2.2).mono ?_
  rintro e u3 ⟨A9, c9, bs9, rfl, o, ow, g⟩
  replace G := hideIt (G.out.trans g)
  replace hr0 := hideIt (hr0.out.keep g.keeps)
  replace q0 := hideIt (q0.out.keep g.keeps)
  replace S0 := hideIt (S0.out.grows g)
  have r9 := o.reads
  clear o ow
  rw [← EC.out]
  clear g
  have kS0_0 : u3.cell? ⟨w.heap.size, 0, none⟩ = some (x_0) := S0.out.cell 0
  have kS0_1 : u3.cell? ⟨w.heap.size, 1, none⟩ = some (x_1) := S0.out.cell 1
  have kS0_2 : u3.cell? ⟨w.heap.size, 2, none⟩ = some (x_2) := S0.out.cell 2
  have kS0_3 : u3.cell? ⟨w.heap.size, 3, none⟩ = some (x_3) := S0.out.cell 3
  have kS0_4 : u3.cell? ⟨w.heap.size, 4, none⟩ = some (x_4) := S0.out.cell 4
  have fS0 := S0.out.frozen
  have lS0 : w.heap.size < u3.heap.size := S0.out.lt
  replace r9 := hideIt r9
  clear q0
  have GA : Hid (Grows u3 u3) := hideIt (Grows.refl _)
  have HA0 := hr0
  go_wp2_with fail
  clear kS0_0 kS0_1 kS0_2 kS0_3 kS0_4 fS0 lS0
  refine (toBlock_o _ hr0.out SM0.out).mono ?_
  rintro e u4 ⟨y0_0, y0_1, y0_2, y0_3, y0_4, by0, rfl, ox0, wx0, g⟩
  have LB_G_by0 : Hid (∀ q ∈ by0, (w).heap.size ≤ q) := hideIt fun q hq => Nat.le_trans G.out.size (wx0.2 q hq).1
  have LB_GA_by0 : Hid (∀ q ∈ by0, (u3).heap.size ≤ q) := hideIt fun q hq => Nat.le_trans GA.out.size (wx0.2 q hq).1
  have NB_S0_by0 : Hid ((w.heap.size) ∉ by0) := hideIt fun hm => Nat.lt_irrefl _ (Nat.lt_of_lt_of_le S0.out.lt (wx0.2 _ hm).1)
  have ND_by0 := hideIt wx0.1
  replace G := hideIt (G.out.trans g)
  replace GA := hideIt (GA.out.trans g)
  replace hr0 := hideIt (hr0.out.keep g.keeps)
  replace S0 := hideIt (S0.out.grows g)
  replace ox0 := hideIt ox0
  clear wx0
  obtain ⟨⟨Ax0_0, mx0_0, rfl⟩, ⟨Ax0_1, mx0_1, rfl⟩, ⟨Ax0_2, mx0_2, rfl⟩, ⟨Ax0_3, mx0_3, rfl⟩, ⟨Ax0_4, mx0_4, rfl⟩⟩ := ox0.out.shape
  clear g
  have kS0_0 : u4.cell? ⟨w.heap.size, 0, none⟩ = some (x_0) := S0.out.cell 0
  have kS0_1 : u4.cell? ⟨w.heap.size, 1, none⟩ = some (x_1) := S0.out.cell 1
  have kS0_2 : u4.cell? ⟨w.heap.size, 2, none⟩ = some (x_2) := S0.out.cell 2
  have kS0_3 : u4.cell? ⟨w.heap.size, 3, none⟩ = some (x_3) := S0.out.cell 3
  have kS0_4 : u4.cell? ⟨w.heap.size, 4, none⟩ = some (x_4) := S0.out.cell 4
  have fS0 := S0.out.frozen
  have lS0 : w.heap.size < u4.heap.size := S0.out.lt
  have NB_V0_by0 : Hid (u4.heap.size ∉ by0) := hideIt fun hm => Nat.lt_irrefl _ (ox0.out.lt _ hm)
  have gl : Grows u4 (u4.alloc (.cells #[.slice Ax0_0 x.lib.length mx0_0, .slice Ax0_1 x.design.insts.length mx0_1, .slice Ax0_2 x.design.nets.length mx0_2, .slice Ax0_3 x.design.ports.length mx0_3, .slice Ax0_4 x.wires.length mx0_4] 44)) := (Grows.refl _).alloc _
  replace G := hideIt (G.out.trans gl)
  replace GA := hideIt (GA.out.trans gl)
  replace hr0 := hideIt (hr0.out.keep gl.keeps)
  replace ox0 := hideIt (ox0.out.same ((SameOn.refl _ _).grows ox0.out.lt gl))
  replace S0 := hideIt (S0.out.grows gl)
  have V0 := hideIt (Blk.new u4 44 #[.slice Ax0_0 x.lib.length mx0_0, .slice Ax0_1 x.design.insts.length mx0_1, .slice Ax0_2 x.design.nets.length mx0_2, .slice Ax0_3 x.design.ports.length mx0_3, .slice Ax0_4 x.wires.length mx0_4])
  clear gl
  go_wp2_with fail
  clear kS0_0 kS0_1 kS0_2 kS0_3 kS0_4 fS0 lS0
  refine (iNodeDelays_any p _ (ox0.out.reads).parts.1.parts (ox0.out.reads).parts.2.1 (ox0.out.reads).parts.2.2 SM0.out.1 SM0.out.2.1).mono ?_
  rintro e u5 ⟨A8, c8, bs8, rfl, og, wg, g⟩
  have DJ_by0_bs8 : Hid (∀ q ∈ by0, q ∉ bs8) := hideIt fun q hq hm => Nat.lt_irrefl _ (Nat.lt_of_lt_of_le (ox0.out.lt q hq) (wg.2 q hm).1)
  have LB_G_bs8 : Hid (∀ q ∈ bs8, (w).heap.size ≤ q) := hideIt fun q hq => Nat.le_trans G.out.size (wg.2 q hq).1
  have LB_GA_bs8 : Hid (∀ q ∈ bs8, (u3).heap.size ≤ q) := hideIt fun q hq => Nat.le_trans GA.out.size (wg.2 q hq).1
  have NB_S0_bs8 : Hid ((w.heap.size) ∉ bs8) := hideIt fun hm => Nat.lt_irrefl _ (Nat.lt_of_lt_of_le S0.out.lt (wg.2 _ hm).1)
  have NB_V0_bs8 : Hid ((u4.heap.size) ∉ bs8) := hideIt fun hm => Nat.lt_irrefl _ (Nat.lt_of_lt_of_le V0.out.lt (wg.2 _ hm).1)
  have ND_bs8 := hideIt wg.1
  replace G := hideIt (G.out.trans g)
  replace GA := hideIt (GA.out.trans g)
  replace hr0 := hideIt (hr0.out.keep g.keeps)
  replace ox0 := hideIt (ox0.out.same ((SameOn.refl _ _).grows ox0.out.lt g))
  replace S0 := hideIt (S0.out.grows g)
  replace V0 := hideIt (V0.out.grows g)
  replace og := hideIt og
  clear wg
  rw [← EC.out]
  clear g
  have kS0_0 : u5.cell? ⟨w.heap.size, 0, none⟩ = some (x_0) := S0.out.cell 0
  have kS0_1 : u5.cell? ⟨w.heap.size, 1, none⟩ = some (x_1) := S0.out.cell 1
  have kS0_2 : u5.cell? ⟨w.heap.size, 2, none⟩ = some (x_2) := S0.out.cell 2
  have kS0_3 : u5.cell? ⟨w.heap.size, 3, none⟩ = some (x_3) := S0.out.cell 3
  have kS0_4 : u5.cell? ⟨w.heap.size, 4, none⟩ = some (x_4) := S0.out.cell 4
  have fS0 := S0.out.frozen
  have lS0 : w.heap.size < u5.heap.size := S0.out.lt
  have kV0_0 : u5.cell? ⟨u4.heap.size, 0, none⟩ = some (.slice Ax0_0 x.lib.length mx0_0) := V0.out.cell 0
  have kV0_1 : u5.cell? ⟨u4.heap.size, 1, none⟩ = some (.slice Ax0_1 x.design.insts.length mx0_1) := V0.out.cell 1
  have kV0_2 : u5.cell? ⟨u4.heap.size, 2, none⟩ = some (.slice Ax0_2 x.design.nets.length mx0_2) := V0.out.cell 2
  have kV0_3 : u5.cell? ⟨u4.heap.size, 3, none⟩ = some (.slice Ax0_3 x.design.ports.length mx0_3) := V0.out.cell 3
  have kV0_4 : u5.cell? ⟨u4.heap.size, 4, none⟩ = some (.slice Ax0_4 x.wires.length mx0_4) := V0.out.cell 4
  have fV0 := V0.out.frozen
  have lV0 : u4.heap.size < u5.heap.size := V0.out.lt
  go_wp2_with fail
  clear kS0_0 kS0_1 kS0_2 kS0_3 kS0_4 fS0 lS0 kV0_0 kV0_1 kV0_2 kV0_3 kV0_4 fV0 lV0
  refine (eqInts_same _ og.out.reads (r9.out.keep GA.out.keeps)).mono ?_
  rintro e u6 ⟨rfl, g⟩
  replace G := hideIt (G.out.trans g)
  replace GA := hideIt (GA.out.trans g)
  replace hr0 := hideIt (hr0.out.keep g.keeps)
  replace ox0 := hideIt (ox0.out.same ((SameOn.refl _ _).grows ox0.out.lt g))
  replace og := hideIt (og.out.same ((SameOn.refl _ _).grows og.out.lt g))
  replace S0 := hideIt (S0.out.grows g)
  replace V0 := hideIt (V0.out.grows g)
  clear g
  have kS0_0 : u6.cell? ⟨w.heap.size, 0, none⟩ = some (x_0) := S0.out.cell 0
  have kS0_1 : u6.cell? ⟨w.heap.size, 1, none⟩ = some (x_1) := S0.out.cell 1
  have kS0_2 : u6.cell? ⟨w.heap.size, 2, none⟩ = some (x_2) := S0.out.cell 2
  have kS0_3 : u6.cell? ⟨w.heap.size, 3, none⟩ = some (x_3) := S0.out.cell 3
  have kS0_4 : u6.cell? ⟨w.heap.size, 4, none⟩ = some (x_4) := S0.out.cell 4
  have fS0 := S0.out.frozen
  have lS0 : w.heap.size < u6.heap.size := S0.out.lt
  have kV0_0 : u6.cell? ⟨u4.heap.size, 0, none⟩ = some (.slice Ax0_0 x.lib.length mx0_0) := V0.out.cell 0
  have kV0_1 : u6.cell? ⟨u4.heap.size, 1, none⟩ = some (.slice Ax0_1 x.design.insts.length mx0_1) := V0.out.cell 1
  have kV0_2 : u6.cell? ⟨u4.heap.size, 2, none⟩ = some (.slice Ax0_2 x.design.nets.length mx0_2) := V0.out.cell 2
  have kV0_3 : u6.cell? ⟨u4.heap.size, 3, none⟩ = some (.slice Ax0_3 x.design.ports.length mx0_3) := V0.out.cell 3
  have kV0_4 : u6.cell? ⟨u4.heap.size, 4, none⟩ = some (.slice Ax0_4 x.wires.length mx0_4) := V0.out.cell 4
  have fV0 := V0.out.frozen
  have lV0 : u4.heap.size < u6.heap.size := V0.out.lt
  go_wp2_with fail
  clear kS0_0 kS0_1 kS0_2 kS0_3 kS0_4 fS0 lS0 kV0_0 kV0_1 kV0_2 kV0_3 kV0_4 fV0 lV0
  have K0 : ∀ w', Grows u6 w' → w'.cell? ⟨w.heap.size, 0, none⟩ = some (x_0) ∧ w'.cell? ⟨w.heap.size, 1, none⟩ = some (x_1) ∧ w'.cell? ⟨w.heap.size, 2, none⟩ = some (x_2) ∧ w'.cell? ⟨w.heap.size, 3, none⟩ = some (x_3) ∧ w'.cell? ⟨w.heap.size, 4, none⟩ = some (x_4) ∧ w'.cell? ⟨u4.heap.size, 0, none⟩ = some (.slice Ax0_0 x.lib.length mx0_0) ∧ w'.cell? ⟨u4.heap.size, 1, none⟩ = some (.slice Ax0_1 x.design.insts.length mx0_1) ∧ w'.cell? ⟨u4.heap.size, 2, none⟩ = some (.slice Ax0_2 x.design.nets.length mx0_2) ∧ w'.cell? ⟨u4.heap.size, 3, none⟩ = some (.slice Ax0_3 x.design.ports.length mx0_3) ∧ w'.cell? ⟨u4.heap.size, 4, none⟩ = some (.slice Ax0_4 x.wires.length mx0_4) ∧ Grows u6 w' := fun w' G => ⟨(G.cells.1 _ _ S0.out.lt).trans (S0.out.cell 0), (G.cells.1 _ _ S0.out.lt).trans (S0.out.cell 1), (G.cells.1 _ _ S0.out.lt).trans (S0.out.cell 2), (G.cells.1 _ _ S0.out.lt).trans (S0.out.cell 3), (G.cells.1 _ _ S0.out.lt).trans (S0.out.cell 4), (G.cells.1 _ _ V0.out.lt).trans (V0.out.cell 0), (G.cells.1 _ _ V0.out.lt).trans (V0.out.cell 1), (G.cells.1 _ _ V0.out.lt).trans (V0.out.cell 2), (G.cells.1 _ _ V0.out.lt).trans (V0.out.cell 3), (G.cells.1 _ _ V0.out.lt).trans (V0.out.cell 4), G⟩
  have HK := hideIt K0
  clear K0
  have gg : Grows u6 u6 := Grows.refl _
  refine wp_region_held_drew (S := (fun w' => w'.cell? ⟨w.heap.size, 0, none⟩ = some (x_0) ∧ w'.cell? ⟨w.heap.size, 1, none⟩ = some (x_1) ∧ w'.cell? ⟨w.heap.size, 2, none⟩ = some (x_2) ∧ w'.cell? ⟨w.heap.size, 3, none⟩ = some (x_3) ∧ w'.cell? ⟨w.heap.size, 4, none⟩ = some (x_4) ∧ w'.cell? ⟨u4.heap.size, 0, none⟩ = some (.slice Ax0_0 x.lib.length mx0_0) ∧ w'.cell? ⟨u4.heap.size, 1, none⟩ = some (.slice Ax0_1 x.design.insts.length mx0_1) ∧ w'.cell? ⟨u4.heap.size, 2, none⟩ = some (.slice Ax0_2 x.design.nets.length mx0_2) ∧ w'.cell? ⟨u4.heap.size, 3, none⟩ = some (.slice Ax0_3 x.design.ports.length mx0_3) ∧ w'.cell? ⟨u4.heap.size, 4, none⟩ = some (.slice Ax0_4 x.wires.length mx0_4) ∧ Grows u6 w')) (by kernel_rfl) ?_ (fun hh0 => ?_)
  · (try dsimp only); exact HK.out _ gk
  refine regTk 0 hh0 ?_
  refine regTk 1 hh0 ?_
  refine regCall 2 (fun K hK => ?_)
  go_simp
  refine (toBlock_o _ (hr0.out.keep (Grows.keeps gk)) SM0.out).mono ?_
  rintro e wx7_0 ⟨z0_0, z0_1, z0_2, z0_3, z0_4, bs_z0, rfl, o, ow, g⟩
  have e0 := o.reads
  clear o ow
  replace e0 := hideIt e0
  replace gg := gg.gt g
  clear g
  (try go_wp2_with fail)
  refine hK.out _ _ ?_ (fun hh1 => ?_)
  · (try dsimp only); exact HK.out _ gk
  clear hK K hh0
  try simp only [Act.put, List.setIfInBounds_toArray, List.set_cons_zero, List.set_cons_succ]
  refine regCall 3 (fun K hK => ?_)
  go_simp
  refine (eqBlock_same _ (ox0.out.reads.keep (Grows.keeps gk)) (e0.out)).mono ?_
  rintro e wx7_1 ⟨rfl, g⟩
  replace e0 := hideIt (e0.out.keep g.keeps)
  replace gg := gg.gt g
  clear g
  (try go_wp2_with fail)
  refine hK.out _ _ ?_ (fun hh2 => ?_)
  · (try dsimp only); exact HK.out _ gk
  clear hK K hh1
  try simp only [Act.put, List.setIfInBounds_toArray, List.set_cons_zero, List.set_cons_succ]
  refine regTk 4 hh2 ?_
  refine wpAnyH_done (by kernel_rfl) ?_ _
  clear hh2 HK
  replace ox0 := hideIt (ox0.out.same ((SameOn.refl _ _).grows ox0.out.lt gg))
  replace og := hideIt (og.out.same ((SameOn.refl _ _).grows og.out.lt gg))
  replace G := hideIt (G.out.trans gg)
  replace GA := hideIt (GA.out.trans gg)
  replace hr0 := hideIt (hr0.out.keep (Grows.keeps gg))
  replace S0 := hideIt (S0.out.grows gg)
  replace V0 := hideIt (V0.out.grows gg)
  clear gg
  have kS0_0 : wx7_1.cell? ⟨w.heap.size, 0, none⟩ = some (x_0) := S0.out.cell 0
  have kS0_1 : wx7_1.cell? ⟨w.heap.size, 1, none⟩ = some (x_1) := S0.out.cell 1
  have kS0_2 : wx7_1.cell? ⟨w.heap.size, 2, none⟩ = some (x_2) := S0.out.cell 2
  have kS0_3 : wx7_1.cell? ⟨w.heap.size, 3, none⟩ = some (x_3) := S0.out.cell 3
  have kS0_4 : wx7_1.cell? ⟨w.heap.size, 4, none⟩ = some (x_4) := S0.out.cell 4
  have fS0 := S0.out.frozen
  have lS0 : w.heap.size < wx7_1.heap.size := S0.out.lt
  have kV0_0 : wx7_1.cell? ⟨u4.heap.size, 0, none⟩ = some (.slice Ax0_0 x.lib.length mx0_0) := V0.out.cell 0
  have kV0_1 : wx7_1.cell? ⟨u4.heap.size, 1, none⟩ = some (.slice Ax0_1 x.design.insts.length mx0_1) := V0.out.cell 1
  have kV0_2 : wx7_1.cell? ⟨u4.heap.size, 2, none⟩ = some (.slice Ax0_2 x.design.nets.length mx0_2) := V0.out.cell 2
  have kV0_3 : wx7_1.cell? ⟨u4.heap.size, 3, none⟩ = some (.slice Ax0_3 x.design.ports.length mx0_3) := V0.out.cell 3
  have kV0_4 : wx7_1.cell? ⟨u4.heap.size, 4, none⟩ = some (.slice Ax0_4 x.wires.length mx0_4) := V0.out.cell 4
  have fV0 := V0.out.frozen
  have lV0 : u4.heap.size < wx7_1.heap.size := V0.out.lt
  clear e0
  go_wp2_with fail
  clear kS0_0 kS0_1 kS0_2 kS0_3 kS0_4 fS0 lS0 kV0_0 kV0_1 kV0_2 kV0_3 kV0_4 fV0 lV0
  refine (markBlock_w 1 _ ox0.out ND_by0.out (by omega) (by omega) (by omega)).mono ?_
  rintro e u8 ⟨k0_, rfl, ka0, kb0, c⟩
  replace G := hideIt (G.out.chg c LB_G_by0.out)
  replace GA := hideIt (GA.out.chg c LB_GA_by0.out)
  clear hr0
  replace S0 := hideIt (S0.out.chg c NB_S0_by0.out)
  replace V0 := hideIt (V0.out.chg c NB_V0_by0.out)
  replace og := hideIt (og.out.same (c.same og.out.lt (fun q hq hm => DJ_by0_bs8.out q hm hq)))
  clear c ox0
  have kn0 : 0 ≤ k0_ := by omega
  have kS0_0 : u8.cell? ⟨w.heap.size, 0, none⟩ = some (x_0) := S0.out.cell 0
  have kS0_1 : u8.cell? ⟨w.heap.size, 1, none⟩ = some (x_1) := S0.out.cell 1
  have kS0_2 : u8.cell? ⟨w.heap.size, 2, none⟩ = some (x_2) := S0.out.cell 2
  have kS0_3 : u8.cell? ⟨w.heap.size, 3, none⟩ = some (x_3) := S0.out.cell 3
  have kS0_4 : u8.cell? ⟨w.heap.size, 4, none⟩ = some (x_4) := S0.out.cell 4
  have fS0 := S0.out.frozen
  have lS0 : w.heap.size < u8.heap.size := S0.out.lt
  have kV0_0 : u8.cell? ⟨u4.heap.size, 0, none⟩ = some (.slice Ax0_0 x.lib.length mx0_0) := V0.out.cell 0
  have kV0_1 : u8.cell? ⟨u4.heap.size, 1, none⟩ = some (.slice Ax0_1 x.design.insts.length mx0_1) := V0.out.cell 1
  have kV0_2 : u8.cell? ⟨u4.heap.size, 2, none⟩ = some (.slice Ax0_2 x.design.nets.length mx0_2) := V0.out.cell 2
  have kV0_3 : u8.cell? ⟨u4.heap.size, 3, none⟩ = some (.slice Ax0_3 x.design.ports.length mx0_3) := V0.out.cell 3
  have kV0_4 : u8.cell? ⟨u4.heap.size, 4, none⟩ = some (.slice Ax0_4 x.wires.length mx0_4) := V0.out.cell 4
  have fV0 := V0.out.frozen
  have lV0 : u4.heap.size < u8.heap.size := V0.out.lt
  go_wp2_with fail
  clear kS0_0 kS0_1 kS0_2 kS0_3 kS0_4 fS0 lS0 kV0_0 kV0_1 kV0_2 kV0_3 kV0_4 fV0 lV0
  refine (eqInts_same _ og.out.reads (r9.out.keep GA.out.keeps)).mono ?_
  rintro e u9 ⟨rfl, g⟩
  replace G := hideIt (G.out.trans g)
  replace GA := hideIt (GA.out.trans g)
  replace og := hideIt (og.out.same ((SameOn.refl _ _).grows og.out.lt g))
  replace S0 := hideIt (S0.out.grows g)
  replace V0 := hideIt (V0.out.grows g)
  clear g
  have kS0_0 : u9.cell? ⟨w.heap.size, 0, none⟩ = some (x_0) := S0.out.cell 0
  have kS0_1 : u9.cell? ⟨w.heap.size, 1, none⟩ = some (x_1) := S0.out.cell 1
  have kS0_2 : u9.cell? ⟨w.heap.size, 2, none⟩ = some (x_2) := S0.out.cell 2
  have kS0_3 : u9.cell? ⟨w.heap.size, 3, none⟩ = some (x_3) := S0.out.cell 3
  have kS0_4 : u9.cell? ⟨w.heap.size, 4, none⟩ = some (x_4) := S0.out.cell 4
  have fS0 := S0.out.frozen
  have lS0 : w.heap.size < u9.heap.size := S0.out.lt
  have kV0_0 : u9.cell? ⟨u4.heap.size, 0, none⟩ = some (.slice Ax0_0 x.lib.length mx0_0) := V0.out.cell 0
  have kV0_1 : u9.cell? ⟨u4.heap.size, 1, none⟩ = some (.slice Ax0_1 x.design.insts.length mx0_1) := V0.out.cell 1
  have kV0_2 : u9.cell? ⟨u4.heap.size, 2, none⟩ = some (.slice Ax0_2 x.design.nets.length mx0_2) := V0.out.cell 2
  have kV0_3 : u9.cell? ⟨u4.heap.size, 3, none⟩ = some (.slice Ax0_3 x.design.ports.length mx0_3) := V0.out.cell 3
  have kV0_4 : u9.cell? ⟨u4.heap.size, 4, none⟩ = some (.slice Ax0_4 x.wires.length mx0_4) := V0.out.cell 4
  have fV0 := V0.out.frozen
  have lV0 : u4.heap.size < u9.heap.size := V0.out.lt
  go_wp2_with fail
  clear kS0_0 kS0_1 kS0_2 kS0_3 kS0_4 fS0 lS0 kV0_0 kV0_1 kV0_2 kV0_3 kV0_4 fV0 lV0
  refine (markInts_any 1 _ og.out HXS.out (by omega) (by omega)).mono ?_
  rintro e u10 ⟨rfl, o, c⟩
  replace G := hideIt (G.out.chg c LB_G_bs8.out)
  replace GA := hideIt (GA.out.chg c LB_GA_bs8.out)
  replace S0 := hideIt (S0.out.chg c NB_S0_bs8.out)
  replace V0 := hideIt (V0.out.chg c NB_V0_bs8.out)
  replace og := hideIt o
  clear o c
  have kS0_0 : u10.cell? ⟨w.heap.size, 0, none⟩ = some (x_0) := S0.out.cell 0
  have kS0_1 : u10.cell? ⟨w.heap.size, 1, none⟩ = some (x_1) := S0.out.cell 1
  have kS0_2 : u10.cell? ⟨w.heap.size, 2, none⟩ = some (x_2) := S0.out.cell 2
  have kS0_3 : u10.cell? ⟨w.heap.size, 3, none⟩ = some (x_3) := S0.out.cell 3
  have kS0_4 : u10.cell? ⟨w.heap.size, 4, none⟩ = some (x_4) := S0.out.cell 4
  have fS0 := S0.out.frozen
  have lS0 : w.heap.size < u10.heap.size := S0.out.lt
  have kV0_0 : u10.cell? ⟨u4.heap.size, 0, none⟩ = some (.slice Ax0_0 x.lib.length mx0_0) := V0.out.cell 0
  have kV0_1 : u10.cell? ⟨u4.heap.size, 1, none⟩ = some (.slice Ax0_1 x.design.insts.length mx0_1) := V0.out.cell 1
  have kV0_2 : u10.cell? ⟨u4.heap.size, 2, none⟩ = some (.slice Ax0_2 x.design.nets.length mx0_2) := V0.out.cell 2
  have kV0_3 : u10.cell? ⟨u4.heap.size, 3, none⟩ = some (.slice Ax0_3 x.design.ports.length mx0_3) := V0.out.cell 3
  have kV0_4 : u10.cell? ⟨u4.heap.size, 4, none⟩ = some (.slice Ax0_4 x.wires.length mx0_4) := V0.out.cell 4
  have fV0 := V0.out.frozen
  have lV0 : u4.heap.size < u10.heap.size := V0.out.lt
  go_wp2_with fail
  clear kS0_0 kS0_1 kS0_2 kS0_3 kS0_4 fS0 lS0 kV0_0 kV0_1 kV0_2 kV0_3 kV0_4 fV0 lV0
  refine (heldInts_any 1 _ og.out.reads hxl (by omega) (by omega)).mono ?_
  rintro e u11 ⟨rfl, g⟩
  replace G := hideIt (G.out.trans g)
  replace GA := hideIt (GA.out.trans g)
  replace og := hideIt (og.out.same ((SameOn.refl _ _).grows og.out.lt g))
  replace S0 := hideIt (S0.out.grows g)
  replace V0 := hideIt (V0.out.grows g)
  clear g
  have kS0_0 : u11.cell? ⟨w.heap.size, 0, none⟩ = some (x_0) := S0.out.cell 0
  have kS0_1 : u11.cell? ⟨w.heap.size, 1, none⟩ = some (x_1) := S0.out.cell 1
  have kS0_2 : u11.cell? ⟨w.heap.size, 2, none⟩ = some (x_2) := S0.out.cell 2
  have kS0_3 : u11.cell? ⟨w.heap.size, 3, none⟩ = some (x_3) := S0.out.cell 3
  have kS0_4 : u11.cell? ⟨w.heap.size, 4, none⟩ = some (x_4) := S0.out.cell 4
  have fS0 := S0.out.frozen
  have lS0 : w.heap.size < u11.heap.size := S0.out.lt
  have kV0_0 : u11.cell? ⟨u4.heap.size, 0, none⟩ = some (.slice Ax0_0 x.lib.length mx0_0) := V0.out.cell 0
  have kV0_1 : u11.cell? ⟨u4.heap.size, 1, none⟩ = some (.slice Ax0_1 x.design.insts.length mx0_1) := V0.out.cell 1
  have kV0_2 : u11.cell? ⟨u4.heap.size, 2, none⟩ = some (.slice Ax0_2 x.design.nets.length mx0_2) := V0.out.cell 2
  have kV0_3 : u11.cell? ⟨u4.heap.size, 3, none⟩ = some (.slice Ax0_3 x.design.ports.length mx0_3) := V0.out.cell 3
  have kV0_4 : u11.cell? ⟨u4.heap.size, 4, none⟩ = some (.slice Ax0_4 x.wires.length mx0_4) := V0.out.cell 4
  have fV0 := V0.out.frozen
  have lV0 : u4.heap.size < u11.heap.size := V0.out.lt
  have hr0 := hideIt (HA0.out.keep GA.out.keeps)
  go_wp2_with fail
  clear kS0_0 kS0_1 kS0_2 kS0_3 kS0_4 fS0 lS0 kV0_0 kV0_1 kV0_2 kV0_3 kV0_4 fV0 lV0
  refine (toBlock_o _ hr0.out SM0.out).mono ?_
  rintro e u12 ⟨t0_0, t0_1, t0_2, t0_3, t0_4, bs_t0, rfl, o, ow, g⟩
  replace G := hideIt (G.out.trans g)
  replace GA := hideIt (GA.out.trans g)
  replace hr0 := hideIt (hr0.out.keep g.keeps)
  replace og := hideIt (og.out.same ((SameOn.refl _ _).grows og.out.lt g))
  replace S0 := hideIt (S0.out.grows g)
  replace V0 := hideIt (V0.out.grows g)
  have j0 := o.reads
  clear o ow
  clear g
  have kS0_0 : u12.cell? ⟨w.heap.size, 0, none⟩ = some (x_0) := S0.out.cell 0
  have kS0_1 : u12.cell? ⟨w.heap.size, 1, none⟩ = some (x_1) := S0.out.cell 1
  have kS0_2 : u12.cell? ⟨w.heap.size, 2, none⟩ = some (x_2) := S0.out.cell 2
  have kS0_3 : u12.cell? ⟨w.heap.size, 3, none⟩ = some (x_3) := S0.out.cell 3
  have kS0_4 : u12.cell? ⟨w.heap.size, 4, none⟩ = some (x_4) := S0.out.cell 4
  have fS0 := S0.out.frozen
  have lS0 : w.heap.size < u12.heap.size := S0.out.lt
  have kV0_0 : u12.cell? ⟨u4.heap.size, 0, none⟩ = some (.slice Ax0_0 x.lib.length mx0_0) := V0.out.cell 0
  have kV0_1 : u12.cell? ⟨u4.heap.size, 1, none⟩ = some (.slice Ax0_1 x.design.insts.length mx0_1) := V0.out.cell 1
  have kV0_2 : u12.cell? ⟨u4.heap.size, 2, none⟩ = some (.slice Ax0_2 x.design.nets.length mx0_2) := V0.out.cell 2
  have kV0_3 : u12.cell? ⟨u4.heap.size, 3, none⟩ = some (.slice Ax0_3 x.design.ports.length mx0_3) := V0.out.cell 3
  have kV0_4 : u12.cell? ⟨u4.heap.size, 4, none⟩ = some (.slice Ax0_4 x.wires.length mx0_4) := V0.out.cell 4
  have fV0 := V0.out.frozen
  have lV0 : u4.heap.size < u12.heap.size := V0.out.lt
  replace j0 := hideIt j0
  go_wp2_with fail
  clear kS0_0 kS0_1 kS0_2 kS0_3 kS0_4 fS0 lS0 kV0_0 kV0_1 kV0_2 kV0_3 kV0_4 fV0 lV0
  refine (iNodeDelays_any p _ (j0.out).parts.1.parts (j0.out).parts.2.1 (j0.out).parts.2.2 SM0.out.1 SM0.out.2.1).mono ?_
  rintro e u13 ⟨A7, c7, bs7, rfl, o, ow, g⟩
  replace G := hideIt (G.out.trans g)
  replace GA := hideIt (GA.out.trans g)
  replace hr0 := hideIt (hr0.out.keep g.keeps)
  replace j0 := hideIt (j0.out.keep g.keeps)
  replace og := hideIt (og.out.same ((SameOn.refl _ _).grows og.out.lt g))
  replace S0 := hideIt (S0.out.grows g)
  replace V0 := hideIt (V0.out.grows g)
  have r7 := o.reads
  clear o ow
  rw [← EC.out]
  clear g
  have kS0_0 : u13.cell? ⟨w.heap.size, 0, none⟩ = some (x_0) := S0.out.cell 0
  have kS0_1 : u13.cell? ⟨w.heap.size, 1, none⟩ = some (x_1) := S0.out.cell 1
  have kS0_2 : u13.cell? ⟨w.heap.size, 2, none⟩ = some (x_2) := S0.out.cell 2
  have kS0_3 : u13.cell? ⟨w.heap.size, 3, none⟩ = some (x_3) := S0.out.cell 3
  have kS0_4 : u13.cell? ⟨w.heap.size, 4, none⟩ = some (x_4) := S0.out.cell 4
  have fS0 := S0.out.frozen
  have lS0 : w.heap.size < u13.heap.size := S0.out.lt
  have kV0_0 : u13.cell? ⟨u4.heap.size, 0, none⟩ = some (.slice Ax0_0 x.lib.length mx0_0) := V0.out.cell 0
  have kV0_1 : u13.cell? ⟨u4.heap.size, 1, none⟩ = some (.slice Ax0_1 x.design.insts.length mx0_1) := V0.out.cell 1
  have kV0_2 : u13.cell? ⟨u4.heap.size, 2, none⟩ = some (.slice Ax0_2 x.design.nets.length mx0_2) := V0.out.cell 2
  have kV0_3 : u13.cell? ⟨u4.heap.size, 3, none⟩ = some (.slice Ax0_3 x.design.ports.length mx0_3) := V0.out.cell 3
  have kV0_4 : u13.cell? ⟨u4.heap.size, 4, none⟩ = some (.slice Ax0_4 x.wires.length mx0_4) := V0.out.cell 4
  have fV0 := V0.out.frozen
  have lV0 : u4.heap.size < u13.heap.size := V0.out.lt
  replace r7 := hideIt r7
  clear j0
  go_wp2_with fail
  clear kS0_0 kS0_1 kS0_2 kS0_3 kS0_4 fS0 lS0 kV0_0 kV0_1 kV0_2 kV0_3 kV0_4 fV0 lV0
  refine (eqInts_same _ r7.out (r9.out.keep GA.out.keeps)).mono ?_
  rintro e u14 ⟨rfl, g⟩
  replace G := hideIt (G.out.trans g)
  replace GA := hideIt (GA.out.trans g)
  replace hr0 := hideIt (hr0.out.keep g.keeps)
  replace r7 := hideIt (r7.out.keep g.keeps)
  replace og := hideIt (og.out.same ((SameOn.refl _ _).grows og.out.lt g))
  replace S0 := hideIt (S0.out.grows g)
  replace V0 := hideIt (V0.out.grows g)
  clear g
  have kS0_0 : u14.cell? ⟨w.heap.size, 0, none⟩ = some (x_0) := S0.out.cell 0
  have kS0_1 : u14.cell? ⟨w.heap.size, 1, none⟩ = some (x_1) := S0.out.cell 1
  have kS0_2 : u14.cell? ⟨w.heap.size, 2, none⟩ = some (x_2) := S0.out.cell 2
  have kS0_3 : u14.cell? ⟨w.heap.size, 3, none⟩ = some (x_3) := S0.out.cell 3
  have kS0_4 : u14.cell? ⟨w.heap.size, 4, none⟩ = some (x_4) := S0.out.cell 4
  have fS0 := S0.out.frozen
  have lS0 : w.heap.size < u14.heap.size := S0.out.lt
  have kV0_0 : u14.cell? ⟨u4.heap.size, 0, none⟩ = some (.slice Ax0_0 x.lib.length mx0_0) := V0.out.cell 0
  have kV0_1 : u14.cell? ⟨u4.heap.size, 1, none⟩ = some (.slice Ax0_1 x.design.insts.length mx0_1) := V0.out.cell 1
  have kV0_2 : u14.cell? ⟨u4.heap.size, 2, none⟩ = some (.slice Ax0_2 x.design.nets.length mx0_2) := V0.out.cell 2
  have kV0_3 : u14.cell? ⟨u4.heap.size, 3, none⟩ = some (.slice Ax0_3 x.design.ports.length mx0_3) := V0.out.cell 3
  have kV0_4 : u14.cell? ⟨u4.heap.size, 4, none⟩ = some (.slice Ax0_4 x.wires.length mx0_4) := V0.out.cell 4
  have fV0 := V0.out.frozen
  have lV0 : u4.heap.size < u14.heap.size := V0.out.lt
  go_wp2_with fail
  clear kS0_0 kS0_1 kS0_2 kS0_3 kS0_4 fS0 lS0 kV0_0 kV0_1 kV0_2 kV0_3 kV0_4 fV0 lV0
  refine (heldInts_any 1 _ og.out.reads hxl (by omega) (by omega)).mono ?_
  rintro e u15 ⟨rfl, g⟩
  replace G := hideIt (G.out.trans g)
  replace GA := hideIt (GA.out.trans g)
  replace hr0 := hideIt (hr0.out.keep g.keeps)
  replace r7 := hideIt (r7.out.keep g.keeps)
  replace og := hideIt (og.out.same ((SameOn.refl _ _).grows og.out.lt g))
  replace S0 := hideIt (S0.out.grows g)
  replace V0 := hideIt (V0.out.grows g)
  clear g
  have kS0_0 : u15.cell? ⟨w.heap.size, 0, none⟩ = some (x_0) := S0.out.cell 0
  have kS0_1 : u15.cell? ⟨w.heap.size, 1, none⟩ = some (x_1) := S0.out.cell 1
  have kS0_2 : u15.cell? ⟨w.heap.size, 2, none⟩ = some (x_2) := S0.out.cell 2
  have kS0_3 : u15.cell? ⟨w.heap.size, 3, none⟩ = some (x_3) := S0.out.cell 3
  have kS0_4 : u15.cell? ⟨w.heap.size, 4, none⟩ = some (x_4) := S0.out.cell 4
  have fS0 := S0.out.frozen
  have lS0 : w.heap.size < u15.heap.size := S0.out.lt
  have kV0_0 : u15.cell? ⟨u4.heap.size, 0, none⟩ = some (.slice Ax0_0 x.lib.length mx0_0) := V0.out.cell 0
  have kV0_1 : u15.cell? ⟨u4.heap.size, 1, none⟩ = some (.slice Ax0_1 x.design.insts.length mx0_1) := V0.out.cell 1
  have kV0_2 : u15.cell? ⟨u4.heap.size, 2, none⟩ = some (.slice Ax0_2 x.design.nets.length mx0_2) := V0.out.cell 2
  have kV0_3 : u15.cell? ⟨u4.heap.size, 3, none⟩ = some (.slice Ax0_3 x.design.ports.length mx0_3) := V0.out.cell 3
  have kV0_4 : u15.cell? ⟨u4.heap.size, 4, none⟩ = some (.slice Ax0_4 x.wires.length mx0_4) := V0.out.cell 4
  have fV0 := V0.out.frozen
  have lV0 : u4.heap.size < u15.heap.size := V0.out.lt
  go_wp2
  go_ret
  exact ⟨rfl, G.out.below⟩
end Go.Proofs.YtpppobomekebdaaGreatDoor
