/-
  The walk of FnExactDesignText.
-/
import Derived.Test.YtphdlidoehagbaaGreatDoorGJ
import Derived.Test.YtphdlidoehagbaaGreatDoorSDText
import Derived.Test.YtphdlidoehagbaaGreatDoorIDText
import Derived.Test.YtphdlidoehagbaaGreatDoorGC
import Derived.Test.YtphdlidoehagbaaGreatDoorGD
import Derived.Test.YtphdlidoehagbaaGreatDoorGF
namespace Go.Proofs.YtphdlidoehagbaaGreatDoor
open Go.RowKit
set_option maxHeartbeats 8000000 in
theorem walk_FnExactDesignText {l : LibD} {v0 : Value} {w : World} (h0 : ∃ l_0 : Value, v0 = .agg #[l_0] ∧ RLib w [l_0] l) {d : DesignD} {v1 : Value} (h1 : ∃ d_0 d_1 d_2 : Value, v1 = .agg #[d_0, d_1, d_2] ∧ RDesign w [d_0, d_1, d_2] d) :
    Calls Tryz.prog 12 #[v0, v1] w fun e w' => e = .returned (.bool true) ∧ Below w.heap.size w w' := by
  obtain ⟨l_0, rfl, hr0⟩ := h0
  obtain ⟨d_0, d_1, d_2, rfl, hr1⟩ := h1
  generalize hv0 : textV l.cells d = r0_
  have E0 : Hid (textV l.cells d = r0_) := hv0
  clear hv0
  have g : Grows w w := Grows.refl w
  have G : Hid (Grows w ((w.alloc (.cells #[l_0] 24)).alloc (.cells #[d_0, d_1, d_2] 29))) := hideIt (((Grows.refl w).alloc _).alloc _)
  clear g
  have S0 : Hid (Blk ((w.alloc (.cells #[l_0] 24)).alloc (.cells #[d_0, d_1, d_2] 29)) (w.heap.size) 24 #[l_0]) := by
    have := (Blk.new w 24 #[l_0]).grows ((Grows.refl (w.alloc (.cells #[l_0] 24))).alloc (.cells #[d_0, d_1, d_2] 29))
    exact hideIt (by simpa using this)
  have S1 : Hid (Blk ((w.alloc (.cells #[l_0] 24)).alloc (.cells #[d_0, d_1, d_2] 29)) (w.heap.size + 1) 29 #[d_0, d_1, d_2]) := by
    have := (Blk.new (w.alloc (.cells #[l_0] 24)) 29 #[d_0, d_1, d_2]).grows (Grows.refl ((w.alloc (.cells #[l_0] 24)).alloc (.cells #[d_0, d_1, d_2] 29)))
    exact hideIt (by simpa using this)
  replace hr0 := hideIt (hr0.keep G.out.keeps)
  replace hr1 := hideIt (hr1.keep G.out.keeps)
  go_enter Tryz.func12, Tryz.ntmps12
  go_wp2_with fail
  refine (szLib_any _ _ hr0.out (by omega) (by omega)).mono ?_
  rintro e u1 ⟨l0, rfl, b0, c0, sm0, g⟩
  replace G := hideIt (G.out.trans g)
  replace hr0 := hideIt (hr0.out.keep g.keeps)
  replace hr1 := hideIt (hr1.out.keep g.keeps)
  replace S0 := hideIt (S0.out.grows g)
  replace S1 := hideIt (S1.out.grows g)
  have SM0 := hideIt sm0
  clear sm0
  clear g
  have kS0_0 : u1.cell? ⟨w.heap.size, 0, none⟩ = some (l_0) := S0.out.cell 0
  have fS0 := S0.out.frozen
  have lS0 : w.heap.size < u1.heap.size := S0.out.lt
  have kS1_0 : u1.cell? ⟨w.heap.size + 1, 0, none⟩ = some (d_0) := S1.out.cell 0
  have kS1_1 : u1.cell? ⟨w.heap.size + 1, 1, none⟩ = some (d_1) := S1.out.cell 1
  have kS1_2 : u1.cell? ⟨w.heap.size + 1, 2, none⟩ = some (d_2) := S1.out.cell 2
  have fS1 := S1.out.frozen
  have lS1 : w.heap.size + 1 < u1.heap.size := S1.out.lt
  by_cases n0 : l0 < 0
  · go_wp2
    go_ret
    exact ⟨rfl, G.out.below⟩
  replace SM0 := hideIt (SM0.out (by omega))
  go_wp2_with fail
  clear kS0_0 fS0 lS0 kS1_0 kS1_1 kS1_2 fS1 lS1
  refine (szDesign_any _ _ hr1.out (by omega) (by omega)).mono ?_
  rintro e u2 ⟨l1, rfl, b1, c1, sm1, g⟩
  replace G := hideIt (G.out.trans g)
  replace hr0 := hideIt (hr0.out.keep g.keeps)
  replace hr1 := hideIt (hr1.out.keep g.keeps)
  replace S0 := hideIt (S0.out.grows g)
  replace S1 := hideIt (S1.out.grows g)
  have SM1 := hideIt sm1
  clear sm1
  clear g
  have kS0_0 : u2.cell? ⟨w.heap.size, 0, none⟩ = some (l_0) := S0.out.cell 0
  have fS0 := S0.out.frozen
  have lS0 : w.heap.size < u2.heap.size := S0.out.lt
  have kS1_0 : u2.cell? ⟨w.heap.size + 1, 0, none⟩ = some (d_0) := S1.out.cell 0
  have kS1_1 : u2.cell? ⟨w.heap.size + 1, 1, none⟩ = some (d_1) := S1.out.cell 1
  have kS1_2 : u2.cell? ⟨w.heap.size + 1, 2, none⟩ = some (d_2) := S1.out.cell 2
  have fS1 := S1.out.frozen
  have lS1 : w.heap.size + 1 < u2.heap.size := S1.out.lt
  by_cases n1 : l1 < 0
  · go_wp2
    go_ret
    exact ⟨rfl, G.out.below⟩
  replace SM1 := hideIt (SM1.out (by omega))
  go_wp2_with fail
  clear kS0_0 fS0 lS0 kS1_0 kS1_1 kS1_2 fS1 lS1
  have K0 : ∀ w', Grows u2 w' → w'.cell? ⟨w.heap.size, 0, none⟩ = some (l_0) ∧ w'.cell? ⟨w.heap.size + 1, 0, none⟩ = some (d_0) ∧ w'.cell? ⟨w.heap.size + 1, 1, none⟩ = some (d_1) ∧ w'.cell? ⟨w.heap.size + 1, 2, none⟩ = some (d_2) ∧ Grows u2 w' := fun w' G => ⟨(G.cells.1 _ _ S0.out.lt).trans (S0.out.cell 0), (G.cells.1 _ _ S1.out.lt).trans (S1.out.cell 0), (G.cells.1 _ _ S1.out.lt).trans (S1.out.cell 1), (G.cells.1 _ _ S1.out.lt).trans (S1.out.cell 2), G⟩
  have HK := hideIt K0
  clear K0
  have gg : Grows u2 u2 := Grows.refl _
  refine wp_region_held_drew (S := (fun w' => w'.cell? ⟨w.heap.size, 0, none⟩ = some (l_0) ∧ w'.cell? ⟨w.heap.size + 1, 0, none⟩ = some (d_0) ∧ w'.cell? ⟨w.heap.size + 1, 1, none⟩ = some (d_1) ∧ w'.cell? ⟨w.heap.size + 1, 2, none⟩ = some (d_2) ∧ Grows u2 w')) (by kernel_rfl) ?_ (fun hh0 => ?_)
  · (try dsimp only); refine HK.out _ ?_; (repeat (first | exact gg | refine Grows.drew ?_ | refine Grows.alloc ?_ _ | refine Grows.setCell ?_ (by simp <;> omega) _))
  refine regTake 0 (v := ?_) ?_ hh0 ?_
  rotate_left
  · intro w hw; (try dsimp only at hw); go_simp; (try with_reducible rfl)
  try simp only [Act.put, List.setIfInBounds_toArray, List.set_cons_zero, List.set_cons_succ]
  refine regTake 2 (v := ?_) ?_ hh0 ?_
  rotate_left
  · intro w hw; (try dsimp only at hw); go_simp; (try with_reducible rfl)
  try simp only [Act.put, List.setIfInBounds_toArray, List.set_cons_zero, List.set_cons_succ]
  refine regCall 1 (fun K hK => ?_)
  go_simp
  refine (toLib_o _ (hr0.out.keep (Grows.keeps (by (repeat (first | exact gg | refine Grows.drew ?_ | refine Grows.alloc ?_ _ | refine Grows.setCell ?_ (by simp <;> omega) _))))) SM0.out).mono ?_
  rintro e wx3_0 ⟨p0_0, bs_p0, rfl, o, ow, g⟩
  have q0 := o.reads
  clear o ow
  replace q0 := hideIt q0
  replace gg : Grows u2 wx3_0 := Grows.trans (by (repeat (first | exact gg | refine Grows.drew ?_ | refine Grows.alloc ?_ _ | refine Grows.setCell ?_ (by simp <;> omega) _))) g
  clear g
  (try go_wp2_with fail)
  refine hK.out _ _ ?_ (fun hh1 => ?_)
  · (try dsimp only); refine HK.out _ ?_; (repeat (first | exact gg | refine Grows.drew ?_ | refine Grows.alloc ?_ _ | refine Grows.setCell ?_ (by simp <;> omega) _))
  clear hK K hh0
  try simp only [Act.put, List.setIfInBounds_toArray, List.set_cons_zero, List.set_cons_succ]
  refine regCall 3 (fun K hK => ?_)
  go_simp
  refine (toDesign_o _ (hr1.out.keep (Grows.keeps (by (repeat (first | exact gg | refine Grows.drew ?_ | refine Grows.alloc ?_ _ | refine Grows.setCell ?_ (by simp <;> omega) _))))) SM1.out).mono ?_
  rintro e wx3_1 ⟨p1_0, p1_1, p1_2, bs_p1, rfl, o, ow, g⟩
  replace q0 := hideIt (q0.out.keep g.keeps)
  have q1 := o.reads
  clear o ow
  replace q1 := hideIt q1
  replace gg : Grows u2 wx3_1 := Grows.trans (by (repeat (first | exact gg | refine Grows.drew ?_ | refine Grows.alloc ?_ _ | refine Grows.setCell ?_ (by simp <;> omega) _))) g
  clear g
  (try go_wp2_with fail)
  refine hK.out _ _ ?_ (fun hh2 => ?_)
  · (try dsimp only); refine HK.out _ ?_; (repeat (first | exact gg | refine Grows.drew ?_ | refine Grows.alloc ?_ _ | refine Grows.setCell ?_ (by simp <;> omega) _))
  clear hK K hh1
  try simp only [Act.put, List.setIfInBounds_toArray, List.set_cons_zero, List.set_cons_succ]
  refine regCall 4 (fun K hK => ?_)
  go_simp
  refine (sDText_any _ (q0.out).parts (q1.out)).mono ?_
  rintro e wx3_2 ⟨rfl, g⟩
  replace q0 := hideIt (q0.out.keep g.keeps)
  replace q1 := hideIt (q1.out.keep g.keeps)
  rw [E0.out]
  replace gg : Grows u2 wx3_2 := Grows.trans (by (repeat (first | exact gg | refine Grows.drew ?_ | refine Grows.alloc ?_ _ | refine Grows.setCell ?_ (by simp <;> omega) _))) g
  clear g
  (try go_wp2_with fail)
  refine hK.out _ _ ?_ (fun hh3 => ?_)
  · (try dsimp only); refine HK.out _ ?_; (repeat (first | exact gg | refine Grows.drew ?_ | refine Grows.alloc ?_ _ | refine Grows.setCell ?_ (by simp <;> omega) _))
  clear hK K hh2
  try simp only [Act.put, List.setIfInBounds_toArray, List.set_cons_zero, List.set_cons_succ]
  refine regTake 5 (v := ?_) ?_ hh3 ?_
  rotate_left
  · intro w hw; (try dsimp only at hw); go_simp; (try with_reducible rfl)
  try simp only [Act.put, List.setIfInBounds_toArray, List.set_cons_zero, List.set_cons_succ]
  refine wpAnyH_done (by kernel_rfl) ?_ _
  clear hh3 HK
  replace G := hideIt (G.out.trans gg)
  replace hr0 := hideIt (hr0.out.keep (Grows.keeps gg))
  replace hr1 := hideIt (hr1.out.keep (Grows.keeps gg))
  replace S0 := hideIt (S0.out.grows gg)
  replace S1 := hideIt (S1.out.grows gg)
  clear gg
  have kS0_0 : wx3_2.cell? ⟨w.heap.size, 0, none⟩ = some (l_0) := S0.out.cell 0
  have fS0 := S0.out.frozen
  have lS0 : w.heap.size < wx3_2.heap.size := S0.out.lt
  have kS1_0 : wx3_2.cell? ⟨w.heap.size + 1, 0, none⟩ = some (d_0) := S1.out.cell 0
  have kS1_1 : wx3_2.cell? ⟨w.heap.size + 1, 1, none⟩ = some (d_1) := S1.out.cell 1
  have kS1_2 : wx3_2.cell? ⟨w.heap.size + 1, 2, none⟩ = some (d_2) := S1.out.cell 2
  have fS1 := S1.out.frozen
  have lS1 : w.heap.size + 1 < wx3_2.heap.size := S1.out.lt
  clear q0 q1
  go_wp2_with fail
  clear kS0_0 fS0 lS0 kS1_0 kS1_1 kS1_2 fS1 lS1
  refine (toLib_o _ hr0.out SM0.out).mono ?_
  rintro e u4 ⟨y0_0, bs_y0, rfl, o, ow, g⟩
  replace G := hideIt (G.out.trans g)
  replace hr0 := hideIt (hr0.out.keep g.keeps)
  replace hr1 := hideIt (hr1.out.keep g.keeps)
  replace S0 := hideIt (S0.out.grows g)
  replace S1 := hideIt (S1.out.grows g)
  have x0 := o.reads
  obtain ⟨Ax0_0, mx0_0, rfl⟩ := o.shape
  clear o ow
  clear g
  have kS0_0 : u4.cell? ⟨w.heap.size, 0, none⟩ = some (l_0) := S0.out.cell 0
  have fS0 := S0.out.frozen
  have lS0 : w.heap.size < u4.heap.size := S0.out.lt
  have kS1_0 : u4.cell? ⟨w.heap.size + 1, 0, none⟩ = some (d_0) := S1.out.cell 0
  have kS1_1 : u4.cell? ⟨w.heap.size + 1, 1, none⟩ = some (d_1) := S1.out.cell 1
  have kS1_2 : u4.cell? ⟨w.heap.size + 1, 2, none⟩ = some (d_2) := S1.out.cell 2
  have fS1 := S1.out.frozen
  have lS1 : w.heap.size + 1 < u4.heap.size := S1.out.lt
  replace x0 := hideIt x0
  have gl : Grows u4 (u4.alloc (.cells #[.slice Ax0_0 l.cells.length mx0_0] 35)) := (Grows.refl _).alloc _
  replace G := hideIt (G.out.trans gl)
  replace hr0 := hideIt (hr0.out.keep gl.keeps)
  replace hr1 := hideIt (hr1.out.keep gl.keeps)
  replace x0 := hideIt (x0.out.keep gl.keeps)
  replace S0 := hideIt (S0.out.grows gl)
  replace S1 := hideIt (S1.out.grows gl)
  have V0 := hideIt (Blk.new u4 35 #[.slice Ax0_0 l.cells.length mx0_0])
  clear gl
  go_wp2_with fail
  clear kS0_0 fS0 lS0 kS1_0 kS1_1 kS1_2 fS1 lS1
  refine (toDesign_o _ hr1.out SM1.out).mono ?_
  rintro e u5 ⟨y1_0, y1_1, y1_2, bs_y1, rfl, o, ow, g⟩
  replace G := hideIt (G.out.trans g)
  replace hr0 := hideIt (hr0.out.keep g.keeps)
  replace hr1 := hideIt (hr1.out.keep g.keeps)
  replace x0 := hideIt (x0.out.keep g.keeps)
  replace S0 := hideIt (S0.out.grows g)
  replace S1 := hideIt (S1.out.grows g)
  replace V0 := hideIt (V0.out.grows g)
  have x1 := o.reads
  obtain ⟨⟨Ax1_0, mx1_0, rfl⟩, ⟨Ax1_1, mx1_1, rfl⟩, ⟨Ax1_2, mx1_2, rfl⟩⟩ := o.shape
  clear o ow
  clear g
  have kS0_0 : u5.cell? ⟨w.heap.size, 0, none⟩ = some (l_0) := S0.out.cell 0
  have fS0 := S0.out.frozen
  have lS0 : w.heap.size < u5.heap.size := S0.out.lt
  have kS1_0 : u5.cell? ⟨w.heap.size + 1, 0, none⟩ = some (d_0) := S1.out.cell 0
  have kS1_1 : u5.cell? ⟨w.heap.size + 1, 1, none⟩ = some (d_1) := S1.out.cell 1
  have kS1_2 : u5.cell? ⟨w.heap.size + 1, 2, none⟩ = some (d_2) := S1.out.cell 2
  have fS1 := S1.out.frozen
  have lS1 : w.heap.size + 1 < u5.heap.size := S1.out.lt
  have kV0_0 : u5.cell? ⟨u4.heap.size, 0, none⟩ = some (.slice Ax0_0 l.cells.length mx0_0) := V0.out.cell 0
  have fV0 := V0.out.frozen
  have lV0 : u4.heap.size < u5.heap.size := V0.out.lt
  replace x1 := hideIt x1
  have gl : Grows u5 (u5.alloc (.cells #[.slice Ax1_0 d.insts.length mx1_0, .slice Ax1_1 d.nets.length mx1_1, .slice Ax1_2 d.ports.length mx1_2] 40)) := (Grows.refl _).alloc _
  replace G := hideIt (G.out.trans gl)
  replace hr0 := hideIt (hr0.out.keep gl.keeps)
  replace hr1 := hideIt (hr1.out.keep gl.keeps)
  replace x0 := hideIt (x0.out.keep gl.keeps)
  replace x1 := hideIt (x1.out.keep gl.keeps)
  replace S0 := hideIt (S0.out.grows gl)
  replace S1 := hideIt (S1.out.grows gl)
  replace V0 := hideIt (V0.out.grows gl)
  have V1 := hideIt (Blk.new u5 40 #[.slice Ax1_0 d.insts.length mx1_0, .slice Ax1_1 d.nets.length mx1_1, .slice Ax1_2 d.ports.length mx1_2])
  clear gl
  go_wp2_with fail
  clear kS0_0 fS0 lS0 kS1_0 kS1_1 kS1_2 fS1 lS1 kV0_0 fV0 lV0
  refine (iDText_any _ (x0.out).parts (x1.out) SM0.out SM1.out).mono ?_
  rintro e u6 ⟨rfl, g⟩
  replace G := hideIt (G.out.trans g)
  replace hr0 := hideIt (hr0.out.keep g.keeps)
  replace hr1 := hideIt (hr1.out.keep g.keeps)
  replace x0 := hideIt (x0.out.keep g.keeps)
  replace x1 := hideIt (x1.out.keep g.keeps)
  replace S0 := hideIt (S0.out.grows g)
  replace S1 := hideIt (S1.out.grows g)
  replace V0 := hideIt (V0.out.grows g)
  replace V1 := hideIt (V1.out.grows g)
  rw [E0.out]
  clear g
  have kS0_0 : u6.cell? ⟨w.heap.size, 0, none⟩ = some (l_0) := S0.out.cell 0
  have fS0 := S0.out.frozen
  have lS0 : w.heap.size < u6.heap.size := S0.out.lt
  have kS1_0 : u6.cell? ⟨w.heap.size + 1, 0, none⟩ = some (d_0) := S1.out.cell 0
  have kS1_1 : u6.cell? ⟨w.heap.size + 1, 1, none⟩ = some (d_1) := S1.out.cell 1
  have kS1_2 : u6.cell? ⟨w.heap.size + 1, 2, none⟩ = some (d_2) := S1.out.cell 2
  have fS1 := S1.out.frozen
  have lS1 : w.heap.size + 1 < u6.heap.size := S1.out.lt
  have kV0_0 : u6.cell? ⟨u4.heap.size, 0, none⟩ = some (.slice Ax0_0 l.cells.length mx0_0) := V0.out.cell 0
  have fV0 := V0.out.frozen
  have lV0 : u4.heap.size < u6.heap.size := V0.out.lt
  have kV1_0 : u6.cell? ⟨u5.heap.size, 0, none⟩ = some (.slice Ax1_0 d.insts.length mx1_0) := V1.out.cell 0
  have kV1_1 : u6.cell? ⟨u5.heap.size, 1, none⟩ = some (.slice Ax1_1 d.nets.length mx1_1) := V1.out.cell 1
  have kV1_2 : u6.cell? ⟨u5.heap.size, 2, none⟩ = some (.slice Ax1_2 d.ports.length mx1_2) := V1.out.cell 2
  have fV1 := V1.out.frozen
  have lV1 : u5.heap.size < u6.heap.size := V1.out.lt
  go_wp2_with fail
  clear kS0_0 fS0 lS0 kS1_0 kS1_1 kS1_2 fS1 lS1 kV0_0 fV0 lV0 kV1_0 kV1_1 kV1_2 fV1 lV1
  have K0 : ∀ w', Grows u6 w' → w'.cell? ⟨w.heap.size, 0, none⟩ = some (l_0) ∧ w'.cell? ⟨w.heap.size + 1, 0, none⟩ = some (d_0) ∧ w'.cell? ⟨w.heap.size + 1, 1, none⟩ = some (d_1) ∧ w'.cell? ⟨w.heap.size + 1, 2, none⟩ = some (d_2) ∧ w'.cell? ⟨u4.heap.size, 0, none⟩ = some (.slice Ax0_0 l.cells.length mx0_0) ∧ w'.cell? ⟨u5.heap.size, 0, none⟩ = some (.slice Ax1_0 d.insts.length mx1_0) ∧ w'.cell? ⟨u5.heap.size, 1, none⟩ = some (.slice Ax1_1 d.nets.length mx1_1) ∧ w'.cell? ⟨u5.heap.size, 2, none⟩ = some (.slice Ax1_2 d.ports.length mx1_2) ∧ Grows u6 w' := fun w' G => ⟨(G.cells.1 _ _ S0.out.lt).trans (S0.out.cell 0), (G.cells.1 _ _ S1.out.lt).trans (S1.out.cell 0), (G.cells.1 _ _ S1.out.lt).trans (S1.out.cell 1), (G.cells.1 _ _ S1.out.lt).trans (S1.out.cell 2), (G.cells.1 _ _ V0.out.lt).trans (V0.out.cell 0), (G.cells.1 _ _ V1.out.lt).trans (V1.out.cell 0), (G.cells.1 _ _ V1.out.lt).trans (V1.out.cell 1), (G.cells.1 _ _ V1.out.lt).trans (V1.out.cell 2), G⟩
  have HK := hideIt K0
  clear K0
  have gg : Grows u6 u6 := Grows.refl _
  refine wp_region_held_drew (S := (fun w' => w'.cell? ⟨w.heap.size, 0, none⟩ = some (l_0) ∧ w'.cell? ⟨w.heap.size + 1, 0, none⟩ = some (d_0) ∧ w'.cell? ⟨w.heap.size + 1, 1, none⟩ = some (d_1) ∧ w'.cell? ⟨w.heap.size + 1, 2, none⟩ = some (d_2) ∧ w'.cell? ⟨u4.heap.size, 0, none⟩ = some (.slice Ax0_0 l.cells.length mx0_0) ∧ w'.cell? ⟨u5.heap.size, 0, none⟩ = some (.slice Ax1_0 d.insts.length mx1_0) ∧ w'.cell? ⟨u5.heap.size, 1, none⟩ = some (.slice Ax1_1 d.nets.length mx1_1) ∧ w'.cell? ⟨u5.heap.size, 2, none⟩ = some (.slice Ax1_2 d.ports.length mx1_2) ∧ Grows u6 w')) (by kernel_rfl) ?_ (fun hh0 => ?_)
  · (try dsimp only); refine HK.out _ ?_; (repeat (first | exact gg | refine Grows.drew ?_ | refine Grows.alloc ?_ _ | refine Grows.setCell ?_ (by simp <;> omega) _))
  refine regTake 0 (v := ?_) ?_ hh0 ?_
  rotate_left
  · intro w hw; (try dsimp only at hw); go_simp; (try with_reducible rfl)
  try simp only [Act.put, List.setIfInBounds_toArray, List.set_cons_zero, List.set_cons_succ]
  refine regTake 1 (v := ?_) ?_ hh0 ?_
  rotate_left
  · intro w hw; (try dsimp only at hw); go_simp; (try with_reducible rfl)
  try simp only [Act.put, List.setIfInBounds_toArray, List.set_cons_zero, List.set_cons_succ]
  refine regCall 2 (fun K hK => ?_)
  go_simp
  refine (toLib_o _ (hr0.out.keep (Grows.keeps (by (repeat (first | exact gg | refine Grows.drew ?_ | refine Grows.alloc ?_ _ | refine Grows.setCell ?_ (by simp <;> omega) _))))) SM0.out).mono ?_
  rintro e wx7_0 ⟨z0_0, bs_z0, rfl, o, ow, g⟩
  have e0 := o.reads
  clear o ow
  replace e0 := hideIt e0
  replace gg : Grows u6 wx7_0 := Grows.trans (by (repeat (first | exact gg | refine Grows.drew ?_ | refine Grows.alloc ?_ _ | refine Grows.setCell ?_ (by simp <;> omega) _))) g
  clear g
  (try go_wp2_with fail)
  refine hK.out _ _ ?_ (fun hh1 => ?_)
  · (try dsimp only); refine HK.out _ ?_; (repeat (first | exact gg | refine Grows.drew ?_ | refine Grows.alloc ?_ _ | refine Grows.setCell ?_ (by simp <;> omega) _))
  clear hK K hh0
  try simp only [Act.put, List.setIfInBounds_toArray, List.set_cons_zero, List.set_cons_succ]
  refine regCall 3 (fun K hK => ?_)
  go_simp
  refine (eqLib_same _ (x0.out.keep (Grows.keeps (by (repeat (first | exact gg | refine Grows.drew ?_ | refine Grows.alloc ?_ _ | refine Grows.setCell ?_ (by simp <;> omega) _))))) (e0.out)).mono ?_
  rintro e wx7_1 ⟨rfl, g⟩
  replace e0 := hideIt (e0.out.keep g.keeps)
  replace gg : Grows u6 wx7_1 := Grows.trans (by (repeat (first | exact gg | refine Grows.drew ?_ | refine Grows.alloc ?_ _ | refine Grows.setCell ?_ (by simp <;> omega) _))) g
  clear g
  (try go_wp2_with fail)
  refine hK.out _ _ ?_ (fun hh2 => ?_)
  · (try dsimp only); refine HK.out _ ?_; (repeat (first | exact gg | refine Grows.drew ?_ | refine Grows.alloc ?_ _ | refine Grows.setCell ?_ (by simp <;> omega) _))
  clear hK K hh1
  try simp only [Act.put, List.setIfInBounds_toArray, List.set_cons_zero, List.set_cons_succ]
  refine regTake 4 (v := ?_) ?_ hh2 ?_
  rotate_left
  · intro w hw; (try dsimp only at hw); go_simp; (try with_reducible rfl)
  try simp only [Act.put, List.setIfInBounds_toArray, List.set_cons_zero, List.set_cons_succ]
  refine wpAnyH_done (by kernel_rfl) ?_ _
  clear hh2 HK
  replace G := hideIt (G.out.trans gg)
  replace hr0 := hideIt (hr0.out.keep (Grows.keeps gg))
  replace hr1 := hideIt (hr1.out.keep (Grows.keeps gg))
  replace x0 := hideIt (x0.out.keep (Grows.keeps gg))
  replace x1 := hideIt (x1.out.keep (Grows.keeps gg))
  replace S0 := hideIt (S0.out.grows gg)
  replace S1 := hideIt (S1.out.grows gg)
  replace V0 := hideIt (V0.out.grows gg)
  replace V1 := hideIt (V1.out.grows gg)
  clear gg
  have kS0_0 : wx7_1.cell? ⟨w.heap.size, 0, none⟩ = some (l_0) := S0.out.cell 0
  have fS0 := S0.out.frozen
  have lS0 : w.heap.size < wx7_1.heap.size := S0.out.lt
  have kS1_0 : wx7_1.cell? ⟨w.heap.size + 1, 0, none⟩ = some (d_0) := S1.out.cell 0
  have kS1_1 : wx7_1.cell? ⟨w.heap.size + 1, 1, none⟩ = some (d_1) := S1.out.cell 1
  have kS1_2 : wx7_1.cell? ⟨w.heap.size + 1, 2, none⟩ = some (d_2) := S1.out.cell 2
  have fS1 := S1.out.frozen
  have lS1 : w.heap.size + 1 < wx7_1.heap.size := S1.out.lt
  have kV0_0 : wx7_1.cell? ⟨u4.heap.size, 0, none⟩ = some (.slice Ax0_0 l.cells.length mx0_0) := V0.out.cell 0
  have fV0 := V0.out.frozen
  have lV0 : u4.heap.size < wx7_1.heap.size := V0.out.lt
  have kV1_0 : wx7_1.cell? ⟨u5.heap.size, 0, none⟩ = some (.slice Ax1_0 d.insts.length mx1_0) := V1.out.cell 0
  have kV1_1 : wx7_1.cell? ⟨u5.heap.size, 1, none⟩ = some (.slice Ax1_1 d.nets.length mx1_1) := V1.out.cell 1
  have kV1_2 : wx7_1.cell? ⟨u5.heap.size, 2, none⟩ = some (.slice Ax1_2 d.ports.length mx1_2) := V1.out.cell 2
  have fV1 := V1.out.frozen
  have lV1 : u5.heap.size < wx7_1.heap.size := V1.out.lt
  go_wp2_with fail
  clear kS0_0 fS0 lS0 kS1_0 kS1_1 kS1_2 fS1 lS1 kV0_0 fV0 lV0 kV1_0 kV1_1 kV1_2 fV1 lV1
  have K0 : ∀ w', Grows wx7_1 w' → w'.cell? ⟨w.heap.size, 0, none⟩ = some (l_0) ∧ w'.cell? ⟨w.heap.size + 1, 0, none⟩ = some (d_0) ∧ w'.cell? ⟨w.heap.size + 1, 1, none⟩ = some (d_1) ∧ w'.cell? ⟨w.heap.size + 1, 2, none⟩ = some (d_2) ∧ w'.cell? ⟨u4.heap.size, 0, none⟩ = some (.slice Ax0_0 l.cells.length mx0_0) ∧ w'.cell? ⟨u5.heap.size, 0, none⟩ = some (.slice Ax1_0 d.insts.length mx1_0) ∧ w'.cell? ⟨u5.heap.size, 1, none⟩ = some (.slice Ax1_1 d.nets.length mx1_1) ∧ w'.cell? ⟨u5.heap.size, 2, none⟩ = some (.slice Ax1_2 d.ports.length mx1_2) ∧ Grows wx7_1 w' := fun w' G => ⟨(G.cells.1 _ _ S0.out.lt).trans (S0.out.cell 0), (G.cells.1 _ _ S1.out.lt).trans (S1.out.cell 0), (G.cells.1 _ _ S1.out.lt).trans (S1.out.cell 1), (G.cells.1 _ _ S1.out.lt).trans (S1.out.cell 2), (G.cells.1 _ _ V0.out.lt).trans (V0.out.cell 0), (G.cells.1 _ _ V1.out.lt).trans (V1.out.cell 0), (G.cells.1 _ _ V1.out.lt).trans (V1.out.cell 1), (G.cells.1 _ _ V1.out.lt).trans (V1.out.cell 2), G⟩
  have HK := hideIt K0
  clear K0
  have gg : Grows wx7_1 wx7_1 := Grows.refl _
  refine wp_region_held_drew (S := (fun w' => w'.cell? ⟨w.heap.size, 0, none⟩ = some (l_0) ∧ w'.cell? ⟨w.heap.size + 1, 0, none⟩ = some (d_0) ∧ w'.cell? ⟨w.heap.size + 1, 1, none⟩ = some (d_1) ∧ w'.cell? ⟨w.heap.size + 1, 2, none⟩ = some (d_2) ∧ w'.cell? ⟨u4.heap.size, 0, none⟩ = some (.slice Ax0_0 l.cells.length mx0_0) ∧ w'.cell? ⟨u5.heap.size, 0, none⟩ = some (.slice Ax1_0 d.insts.length mx1_0) ∧ w'.cell? ⟨u5.heap.size, 1, none⟩ = some (.slice Ax1_1 d.nets.length mx1_1) ∧ w'.cell? ⟨u5.heap.size, 2, none⟩ = some (.slice Ax1_2 d.ports.length mx1_2) ∧ Grows wx7_1 w')) (by kernel_rfl) ?_ (fun hh0 => ?_)
  · (try dsimp only); refine HK.out _ ?_; (repeat (first | exact gg | refine Grows.drew ?_ | refine Grows.alloc ?_ _ | refine Grows.setCell ?_ (by simp <;> omega) _))
  refine regTake 0 (v := ?_) ?_ hh0 ?_
  rotate_left
  · intro w hw; (try dsimp only at hw); go_simp; (try with_reducible rfl)
  try simp only [Act.put, List.setIfInBounds_toArray, List.set_cons_zero, List.set_cons_succ]
  refine regTake 1 (v := ?_) ?_ hh0 ?_
  rotate_left
  · intro w hw; (try dsimp only at hw); go_simp; (try with_reducible rfl)
  try simp only [Act.put, List.setIfInBounds_toArray, List.set_cons_zero, List.set_cons_succ]
  refine regCall 2 (fun K hK => ?_)
  go_simp
  refine (toDesign_o _ (hr1.out.keep (Grows.keeps (by (repeat (first | exact gg | refine Grows.drew ?_ | refine Grows.alloc ?_ _ | refine Grows.setCell ?_ (by simp <;> omega) _))))) SM1.out).mono ?_
  rintro e wx8_0 ⟨z1_0, z1_1, z1_2, bs_z1, rfl, o, ow, g⟩
  have e1 := o.reads
  clear o ow
  replace e1 := hideIt e1
  replace gg : Grows wx7_1 wx8_0 := Grows.trans (by (repeat (first | exact gg | refine Grows.drew ?_ | refine Grows.alloc ?_ _ | refine Grows.setCell ?_ (by simp <;> omega) _))) g
  clear g
  (try go_wp2_with fail)
  refine hK.out _ _ ?_ (fun hh1 => ?_)
  · (try dsimp only); refine HK.out _ ?_; (repeat (first | exact gg | refine Grows.drew ?_ | refine Grows.alloc ?_ _ | refine Grows.setCell ?_ (by simp <;> omega) _))
  clear hK K hh0
  try simp only [Act.put, List.setIfInBounds_toArray, List.set_cons_zero, List.set_cons_succ]
  refine regCall 3 (fun K hK => ?_)
  go_simp
  refine (eqDesign_same _ (x1.out.keep (Grows.keeps (by (repeat (first | exact gg | refine Grows.drew ?_ | refine Grows.alloc ?_ _ | refine Grows.setCell ?_ (by simp <;> omega) _))))) (e1.out)).mono ?_
  rintro e wx8_1 ⟨rfl, g⟩
  replace e1 := hideIt (e1.out.keep g.keeps)
  replace gg : Grows wx7_1 wx8_1 := Grows.trans (by (repeat (first | exact gg | refine Grows.drew ?_ | refine Grows.alloc ?_ _ | refine Grows.setCell ?_ (by simp <;> omega) _))) g
  clear g
  (try go_wp2_with fail)
  refine hK.out _ _ ?_ (fun hh2 => ?_)
  · (try dsimp only); refine HK.out _ ?_; (repeat (first | exact gg | refine Grows.drew ?_ | refine Grows.alloc ?_ _ | refine Grows.setCell ?_ (by simp <;> omega) _))
  clear hK K hh1
  try simp only [Act.put, List.setIfInBounds_toArray, List.set_cons_zero, List.set_cons_succ]
  refine regTake 4 (v := ?_) ?_ hh2 ?_
  rotate_left
  · intro w hw; (try dsimp only at hw); go_simp; (try with_reducible rfl)
  try simp only [Act.put, List.setIfInBounds_toArray, List.set_cons_zero, List.set_cons_succ]
  refine wpAnyH_done (by kernel_rfl) ?_ _
  clear hh2 HK
  replace G := hideIt (G.out.trans gg)
  replace hr0 := hideIt (hr0.out.keep (Grows.keeps gg))
  replace hr1 := hideIt (hr1.out.keep (Grows.keeps gg))
  replace x0 := hideIt (x0.out.keep (Grows.keeps gg))
  replace x1 := hideIt (x1.out.keep (Grows.keeps gg))
  replace S0 := hideIt (S0.out.grows gg)
  replace S1 := hideIt (S1.out.grows gg)
  replace V0 := hideIt (V0.out.grows gg)
  replace V1 := hideIt (V1.out.grows gg)
  clear gg
  have kS0_0 : wx8_1.cell? ⟨w.heap.size, 0, none⟩ = some (l_0) := S0.out.cell 0
  have fS0 := S0.out.frozen
  have lS0 : w.heap.size < wx8_1.heap.size := S0.out.lt
  have kS1_0 : wx8_1.cell? ⟨w.heap.size + 1, 0, none⟩ = some (d_0) := S1.out.cell 0
  have kS1_1 : wx8_1.cell? ⟨w.heap.size + 1, 1, none⟩ = some (d_1) := S1.out.cell 1
  have kS1_2 : wx8_1.cell? ⟨w.heap.size + 1, 2, none⟩ = some (d_2) := S1.out.cell 2
  have fS1 := S1.out.frozen
  have lS1 : w.heap.size + 1 < wx8_1.heap.size := S1.out.lt
  have kV0_0 : wx8_1.cell? ⟨u4.heap.size, 0, none⟩ = some (.slice Ax0_0 l.cells.length mx0_0) := V0.out.cell 0
  have fV0 := V0.out.frozen
  have lV0 : u4.heap.size < wx8_1.heap.size := V0.out.lt
  have kV1_0 : wx8_1.cell? ⟨u5.heap.size, 0, none⟩ = some (.slice Ax1_0 d.insts.length mx1_0) := V1.out.cell 0
  have kV1_1 : wx8_1.cell? ⟨u5.heap.size, 1, none⟩ = some (.slice Ax1_1 d.nets.length mx1_1) := V1.out.cell 1
  have kV1_2 : wx8_1.cell? ⟨u5.heap.size, 2, none⟩ = some (.slice Ax1_2 d.ports.length mx1_2) := V1.out.cell 2
  have fV1 := V1.out.frozen
  have lV1 : u5.heap.size < wx8_1.heap.size := V1.out.lt
  go_wp2
  go_ret
  exact ⟨rfl, G.out.below⟩
end Go.Proofs.YtphdlidoehagbaaGreatDoor
