/-
  The walk of FnExactSinksOf.
-/
import Derived.Test.YtphdlidoehagbaaGreatDoorGJ
import Derived.Test.YtphdlidoehagbaaGreatDoorMarkL
import Derived.Test.YtphdlidoehagbaaGreatDoorSinks
import Derived.Test.YtphdlidoehagbaaGreatDoorGC
import Derived.Test.YtphdlidoehagbaaGreatDoorGD
import Derived.Test.YtphdlidoehagbaaGreatDoorGF
namespace Go.Proofs.YtphdlidoehagbaaGreatDoor
open Go.RowKit
set_option maxHeartbeats 16000000 in
set_option maxRecDepth 10000 in
theorem walk_FnExactSinksOf {l : LibD} {v0 : Value} {w : World} (h0 : ∃ l_0 : Value, v0 = .agg #[l_0] ∧ RLib w [l_0] l) {d : DesignD} {v1 : Value} (h1 : ∃ d_0 d_1 d_2 : Value, v1 = .agg #[d_0, d_1, d_2] ∧ RDesign w [d_0, d_1, d_2] d) {p : Int} (_ : (Lit.int .i64 p).wf = true) :
    Calls Tryz.prog 13 #[v0, v1, .int .i64 p] w fun e w' => e = .returned (.bool true) ∧ Below w.heap.size w w' := by
  obtain ⟨l_0, rfl, hr0⟩ := h0
  obtain ⟨d_0, d_1, d_2, rfl, hr1⟩ := h1
  have hxl : ((sinksV l.cells d p)).length ≤ 1048576 := sinksV_len l.cells d p
  have hxs : SmL ((sinksV l.cells d p)) := hxl
  have HXS := hideIt hxs
  clear hxs
  have g : Grows w w := Grows.refl w
  have G : Hid (Grows w ((w.alloc (.cells #[l_0] 24)).alloc (.cells #[d_0, d_1, d_2] 29))) := hideIt (((Grows.refl w).alloc _).alloc _)
  clear g
  have S0 : Hid (Blk ((w.alloc (.cells #[l_0] 24)).alloc (.cells #[d_0, d_1, d_2] 29)) (w.heap.size) 24 #[l_0]) := by
    have := (Blk.new w 24 #[l_0]).grows ((Grows.refl (w.alloc (.cells #[l_0] 24))).alloc (.cells #[d_0, d_1, d_2] 29))
    exact hideIt (by simpa using this)
  have S1 : Hid (Blk ((w.alloc (.cells #[l_0] 24)).alloc (.cells #[d_0, d_1, d_2] 29)) (w.heap.size + 1) 29 #[d_0, d_1, d_2]) := by
    have := (Blk.new (w.alloc (.cells #[l_0] 24)) 29 #[d_0, d_1, d_2]).grows (Grows.refl ((w.alloc (.cells #[l_0] 24)).alloc (.cells #[d_0, d_1, d_2] 29)))
    exact hideIt (by simpa using this)
  replace hr0 := hideIt (hr0.keep G.out.keeps)
  replace hr1 := hideIt (hr1.keep G.out.keeps)
  go_enter Tryz.func13, Tryz.ntmps13
  go_wp2_with fail
  refine (szLib_w _ _ hr0.out (by omega) (by omega)).mono ?_
  rintro e u1 ⟨l0, rfl, b0, c0, sm0, g⟩
  replace G := hideIt (G.out.trans g)
  replace hr0 := hideIt (hr0.out.keep g.keeps)
  replace hr1 := hideIt (hr1.out.keep g.keeps)
  replace S0 := hideIt (S0.out.grows g)
  replace S1 := hideIt (S1.out.grows g)
  have SM0 := hideIt sm0
  clear sm0
  clear g
  have kS0_0 : u1.cell? ⟨w.heap.size, 0, none⟩ = some (l_0) := S0.out.cell 0
  have fS0 := S0.out.frozen
  have lS0 : w.heap.size < u1.heap.size := S0.out.lt
  have kS1_0 : u1.cell? ⟨w.heap.size + 1, 0, none⟩ = some (d_0) := S1.out.cell 0
  have kS1_1 : u1.cell? ⟨w.heap.size + 1, 1, none⟩ = some (d_1) := S1.out.cell 1
  have kS1_2 : u1.cell? ⟨w.heap.size + 1, 2, none⟩ = some (d_2) := S1.out.cell 2
  have fS1 := S1.out.frozen
  have lS1 : w.heap.size + 1 < u1.heap.size := S1.out.lt
  by_cases n0 : l0 < 0
  · go_wp2
    go_ret
    exact ⟨rfl, G.out.below⟩
  have WT0 := (SM0.out (by omega)).2
  replace SM0 := hideIt (SM0.out (by omega)).1
  go_wp2_with fail
  clear kS0_0 fS0 lS0 kS1_0 kS1_1 kS1_2 fS1 lS1
  refine (szDesign_w _ _ hr1.out (by omega) (by omega)).mono ?_
  rintro e u2 ⟨l1, rfl, b1, c1, sm1, g⟩
  replace G := hideIt (G.out.trans g)
  replace hr0 := hideIt (hr0.out.keep g.keeps)
  replace hr1 := hideIt (hr1.out.keep g.keeps)
  replace S0 := hideIt (S0.out.grows g)
  replace S1 := hideIt (S1.out.grows g)
  have SM1 := hideIt sm1
  clear sm1
  clear g
  have kS0_0 : u2.cell? ⟨w.heap.size, 0, none⟩ = some (l_0) := S0.out.cell 0
  have fS0 := S0.out.frozen
  have lS0 : w.heap.size < u2.heap.size := S0.out.lt
  have kS1_0 : u2.cell? ⟨w.heap.size + 1, 0, none⟩ = some (d_0) := S1.out.cell 0
  have kS1_1 : u2.cell? ⟨w.heap.size + 1, 1, none⟩ = some (d_1) := S1.out.cell 1
  have kS1_2 : u2.cell? ⟨w.heap.size + 1, 2, none⟩ = some (d_2) := S1.out.cell 2
  have fS1 := S1.out.frozen
  have lS1 : w.heap.size + 1 < u2.heap.size := S1.out.lt
  by_cases n1 : l1 < 0
  · go_wp2
    go_ret
    exact ⟨rfl, G.out.below⟩
  have WT1 := (SM1.out (by omega)).2
  replace SM1 := hideIt (SM1.out (by omega)).1
  go_wp2_with fail
  clear kS0_0 fS0 lS0 kS1_0 kS1_1 kS1_2 fS1 lS1
  have K0 : ∀ w', Grows u2 w' → w'.cell? ⟨w.heap.size, 0, none⟩ = some (l_0) ∧ w'.cell? ⟨w.heap.size + 1, 0, none⟩ = some (d_0) ∧ w'.cell? ⟨w.heap.size + 1, 1, none⟩ = some (d_1) ∧ w'.cell? ⟨w.heap.size + 1, 2, none⟩ = some (d_2) ∧ Grows u2 w' := fun w' G => ⟨(G.cells.1 _ _ S0.out.lt).trans (S0.out.cell 0), (G.cells.1 _ _ S1.out.lt).trans (S1.out.cell 0), (G.cells.1 _ _ S1.out.lt).trans (S1.out.cell 1), (G.cells.1 _ _ S1.out.lt).trans (S1.out.cell 2), G⟩
  have HK := hideIt K0
  clear K0
  have gg : Grows u2 u2 := Grows.refl _
  refine wp_region_held_drew (S := (fun w' => w'.cell? ⟨w.heap.size, 0, none⟩ = some (l_0) ∧ w'.cell? ⟨w.heap.size + 1, 0, none⟩ = some (d_0) ∧ w'.cell? ⟨w.heap.size + 1, 1, none⟩ = some (d_1) ∧ w'.cell? ⟨w.heap.size + 1, 2, none⟩ = some (d_2) ∧ Grows u2 w')) (by kernel_rfl) ?_ (fun hh0 => ?_)
  · (try dsimp only); refine HK.out _ ?_; (repeat (first | exact gg | refine Grows.drew ?_ | refine Grows.alloc ?_ _ | refine Grows.setCell ?_ (by simp <;> omega) _))
  refine regTake 0 (v := ?_) ?_ hh0 ?_
  rotate_left
  · intro w hw; (try dsimp only at hw); go_simp; (try with_reducible rfl)
  try simp only [Act.put, List.setIfInBounds_toArray, List.set_cons_zero, List.set_cons_succ]
  refine regTake 2 (v := ?_) ?_ hh0 ?_
  rotate_left
  · intro w hw; (try dsimp only at hw); go_simp; (try with_reducible rfl)
  try simp only [Act.put, List.setIfInBounds_toArray, List.set_cons_zero, List.set_cons_succ]
  refine regTake 4 (v := ?_) ?_ hh0 ?_
  rotate_left
  · intro w hw; (try dsimp only at hw); go_simp; (try with_reducible rfl)
  try simp only [Act.put, List.setIfInBounds_toArray, List.set_cons_zero, List.set_cons_succ]
  refine regCall 1 (fun K hK => ?_)
  go_simp
  refine (toLib_o _ (hr0.out.keep (Grows.keeps (by (repeat (first | exact gg | refine Grows.drew ?_ | refine Grows.alloc ?_ _ | refine Grows.setCell ?_ (by simp <;> omega) _))))) SM0.out).mono ?_
  rintro e wx3_0 ⟨p0_0, bs_p0, rfl, o, ow, g⟩
  have q0 := o.reads
  clear o ow
  replace q0 := hideIt q0
  replace gg : Grows u2 wx3_0 := Grows.trans (by (repeat (first | exact gg | refine Grows.drew ?_ | refine Grows.alloc ?_ _ | refine Grows.setCell ?_ (by simp <;> omega) _))) g
  clear g
  (try go_wp2_with fail)
  refine hK.out _ _ ?_ (fun hh1 => ?_)
  · (try dsimp only); refine HK.out _ ?_; (repeat (first | exact gg | refine Grows.drew ?_ | refine Grows.alloc ?_ _ | refine Grows.setCell ?_ (by simp <;> omega) _))
  clear hK K hh0
  try simp only [Act.put, List.setIfInBounds_toArray, List.set_cons_zero, List.set_cons_succ]
  refine regCall 3 (fun K hK => ?_)
  go_simp
  refine (toDesign_o _ (hr1.out.keep (Grows.keeps (by (repeat (first | exact gg | refine Grows.drew ?_ | refine Grows.alloc ?_ _ | refine Grows.setCell ?_ (by simp <;> omega) _))))) SM1.out).mono ?_
  rintro e wx3_1 ⟨p1_0, p1_1, p1_2, bs_p1, rfl, o, ow, g⟩
  replace q0 := hideIt (q0.out.keep g.keeps)
  have q1 := o.reads
  clear o ow
  replace q1 := hideIt q1
  replace gg : Grows u2 wx3_1 := Grows.trans (by (repeat (first | exact gg | refine Grows.drew ?_ | refine Grows.alloc ?_ _ | refine Grows.setCell ?_ (by simp <;> omega) _))) g
  clear g
  (try go_wp2_with fail)
  refine hK.out _ _ ?_ (fun hh2 => ?_)
  · (try dsimp only); refine HK.out _ ?_; (repeat (first | exact gg | refine Grows.drew ?_ | refine Grows.alloc ?_ _ | refine Grows.setCell ?_ (by simp <;> omega) _))
  clear hK K hh1
  try simp only [Act.put, List.setIfInBounds_toArray, List.set_cons_zero, List.set_cons_succ]
  refine regCall 5 (fun K hK => ?_)
  go_simp
  refine (sSinksOf_any p _ (q0.out).parts (q1.out)).mono ?_
  rintro e wx3_2 ⟨A9, c9, bs9, rfl, o, ow, g⟩
  replace q0 := hideIt (q0.out.keep g.keeps)
  replace q1 := hideIt (q1.out.keep g.keeps)
  have r9 := o.reads
  clear o ow
  replace r9 := hideIt r9
  replace gg : Grows u2 wx3_2 := Grows.trans (by (repeat (first | exact gg | refine Grows.drew ?_ | refine Grows.alloc ?_ _ | refine Grows.setCell ?_ (by simp <;> omega) _))) g
  clear g
  (try go_wp2_with fail)
  refine hK.out _ _ ?_ (fun hh3 => ?_)
  · (try dsimp only); refine HK.out _ ?_; (repeat (first | exact gg | refine Grows.drew ?_ | refine Grows.alloc ?_ _ | refine Grows.setCell ?_ (by simp <;> omega) _))
  clear hK K hh2
  try simp only [Act.put, List.setIfInBounds_toArray, List.set_cons_zero, List.set_cons_succ]
  refine regTake 6 (v := ?_) ?_ hh3 ?_
  rotate_left
  · intro w hw; (try dsimp only at hw); go_simp; (try with_reducible rfl)
  try simp only [Act.put, List.setIfInBounds_toArray, List.set_cons_zero, List.set_cons_succ]
  refine wpAnyH_done (by kernel_rfl) ?_ _
  clear hh3 HK
  replace G := hideIt (G.out.trans gg)
  replace hr0 := hideIt (hr0.out.keep (Grows.keeps gg))
  replace hr1 := hideIt (hr1.out.keep (Grows.keeps gg))
  replace S0 := hideIt (S0.out.grows gg)
  replace S1 := hideIt (S1.out.grows gg)
  clear gg
  have kS0_0 : wx3_2.cell? ⟨w.heap.size, 0, none⟩ = some (l_0) := S0.out.cell 0
  have fS0 := S0.out.frozen
  have lS0 : w.heap.size < wx3_2.heap.size := S0.out.lt
  have kS1_0 : wx3_2.cell? ⟨w.heap.size + 1, 0, none⟩ = some (d_0) := S1.out.cell 0
  have kS1_1 : wx3_2.cell? ⟨w.heap.size + 1, 1, none⟩ = some (d_1) := S1.out.cell 1
  have kS1_2 : wx3_2.cell? ⟨w.heap.size + 1, 2, none⟩ = some (d_2) := S1.out.cell 2
  have fS1 := S1.out.frozen
  have lS1 : w.heap.size + 1 < wx3_2.heap.size := S1.out.lt
  clear q0 q1
  have GA : Hid (Grows wx3_2 wx3_2) := hideIt (Grows.refl _)
  have HA0 := hr0
  have HA1 := hr1
  go_wp2_with fail
  clear kS0_0 fS0 lS0 kS1_0 kS1_1 kS1_2 fS1 lS1
  refine (toLib_o _ hr0.out SM0.out).mono ?_
  rintro e u4 ⟨y0_0, by0, rfl, ox0, wx0, g⟩
  have LB_G_by0 : Hid (∀ q ∈ by0, (w).heap.size ≤ q) := hideIt fun q hq => Nat.le_trans G.out.size (wx0.2 q hq).1
  have LB_GA_by0 : Hid (∀ q ∈ by0, (wx3_2).heap.size ≤ q) := hideIt fun q hq => Nat.le_trans GA.out.size (wx0.2 q hq).1
  have NB_S0_by0 : Hid ((w.heap.size) ∉ by0) := hideIt fun hm => Nat.lt_irrefl _ (Nat.lt_of_lt_of_le S0.out.lt (wx0.2 _ hm).1)
  have NB_S1_by0 : Hid ((w.heap.size + 1) ∉ by0) := hideIt fun hm => Nat.lt_irrefl _ (Nat.lt_of_lt_of_le S1.out.lt (wx0.2 _ hm).1)
  have ND_by0 := hideIt wx0.1
  replace G := hideIt (G.out.trans g)
  replace GA := hideIt (GA.out.trans g)
  replace hr0 := hideIt (hr0.out.keep g.keeps)
  replace hr1 := hideIt (hr1.out.keep g.keeps)
  replace S0 := hideIt (S0.out.grows g)
  replace S1 := hideIt (S1.out.grows g)
  replace ox0 := hideIt ox0
  clear wx0
  obtain ⟨Ax0_0, mx0_0, rfl⟩ := ox0.out.shape
  clear g
  have kS0_0 : u4.cell? ⟨w.heap.size, 0, none⟩ = some (l_0) := S0.out.cell 0
  have fS0 := S0.out.frozen
  have lS0 : w.heap.size < u4.heap.size := S0.out.lt
  have kS1_0 : u4.cell? ⟨w.heap.size + 1, 0, none⟩ = some (d_0) := S1.out.cell 0
  have kS1_1 : u4.cell? ⟨w.heap.size + 1, 1, none⟩ = some (d_1) := S1.out.cell 1
  have kS1_2 : u4.cell? ⟨w.heap.size + 1, 2, none⟩ = some (d_2) := S1.out.cell 2
  have fS1 := S1.out.frozen
  have lS1 : w.heap.size + 1 < u4.heap.size := S1.out.lt
  have NB_V0_by0 : Hid (u4.heap.size ∉ by0) := hideIt fun hm => Nat.lt_irrefl _ (ox0.out.lt _ hm)
  have gl : Grows u4 (u4.alloc (.cells #[.slice Ax0_0 l.cells.length mx0_0] 35)) := (Grows.refl _).alloc _
  replace G := hideIt (G.out.trans gl)
  replace GA := hideIt (GA.out.trans gl)
  replace hr0 := hideIt (hr0.out.keep gl.keeps)
  replace hr1 := hideIt (hr1.out.keep gl.keeps)
  replace ox0 := hideIt (ox0.out.same ((SameOn.refl _ _).grows ox0.out.lt gl))
  replace S0 := hideIt (S0.out.grows gl)
  replace S1 := hideIt (S1.out.grows gl)
  have V0 := hideIt (Blk.new u4 35 #[.slice Ax0_0 l.cells.length mx0_0])
  clear gl
  go_wp2_with fail
  clear kS0_0 fS0 lS0 kS1_0 kS1_1 kS1_2 fS1 lS1
  refine (toDesign_o _ hr1.out SM1.out).mono ?_
  rintro e u5 ⟨y1_0, y1_1, y1_2, by1, rfl, ox1, wx1, g⟩
  have DJ_by0_by1 : Hid (∀ q ∈ by0, q ∉ by1) := hideIt fun q hq hm => Nat.lt_irrefl _ (Nat.lt_of_lt_of_le (ox0.out.lt q hq) (wx1.2 q hm).1)
  have LB_G_by1 : Hid (∀ q ∈ by1, (w).heap.size ≤ q) := hideIt fun q hq => Nat.le_trans G.out.size (wx1.2 q hq).1
  have LB_GA_by1 : Hid (∀ q ∈ by1, (wx3_2).heap.size ≤ q) := hideIt fun q hq => Nat.le_trans GA.out.size (wx1.2 q hq).1
  have NB_S0_by1 : Hid ((w.heap.size) ∉ by1) := hideIt fun hm => Nat.lt_irrefl _ (Nat.lt_of_lt_of_le S0.out.lt (wx1.2 _ hm).1)
  have NB_S1_by1 : Hid ((w.heap.size + 1) ∉ by1) := hideIt fun hm => Nat.lt_irrefl _ (Nat.lt_of_lt_of_le S1.out.lt (wx1.2 _ hm).1)
  have NB_V0_by1 : Hid ((u4.heap.size) ∉ by1) := hideIt fun hm => Nat.lt_irrefl _ (Nat.lt_of_lt_of_le V0.out.lt (wx1.2 _ hm).1)
  have ND_by1 := hideIt wx1.1
  replace G := hideIt (G.out.trans g)
  replace GA := hideIt (GA.out.trans g)
  replace hr0 := hideIt (hr0.out.keep g.keeps)
  replace hr1 := hideIt (hr1.out.keep g.keeps)
  replace ox0 := hideIt (ox0.out.same ((SameOn.refl _ _).grows ox0.out.lt g))
  replace S0 := hideIt (S0.out.grows g)
  replace S1 := hideIt (S1.out.grows g)
  replace V0 := hideIt (V0.out.grows g)
  replace ox1 := hideIt ox1
  clear wx1
  obtain ⟨⟨Ax1_0, mx1_0, rfl⟩, ⟨Ax1_1, mx1_1, rfl⟩, ⟨Ax1_2, mx1_2, rfl⟩⟩ := ox1.out.shape
  clear g
  have kS0_0 : u5.cell? ⟨w.heap.size, 0, none⟩ = some (l_0) := S0.out.cell 0
  have fS0 := S0.out.frozen
  have lS0 : w.heap.size < u5.heap.size := S0.out.lt
  have kS1_0 : u5.cell? ⟨w.heap.size + 1, 0, none⟩ = some (d_0) := S1.out.cell 0
  have kS1_1 : u5.cell? ⟨w.heap.size + 1, 1, none⟩ = some (d_1) := S1.out.cell 1
  have kS1_2 : u5.cell? ⟨w.heap.size + 1, 2, none⟩ = some (d_2) := S1.out.cell 2
  have fS1 := S1.out.frozen
  have lS1 : w.heap.size + 1 < u5.heap.size := S1.out.lt
  have kV0_0 : u5.cell? ⟨u4.heap.size, 0, none⟩ = some (.slice Ax0_0 l.cells.length mx0_0) := V0.out.cell 0
  have fV0 := V0.out.frozen
  have lV0 : u4.heap.size < u5.heap.size := V0.out.lt
  have NB_V1_by0 : Hid (u5.heap.size ∉ by0) := hideIt fun hm => Nat.lt_irrefl _ (ox0.out.lt _ hm)
  have NB_V1_by1 : Hid (u5.heap.size ∉ by1) := hideIt fun hm => Nat.lt_irrefl _ (ox1.out.lt _ hm)
  have gl : Grows u5 (u5.alloc (.cells #[.slice Ax1_0 d.insts.length mx1_0, .slice Ax1_1 d.nets.length mx1_1, .slice Ax1_2 d.ports.length mx1_2] 40)) := (Grows.refl _).alloc _
  replace G := hideIt (G.out.trans gl)
  replace GA := hideIt (GA.out.trans gl)
  replace hr0 := hideIt (hr0.out.keep gl.keeps)
  replace hr1 := hideIt (hr1.out.keep gl.keeps)
  replace ox0 := hideIt (ox0.out.same ((SameOn.refl _ _).grows ox0.out.lt gl))
  replace ox1 := hideIt (ox1.out.same ((SameOn.refl _ _).grows ox1.out.lt gl))
  replace S0 := hideIt (S0.out.grows gl)
  replace S1 := hideIt (S1.out.grows gl)
  replace V0 := hideIt (V0.out.grows gl)
  have V1 := hideIt (Blk.new u5 40 #[.slice Ax1_0 d.insts.length mx1_0, .slice Ax1_1 d.nets.length mx1_1, .slice Ax1_2 d.ports.length mx1_2])
  clear gl
  go_wp2_with fail
  clear kS0_0 fS0 lS0 kS1_0 kS1_1 kS1_2 fS1 lS1 kV0_0 fV0 lV0
  refine (iSinksOf_any p _ (ox0.out.reads).parts (ox1.out.reads) SM0.out SM1.out).mono ?_
  rintro e u6 ⟨A8, c8, bs8, rfl, og, wg, g⟩
  have DJ_by0_bs8 : Hid (∀ q ∈ by0, q ∉ bs8) := hideIt fun q hq hm => Nat.lt_irrefl _ (Nat.lt_of_lt_of_le (ox0.out.lt q hq) (wg.2 q hm).1)
  have DJ_by1_bs8 : Hid (∀ q ∈ by1, q ∉ bs8) := hideIt fun q hq hm => Nat.lt_irrefl _ (Nat.lt_of_lt_of_le (ox1.out.lt q hq) (wg.2 q hm).1)
  have LB_G_bs8 : Hid (∀ q ∈ bs8, (w).heap.size ≤ q) := hideIt fun q hq => Nat.le_trans G.out.size (wg.2 q hq).1
  have LB_GA_bs8 : Hid (∀ q ∈ bs8, (wx3_2).heap.size ≤ q) := hideIt fun q hq => Nat.le_trans GA.out.size (wg.2 q hq).1
  have NB_S0_bs8 : Hid ((w.heap.size) ∉ bs8) := hideIt fun hm => Nat.lt_irrefl _ (Nat.lt_of_lt_of_le S0.out.lt (wg.2 _ hm).1)
  have NB_S1_bs8 : Hid ((w.heap.size + 1) ∉ bs8) := hideIt fun hm => Nat.lt_irrefl _ (Nat.lt_of_lt_of_le S1.out.lt (wg.2 _ hm).1)
  have NB_V0_bs8 : Hid ((u4.heap.size) ∉ bs8) := hideIt fun hm => Nat.lt_irrefl _ (Nat.lt_of_lt_of_le V0.out.lt (wg.2 _ hm).1)
  have NB_V1_bs8 : Hid ((u5.heap.size) ∉ bs8) := hideIt fun hm => Nat.lt_irrefl _ (Nat.lt_of_lt_of_le V1.out.lt (wg.2 _ hm).1)
  have ND_bs8 := hideIt wg.1
  replace G := hideIt (G.out.trans g)
  replace GA := hideIt (GA.out.trans g)
  replace hr0 := hideIt (hr0.out.keep g.keeps)
  replace hr1 := hideIt (hr1.out.keep g.keeps)
  replace ox0 := hideIt (ox0.out.same ((SameOn.refl _ _).grows ox0.out.lt g))
  replace ox1 := hideIt (ox1.out.same ((SameOn.refl _ _).grows ox1.out.lt g))
  replace S0 := hideIt (S0.out.grows g)
  replace S1 := hideIt (S1.out.grows g)
  replace V0 := hideIt (V0.out.grows g)
  replace V1 := hideIt (V1.out.grows g)
  replace og := hideIt og
  clear wg
  clear g
  have kS0_0 : u6.cell? ⟨w.heap.size, 0, none⟩ = some (l_0) := S0.out.cell 0
  have fS0 := S0.out.frozen
  have lS0 : w.heap.size < u6.heap.size := S0.out.lt
  have kS1_0 : u6.cell? ⟨w.heap.size + 1, 0, none⟩ = some (d_0) := S1.out.cell 0
  have kS1_1 : u6.cell? ⟨w.heap.size + 1, 1, none⟩ = some (d_1) := S1.out.cell 1
  have kS1_2 : u6.cell? ⟨w.heap.size + 1, 2, none⟩ = some (d_2) := S1.out.cell 2
  have fS1 := S1.out.frozen
  have lS1 : w.heap.size + 1 < u6.heap.size := S1.out.lt
  have kV0_0 : u6.cell? ⟨u4.heap.size, 0, none⟩ = some (.slice Ax0_0 l.cells.length mx0_0) := V0.out.cell 0
  have fV0 := V0.out.frozen
  have lV0 : u4.heap.size < u6.heap.size := V0.out.lt
  have kV1_0 : u6.cell? ⟨u5.heap.size, 0, none⟩ = some (.slice Ax1_0 d.insts.length mx1_0) := V1.out.cell 0
  have kV1_1 : u6.cell? ⟨u5.heap.size, 1, none⟩ = some (.slice Ax1_1 d.nets.length mx1_1) := V1.out.cell 1
  have kV1_2 : u6.cell? ⟨u5.heap.size, 2, none⟩ = some (.slice Ax1_2 d.ports.length mx1_2) := V1.out.cell 2
  have fV1 := V1.out.frozen
  have lV1 : u5.heap.size < u6.heap.size := V1.out.lt
  go_wp2_with fail
  clear kS0_0 fS0 lS0 kS1_0 kS1_1 kS1_2 fS1 lS1 kV0_0 fV0 lV0 kV1_0 kV1_1 kV1_2 fV1 lV1
  refine (eqInts_same _ og.out.reads (r9.out.keep GA.out.keeps)).mono ?_
  rintro e u7 ⟨rfl, g⟩
  replace G := hideIt (G.out.trans g)
  replace GA := hideIt (GA.out.trans g)
  replace hr0 := hideIt (hr0.out.keep g.keeps)
  replace hr1 := hideIt (hr1.out.keep g.keeps)
  replace ox0 := hideIt (ox0.out.same ((SameOn.refl _ _).grows ox0.out.lt g))
  replace ox1 := hideIt (ox1.out.same ((SameOn.refl _ _).grows ox1.out.lt g))
  replace og := hideIt (og.out.same ((SameOn.refl _ _).grows og.out.lt g))
  replace S0 := hideIt (S0.out.grows g)
  replace S1 := hideIt (S1.out.grows g)
  replace V0 := hideIt (V0.out.grows g)
  replace V1 := hideIt (V1.out.grows g)
  clear g
  have kS0_0 : u7.cell? ⟨w.heap.size, 0, none⟩ = some (l_0) := S0.out.cell 0
  have fS0 := S0.out.frozen
  have lS0 : w.heap.size < u7.heap.size := S0.out.lt
  have kS1_0 : u7.cell? ⟨w.heap.size + 1, 0, none⟩ = some (d_0) := S1.out.cell 0
  have kS1_1 : u7.cell? ⟨w.heap.size + 1, 1, none⟩ = some (d_1) := S1.out.cell 1
  have kS1_2 : u7.cell? ⟨w.heap.size + 1, 2, none⟩ = some (d_2) := S1.out.cell 2
  have fS1 := S1.out.frozen
  have lS1 : w.heap.size + 1 < u7.heap.size := S1.out.lt
  have kV0_0 : u7.cell? ⟨u4.heap.size, 0, none⟩ = some (.slice Ax0_0 l.cells.length mx0_0) := V0.out.cell 0
  have fV0 := V0.out.frozen
  have lV0 : u4.heap.size < u7.heap.size := V0.out.lt
  have kV1_0 : u7.cell? ⟨u5.heap.size, 0, none⟩ = some (.slice Ax1_0 d.insts.length mx1_0) := V1.out.cell 0
  have kV1_1 : u7.cell? ⟨u5.heap.size, 1, none⟩ = some (.slice Ax1_1 d.nets.length mx1_1) := V1.out.cell 1
  have kV1_2 : u7.cell? ⟨u5.heap.size, 2, none⟩ = some (.slice Ax1_2 d.ports.length mx1_2) := V1.out.cell 2
  have fV1 := V1.out.frozen
  have lV1 : u5.heap.size < u7.heap.size := V1.out.lt
  go_wp2_with fail
  clear kS0_0 fS0 lS0 kS1_0 kS1_1 kS1_2 fS1 lS1 kV0_0 fV0 lV0 kV1_0 kV1_1 kV1_2 fV1 lV1
  have K0 : ∀ w', Grows u7 w' → w'.cell? ⟨w.heap.size, 0, none⟩ = some (l_0) ∧ w'.cell? ⟨w.heap.size + 1, 0, none⟩ = some (d_0) ∧ w'.cell? ⟨w.heap.size + 1, 1, none⟩ = some (d_1) ∧ w'.cell? ⟨w.heap.size + 1, 2, none⟩ = some (d_2) ∧ w'.cell? ⟨u4.heap.size, 0, none⟩ = some (.slice Ax0_0 l.cells.length mx0_0) ∧ w'.cell? ⟨u5.heap.size, 0, none⟩ = some (.slice Ax1_0 d.insts.length mx1_0) ∧ w'.cell? ⟨u5.heap.size, 1, none⟩ = some (.slice Ax1_1 d.nets.length mx1_1) ∧ w'.cell? ⟨u5.heap.size, 2, none⟩ = some (.slice Ax1_2 d.ports.length mx1_2) ∧ Grows u7 w' := fun w' G => ⟨(G.cells.1 _ _ S0.out.lt).trans (S0.out.cell 0), (G.cells.1 _ _ S1.out.lt).trans (S1.out.cell 0), (G.cells.1 _ _ S1.out.lt).trans (S1.out.cell 1), (G.cells.1 _ _ S1.out.lt).trans (S1.out.cell 2), (G.cells.1 _ _ V0.out.lt).trans (V0.out.cell 0), (G.cells.1 _ _ V1.out.lt).trans (V1.out.cell 0), (G.cells.1 _ _ V1.out.lt).trans (V1.out.cell 1), (G.cells.1 _ _ V1.out.lt).trans (V1.out.cell 2), G⟩
  have HK := hideIt K0
  clear K0
  have gg : Grows u7 u7 := Grows.refl _
  refine wp_region_held_drew (S := (fun w' => w'.cell? ⟨w.heap.size, 0, none⟩ = some (l_0) ∧ w'.cell? ⟨w.heap.size + 1, 0, none⟩ = some (d_0) ∧ w'.cell? ⟨w.heap.size + 1, 1, none⟩ = some (d_1) ∧ w'.cell? ⟨w.heap.size + 1, 2, none⟩ = some (d_2) ∧ w'.cell? ⟨u4.heap.size, 0, none⟩ = some (.slice Ax0_0 l.cells.length mx0_0) ∧ w'.cell? ⟨u5.heap.size, 0, none⟩ = some (.slice Ax1_0 d.insts.length mx1_0) ∧ w'.cell? ⟨u5.heap.size, 1, none⟩ = some (.slice Ax1_1 d.nets.length mx1_1) ∧ w'.cell? ⟨u5.heap.size, 2, none⟩ = some (.slice Ax1_2 d.ports.length mx1_2) ∧ Grows u7 w')) (by kernel_rfl) ?_ (fun hh0 => ?_)
  · (try dsimp only); refine HK.out _ ?_; (repeat (first | exact gg | refine Grows.drew ?_ | refine Grows.alloc ?_ _ | refine Grows.setCell ?_ (by simp <;> omega) _))
  refine regTake 0 (v := ?_) ?_ hh0 ?_
  rotate_left
  · intro w hw; (try dsimp only at hw); go_simp; (try with_reducible rfl)
  try simp only [Act.put, List.setIfInBounds_toArray, List.set_cons_zero, List.set_cons_succ]
  refine regTake 1 (v := ?_) ?_ hh0 ?_
  rotate_left
  · intro w hw; (try dsimp only at hw); go_simp; (try with_reducible rfl)
  try simp only [Act.put, List.setIfInBounds_toArray, List.set_cons_zero, List.set_cons_succ]
  refine regCall 2 (fun K hK => ?_)
  go_simp
  refine (toLib_o _ (hr0.out.keep (Grows.keeps (by (repeat (first | exact gg | refine Grows.drew ?_ | refine Grows.alloc ?_ _ | refine Grows.setCell ?_ (by simp <;> omega) _))))) SM0.out).mono ?_
  rintro e wx8_0 ⟨z0_0, bs_z0, rfl, o, ow, g⟩
  have e0 := o.reads
  clear o ow
  replace e0 := hideIt e0
  replace gg : Grows u7 wx8_0 := Grows.trans (by (repeat (first | exact gg | refine Grows.drew ?_ | refine Grows.alloc ?_ _ | refine Grows.setCell ?_ (by simp <;> omega) _))) g
  clear g
  (try go_wp2_with fail)
  refine hK.out _ _ ?_ (fun hh1 => ?_)
  · (try dsimp only); refine HK.out _ ?_; (repeat (first | exact gg | refine Grows.drew ?_ | refine Grows.alloc ?_ _ | refine Grows.setCell ?_ (by simp <;> omega) _))
  clear hK K hh0
  try simp only [Act.put, List.setIfInBounds_toArray, List.set_cons_zero, List.set_cons_succ]
  refine regCall 3 (fun K hK => ?_)
  go_simp
  refine (eqLib_same _ (ox0.out.reads.keep (Grows.keeps (by (repeat (first | exact gg | refine Grows.drew ?_ | refine Grows.alloc ?_ _ | refine Grows.setCell ?_ (by simp <;> omega) _))))) (e0.out)).mono ?_
  rintro e wx8_1 ⟨rfl, g⟩
  replace e0 := hideIt (e0.out.keep g.keeps)
  replace gg : Grows u7 wx8_1 := Grows.trans (by (repeat (first | exact gg | refine Grows.drew ?_ | refine Grows.alloc ?_ _ | refine Grows.setCell ?_ (by simp <;> omega) _))) g
  clear g
  (try go_wp2_with fail)
  refine hK.out _ _ ?_ (fun hh2 => ?_)
  · (try dsimp only); refine HK.out _ ?_; (repeat (first | exact gg | refine Grows.drew ?_ | refine Grows.alloc ?_ _ | refine Grows.setCell ?_ (by simp <;> omega) _))
  clear hK K hh1
  try simp only [Act.put, List.setIfInBounds_toArray, List.set_cons_zero, List.set_cons_succ]
  refine regTake 4 (v := ?_) ?_ hh2 ?_
  rotate_left
  · intro w hw; (try dsimp only at hw); go_simp; (try with_reducible rfl)
  try simp only [Act.put, List.setIfInBounds_toArray, List.set_cons_zero, List.set_cons_succ]
  refine wpAnyH_done (by kernel_rfl) ?_ _
  clear hh2 HK
  replace ox0 := hideIt (ox0.out.same ((SameOn.refl _ _).grows ox0.out.lt gg))
  replace ox1 := hideIt (ox1.out.same ((SameOn.refl _ _).grows ox1.out.lt gg))
  replace og := hideIt (og.out.same ((SameOn.refl _ _).grows og.out.lt gg))
  replace G := hideIt (G.out.trans gg)
  replace GA := hideIt (GA.out.trans gg)
  replace hr0 := hideIt (hr0.out.keep (Grows.keeps gg))
  replace hr1 := hideIt (hr1.out.keep (Grows.keeps gg))
  replace S0 := hideIt (S0.out.grows gg)
  replace S1 := hideIt (S1.out.grows gg)
  replace V0 := hideIt (V0.out.grows gg)
  replace V1 := hideIt (V1.out.grows gg)
  clear gg
  have kS0_0 : wx8_1.cell? ⟨w.heap.size, 0, none⟩ = some (l_0) := S0.out.cell 0
  have fS0 := S0.out.frozen
  have lS0 : w.heap.size < wx8_1.heap.size := S0.out.lt
  have kS1_0 : wx8_1.cell? ⟨w.heap.size + 1, 0, none⟩ = some (d_0) := S1.out.cell 0
  have kS1_1 : wx8_1.cell? ⟨w.heap.size + 1, 1, none⟩ = some (d_1) := S1.out.cell 1
  have kS1_2 : wx8_1.cell? ⟨w.heap.size + 1, 2, none⟩ = some (d_2) := S1.out.cell 2
  have fS1 := S1.out.frozen
  have lS1 : w.heap.size + 1 < wx8_1.heap.size := S1.out.lt
  have kV0_0 : wx8_1.cell? ⟨u4.heap.size, 0, none⟩ = some (.slice Ax0_0 l.cells.length mx0_0) := V0.out.cell 0
  have fV0 := V0.out.frozen
  have lV0 : u4.heap.size < wx8_1.heap.size := V0.out.lt
  have kV1_0 : wx8_1.cell? ⟨u5.heap.size, 0, none⟩ = some (.slice Ax1_0 d.insts.length mx1_0) := V1.out.cell 0
  have kV1_1 : wx8_1.cell? ⟨u5.heap.size, 1, none⟩ = some (.slice Ax1_1 d.nets.length mx1_1) := V1.out.cell 1
  have kV1_2 : wx8_1.cell? ⟨u5.heap.size, 2, none⟩ = some (.slice Ax1_2 d.ports.length mx1_2) := V1.out.cell 2
  have fV1 := V1.out.frozen
  have lV1 : u5.heap.size < wx8_1.heap.size := V1.out.lt
  clear e0
  go_wp2_with fail
  clear kS0_0 fS0 lS0 kS1_0 kS1_1 kS1_2 fS1 lS1 kV0_0 fV0 lV0 kV1_0 kV1_1 kV1_2 fV1 lV1
  have K0 : ∀ w', Grows wx8_1 w' → w'.cell? ⟨w.heap.size, 0, none⟩ = some (l_0) ∧ w'.cell? ⟨w.heap.size + 1, 0, none⟩ = some (d_0) ∧ w'.cell? ⟨w.heap.size + 1, 1, none⟩ = some (d_1) ∧ w'.cell? ⟨w.heap.size + 1, 2, none⟩ = some (d_2) ∧ w'.cell? ⟨u4.heap.size, 0, none⟩ = some (.slice Ax0_0 l.cells.length mx0_0) ∧ w'.cell? ⟨u5.heap.size, 0, none⟩ = some (.slice Ax1_0 d.insts.length mx1_0) ∧ w'.cell? ⟨u5.heap.size, 1, none⟩ = some (.slice Ax1_1 d.nets.length mx1_1) ∧ w'.cell? ⟨u5.heap.size, 2, none⟩ = some (.slice Ax1_2 d.ports.length mx1_2) ∧ Grows wx8_1 w' := fun w' G => ⟨(G.cells.1 _ _ S0.out.lt).trans (S0.out.cell 0), (G.cells.1 _ _ S1.out.lt).trans (S1.out.cell 0), (G.cells.1 _ _ S1.out.lt).trans (S1.out.cell 1), (G.cells.1 _ _ S1.out.lt).trans (S1.out.cell 2), (G.cells.1 _ _ V0.out.lt).trans (V0.out.cell 0), (G.cells.1 _ _ V1.out.lt).trans (V1.out.cell 0), (G.cells.1 _ _ V1.out.lt).trans (V1.out.cell 1), (G.cells.1 _ _ V1.out.lt).trans (V1.out.cell 2), G⟩
  have HK := hideIt K0
  clear K0
  have gg : Grows wx8_1 wx8_1 := Grows.refl _
  refine wp_region_held_drew (S := (fun w' => w'.cell? ⟨w.heap.size, 0, none⟩ = some (l_0) ∧ w'.cell? ⟨w.heap.size + 1, 0, none⟩ = some (d_0) ∧ w'.cell? ⟨w.heap.size + 1, 1, none⟩ = some (d_1) ∧ w'.cell? ⟨w.heap.size + 1, 2, none⟩ = some (d_2) ∧ w'.cell? ⟨u4.heap.size, 0, none⟩ = some (.slice Ax0_0 l.cells.length mx0_0) ∧ w'.cell? ⟨u5.heap.size, 0, none⟩ = some (.slice Ax1_0 d.insts.length mx1_0) ∧ w'.cell? ⟨u5.heap.size, 1, none⟩ = some (.slice Ax1_1 d.nets.length mx1_1) ∧ w'.cell? ⟨u5.heap.size, 2, none⟩ = some (.slice Ax1_2 d.ports.length mx1_2) ∧ Grows wx8_1 w')) (by kernel_rfl) ?_ (fun hh0 => ?_)
  · (try dsimp only); refine HK.out _ ?_; (repeat (first | exact gg | refine Grows.drew ?_ | refine Grows.alloc ?_ _ | refine Grows.setCell ?_ (by simp <;> omega) _))
  refine regTake 0 (v := ?_) ?_ hh0 ?_
  rotate_left
  · intro w hw; (try dsimp only at hw); go_simp; (try with_reducible rfl)
  try simp only [Act.put, List.setIfInBounds_toArray, List.set_cons_zero, List.set_cons_succ]
  refine regTake 1 (v := ?_) ?_ hh0 ?_
  rotate_left
  · intro w hw; (try dsimp only at hw); go_simp; (try with_reducible rfl)
  try simp only [Act.put, List.setIfInBounds_toArray, List.set_cons_zero, List.set_cons_succ]
  refine regCall 2 (fun K hK => ?_)
  go_simp
  refine (toDesign_o _ (hr1.out.keep (Grows.keeps (by (repeat (first | exact gg | refine Grows.drew ?_ | refine Grows.alloc ?_ _ | refine Grows.setCell ?_ (by simp <;> omega) _))))) SM1.out).mono ?_
  rintro e wx9_0 ⟨z1_0, z1_1, z1_2, bs_z1, rfl, o, ow, g⟩
  have e1 := o.reads
  clear o ow
  replace e1 := hideIt e1
  replace gg : Grows wx8_1 wx9_0 := Grows.trans (by (repeat (first | exact gg | refine Grows.drew ?_ | refine Grows.alloc ?_ _ | refine Grows.setCell ?_ (by simp <;> omega) _))) g
  clear g
  (try go_wp2_with fail)
  refine hK.out _ _ ?_ (fun hh1 => ?_)
  · (try dsimp only); refine HK.out _ ?_; (repeat (first | exact gg | refine Grows.drew ?_ | refine Grows.alloc ?_ _ | refine Grows.setCell ?_ (by simp <;> omega) _))
  clear hK K hh0
  try simp only [Act.put, List.setIfInBounds_toArray, List.set_cons_zero, List.set_cons_succ]
  refine regCall 3 (fun K hK => ?_)
  go_simp
  refine (eqDesign_same _ (ox1.out.reads.keep (Grows.keeps (by (repeat (first | exact gg | refine Grows.drew ?_ | refine Grows.alloc ?_ _ | refine Grows.setCell ?_ (by simp <;> omega) _))))) (e1.out)).mono ?_
  rintro e wx9_1 ⟨rfl, g⟩
  replace e1 := hideIt (e1.out.keep g.keeps)
  replace gg : Grows wx8_1 wx9_1 := Grows.trans (by (repeat (first | exact gg | refine Grows.drew ?_ | refine Grows.alloc ?_ _ | refine Grows.setCell ?_ (by simp <;> omega) _))) g
  clear g
  (try go_wp2_with fail)
  refine hK.out _ _ ?_ (fun hh2 => ?_)
  · (try dsimp only); refine HK.out _ ?_; (repeat (first | exact gg | refine Grows.drew ?_ | refine Grows.alloc ?_ _ | refine Grows.setCell ?_ (by simp <;> omega) _))
  clear hK K hh1
  try simp only [Act.put, List.setIfInBounds_toArray, List.set_cons_zero, List.set_cons_succ]
  refine regTake 4 (v := ?_) ?_ hh2 ?_
  rotate_left
  · intro w hw; (try dsimp only at hw); go_simp; (try with_reducible rfl)
  try simp only [Act.put, List.setIfInBounds_toArray, List.set_cons_zero, List.set_cons_succ]
  refine wpAnyH_done (by kernel_rfl) ?_ _
  clear hh2 HK
  replace ox0 := hideIt (ox0.out.same ((SameOn.refl _ _).grows ox0.out.lt gg))
  replace ox1 := hideIt (ox1.out.same ((SameOn.refl _ _).grows ox1.out.lt gg))
  replace og := hideIt (og.out.same ((SameOn.refl _ _).grows og.out.lt gg))
  replace G := hideIt (G.out.trans gg)
  replace GA := hideIt (GA.out.trans gg)
  replace hr0 := hideIt (hr0.out.keep (Grows.keeps gg))
  replace hr1 := hideIt (hr1.out.keep (Grows.keeps gg))
  replace S0 := hideIt (S0.out.grows gg)
  replace S1 := hideIt (S1.out.grows gg)
  replace V0 := hideIt (V0.out.grows gg)
  replace V1 := hideIt (V1.out.grows gg)
  clear gg
  have kS0_0 : wx9_1.cell? ⟨w.heap.size, 0, none⟩ = some (l_0) := S0.out.cell 0
  have fS0 := S0.out.frozen
  have lS0 : w.heap.size < wx9_1.heap.size := S0.out.lt
  have kS1_0 : wx9_1.cell? ⟨w.heap.size + 1, 0, none⟩ = some (d_0) := S1.out.cell 0
  have kS1_1 : wx9_1.cell? ⟨w.heap.size + 1, 1, none⟩ = some (d_1) := S1.out.cell 1
  have kS1_2 : wx9_1.cell? ⟨w.heap.size + 1, 2, none⟩ = some (d_2) := S1.out.cell 2
  have fS1 := S1.out.frozen
  have lS1 : w.heap.size + 1 < wx9_1.heap.size := S1.out.lt
  have kV0_0 : wx9_1.cell? ⟨u4.heap.size, 0, none⟩ = some (.slice Ax0_0 l.cells.length mx0_0) := V0.out.cell 0
  have fV0 := V0.out.frozen
  have lV0 : u4.heap.size < wx9_1.heap.size := V0.out.lt
  have kV1_0 : wx9_1.cell? ⟨u5.heap.size, 0, none⟩ = some (.slice Ax1_0 d.insts.length mx1_0) := V1.out.cell 0
  have kV1_1 : wx9_1.cell? ⟨u5.heap.size, 1, none⟩ = some (.slice Ax1_1 d.nets.length mx1_1) := V1.out.cell 1
  have kV1_2 : wx9_1.cell? ⟨u5.heap.size, 2, none⟩ = some (.slice Ax1_2 d.ports.length mx1_2) := V1.out.cell 2
  have fV1 := V1.out.frozen
  have lV1 : u5.heap.size < wx9_1.heap.size := V1.out.lt
  clear e1
  go_wp2_with fail
  clear kS0_0 fS0 lS0 kS1_0 kS1_1 kS1_2 fS1 lS1 kV0_0 fV0 lV0 kV1_0 kV1_1 kV1_2 fV1 lV1
  refine (markLib_w 1 _ ox0.out ND_by0.out (by omega) (by omega) (by omega)).mono ?_
  rintro e u10 ⟨k0_, rfl, ka0, kb0, c⟩
  replace G := hideIt (G.out.chg c LB_G_by0.out)
  replace GA := hideIt (GA.out.chg c LB_GA_by0.out)
  clear hr0 hr1
  replace S0 := hideIt (S0.out.chg c NB_S0_by0.out)
  replace S1 := hideIt (S1.out.chg c NB_S1_by0.out)
  replace V0 := hideIt (V0.out.chg c NB_V0_by0.out)
  replace V1 := hideIt (V1.out.chg c NB_V1_by0.out)
  replace ox1 := hideIt (ox1.out.same (c.same ox1.out.lt (fun q hq hm => DJ_by0_by1.out q hm hq)))
  replace og := hideIt (og.out.same (c.same og.out.lt (fun q hq hm => DJ_by0_bs8.out q hm hq)))
  clear c ox0
  have kn0 : 0 ≤ k0_ := by omega
  have kS0_0 : u10.cell? ⟨w.heap.size, 0, none⟩ = some (l_0) := S0.out.cell 0
  have fS0 := S0.out.frozen
  have lS0 : w.heap.size < u10.heap.size := S0.out.lt
  have kS1_0 : u10.cell? ⟨w.heap.size + 1, 0, none⟩ = some (d_0) := S1.out.cell 0
  have kS1_1 : u10.cell? ⟨w.heap.size + 1, 1, none⟩ = some (d_1) := S1.out.cell 1
  have kS1_2 : u10.cell? ⟨w.heap.size + 1, 2, none⟩ = some (d_2) := S1.out.cell 2
  have fS1 := S1.out.frozen
  have lS1 : w.heap.size + 1 < u10.heap.size := S1.out.lt
  have kV0_0 : u10.cell? ⟨u4.heap.size, 0, none⟩ = some (.slice Ax0_0 l.cells.length mx0_0) := V0.out.cell 0
  have fV0 := V0.out.frozen
  have lV0 : u4.heap.size < u10.heap.size := V0.out.lt
  have kV1_0 : u10.cell? ⟨u5.heap.size, 0, none⟩ = some (.slice Ax1_0 d.insts.length mx1_0) := V1.out.cell 0
  have kV1_1 : u10.cell? ⟨u5.heap.size, 1, none⟩ = some (.slice Ax1_1 d.nets.length mx1_1) := V1.out.cell 1
  have kV1_2 : u10.cell? ⟨u5.heap.size, 2, none⟩ = some (.slice Ax1_2 d.ports.length mx1_2) := V1.out.cell 2
  have fV1 := V1.out.frozen
  have lV1 : u5.heap.size < u10.heap.size := V1.out.lt
  go_wp2_with fail
  clear kS0_0 fS0 lS0 kS1_0 kS1_1 kS1_2 fS1 lS1 kV0_0 fV0 lV0 kV1_0 kV1_1 kV1_2 fV1 lV1
  refine (markDesign_w _ _ ox1.out ND_by1.out (by omega) (by omega) (by omega)).mono ?_
  rintro e u11 ⟨k1_, rfl, ka1, kb1, c⟩
  replace G := hideIt (G.out.chg c LB_G_by1.out)
  replace GA := hideIt (GA.out.chg c LB_GA_by1.out)
  replace S0 := hideIt (S0.out.chg c NB_S0_by1.out)
  replace S1 := hideIt (S1.out.chg c NB_S1_by1.out)
  replace V0 := hideIt (V0.out.chg c NB_V0_by1.out)
  replace V1 := hideIt (V1.out.chg c NB_V1_by1.out)
  replace og := hideIt (og.out.same (c.same og.out.lt (fun q hq hm => DJ_by1_bs8.out q hm hq)))
  clear c ox1
  have kn1 : 0 ≤ k1_ := by omega
  have kS0_0 : u11.cell? ⟨w.heap.size, 0, none⟩ = some (l_0) := S0.out.cell 0
  have fS0 := S0.out.frozen
  have lS0 : w.heap.size < u11.heap.size := S0.out.lt
  have kS1_0 : u11.cell? ⟨w.heap.size + 1, 0, none⟩ = some (d_0) := S1.out.cell 0
  have kS1_1 : u11.cell? ⟨w.heap.size + 1, 1, none⟩ = some (d_1) := S1.out.cell 1
  have kS1_2 : u11.cell? ⟨w.heap.size + 1, 2, none⟩ = some (d_2) := S1.out.cell 2
  have fS1 := S1.out.frozen
  have lS1 : w.heap.size + 1 < u11.heap.size := S1.out.lt
  have kV0_0 : u11.cell? ⟨u4.heap.size, 0, none⟩ = some (.slice Ax0_0 l.cells.length mx0_0) := V0.out.cell 0
  have fV0 := V0.out.frozen
  have lV0 : u4.heap.size < u11.heap.size := V0.out.lt
  have kV1_0 : u11.cell? ⟨u5.heap.size, 0, none⟩ = some (.slice Ax1_0 d.insts.length mx1_0) := V1.out.cell 0
  have kV1_1 : u11.cell? ⟨u5.heap.size, 1, none⟩ = some (.slice Ax1_1 d.nets.length mx1_1) := V1.out.cell 1
  have kV1_2 : u11.cell? ⟨u5.heap.size, 2, none⟩ = some (.slice Ax1_2 d.ports.length mx1_2) := V1.out.cell 2
  have fV1 := V1.out.frozen
  have lV1 : u5.heap.size < u11.heap.size := V1.out.lt
  go_wp2_with fail
  clear kS0_0 fS0 lS0 kS1_0 kS1_1 kS1_2 fS1 lS1 kV0_0 fV0 lV0 kV1_0 kV1_1 kV1_2 fV1 lV1
  refine (eqInts_same _ og.out.reads (r9.out.keep GA.out.keeps)).mono ?_
  rintro e u12 ⟨rfl, g⟩
  replace G := hideIt (G.out.trans g)
  replace GA := hideIt (GA.out.trans g)
  replace og := hideIt (og.out.same ((SameOn.refl _ _).grows og.out.lt g))
  replace S0 := hideIt (S0.out.grows g)
  replace S1 := hideIt (S1.out.grows g)
  replace V0 := hideIt (V0.out.grows g)
  replace V1 := hideIt (V1.out.grows g)
  clear g
  have kS0_0 : u12.cell? ⟨w.heap.size, 0, none⟩ = some (l_0) := S0.out.cell 0
  have fS0 := S0.out.frozen
  have lS0 : w.heap.size < u12.heap.size := S0.out.lt
  have kS1_0 : u12.cell? ⟨w.heap.size + 1, 0, none⟩ = some (d_0) := S1.out.cell 0
  have kS1_1 : u12.cell? ⟨w.heap.size + 1, 1, none⟩ = some (d_1) := S1.out.cell 1
  have kS1_2 : u12.cell? ⟨w.heap.size + 1, 2, none⟩ = some (d_2) := S1.out.cell 2
  have fS1 := S1.out.frozen
  have lS1 : w.heap.size + 1 < u12.heap.size := S1.out.lt
  have kV0_0 : u12.cell? ⟨u4.heap.size, 0, none⟩ = some (.slice Ax0_0 l.cells.length mx0_0) := V0.out.cell 0
  have fV0 := V0.out.frozen
  have lV0 : u4.heap.size < u12.heap.size := V0.out.lt
  have kV1_0 : u12.cell? ⟨u5.heap.size, 0, none⟩ = some (.slice Ax1_0 d.insts.length mx1_0) := V1.out.cell 0
  have kV1_1 : u12.cell? ⟨u5.heap.size, 1, none⟩ = some (.slice Ax1_1 d.nets.length mx1_1) := V1.out.cell 1
  have kV1_2 : u12.cell? ⟨u5.heap.size, 2, none⟩ = some (.slice Ax1_2 d.ports.length mx1_2) := V1.out.cell 2
  have fV1 := V1.out.frozen
  have lV1 : u5.heap.size < u12.heap.size := V1.out.lt
  go_wp2_with fail
  clear kS0_0 fS0 lS0 kS1_0 kS1_1 kS1_2 fS1 lS1 kV0_0 fV0 lV0 kV1_0 kV1_1 kV1_2 fV1 lV1
  refine (markInts_any 1 _ og.out HXS.out (by omega) (by omega)).mono ?_
  rintro e u13 ⟨rfl, o, c⟩
  replace G := hideIt (G.out.chg c LB_G_bs8.out)
  replace GA := hideIt (GA.out.chg c LB_GA_bs8.out)
  replace S0 := hideIt (S0.out.chg c NB_S0_bs8.out)
  replace S1 := hideIt (S1.out.chg c NB_S1_bs8.out)
  replace V0 := hideIt (V0.out.chg c NB_V0_bs8.out)
  replace V1 := hideIt (V1.out.chg c NB_V1_bs8.out)
  replace og := hideIt o
  clear o c
  have kS0_0 : u13.cell? ⟨w.heap.size, 0, none⟩ = some (l_0) := S0.out.cell 0
  have fS0 := S0.out.frozen
  have lS0 : w.heap.size < u13.heap.size := S0.out.lt
  have kS1_0 : u13.cell? ⟨w.heap.size + 1, 0, none⟩ = some (d_0) := S1.out.cell 0
  have kS1_1 : u13.cell? ⟨w.heap.size + 1, 1, none⟩ = some (d_1) := S1.out.cell 1
  have kS1_2 : u13.cell? ⟨w.heap.size + 1, 2, none⟩ = some (d_2) := S1.out.cell 2
  have fS1 := S1.out.frozen
  have lS1 : w.heap.size + 1 < u13.heap.size := S1.out.lt
  have kV0_0 : u13.cell? ⟨u4.heap.size, 0, none⟩ = some (.slice Ax0_0 l.cells.length mx0_0) := V0.out.cell 0
  have fV0 := V0.out.frozen
  have lV0 : u4.heap.size < u13.heap.size := V0.out.lt
  have kV1_0 : u13.cell? ⟨u5.heap.size, 0, none⟩ = some (.slice Ax1_0 d.insts.length mx1_0) := V1.out.cell 0
  have kV1_1 : u13.cell? ⟨u5.heap.size, 1, none⟩ = some (.slice Ax1_1 d.nets.length mx1_1) := V1.out.cell 1
  have kV1_2 : u13.cell? ⟨u5.heap.size, 2, none⟩ = some (.slice Ax1_2 d.ports.length mx1_2) := V1.out.cell 2
  have fV1 := V1.out.frozen
  have lV1 : u5.heap.size < u13.heap.size := V1.out.lt
  go_wp2_with fail
  clear kS0_0 fS0 lS0 kS1_0 kS1_1 kS1_2 fS1 lS1 kV0_0 fV0 lV0 kV1_0 kV1_1 kV1_2 fV1 lV1
  refine (heldInts_any 1 _ og.out.reads hxl (by omega) (by omega)).mono ?_
  rintro e u14 ⟨rfl, g⟩
  replace G := hideIt (G.out.trans g)
  replace GA := hideIt (GA.out.trans g)
  replace og := hideIt (og.out.same ((SameOn.refl _ _).grows og.out.lt g))
  replace S0 := hideIt (S0.out.grows g)
  replace S1 := hideIt (S1.out.grows g)
  replace V0 := hideIt (V0.out.grows g)
  replace V1 := hideIt (V1.out.grows g)
  clear g
  have kS0_0 : u14.cell? ⟨w.heap.size, 0, none⟩ = some (l_0) := S0.out.cell 0
  have fS0 := S0.out.frozen
  have lS0 : w.heap.size < u14.heap.size := S0.out.lt
  have kS1_0 : u14.cell? ⟨w.heap.size + 1, 0, none⟩ = some (d_0) := S1.out.cell 0
  have kS1_1 : u14.cell? ⟨w.heap.size + 1, 1, none⟩ = some (d_1) := S1.out.cell 1
  have kS1_2 : u14.cell? ⟨w.heap.size + 1, 2, none⟩ = some (d_2) := S1.out.cell 2
  have fS1 := S1.out.frozen
  have lS1 : w.heap.size + 1 < u14.heap.size := S1.out.lt
  have kV0_0 : u14.cell? ⟨u4.heap.size, 0, none⟩ = some (.slice Ax0_0 l.cells.length mx0_0) := V0.out.cell 0
  have fV0 := V0.out.frozen
  have lV0 : u4.heap.size < u14.heap.size := V0.out.lt
  have kV1_0 : u14.cell? ⟨u5.heap.size, 0, none⟩ = some (.slice Ax1_0 d.insts.length mx1_0) := V1.out.cell 0
  have kV1_1 : u14.cell? ⟨u5.heap.size, 1, none⟩ = some (.slice Ax1_1 d.nets.length mx1_1) := V1.out.cell 1
  have kV1_2 : u14.cell? ⟨u5.heap.size, 2, none⟩ = some (.slice Ax1_2 d.ports.length mx1_2) := V1.out.cell 2
  have fV1 := V1.out.frozen
  have lV1 : u5.heap.size < u14.heap.size := V1.out.lt
  have hr0 := hideIt (HA0.out.keep GA.out.keeps)
  have hr1 := hideIt (HA1.out.keep GA.out.keeps)
  go_wp2_with fail
  clear kS0_0 fS0 lS0 kS1_0 kS1_1 kS1_2 fS1 lS1 kV0_0 fV0 lV0 kV1_0 kV1_1 kV1_2 fV1 lV1
  have K0 : ∀ w', Grows u14 w' → w'.cell? ⟨w.heap.size, 0, none⟩ = some (l_0) ∧ w'.cell? ⟨w.heap.size + 1, 0, none⟩ = some (d_0) ∧ w'.cell? ⟨w.heap.size + 1, 1, none⟩ = some (d_1) ∧ w'.cell? ⟨w.heap.size + 1, 2, none⟩ = some (d_2) ∧ w'.cell? ⟨u4.heap.size, 0, none⟩ = some (.slice Ax0_0 l.cells.length mx0_0) ∧ w'.cell? ⟨u5.heap.size, 0, none⟩ = some (.slice Ax1_0 d.insts.length mx1_0) ∧ w'.cell? ⟨u5.heap.size, 1, none⟩ = some (.slice Ax1_1 d.nets.length mx1_1) ∧ w'.cell? ⟨u5.heap.size, 2, none⟩ = some (.slice Ax1_2 d.ports.length mx1_2) ∧ Grows u14 w' := fun w' G => ⟨(G.cells.1 _ _ S0.out.lt).trans (S0.out.cell 0), (G.cells.1 _ _ S1.out.lt).trans (S1.out.cell 0), (G.cells.1 _ _ S1.out.lt).trans (S1.out.cell 1), (G.cells.1 _ _ S1.out.lt).trans (S1.out.cell 2), (G.cells.1 _ _ V0.out.lt).trans (V0.out.cell 0), (G.cells.1 _ _ V1.out.lt).trans (V1.out.cell 0), (G.cells.1 _ _ V1.out.lt).trans (V1.out.cell 1), (G.cells.1 _ _ V1.out.lt).trans (V1.out.cell 2), G⟩
  have HK := hideIt K0
  clear K0
  have gg : Grows u14 u14 := Grows.refl _
  refine wp_region_held_drew (S := (fun w' => w'.cell? ⟨w.heap.size, 0, none⟩ = some (l_0) ∧ w'.cell? ⟨w.heap.size + 1, 0, none⟩ = some (d_0) ∧ w'.cell? ⟨w.heap.size + 1, 1, none⟩ = some (d_1) ∧ w'.cell? ⟨w.heap.size + 1, 2, none⟩ = some (d_2) ∧ w'.cell? ⟨u4.heap.size, 0, none⟩ = some (.slice Ax0_0 l.cells.length mx0_0) ∧ w'.cell? ⟨u5.heap.size, 0, none⟩ = some (.slice Ax1_0 d.insts.length mx1_0) ∧ w'.cell? ⟨u5.heap.size, 1, none⟩ = some (.slice Ax1_1 d.nets.length mx1_1) ∧ w'.cell? ⟨u5.heap.size, 2, none⟩ = some (.slice Ax1_2 d.ports.length mx1_2) ∧ Grows u14 w')) (by kernel_rfl) ?_ (fun hh0 => ?_)
  · (try dsimp only); refine HK.out _ ?_; (repeat (first | exact gg | refine Grows.drew ?_ | refine Grows.alloc ?_ _ | refine Grows.setCell ?_ (by simp <;> omega) _))
  refine regTake 0 (v := ?_) ?_ hh0 ?_
  rotate_left
  · intro w hw; (try dsimp only at hw); go_simp; (try with_reducible rfl)
  try simp only [Act.put, List.setIfInBounds_toArray, List.set_cons_zero, List.set_cons_succ]
  refine regTake 2 (v := ?_) ?_ hh0 ?_
  rotate_left
  · intro w hw; (try dsimp only at hw); go_simp; (try with_reducible rfl)
  try simp only [Act.put, List.setIfInBounds_toArray, List.set_cons_zero, List.set_cons_succ]
  refine regTake 4 (v := ?_) ?_ hh0 ?_
  rotate_left
  · intro w hw; (try dsimp only at hw); go_simp; (try with_reducible rfl)
  try simp only [Act.put, List.setIfInBounds_toArray, List.set_cons_zero, List.set_cons_succ]
  refine regCall 1 (fun K hK => ?_)
  go_simp
  refine (toLib_o _ (hr0.out.keep (Grows.keeps (by (repeat (first | exact gg | refine Grows.drew ?_ | refine Grows.alloc ?_ _ | refine Grows.setCell ?_ (by simp <;> omega) _))))) SM0.out).mono ?_
  rintro e wx15_0 ⟨t0_0, bs_t0, rfl, o, ow, g⟩
  have j0 := o.reads
  clear o ow
  replace j0 := hideIt j0
  replace gg : Grows u14 wx15_0 := Grows.trans (by (repeat (first | exact gg | refine Grows.drew ?_ | refine Grows.alloc ?_ _ | refine Grows.setCell ?_ (by simp <;> omega) _))) g
  clear g
  (try go_wp2_with fail)
  refine hK.out _ _ ?_ (fun hh1 => ?_)
  · (try dsimp only); refine HK.out _ ?_; (repeat (first | exact gg | refine Grows.drew ?_ | refine Grows.alloc ?_ _ | refine Grows.setCell ?_ (by simp <;> omega) _))
  clear hK K hh0
  try simp only [Act.put, List.setIfInBounds_toArray, List.set_cons_zero, List.set_cons_succ]
  refine regCall 3 (fun K hK => ?_)
  go_simp
  refine (toDesign_o _ (hr1.out.keep (Grows.keeps (by (repeat (first | exact gg | refine Grows.drew ?_ | refine Grows.alloc ?_ _ | refine Grows.setCell ?_ (by simp <;> omega) _))))) SM1.out).mono ?_
  rintro e wx15_1 ⟨t1_0, t1_1, t1_2, bs_t1, rfl, o, ow, g⟩
  replace j0 := hideIt (j0.out.keep g.keeps)
  have j1 := o.reads
  clear o ow
  replace j1 := hideIt j1
  replace gg : Grows u14 wx15_1 := Grows.trans (by (repeat (first | exact gg | refine Grows.drew ?_ | refine Grows.alloc ?_ _ | refine Grows.setCell ?_ (by simp <;> omega) _))) g
  clear g
  (try go_wp2_with fail)
  refine hK.out _ _ ?_ (fun hh2 => ?_)
  · (try dsimp only); refine HK.out _ ?_; (repeat (first | exact gg | refine Grows.drew ?_ | refine Grows.alloc ?_ _ | refine Grows.setCell ?_ (by simp <;> omega) _))
  clear hK K hh1
  try simp only [Act.put, List.setIfInBounds_toArray, List.set_cons_zero, List.set_cons_succ]
  refine regCall 5 (fun K hK => ?_)
  go_simp
  refine (iSinksOf_any p _ (j0.out).parts (j1.out) SM0.out SM1.out).mono ?_
  rintro e wx15_2 ⟨A7, c7, bs7, rfl, o, ow, g⟩
  replace j0 := hideIt (j0.out.keep g.keeps)
  replace j1 := hideIt (j1.out.keep g.keeps)
  have r7 := o.reads
  clear o ow
  replace r7 := hideIt r7
  replace gg : Grows u14 wx15_2 := Grows.trans (by (repeat (first | exact gg | refine Grows.drew ?_ | refine Grows.alloc ?_ _ | refine Grows.setCell ?_ (by simp <;> omega) _))) g
  clear g
  (try go_wp2_with fail)
  refine hK.out _ _ ?_ (fun hh3 => ?_)
  · (try dsimp only); refine HK.out _ ?_; (repeat (first | exact gg | refine Grows.drew ?_ | refine Grows.alloc ?_ _ | refine Grows.setCell ?_ (by simp <;> omega) _))
  clear hK K hh2
  try simp only [Act.put, List.setIfInBounds_toArray, List.set_cons_zero, List.set_cons_succ]
  refine regTake 6 (v := ?_) ?_ hh3 ?_
  rotate_left
  · intro w hw; (try dsimp only at hw); go_simp; (try with_reducible rfl)
  try simp only [Act.put, List.setIfInBounds_toArray, List.set_cons_zero, List.set_cons_succ]
  refine wpAnyH_done (by kernel_rfl) ?_ _
  clear hh3 HK
  replace og := hideIt (og.out.same ((SameOn.refl _ _).grows og.out.lt gg))
  replace G := hideIt (G.out.trans gg)
  replace GA := hideIt (GA.out.trans gg)
  replace hr0 := hideIt (hr0.out.keep (Grows.keeps gg))
  replace hr1 := hideIt (hr1.out.keep (Grows.keeps gg))
  replace S0 := hideIt (S0.out.grows gg)
  replace S1 := hideIt (S1.out.grows gg)
  replace V0 := hideIt (V0.out.grows gg)
  replace V1 := hideIt (V1.out.grows gg)
  clear gg
  have kS0_0 : wx15_2.cell? ⟨w.heap.size, 0, none⟩ = some (l_0) := S0.out.cell 0
  have fS0 := S0.out.frozen
  have lS0 : w.heap.size < wx15_2.heap.size := S0.out.lt
  have kS1_0 : wx15_2.cell? ⟨w.heap.size + 1, 0, none⟩ = some (d_0) := S1.out.cell 0
  have kS1_1 : wx15_2.cell? ⟨w.heap.size + 1, 1, none⟩ = some (d_1) := S1.out.cell 1
  have kS1_2 : wx15_2.cell? ⟨w.heap.size + 1, 2, none⟩ = some (d_2) := S1.out.cell 2
  have fS1 := S1.out.frozen
  have lS1 : w.heap.size + 1 < wx15_2.heap.size := S1.out.lt
  have kV0_0 : wx15_2.cell? ⟨u4.heap.size, 0, none⟩ = some (.slice Ax0_0 l.cells.length mx0_0) := V0.out.cell 0
  have fV0 := V0.out.frozen
  have lV0 : u4.heap.size < wx15_2.heap.size := V0.out.lt
  have kV1_0 : wx15_2.cell? ⟨u5.heap.size, 0, none⟩ = some (.slice Ax1_0 d.insts.length mx1_0) := V1.out.cell 0
  have kV1_1 : wx15_2.cell? ⟨u5.heap.size, 1, none⟩ = some (.slice Ax1_1 d.nets.length mx1_1) := V1.out.cell 1
  have kV1_2 : wx15_2.cell? ⟨u5.heap.size, 2, none⟩ = some (.slice Ax1_2 d.ports.length mx1_2) := V1.out.cell 2
  have fV1 := V1.out.frozen
  have lV1 : u5.heap.size < wx15_2.heap.size := V1.out.lt
  clear j0 j1
  go_wp2_with fail
  clear kS0_0 fS0 lS0 kS1_0 kS1_1 kS1_2 fS1 lS1 kV0_0 fV0 lV0 kV1_0 kV1_1 kV1_2 fV1 lV1
  refine (eqInts_same _ r7.out (r9.out.keep GA.out.keeps)).mono ?_
  rintro e u16 ⟨rfl, g⟩
  replace G := hideIt (G.out.trans g)
  replace GA := hideIt (GA.out.trans g)
  replace hr0 := hideIt (hr0.out.keep g.keeps)
  replace hr1 := hideIt (hr1.out.keep g.keeps)
  replace og := hideIt (og.out.same ((SameOn.refl _ _).grows og.out.lt g))
  replace S0 := hideIt (S0.out.grows g)
  replace S1 := hideIt (S1.out.grows g)
  replace V0 := hideIt (V0.out.grows g)
  replace V1 := hideIt (V1.out.grows g)
  clear g
  have kS0_0 : u16.cell? ⟨w.heap.size, 0, none⟩ = some (l_0) := S0.out.cell 0
  have fS0 := S0.out.frozen
  have lS0 : w.heap.size < u16.heap.size := S0.out.lt
  have kS1_0 : u16.cell? ⟨w.heap.size + 1, 0, none⟩ = some (d_0) := S1.out.cell 0
  have kS1_1 : u16.cell? ⟨w.heap.size + 1, 1, none⟩ = some (d_1) := S1.out.cell 1
  have kS1_2 : u16.cell? ⟨w.heap.size + 1, 2, none⟩ = some (d_2) := S1.out.cell 2
  have fS1 := S1.out.frozen
  have lS1 : w.heap.size + 1 < u16.heap.size := S1.out.lt
  have kV0_0 : u16.cell? ⟨u4.heap.size, 0, none⟩ = some (.slice Ax0_0 l.cells.length mx0_0) := V0.out.cell 0
  have fV0 := V0.out.frozen
  have lV0 : u4.heap.size < u16.heap.size := V0.out.lt
  have kV1_0 : u16.cell? ⟨u5.heap.size, 0, none⟩ = some (.slice Ax1_0 d.insts.length mx1_0) := V1.out.cell 0
  have kV1_1 : u16.cell? ⟨u5.heap.size, 1, none⟩ = some (.slice Ax1_1 d.nets.length mx1_1) := V1.out.cell 1
  have kV1_2 : u16.cell? ⟨u5.heap.size, 2, none⟩ = some (.slice Ax1_2 d.ports.length mx1_2) := V1.out.cell 2
  have fV1 := V1.out.frozen
  have lV1 : u5.heap.size < u16.heap.size := V1.out.lt
  go_wp2_with fail
  clear kS0_0 fS0 lS0 kS1_0 kS1_1 kS1_2 fS1 lS1 kV0_0 fV0 lV0 kV1_0 kV1_1 kV1_2 fV1 lV1
  refine (heldInts_any 1 _ og.out.reads hxl (by omega) (by omega)).mono ?_
  rintro e u17 ⟨rfl, g⟩
  replace G := hideIt (G.out.trans g)
  replace GA := hideIt (GA.out.trans g)
  replace hr0 := hideIt (hr0.out.keep g.keeps)
  replace hr1 := hideIt (hr1.out.keep g.keeps)
  replace og := hideIt (og.out.same ((SameOn.refl _ _).grows og.out.lt g))
  replace S0 := hideIt (S0.out.grows g)
  replace S1 := hideIt (S1.out.grows g)
  replace V0 := hideIt (V0.out.grows g)
  replace V1 := hideIt (V1.out.grows g)
  clear g
  have kS0_0 : u17.cell? ⟨w.heap.size, 0, none⟩ = some (l_0) := S0.out.cell 0
  have fS0 := S0.out.frozen
  have lS0 : w.heap.size < u17.heap.size := S0.out.lt
  have kS1_0 : u17.cell? ⟨w.heap.size + 1, 0, none⟩ = some (d_0) := S1.out.cell 0
  have kS1_1 : u17.cell? ⟨w.heap.size + 1, 1, none⟩ = some (d_1) := S1.out.cell 1
  have kS1_2 : u17.cell? ⟨w.heap.size + 1, 2, none⟩ = some (d_2) := S1.out.cell 2
  have fS1 := S1.out.frozen
  have lS1 : w.heap.size + 1 < u17.heap.size := S1.out.lt
  have kV0_0 : u17.cell? ⟨u4.heap.size, 0, none⟩ = some (.slice Ax0_0 l.cells.length mx0_0) := V0.out.cell 0
  have fV0 := V0.out.frozen
  have lV0 : u4.heap.size < u17.heap.size := V0.out.lt
  have kV1_0 : u17.cell? ⟨u5.heap.size, 0, none⟩ = some (.slice Ax1_0 d.insts.length mx1_0) := V1.out.cell 0
  have kV1_1 : u17.cell? ⟨u5.heap.size, 1, none⟩ = some (.slice Ax1_1 d.nets.length mx1_1) := V1.out.cell 1
  have kV1_2 : u17.cell? ⟨u5.heap.size, 2, none⟩ = some (.slice Ax1_2 d.ports.length mx1_2) := V1.out.cell 2
  have fV1 := V1.out.frozen
  have lV1 : u5.heap.size < u17.heap.size := V1.out.lt
  go_wp2
  go_ret
  exact ⟨rfl, G.out.below⟩
end Go.Proofs.YtphdlidoehagbaaGreatDoor
