/-
  The walk of FnExactReadDesign.
-/
import Derived.Test.YtocahjbmnkadjaaGreatDoorGJ
import Derived.Test.YtocahjbmnkadjaaGreatDoorRI
import Derived.Test.YtocahjbmnkadjaaGreatDoorMarkL
import Derived.Test.YtocahjbmnkadjaaGreatDoorMarkV
import Derived.Test.YtocahjbmnkadjaaGreatDoorGC
import Derived.Test.YtocahjbmnkadjaaGreatDoorGD
import Derived.Test.YtocahjbmnkadjaaGreatDoorGF
namespace Go.Proofs.YtocahjbmnkadjaaGreatDoor
open Go.RowKit
set_option maxHeartbeats 16000000 in
set_option maxRecDepth 10000 in
theorem walk_FnExactReadDesign {l : LibD} {v0 : Value} {w : World} (h0 : ∃ l_0 : Value, v0 = .agg #[l_0] ∧ RLib w [l_0] l) {s : ByteArray} (hs : s.size ≤ maxLen) (hm : TM w) :
    Calls Tryz.prog 3 #[v0, .string s] w fun e w' => e = .returned (.bool true) ∧ Below w.heap.size w w' := by
  obtain ⟨l_0, rfl, hr0⟩ := h0
  have zs : (s.size : Int) ≤ 9223372036854775807 := by unfold maxLen at hs; omega
  have HM := hideIt hm
  clear hm hs
  by_cases hz : s.size > 1048576
  · have G9 := hideIt ((Grows.refl w).alloc (.cells #[l_0] 24))
    clear hr0
    go_enter Tryz.func3, Tryz.ntmps3
    go_wp2
    go_ret
    exact ⟨rfl, G9.out.below⟩
  have hz2 : s.size ≤ 1048576 := by omega
  obtain ⟨d, hd⟩ : ∃ d, readD l.cells s = d := ⟨_, rfl⟩
  obtain ⟨cd, hcd⟩ : ∃ cd, codeR l.cells s = cd := ⟨_, rfl⟩
  have FW := hideIt (readD_few hd)
  have HD := hideIt hd
  have HCD := hideIt hcd
  have cn1 := few_cn FW.out
  have cn2 : 0 ≤ (cnD d : Int) := by omega
  clear hd hcd
  have g : Grows w w := Grows.refl w
  have G : Hid (Grows w (w.alloc (.cells #[l_0] 24))) := hideIt ((Grows.refl w).alloc _)
  clear g
  have S0 : Hid (Blk (w.alloc (.cells #[l_0] 24)) (w.heap.size) 24 #[l_0]) := by
    have := (Blk.new w 24 #[l_0]).grows (Grows.refl (w.alloc (.cells #[l_0] 24)))
    exact hideIt (by simpa using this)
  replace hr0 := hideIt (hr0.keep G.out.keeps)
  go_enter Tryz.func3, Tryz.ntmps3
  go_wp2_with fail
  refine (szLib_w _ _ hr0.out (by omega) (by omega)).mono ?_
  rintro e u1 ⟨l0, rfl, b0, c0, sm0, g⟩
  replace G := hideIt (G.out.trans g)
  replace hr0 := hideIt (hr0.out.keep g.keeps)
  replace S0 := hideIt (S0.out.grows g)
  have SM0 := hideIt sm0
  clear sm0
  clear g
  have kS0_0 : u1.cell? ⟨w.heap.size, 0, none⟩ = some (l_0) := S0.out.cell 0
  have fS0 := S0.out.frozen
  have lS0 : w.heap.size < u1.heap.size := S0.out.lt
  by_cases n0 : l0 < 0
  · go_wp2
    go_ret
    exact ⟨rfl, G.out.below⟩
  have WT0 := (SM0.out (by omega)).2
  replace SM0 := hideIt (SM0.out (by omega)).1
  go_wp2_with fail
  clear kS0_0 fS0 lS0
  refine (toLib_o _ hr0.out SM0.out).mono ?_
  rintro e u2 ⟨p0_0, bs_p0, rfl, o, ow, g⟩
  replace G := hideIt (G.out.trans g)
  replace hr0 := hideIt (hr0.out.keep g.keeps)
  replace S0 := hideIt (S0.out.grows g)
  have q0 := o.reads
  clear o ow
  clear g
  have kS0_0 : u2.cell? ⟨w.heap.size, 0, none⟩ = some (l_0) := S0.out.cell 0
  have fS0 := S0.out.frozen
  have lS0 : w.heap.size < u2.heap.size := S0.out.lt
  replace q0 := hideIt q0
  go_wp2_with fail
  clear kS0_0 fS0 lS0
  refine (sR_any _ HD.out HCD.out q0.out.parts hz2).mono ?_
  rintro e u3 ⟨Aa, pa, Ba, qa, Ca, ra, rfl, rr, g⟩
  replace G := hideIt (G.out.trans g)
  replace hr0 := hideIt (hr0.out.keep g.keeps)
  replace q0 := hideIt (q0.out.keep g.keeps)
  replace S0 := hideIt (S0.out.grows g)
  have r0_ := rr
  clear rr
  clear g
  have kS0_0 : u3.cell? ⟨w.heap.size, 0, none⟩ = some (l_0) := S0.out.cell 0
  have fS0 := S0.out.frozen
  have lS0 : w.heap.size < u3.heap.size := S0.out.lt
  replace r0_ := hideIt r0_
  have gl : Grows u3 (u3.alloc (.cells #[.slice Aa d.insts.length pa, .slice Ba d.nets.length qa, .slice Ca d.ports.length ra] 30)) := (Grows.refl _).alloc _
  replace G := hideIt (G.out.trans gl)
  replace hr0 := hideIt (hr0.out.keep gl.keeps)
  replace q0 := hideIt (q0.out.keep gl.keeps)
  replace r0_ := hideIt (r0_.out.keep gl.keeps)
  replace S0 := hideIt (S0.out.grows gl)
  have V0 := hideIt (Blk.new u3 30 #[.slice Aa d.insts.length pa, .slice Ba d.nets.length qa, .slice Ca d.ports.length ra])
  clear gl
  clear q0
  have GA : Hid (Grows (u3.alloc (.cells #[.slice Aa d.insts.length pa, .slice Ba d.nets.length qa, .slice Ca d.ports.length ra] 30)) (u3.alloc (.cells #[.slice Aa d.insts.length pa, .slice Ba d.nets.length qa, .slice Ca d.ports.length ra] 30))) := hideIt (Grows.refl _)
  have HA0 := hr0
  go_wp2_with fail
  clear kS0_0 fS0 lS0
  refine (toLib_o _ hr0.out SM0.out).mono ?_
  rintro e u4 ⟨y0_0, by0, rfl, ox0, wx0, g⟩
  have LB_G_by0 : Hid (∀ q ∈ by0, (w).heap.size ≤ q) := hideIt fun q hq => Nat.le_trans G.out.size (wx0.2 q hq).1
  have LB_GA_by0 : Hid (∀ q ∈ by0, ((u3.alloc (.cells #[.slice Aa d.insts.length pa, .slice Ba d.nets.length qa, .slice Ca d.ports.length ra] 30))).heap.size ≤ q) := hideIt fun q hq => Nat.le_trans GA.out.size (wx0.2 q hq).1
  have NB_S0_by0 : Hid ((w.heap.size) ∉ by0) := hideIt fun hm => Nat.lt_irrefl _ (Nat.lt_of_lt_of_le S0.out.lt (wx0.2 _ hm).1)
  have NB_V0_by0 : Hid ((u3.heap.size) ∉ by0) := hideIt fun hm => Nat.lt_irrefl _ (Nat.lt_of_lt_of_le V0.out.lt (wx0.2 _ hm).1)
  have ND_by0 := hideIt wx0.1
  replace G := hideIt (G.out.trans g)
  replace GA := hideIt (GA.out.trans g)
  replace hr0 := hideIt (hr0.out.keep g.keeps)
  replace S0 := hideIt (S0.out.grows g)
  replace V0 := hideIt (V0.out.grows g)
  replace ox0 := hideIt ox0
  clear wx0
  obtain ⟨Ax0, mx0, rfl⟩ := ox0.out.shape
  clear g
  have kS0_0 : u4.cell? ⟨w.heap.size, 0, none⟩ = some (l_0) := S0.out.cell 0
  have fS0 := S0.out.frozen
  have lS0 : w.heap.size < u4.heap.size := S0.out.lt
  have kV0_0 : u4.cell? ⟨u3.heap.size, 0, none⟩ = some (.slice Aa d.insts.length pa) := V0.out.cell 0
  have kV0_1 : u4.cell? ⟨u3.heap.size, 1, none⟩ = some (.slice Ba d.nets.length qa) := V0.out.cell 1
  have kV0_2 : u4.cell? ⟨u3.heap.size, 2, none⟩ = some (.slice Ca d.ports.length ra) := V0.out.cell 2
  have fV0 := V0.out.frozen
  have lV0 : u3.heap.size < u4.heap.size := V0.out.lt
  have NB_VX_by0 : Hid (u4.heap.size ∉ by0) := hideIt fun hm => Nat.lt_irrefl _ (ox0.out.lt _ hm)
  have gl : Grows u4 (u4.alloc (.cells #[.slice Ax0 l.cells.length mx0] 35)) := (Grows.refl _).alloc _
  replace G := hideIt (G.out.trans gl)
  replace GA := hideIt (GA.out.trans gl)
  replace hr0 := hideIt (hr0.out.keep gl.keeps)
  replace ox0 := hideIt (ox0.out.same ((SameOn.refl _ _).grows ox0.out.lt gl))
  replace S0 := hideIt (S0.out.grows gl)
  replace V0 := hideIt (V0.out.grows gl)
  have VX := hideIt (Blk.new u4 35 #[.slice Ax0 l.cells.length mx0])
  clear gl
  go_wp2_with fail
  clear kS0_0 fS0 lS0 kV0_0 kV0_1 kV0_2 fV0 lV0
  refine (iR_any _ HD.out HCD.out ox0.out.reads.parts SM0.out hz2 (HM.out.keep G.out)).mono ?_
  rintro e u5 ⟨Ab, pb, Bb, qb, Cb, rb, bs8, rfl, og, wg, g⟩
  have DJ_by0_bs8 : Hid (∀ q ∈ by0, q ∉ bs8) := hideIt fun q hq hm => Nat.lt_irrefl _ (Nat.lt_of_lt_of_le (ox0.out.lt q hq) (wg.2 q hm).1)
  have LB_G_bs8 : Hid (∀ q ∈ bs8, (w).heap.size ≤ q) := hideIt fun q hq => Nat.le_trans G.out.size (wg.2 q hq).1
  have LB_GA_bs8 : Hid (∀ q ∈ bs8, ((u3.alloc (.cells #[.slice Aa d.insts.length pa, .slice Ba d.nets.length qa, .slice Ca d.ports.length ra] 30))).heap.size ≤ q) := hideIt fun q hq => Nat.le_trans GA.out.size (wg.2 q hq).1
  have NB_S0_bs8 : Hid ((w.heap.size) ∉ bs8) := hideIt fun hm => Nat.lt_irrefl _ (Nat.lt_of_lt_of_le S0.out.lt (wg.2 _ hm).1)
  have NB_V0_bs8 : Hid ((u3.heap.size) ∉ bs8) := hideIt fun hm => Nat.lt_irrefl _ (Nat.lt_of_lt_of_le V0.out.lt (wg.2 _ hm).1)
  have NB_VX_bs8 : Hid ((u4.heap.size) ∉ bs8) := hideIt fun hm => Nat.lt_irrefl _ (Nat.lt_of_lt_of_le VX.out.lt (wg.2 _ hm).1)
  have ND_bs8 := hideIt wg.1
  replace G := hideIt (G.out.trans g)
  replace GA := hideIt (GA.out.trans g)
  replace hr0 := hideIt (hr0.out.keep g.keeps)
  replace ox0 := hideIt (ox0.out.same ((SameOn.refl _ _).grows ox0.out.lt g))
  replace S0 := hideIt (S0.out.grows g)
  replace V0 := hideIt (V0.out.grows g)
  replace VX := hideIt (VX.out.grows g)
  replace og := hideIt og
  clear wg
  clear g
  have kS0_0 : u5.cell? ⟨w.heap.size, 0, none⟩ = some (l_0) := S0.out.cell 0
  have fS0 := S0.out.frozen
  have lS0 : w.heap.size < u5.heap.size := S0.out.lt
  have kV0_0 : u5.cell? ⟨u3.heap.size, 0, none⟩ = some (.slice Aa d.insts.length pa) := V0.out.cell 0
  have kV0_1 : u5.cell? ⟨u3.heap.size, 1, none⟩ = some (.slice Ba d.nets.length qa) := V0.out.cell 1
  have kV0_2 : u5.cell? ⟨u3.heap.size, 2, none⟩ = some (.slice Ca d.ports.length ra) := V0.out.cell 2
  have fV0 := V0.out.frozen
  have lV0 : u3.heap.size < u5.heap.size := V0.out.lt
  have kVX_0 : u5.cell? ⟨u4.heap.size, 0, none⟩ = some (.slice Ax0 l.cells.length mx0) := VX.out.cell 0
  have fVX := VX.out.frozen
  have lVX : u4.heap.size < u5.heap.size := VX.out.lt
  have NB_V1_by0 : Hid (u5.heap.size ∉ by0) := hideIt fun hm => Nat.lt_irrefl _ (ox0.out.lt _ hm)
  have NB_V1_bs8 : Hid (u5.heap.size ∉ bs8) := hideIt fun hm => Nat.lt_irrefl _ (og.out.lt _ hm)
  have gl : Grows u5 (u5.alloc (.cells #[.slice Ab d.insts.length pb, .slice Bb d.nets.length qb, .slice Cb d.ports.length rb] 30)) := (Grows.refl _).alloc _
  replace G := hideIt (G.out.trans gl)
  replace GA := hideIt (GA.out.trans gl)
  replace hr0 := hideIt (hr0.out.keep gl.keeps)
  replace ox0 := hideIt (ox0.out.same ((SameOn.refl _ _).grows ox0.out.lt gl))
  replace og := hideIt (og.out.same ((SameOn.refl _ _).grows og.out.lt gl))
  replace S0 := hideIt (S0.out.grows gl)
  replace V0 := hideIt (V0.out.grows gl)
  replace VX := hideIt (VX.out.grows gl)
  have V1 := hideIt (Blk.new u5 30 #[.slice Ab d.insts.length pb, .slice Bb d.nets.length qb, .slice Cb d.ports.length rb])
  clear gl
  go_wp2_with fail
  clear kS0_0 fS0 lS0 kV0_0 kV0_1 kV0_2 fV0 lV0 kVX_0 fVX lVX
  refine (eqDesign_same _ og.out.reads (r0_.out.keep GA.out.keeps)).mono ?_
  rintro e u6 ⟨rfl, g⟩
  replace G := hideIt (G.out.trans g)
  replace GA := hideIt (GA.out.trans g)
  replace hr0 := hideIt (hr0.out.keep g.keeps)
  replace ox0 := hideIt (ox0.out.same ((SameOn.refl _ _).grows ox0.out.lt g))
  replace og := hideIt (og.out.same ((SameOn.refl _ _).grows og.out.lt g))
  replace S0 := hideIt (S0.out.grows g)
  replace V0 := hideIt (V0.out.grows g)
  replace VX := hideIt (VX.out.grows g)
  replace V1 := hideIt (V1.out.grows g)
  clear g
  have kS0_0 : u6.cell? ⟨w.heap.size, 0, none⟩ = some (l_0) := S0.out.cell 0
  have fS0 := S0.out.frozen
  have lS0 : w.heap.size < u6.heap.size := S0.out.lt
  have kV0_0 : u6.cell? ⟨u3.heap.size, 0, none⟩ = some (.slice Aa d.insts.length pa) := V0.out.cell 0
  have kV0_1 : u6.cell? ⟨u3.heap.size, 1, none⟩ = some (.slice Ba d.nets.length qa) := V0.out.cell 1
  have kV0_2 : u6.cell? ⟨u3.heap.size, 2, none⟩ = some (.slice Ca d.ports.length ra) := V0.out.cell 2
  have fV0 := V0.out.frozen
  have lV0 : u3.heap.size < u6.heap.size := V0.out.lt
  have kVX_0 : u6.cell? ⟨u4.heap.size, 0, none⟩ = some (.slice Ax0 l.cells.length mx0) := VX.out.cell 0
  have fVX := VX.out.frozen
  have lVX : u4.heap.size < u6.heap.size := VX.out.lt
  have kV1_0 : u6.cell? ⟨u5.heap.size, 0, none⟩ = some (.slice Ab d.insts.length pb) := V1.out.cell 0
  have kV1_1 : u6.cell? ⟨u5.heap.size, 1, none⟩ = some (.slice Bb d.nets.length qb) := V1.out.cell 1
  have kV1_2 : u6.cell? ⟨u5.heap.size, 2, none⟩ = some (.slice Cb d.ports.length rb) := V1.out.cell 2
  have fV1 := V1.out.frozen
  have lV1 : u5.heap.size < u6.heap.size := V1.out.lt
  go_wp2_with fail
  clear kS0_0 fS0 lS0 kV0_0 kV0_1 kV0_2 fV0 lV0 kVX_0 fVX lVX kV1_0 kV1_1 kV1_2 fV1 lV1
  have K0 : ∀ w', Grows u6 w' → w'.cell? ⟨w.heap.size, 0, none⟩ = some (l_0) ∧ w'.cell? ⟨u3.heap.size, 0, none⟩ = some (.slice Aa d.insts.length pa) ∧ w'.cell? ⟨u3.heap.size, 1, none⟩ = some (.slice Ba d.nets.length qa) ∧ w'.cell? ⟨u3.heap.size, 2, none⟩ = some (.slice Ca d.ports.length ra) ∧ w'.cell? ⟨u4.heap.size, 0, none⟩ = some (.slice Ax0 l.cells.length mx0) ∧ w'.cell? ⟨u5.heap.size, 0, none⟩ = some (.slice Ab d.insts.length pb) ∧ w'.cell? ⟨u5.heap.size, 1, none⟩ = some (.slice Bb d.nets.length qb) ∧ w'.cell? ⟨u5.heap.size, 2, none⟩ = some (.slice Cb d.ports.length rb) ∧ Grows u6 w' := fun w' G => ⟨(G.cells.1 _ _ S0.out.lt).trans (S0.out.cell 0), (G.cells.1 _ _ V0.out.lt).trans (V0.out.cell 0), (G.cells.1 _ _ V0.out.lt).trans (V0.out.cell 1), (G.cells.1 _ _ V0.out.lt).trans (V0.out.cell 2), (G.cells.1 _ _ VX.out.lt).trans (VX.out.cell 0), (G.cells.1 _ _ V1.out.lt).trans (V1.out.cell 0), (G.cells.1 _ _ V1.out.lt).trans (V1.out.cell 1), (G.cells.1 _ _ V1.out.lt).trans (V1.out.cell 2), G⟩
  have HK := hideIt K0
  clear K0
  have gg : Grows u6 u6 := Grows.refl _
  refine wp_region_held_drew (S := (fun w' => w'.cell? ⟨w.heap.size, 0, none⟩ = some (l_0) ∧ w'.cell? ⟨u3.heap.size, 0, none⟩ = some (.slice Aa d.insts.length pa) ∧ w'.cell? ⟨u3.heap.size, 1, none⟩ = some (.slice Ba d.nets.length qa) ∧ w'.cell? ⟨u3.heap.size, 2, none⟩ = some (.slice Ca d.ports.length ra) ∧ w'.cell? ⟨u4.heap.size, 0, none⟩ = some (.slice Ax0 l.cells.length mx0) ∧ w'.cell? ⟨u5.heap.size, 0, none⟩ = some (.slice Ab d.insts.length pb) ∧ w'.cell? ⟨u5.heap.size, 1, none⟩ = some (.slice Bb d.nets.length qb) ∧ w'.cell? ⟨u5.heap.size, 2, none⟩ = some (.slice Cb d.ports.length rb) ∧ Grows u6 w')) (by kernel_rfl) ?_ (fun hh0 => ?_)
  · (try dsimp only); exact HK.out _ gk
  refine regTk 0 hh0 ?_
  refine regTk 1 hh0 ?_
  refine regCall 2 (fun K hK => ?_)
  go_simp
  refine (toLib_o _ (hr0.out.keep (Grows.keeps gk)) SM0.out).mono ?_
  rintro e wx7_0 ⟨z0_0, bs_z0, rfl, o, ow, g⟩
  have e0 := o.reads
  clear o ow
  replace e0 := hideIt e0
  replace gg := gg.gt g
  clear g
  (try go_wp2_with fail)
  refine hK.out _ _ ?_ (fun hh1 => ?_)
  · (try dsimp only); exact HK.out _ gk
  clear hK K hh0
  try simp only [Act.put, List.setIfInBounds_toArray, List.set_cons_zero, List.set_cons_succ]
  refine regCall 3 (fun K hK => ?_)
  go_simp
  refine (eqLib_same _ (ox0.out.reads.keep (Grows.keeps gk)) (e0.out)).mono ?_
  rintro e wx7_1 ⟨rfl, g⟩
  replace e0 := hideIt (e0.out.keep g.keeps)
  replace gg := gg.gt g
  clear g
  (try go_wp2_with fail)
  refine hK.out _ _ ?_ (fun hh2 => ?_)
  · (try dsimp only); exact HK.out _ gk
  clear hK K hh1
  try simp only [Act.put, List.setIfInBounds_toArray, List.set_cons_zero, List.set_cons_succ]
  refine regTk 4 hh2 ?_
  refine wpAnyH_done (by kernel_rfl) ?_ _
  clear hh2 HK
  replace ox0 := hideIt (ox0.out.same ((SameOn.refl _ _).grows ox0.out.lt gg))
  replace og := hideIt (og.out.same ((SameOn.refl _ _).grows og.out.lt gg))
  replace G := hideIt (G.out.trans gg)
  replace GA := hideIt (GA.out.trans gg)
  replace hr0 := hideIt (hr0.out.keep (Grows.keeps gg))
  replace S0 := hideIt (S0.out.grows gg)
  replace V0 := hideIt (V0.out.grows gg)
  replace VX := hideIt (VX.out.grows gg)
  replace V1 := hideIt (V1.out.grows gg)
  clear gg
  have kS0_0 : wx7_1.cell? ⟨w.heap.size, 0, none⟩ = some (l_0) := S0.out.cell 0
  have fS0 := S0.out.frozen
  have lS0 : w.heap.size < wx7_1.heap.size := S0.out.lt
  have kV0_0 : wx7_1.cell? ⟨u3.heap.size, 0, none⟩ = some (.slice Aa d.insts.length pa) := V0.out.cell 0
  have kV0_1 : wx7_1.cell? ⟨u3.heap.size, 1, none⟩ = some (.slice Ba d.nets.length qa) := V0.out.cell 1
  have kV0_2 : wx7_1.cell? ⟨u3.heap.size, 2, none⟩ = some (.slice Ca d.ports.length ra) := V0.out.cell 2
  have fV0 := V0.out.frozen
  have lV0 : u3.heap.size < wx7_1.heap.size := V0.out.lt
  have kVX_0 : wx7_1.cell? ⟨u4.heap.size, 0, none⟩ = some (.slice Ax0 l.cells.length mx0) := VX.out.cell 0
  have fVX := VX.out.frozen
  have lVX : u4.heap.size < wx7_1.heap.size := VX.out.lt
  have kV1_0 : wx7_1.cell? ⟨u5.heap.size, 0, none⟩ = some (.slice Ab d.insts.length pb) := V1.out.cell 0
  have kV1_1 : wx7_1.cell? ⟨u5.heap.size, 1, none⟩ = some (.slice Bb d.nets.length qb) := V1.out.cell 1
  have kV1_2 : wx7_1.cell? ⟨u5.heap.size, 2, none⟩ = some (.slice Cb d.ports.length rb) := V1.out.cell 2
  have fV1 := V1.out.frozen
  have lV1 : u5.heap.size < wx7_1.heap.size := V1.out.lt
  clear e0
  go_wp2_with fail
  clear kS0_0 fS0 lS0 kV0_0 kV0_1 kV0_2 fV0 lV0 kVX_0 fVX lVX kV1_0 kV1_1 kV1_2 fV1 lV1
  refine (markLib_w 1 _ ox0.out ND_by0.out (by omega) (by omega) (by omega)).mono ?_
  rintro e u8 ⟨k0_, rfl, ka0, kb0, c⟩
  replace G := hideIt (G.out.chg c LB_G_by0.out)
  replace GA := hideIt (GA.out.chg c LB_GA_by0.out)
  clear hr0
  replace S0 := hideIt (S0.out.chg c NB_S0_by0.out)
  replace V0 := hideIt (V0.out.chg c NB_V0_by0.out)
  replace VX := hideIt (VX.out.chg c NB_VX_by0.out)
  replace V1 := hideIt (V1.out.chg c NB_V1_by0.out)
  replace og := hideIt (og.out.same (c.same og.out.lt (fun q hq hm => DJ_by0_bs8.out q hm hq)))
  clear c ox0
  have kn0 : 0 ≤ k0_ := by omega
  have kS0_0 : u8.cell? ⟨w.heap.size, 0, none⟩ = some (l_0) := S0.out.cell 0
  have fS0 := S0.out.frozen
  have lS0 : w.heap.size < u8.heap.size := S0.out.lt
  have kV0_0 : u8.cell? ⟨u3.heap.size, 0, none⟩ = some (.slice Aa d.insts.length pa) := V0.out.cell 0
  have kV0_1 : u8.cell? ⟨u3.heap.size, 1, none⟩ = some (.slice Ba d.nets.length qa) := V0.out.cell 1
  have kV0_2 : u8.cell? ⟨u3.heap.size, 2, none⟩ = some (.slice Ca d.ports.length ra) := V0.out.cell 2
  have fV0 := V0.out.frozen
  have lV0 : u3.heap.size < u8.heap.size := V0.out.lt
  have kVX_0 : u8.cell? ⟨u4.heap.size, 0, none⟩ = some (.slice Ax0 l.cells.length mx0) := VX.out.cell 0
  have fVX := VX.out.frozen
  have lVX : u4.heap.size < u8.heap.size := VX.out.lt
  have kV1_0 : u8.cell? ⟨u5.heap.size, 0, none⟩ = some (.slice Ab d.insts.length pb) := V1.out.cell 0
  have kV1_1 : u8.cell? ⟨u5.heap.size, 1, none⟩ = some (.slice Bb d.nets.length qb) := V1.out.cell 1
  have kV1_2 : u8.cell? ⟨u5.heap.size, 2, none⟩ = some (.slice Cb d.ports.length rb) := V1.out.cell 2
  have fV1 := V1.out.frozen
  have lV1 : u5.heap.size < u8.heap.size := V1.out.lt
  go_wp2_with fail
  clear kS0_0 fS0 lS0 kV0_0 kV0_1 kV0_2 fV0 lV0 kVX_0 fVX lVX kV1_0 kV1_1 kV1_2 fV1 lV1
  refine (eqDesign_same _ og.out.reads (r0_.out.keep GA.out.keeps)).mono ?_
  rintro e u9 ⟨rfl, g⟩
  replace G := hideIt (G.out.trans g)
  replace GA := hideIt (GA.out.trans g)
  replace og := hideIt (og.out.same ((SameOn.refl _ _).grows og.out.lt g))
  replace S0 := hideIt (S0.out.grows g)
  replace V0 := hideIt (V0.out.grows g)
  replace VX := hideIt (VX.out.grows g)
  replace V1 := hideIt (V1.out.grows g)
  clear g
  have kS0_0 : u9.cell? ⟨w.heap.size, 0, none⟩ = some (l_0) := S0.out.cell 0
  have fS0 := S0.out.frozen
  have lS0 : w.heap.size < u9.heap.size := S0.out.lt
  have kV0_0 : u9.cell? ⟨u3.heap.size, 0, none⟩ = some (.slice Aa d.insts.length pa) := V0.out.cell 0
  have kV0_1 : u9.cell? ⟨u3.heap.size, 1, none⟩ = some (.slice Ba d.nets.length qa) := V0.out.cell 1
  have kV0_2 : u9.cell? ⟨u3.heap.size, 2, none⟩ = some (.slice Ca d.ports.length ra) := V0.out.cell 2
  have fV0 := V0.out.frozen
  have lV0 : u3.heap.size < u9.heap.size := V0.out.lt
  have kVX_0 : u9.cell? ⟨u4.heap.size, 0, none⟩ = some (.slice Ax0 l.cells.length mx0) := VX.out.cell 0
  have fVX := VX.out.frozen
  have lVX : u4.heap.size < u9.heap.size := VX.out.lt
  have kV1_0 : u9.cell? ⟨u5.heap.size, 0, none⟩ = some (.slice Ab d.insts.length pb) := V1.out.cell 0
  have kV1_1 : u9.cell? ⟨u5.heap.size, 1, none⟩ = some (.slice Bb d.nets.length qb) := V1.out.cell 1
  have kV1_2 : u9.cell? ⟨u5.heap.size, 2, none⟩ = some (.slice Cb d.ports.length rb) := V1.out.cell 2
  have fV1 := V1.out.frozen
  have lV1 : u5.heap.size < u9.heap.size := V1.out.lt
  go_wp2_with fail
  clear kS0_0 fS0 lS0 kV0_0 kV0_1 kV0_2 fV0 lV0 kVX_0 fVX lVX kV1_0 kV1_1 kV1_2 fV1 lV1
  refine (markDesign_v 1 _ og.out ND_bs8.out FW.out (by omega) (by omega)).mono ?_
  rintro e u10 ⟨rfl, o, c⟩
  replace G := hideIt (G.out.chg c LB_G_bs8.out)
  replace GA := hideIt (GA.out.chg c LB_GA_bs8.out)
  replace S0 := hideIt (S0.out.chg c NB_S0_bs8.out)
  replace V0 := hideIt (V0.out.chg c NB_V0_bs8.out)
  replace VX := hideIt (VX.out.chg c NB_VX_bs8.out)
  replace V1 := hideIt (V1.out.chg c NB_V1_bs8.out)
  replace og := hideIt o
  clear o c
  have kS0_0 : u10.cell? ⟨w.heap.size, 0, none⟩ = some (l_0) := S0.out.cell 0
  have fS0 := S0.out.frozen
  have lS0 : w.heap.size < u10.heap.size := S0.out.lt
  have kV0_0 : u10.cell? ⟨u3.heap.size, 0, none⟩ = some (.slice Aa d.insts.length pa) := V0.out.cell 0
  have kV0_1 : u10.cell? ⟨u3.heap.size, 1, none⟩ = some (.slice Ba d.nets.length qa) := V0.out.cell 1
  have kV0_2 : u10.cell? ⟨u3.heap.size, 2, none⟩ = some (.slice Ca d.ports.length ra) := V0.out.cell 2
  have fV0 := V0.out.frozen
  have lV0 : u3.heap.size < u10.heap.size := V0.out.lt
  have kVX_0 : u10.cell? ⟨u4.heap.size, 0, none⟩ = some (.slice Ax0 l.cells.length mx0) := VX.out.cell 0
  have fVX := VX.out.frozen
  have lVX : u4.heap.size < u10.heap.size := VX.out.lt
  have kV1_0 : u10.cell? ⟨u5.heap.size, 0, none⟩ = some (.slice Ab d.insts.length pb) := V1.out.cell 0
  have kV1_1 : u10.cell? ⟨u5.heap.size, 1, none⟩ = some (.slice Bb d.nets.length qb) := V1.out.cell 1
  have kV1_2 : u10.cell? ⟨u5.heap.size, 2, none⟩ = some (.slice Cb d.ports.length rb) := V1.out.cell 2
  have fV1 := V1.out.frozen
  have lV1 : u5.heap.size < u10.heap.size := V1.out.lt
  go_wp2_with fail
  clear kS0_0 fS0 lS0 kV0_0 kV0_1 kV0_2 fV0 lV0 kVX_0 fVX lVX kV1_0 kV1_1 kV1_2 fV1 lV1
  refine (heldDesign_v 1 _ og.out.reads FW.out (by omega) (by omega)).mono ?_
  rintro e u11 ⟨rfl, g⟩
  replace G := hideIt (G.out.trans g)
  replace GA := hideIt (GA.out.trans g)
  replace og := hideIt (og.out.same ((SameOn.refl _ _).grows og.out.lt g))
  replace S0 := hideIt (S0.out.grows g)
  replace V0 := hideIt (V0.out.grows g)
  replace VX := hideIt (VX.out.grows g)
  replace V1 := hideIt (V1.out.grows g)
  clear g
  have kS0_0 : u11.cell? ⟨w.heap.size, 0, none⟩ = some (l_0) := S0.out.cell 0
  have fS0 := S0.out.frozen
  have lS0 : w.heap.size < u11.heap.size := S0.out.lt
  have kV0_0 : u11.cell? ⟨u3.heap.size, 0, none⟩ = some (.slice Aa d.insts.length pa) := V0.out.cell 0
  have kV0_1 : u11.cell? ⟨u3.heap.size, 1, none⟩ = some (.slice Ba d.nets.length qa) := V0.out.cell 1
  have kV0_2 : u11.cell? ⟨u3.heap.size, 2, none⟩ = some (.slice Ca d.ports.length ra) := V0.out.cell 2
  have fV0 := V0.out.frozen
  have lV0 : u3.heap.size < u11.heap.size := V0.out.lt
  have kVX_0 : u11.cell? ⟨u4.heap.size, 0, none⟩ = some (.slice Ax0 l.cells.length mx0) := VX.out.cell 0
  have fVX := VX.out.frozen
  have lVX : u4.heap.size < u11.heap.size := VX.out.lt
  have kV1_0 : u11.cell? ⟨u5.heap.size, 0, none⟩ = some (.slice Ab d.insts.length pb) := V1.out.cell 0
  have kV1_1 : u11.cell? ⟨u5.heap.size, 1, none⟩ = some (.slice Bb d.nets.length qb) := V1.out.cell 1
  have kV1_2 : u11.cell? ⟨u5.heap.size, 2, none⟩ = some (.slice Cb d.ports.length rb) := V1.out.cell 2
  have fV1 := V1.out.frozen
  have lV1 : u5.heap.size < u11.heap.size := V1.out.lt
  have hr0 := hideIt (HA0.out.keep GA.out.keeps)
  go_wp2_with fail
  clear kS0_0 fS0 lS0 kV0_0 kV0_1 kV0_2 fV0 lV0 kVX_0 fVX lVX kV1_0 kV1_1 kV1_2 fV1 lV1
  refine (toLib_o _ hr0.out SM0.out).mono ?_
  rintro e u12 ⟨t0_0, bs_t0, rfl, o, ow, g⟩
  replace G := hideIt (G.out.trans g)
  replace GA := hideIt (GA.out.trans g)
  replace hr0 := hideIt (hr0.out.keep g.keeps)
  replace og := hideIt (og.out.same ((SameOn.refl _ _).grows og.out.lt g))
  replace S0 := hideIt (S0.out.grows g)
  replace V0 := hideIt (V0.out.grows g)
  replace VX := hideIt (VX.out.grows g)
  replace V1 := hideIt (V1.out.grows g)
  have j0 := o.reads
  clear o ow
  clear g
  have kS0_0 : u12.cell? ⟨w.heap.size, 0, none⟩ = some (l_0) := S0.out.cell 0
  have fS0 := S0.out.frozen
  have lS0 : w.heap.size < u12.heap.size := S0.out.lt
  have kV0_0 : u12.cell? ⟨u3.heap.size, 0, none⟩ = some (.slice Aa d.insts.length pa) := V0.out.cell 0
  have kV0_1 : u12.cell? ⟨u3.heap.size, 1, none⟩ = some (.slice Ba d.nets.length qa) := V0.out.cell 1
  have kV0_2 : u12.cell? ⟨u3.heap.size, 2, none⟩ = some (.slice Ca d.ports.length ra) := V0.out.cell 2
  have fV0 := V0.out.frozen
  have lV0 : u3.heap.size < u12.heap.size := V0.out.lt
  have kVX_0 : u12.cell? ⟨u4.heap.size, 0, none⟩ = some (.slice Ax0 l.cells.length mx0) := VX.out.cell 0
  have fVX := VX.out.frozen
  have lVX : u4.heap.size < u12.heap.size := VX.out.lt
  have kV1_0 : u12.cell? ⟨u5.heap.size, 0, none⟩ = some (.slice Ab d.insts.length pb) := V1.out.cell 0
  have kV1_1 : u12.cell? ⟨u5.heap.size, 1, none⟩ = some (.slice Bb d.nets.length qb) := V1.out.cell 1
  have kV1_2 : u12.cell? ⟨u5.heap.size, 2, none⟩ = some (.slice Cb d.ports.length rb) := V1.out.cell 2
  have fV1 := V1.out.frozen
  have lV1 : u5.heap.size < u12.heap.size := V1.out.lt
  replace j0 := hideIt j0
  go_wp2_with fail
  clear kS0_0 fS0 lS0 kV0_0 kV0_1 kV0_2 fV0 lV0 kVX_0 fVX lVX kV1_0 kV1_1 kV1_2 fV1 lV1
  refine (iR_any _ HD.out HCD.out j0.out.parts SM0.out hz2 (HM.out.keep G.out)).mono ?_
  rintro e u13 ⟨Ac, pc, Bc, qc, Cc, rc, bs7, rfl, o, ow, g⟩
  replace G := hideIt (G.out.trans g)
  replace GA := hideIt (GA.out.trans g)
  replace hr0 := hideIt (hr0.out.keep g.keeps)
  replace j0 := hideIt (j0.out.keep g.keeps)
  replace og := hideIt (og.out.same ((SameOn.refl _ _).grows og.out.lt g))
  replace S0 := hideIt (S0.out.grows g)
  replace V0 := hideIt (V0.out.grows g)
  replace VX := hideIt (VX.out.grows g)
  replace V1 := hideIt (V1.out.grows g)
  have r7 := o.reads
  clear o ow
  clear g
  have kS0_0 : u13.cell? ⟨w.heap.size, 0, none⟩ = some (l_0) := S0.out.cell 0
  have fS0 := S0.out.frozen
  have lS0 : w.heap.size < u13.heap.size := S0.out.lt
  have kV0_0 : u13.cell? ⟨u3.heap.size, 0, none⟩ = some (.slice Aa d.insts.length pa) := V0.out.cell 0
  have kV0_1 : u13.cell? ⟨u3.heap.size, 1, none⟩ = some (.slice Ba d.nets.length qa) := V0.out.cell 1
  have kV0_2 : u13.cell? ⟨u3.heap.size, 2, none⟩ = some (.slice Ca d.ports.length ra) := V0.out.cell 2
  have fV0 := V0.out.frozen
  have lV0 : u3.heap.size < u13.heap.size := V0.out.lt
  have kVX_0 : u13.cell? ⟨u4.heap.size, 0, none⟩ = some (.slice Ax0 l.cells.length mx0) := VX.out.cell 0
  have fVX := VX.out.frozen
  have lVX : u4.heap.size < u13.heap.size := VX.out.lt
  have kV1_0 : u13.cell? ⟨u5.heap.size, 0, none⟩ = some (.slice Ab d.insts.length pb) := V1.out.cell 0
  have kV1_1 : u13.cell? ⟨u5.heap.size, 1, none⟩ = some (.slice Bb d.nets.length qb) := V1.out.cell 1
  have kV1_2 : u13.cell? ⟨u5.heap.size, 2, none⟩ = some (.slice Cb d.ports.length rb) := V1.out.cell 2
  have fV1 := V1.out.frozen
  have lV1 : u5.heap.size < u13.heap.size := V1.out.lt
  replace r7 := hideIt r7
  have NB_V2_bs8 : Hid (u13.heap.size ∉ bs8) := hideIt fun hm => Nat.lt_irrefl _ (og.out.lt _ hm)
  have gl : Grows u13 (u13.alloc (.cells #[.slice Ac d.insts.length pc, .slice Bc d.nets.length qc, .slice Cc d.ports.length rc] 30)) := (Grows.refl _).alloc _
  replace G := hideIt (G.out.trans gl)
  replace GA := hideIt (GA.out.trans gl)
  replace hr0 := hideIt (hr0.out.keep gl.keeps)
  replace j0 := hideIt (j0.out.keep gl.keeps)
  replace r7 := hideIt (r7.out.keep gl.keeps)
  replace og := hideIt (og.out.same ((SameOn.refl _ _).grows og.out.lt gl))
  replace S0 := hideIt (S0.out.grows gl)
  replace V0 := hideIt (V0.out.grows gl)
  replace VX := hideIt (VX.out.grows gl)
  replace V1 := hideIt (V1.out.grows gl)
  have V2 := hideIt (Blk.new u13 30 #[.slice Ac d.insts.length pc, .slice Bc d.nets.length qc, .slice Cc d.ports.length rc])
  clear gl
  clear j0
  go_wp2_with fail
  clear kS0_0 fS0 lS0 kV0_0 kV0_1 kV0_2 fV0 lV0 kVX_0 fVX lVX kV1_0 kV1_1 kV1_2 fV1 lV1
  refine (eqDesign_same _ r7.out (r0_.out.keep GA.out.keeps)).mono ?_
  rintro e u14 ⟨rfl, g⟩
  replace G := hideIt (G.out.trans g)
  replace GA := hideIt (GA.out.trans g)
  replace hr0 := hideIt (hr0.out.keep g.keeps)
  replace r7 := hideIt (r7.out.keep g.keeps)
  replace og := hideIt (og.out.same ((SameOn.refl _ _).grows og.out.lt g))
  replace S0 := hideIt (S0.out.grows g)
  replace V0 := hideIt (V0.out.grows g)
  replace VX := hideIt (VX.out.grows g)
  replace V1 := hideIt (V1.out.grows g)
  replace V2 := hideIt (V2.out.grows g)
  clear g
  have kS0_0 : u14.cell? ⟨w.heap.size, 0, none⟩ = some (l_0) := S0.out.cell 0
  have fS0 := S0.out.frozen
  have lS0 : w.heap.size < u14.heap.size := S0.out.lt
  have kV0_0 : u14.cell? ⟨u3.heap.size, 0, none⟩ = some (.slice Aa d.insts.length pa) := V0.out.cell 0
  have kV0_1 : u14.cell? ⟨u3.heap.size, 1, none⟩ = some (.slice Ba d.nets.length qa) := V0.out.cell 1
  have kV0_2 : u14.cell? ⟨u3.heap.size, 2, none⟩ = some (.slice Ca d.ports.length ra) := V0.out.cell 2
  have fV0 := V0.out.frozen
  have lV0 : u3.heap.size < u14.heap.size := V0.out.lt
  have kVX_0 : u14.cell? ⟨u4.heap.size, 0, none⟩ = some (.slice Ax0 l.cells.length mx0) := VX.out.cell 0
  have fVX := VX.out.frozen
  have lVX : u4.heap.size < u14.heap.size := VX.out.lt
  have kV1_0 : u14.cell? ⟨u5.heap.size, 0, none⟩ = some (.slice Ab d.insts.length pb) := V1.out.cell 0
  have kV1_1 : u14.cell? ⟨u5.heap.size, 1, none⟩ = some (.slice Bb d.nets.length qb) := V1.out.cell 1
  have kV1_2 : u14.cell? ⟨u5.heap.size, 2, none⟩ = some (.slice Cb d.ports.length rb) := V1.out.cell 2
  have fV1 := V1.out.frozen
  have lV1 : u5.heap.size < u14.heap.size := V1.out.lt
  have kV2_0 : u14.cell? ⟨u13.heap.size, 0, none⟩ = some (.slice Ac d.insts.length pc) := V2.out.cell 0
  have kV2_1 : u14.cell? ⟨u13.heap.size, 1, none⟩ = some (.slice Bc d.nets.length qc) := V2.out.cell 1
  have kV2_2 : u14.cell? ⟨u13.heap.size, 2, none⟩ = some (.slice Cc d.ports.length rc) := V2.out.cell 2
  have fV2 := V2.out.frozen
  have lV2 : u13.heap.size < u14.heap.size := V2.out.lt
  go_wp2_with fail
  clear kS0_0 fS0 lS0 kV0_0 kV0_1 kV0_2 fV0 lV0 kVX_0 fVX lVX kV1_0 kV1_1 kV1_2 fV1 lV1 kV2_0 kV2_1 kV2_2 fV2 lV2
  refine (heldDesign_v 1 _ og.out.reads FW.out (by omega) (by omega)).mono ?_
  rintro e u15 ⟨rfl, g⟩
  replace G := hideIt (G.out.trans g)
  replace GA := hideIt (GA.out.trans g)
  replace hr0 := hideIt (hr0.out.keep g.keeps)
  replace r7 := hideIt (r7.out.keep g.keeps)
  replace og := hideIt (og.out.same ((SameOn.refl _ _).grows og.out.lt g))
  replace S0 := hideIt (S0.out.grows g)
  replace V0 := hideIt (V0.out.grows g)
  replace VX := hideIt (VX.out.grows g)
  replace V1 := hideIt (V1.out.grows g)
  replace V2 := hideIt (V2.out.grows g)
  clear g
  have kS0_0 : u15.cell? ⟨w.heap.size, 0, none⟩ = some (l_0) := S0.out.cell 0
  have fS0 := S0.out.frozen
  have lS0 : w.heap.size < u15.heap.size := S0.out.lt
  have kV0_0 : u15.cell? ⟨u3.heap.size, 0, none⟩ = some (.slice Aa d.insts.length pa) := V0.out.cell 0
  have kV0_1 : u15.cell? ⟨u3.heap.size, 1, none⟩ = some (.slice Ba d.nets.length qa) := V0.out.cell 1
  have kV0_2 : u15.cell? ⟨u3.heap.size, 2, none⟩ = some (.slice Ca d.ports.length ra) := V0.out.cell 2
  have fV0 := V0.out.frozen
  have lV0 : u3.heap.size < u15.heap.size := V0.out.lt
  have kVX_0 : u15.cell? ⟨u4.heap.size, 0, none⟩ = some (.slice Ax0 l.cells.length mx0) := VX.out.cell 0
  have fVX := VX.out.frozen
  have lVX : u4.heap.size < u15.heap.size := VX.out.lt
  have kV1_0 : u15.cell? ⟨u5.heap.size, 0, none⟩ = some (.slice Ab d.insts.length pb) := V1.out.cell 0
  have kV1_1 : u15.cell? ⟨u5.heap.size, 1, none⟩ = some (.slice Bb d.nets.length qb) := V1.out.cell 1
  have kV1_2 : u15.cell? ⟨u5.heap.size, 2, none⟩ = some (.slice Cb d.ports.length rb) := V1.out.cell 2
  have fV1 := V1.out.frozen
  have lV1 : u5.heap.size < u15.heap.size := V1.out.lt
  have kV2_0 : u15.cell? ⟨u13.heap.size, 0, none⟩ = some (.slice Ac d.insts.length pc) := V2.out.cell 0
  have kV2_1 : u15.cell? ⟨u13.heap.size, 1, none⟩ = some (.slice Bc d.nets.length qc) := V2.out.cell 1
  have kV2_2 : u15.cell? ⟨u13.heap.size, 2, none⟩ = some (.slice Cc d.ports.length rc) := V2.out.cell 2
  have fV2 := V2.out.frozen
  have lV2 : u13.heap.size < u15.heap.size := V2.out.lt
  go_wp2
  go_ret
  exact ⟨rfl, G.out.below⟩
end Go.Proofs.YtocahjbmnkadjaaGreatDoor
