/-
  The walk of FnExactCellNamed.
-/
import Derived.Test.YtnojnmdfklgooaaGreatDoorGJ
import Derived.Test.YtnojnmdfklgooaaGreatDoorGN
import Derived.Test.YtnojnmdfklgooaaGreatDoorGC
import Derived.Test.YtnojnmdfklgooaaGreatDoorGF
namespace Go.Proofs.YtnojnmdfklgooaaGreatDoor
open Go.RowKit
set_option maxHeartbeats 8000000 in
theorem walk_FnExactCellNamed {l : LibD} {v0 : Value} {w : World} (h0 : ∃ l_0 : Value, v0 = .agg #[l_0] ∧ RLib w [l_0] l) {s : ByteArray} (hs : s.size ≤ maxLen) :
    Calls Tryz.prog 4 #[v0, .string s] w fun e w' => e = .returned (.bool true) ∧ Below w.heap.size w w' := by
  obtain ⟨l_0, rfl, hr0⟩ := h0
  have zs : (s.size : Int) ≤ 9223372036854775807 := by unfold maxLen at hs; omega
  clear hs
  generalize hv0 : cellNmV s l.cells = r0_
  have E0 : Hid (cellNmV s l.cells = r0_) := hv0
  clear hv0
  have g : Grows w w := Grows.refl w
  have G : Hid (Grows w (w.alloc (.cells #[l_0] 24))) := hideIt ((Grows.refl w).alloc _)
  clear g
  have S0 : Hid (Blk (w.alloc (.cells #[l_0] 24)) (w.heap.size) 24 #[l_0]) := by
    have := (Blk.new w 24 #[l_0]).grows (Grows.refl (w.alloc (.cells #[l_0] 24)))
    exact hideIt (by simpa using this)
  replace hr0 := hideIt (hr0.keep G.out.keeps)
  go_enter Tryz.func4, Tryz.ntmps4
  by_cases nz : (s.size : Int) > 1048576
  · go_wp2
    go_ret
    exact ⟨rfl, G.out.below⟩
  go_wp2_with fail
  refine (szLib_any _ _ hr0.out (by omega) (by omega)).mono ?_
  rintro e u1 ⟨l0, rfl, b0, c0, sm0, g⟩
  replace G := hideIt (G.out.trans g)
  replace hr0 := hideIt (hr0.out.keep g.keeps)
  replace S0 := hideIt (S0.out.grows g)
  have SM0 := hideIt sm0
  clear sm0
  clear g
  have kS0_0 : u1.cell? ⟨w.heap.size, 0, none⟩ = some (l_0) := S0.out.cell 0
  have fS0 := S0.out.frozen
  have lS0 : w.heap.size < u1.heap.size := S0.out.lt
  by_cases n0 : l0 < 0
  · go_wp2
    go_ret
    exact ⟨rfl, G.out.below⟩
  replace SM0 := hideIt (SM0.out (by omega))
  go_wp2_with fail
  clear kS0_0 fS0 lS0
  refine (toLib_o _ hr0.out SM0.out).mono ?_
  rintro e u2 ⟨p0_0, bs_p0, rfl, o, ow, g⟩
  replace G := hideIt (G.out.trans g)
  replace hr0 := hideIt (hr0.out.keep g.keeps)
  replace S0 := hideIt (S0.out.grows g)
  have q0 := o.reads
  clear o ow
  clear g
  have kS0_0 : u2.cell? ⟨w.heap.size, 0, none⟩ = some (l_0) := S0.out.cell 0
  have fS0 := S0.out.frozen
  have lS0 : w.heap.size < u2.heap.size := S0.out.lt
  replace q0 := hideIt q0
  go_wp2_with fail
  clear kS0_0 fS0 lS0
  refine (sCellNamed_any s _ (q0.out).parts).mono ?_
  rintro e u3 ⟨rfl, g⟩
  replace G := hideIt (G.out.trans g)
  replace hr0 := hideIt (hr0.out.keep g.keeps)
  replace q0 := hideIt (q0.out.keep g.keeps)
  replace S0 := hideIt (S0.out.grows g)
  rw [E0.out]
  clear g
  have kS0_0 : u3.cell? ⟨w.heap.size, 0, none⟩ = some (l_0) := S0.out.cell 0
  have fS0 := S0.out.frozen
  have lS0 : w.heap.size < u3.heap.size := S0.out.lt
  clear q0
  go_wp2_with fail
  clear kS0_0 fS0 lS0
  refine (toLib_o _ hr0.out SM0.out).mono ?_
  rintro e u4 ⟨y0_0, bs_y0, rfl, o, ow, g⟩
  replace G := hideIt (G.out.trans g)
  replace hr0 := hideIt (hr0.out.keep g.keeps)
  replace S0 := hideIt (S0.out.grows g)
  have x0 := o.reads
  obtain ⟨Ax0_0, mx0_0, rfl⟩ := o.shape
  clear o ow
  clear g
  have kS0_0 : u4.cell? ⟨w.heap.size, 0, none⟩ = some (l_0) := S0.out.cell 0
  have fS0 := S0.out.frozen
  have lS0 : w.heap.size < u4.heap.size := S0.out.lt
  replace x0 := hideIt x0
  have gl : Grows u4 (u4.alloc (.cells #[.slice Ax0_0 l.cells.length mx0_0] 29)) := (Grows.refl _).alloc _
  replace G := hideIt (G.out.trans gl)
  replace hr0 := hideIt (hr0.out.keep gl.keeps)
  replace x0 := hideIt (x0.out.keep gl.keeps)
  replace S0 := hideIt (S0.out.grows gl)
  have V0 := hideIt (Blk.new u4 29 #[.slice Ax0_0 l.cells.length mx0_0])
  clear gl
  go_wp2_with fail
  clear kS0_0 fS0 lS0
  refine (iCellNamed_any s _ (x0.out).parts SM0.out).mono ?_
  rintro e u5 ⟨rfl, g⟩
  replace G := hideIt (G.out.trans g)
  replace hr0 := hideIt (hr0.out.keep g.keeps)
  replace x0 := hideIt (x0.out.keep g.keeps)
  replace S0 := hideIt (S0.out.grows g)
  replace V0 := hideIt (V0.out.grows g)
  rw [E0.out]
  clear g
  have kS0_0 : u5.cell? ⟨w.heap.size, 0, none⟩ = some (l_0) := S0.out.cell 0
  have fS0 := S0.out.frozen
  have lS0 : w.heap.size < u5.heap.size := S0.out.lt
  have kV0_0 : u5.cell? ⟨u4.heap.size, 0, none⟩ = some (.slice Ax0_0 l.cells.length mx0_0) := V0.out.cell 0
  have fV0 := V0.out.frozen
  have lV0 : u4.heap.size < u5.heap.size := V0.out.lt
  go_wp2_with fail
  clear kS0_0 fS0 lS0 kV0_0 fV0 lV0
  have K0 : ∀ w', Grows u5 w' → w'.cell? ⟨w.heap.size, 0, none⟩ = some (l_0) ∧ w'.cell? ⟨u4.heap.size, 0, none⟩ = some (.slice Ax0_0 l.cells.length mx0_0) ∧ Grows u5 w' := fun w' G => ⟨(G.cells.1 _ _ S0.out.lt).trans (S0.out.cell 0), (G.cells.1 _ _ V0.out.lt).trans (V0.out.cell 0), G⟩
  have HK := hideIt K0
  clear K0
  have gg : Grows u5 u5 := Grows.refl _
  refine wp_region_held_drew (S := (fun w' => w'.cell? ⟨w.heap.size, 0, none⟩ = some (l_0) ∧ w'.cell? ⟨u4.heap.size, 0, none⟩ = some (.slice Ax0_0 l.cells.length mx0_0) ∧ Grows u5 w')) (by kernel_rfl) ?_ (fun hh0 => ?_)
  · (try dsimp only); refine HK.out _ ?_; (repeat (first | exact gg | refine Grows.drew ?_ | refine Grows.alloc ?_ _ | refine Grows.setCell ?_ (by simp <;> omega) _))
  refine regTake 0 (v := ?_) ?_ hh0 ?_
  rotate_left
  · intro w hw; (try dsimp only at hw); go_simp; (try with_reducible rfl)
  try simp only [Act.put, List.setIfInBounds_toArray, List.set_cons_zero, List.set_cons_succ]
  refine regTake 1 (v := ?_) ?_ hh0 ?_
  rotate_left
  · intro w hw; (try dsimp only at hw); go_simp; (try with_reducible rfl)
  try simp only [Act.put, List.setIfInBounds_toArray, List.set_cons_zero, List.set_cons_succ]
  refine regCall 2 (fun K hK => ?_)
  go_simp
  refine (toLib_o _ (hr0.out.keep (Grows.keeps (by (repeat (first | exact gg | refine Grows.drew ?_ | refine Grows.alloc ?_ _ | refine Grows.setCell ?_ (by simp <;> omega) _))))) SM0.out).mono ?_
  rintro e wx6_0 ⟨z0_0, bs_z0, rfl, o, ow, g⟩
  have e0 := o.reads
  clear o ow
  replace e0 := hideIt e0
  replace gg : Grows u5 wx6_0 := Grows.trans (by (repeat (first | exact gg | refine Grows.drew ?_ | refine Grows.alloc ?_ _ | refine Grows.setCell ?_ (by simp <;> omega) _))) g
  clear g
  (try go_wp2_with fail)
  refine hK.out _ _ ?_ (fun hh1 => ?_)
  · (try dsimp only); refine HK.out _ ?_; (repeat (first | exact gg | refine Grows.drew ?_ | refine Grows.alloc ?_ _ | refine Grows.setCell ?_ (by simp <;> omega) _))
  clear hK K hh0
  try simp only [Act.put, List.setIfInBounds_toArray, List.set_cons_zero, List.set_cons_succ]
  refine regCall 3 (fun K hK => ?_)
  go_simp
  refine (eqLib_same _ (x0.out.keep (Grows.keeps (by (repeat (first | exact gg | refine Grows.drew ?_ | refine Grows.alloc ?_ _ | refine Grows.setCell ?_ (by simp <;> omega) _))))) (e0.out)).mono ?_
  rintro e wx6_1 ⟨rfl, g⟩
  replace e0 := hideIt (e0.out.keep g.keeps)
  replace gg : Grows u5 wx6_1 := Grows.trans (by (repeat (first | exact gg | refine Grows.drew ?_ | refine Grows.alloc ?_ _ | refine Grows.setCell ?_ (by simp <;> omega) _))) g
  clear g
  (try go_wp2_with fail)
  refine hK.out _ _ ?_ (fun hh2 => ?_)
  · (try dsimp only); refine HK.out _ ?_; (repeat (first | exact gg | refine Grows.drew ?_ | refine Grows.alloc ?_ _ | refine Grows.setCell ?_ (by simp <;> omega) _))
  clear hK K hh1
  try simp only [Act.put, List.setIfInBounds_toArray, List.set_cons_zero, List.set_cons_succ]
  refine regTake 4 (v := ?_) ?_ hh2 ?_
  rotate_left
  · intro w hw; (try dsimp only at hw); go_simp; (try with_reducible rfl)
  try simp only [Act.put, List.setIfInBounds_toArray, List.set_cons_zero, List.set_cons_succ]
  refine wpAnyH_done (by kernel_rfl) ?_ _
  clear hh2 HK
  replace G := hideIt (G.out.trans gg)
  replace hr0 := hideIt (hr0.out.keep (Grows.keeps gg))
  replace x0 := hideIt (x0.out.keep (Grows.keeps gg))
  replace S0 := hideIt (S0.out.grows gg)
  replace V0 := hideIt (V0.out.grows gg)
  clear gg
  have kS0_0 : wx6_1.cell? ⟨w.heap.size, 0, none⟩ = some (l_0) := S0.out.cell 0
  have fS0 := S0.out.frozen
  have lS0 : w.heap.size < wx6_1.heap.size := S0.out.lt
  have kV0_0 : wx6_1.cell? ⟨u4.heap.size, 0, none⟩ = some (.slice Ax0_0 l.cells.length mx0_0) := V0.out.cell 0
  have fV0 := V0.out.frozen
  have lV0 : u4.heap.size < wx6_1.heap.size := V0.out.lt
  go_wp2
  go_ret
  exact ⟨rfl, G.out.below⟩
end Go.Proofs.YtnojnmdfklgooaaGreatDoor
