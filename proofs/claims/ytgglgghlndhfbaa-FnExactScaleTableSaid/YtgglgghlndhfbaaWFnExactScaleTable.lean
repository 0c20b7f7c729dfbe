/-
  The walk of FnExactScaleTable.
-/
import Derived.Test.YtgglgghlndhfbaaScaleS
import Derived.Test.YtgglgghlndhfbaaScaleI
import Derived.Test.YtgglgghlndhfbaaMark
import Derived.Test.YtgglgghlndhfbaaOpen
namespace Go.Proofs.Ytgglgghlndhfbaa
open Go.RowKit
theorem scTV_small (tt : TableD) (k m : Int) : SmTable (scTV tt k m) := by
  unfold scTV
  split
  · rename_i h
    have s := tabB_small h.2.2.2
    exact ⟨s.1.2, s.2.1.2, s.2.2.2⟩
  · exact ⟨by simp [SmL], by simp [SmL], by simp [SmL]⟩
set_option maxHeartbeats 16000000 in
set_option maxRecDepth 10000 in
theorem walk_FnExactScaleTable {tt : TableD} {v : Value} {w : World} (h : ∃ a b c : Value, v = .agg #[a, b, c] ∧ RTable w [a, b, c] tt) {k m : Int} (_ : (Lit.int .i64 k).wf = true) (_ : (Lit.int .i64 m).wf = true) :
    Calls Try.prog 3 #[v, .int .i64 k, .int .i64 m] w fun e w' => e = .returned (.bool true) ∧ Below w.heap.size w w' := by
  obtain ⟨a, b, c, rfl, hr⟩ := h
  have ST := hideIt (scTV_small tt k m)
  have CI := hideIt (fun W a b c (h : RTable W [a, b, c] tt) => iScale_any k m W h)
  have CS := hideIt (fun W a b c (h : RTable W [a, b, c] tt) => sScale_any k m W h)
  have q0 : 0 ≤ ((scTV tt k m).slews.length : Int) ∧ ((scTV tt k m).slews.length : Int) ≤ 1048576 := by have := ST.out.1; unfold SmL at this; omega
  have q1 : 0 ≤ ((scTV tt k m).loads.length : Int) ∧ ((scTV tt k m).loads.length : Int) ≤ 1048576 := by have := ST.out.2.1; unfold SmL at this; omega
  have q2 : 0 ≤ ((scTV tt k m).values.length : Int) ∧ ((scTV tt k m).values.length : Int) ≤ 1048576 := by have := ST.out.2.2; unfold SmL at this; omega
  generalize scTV tt k m = t at *
  generalize scTC tt k m = cd at *
  obtain ⟨q0, r0⟩ := q0
  obtain ⟨q1, r1⟩ := q1
  obtain ⟨q2, r2⟩ := q2
  have g : Grows w w := Grows.refl w
  have G : Hid (Grows w (w.alloc (.cells #[a, b, c] 24))) := hideIt ((Grows.refl w).alloc _)
  clear g
  have S : Hid (Blk (w.alloc (.cells #[a, b, c] 24)) (w.heap.size) 24 #[a, b, c]) := by
    have := (Blk.new w 24 #[a, b, c]).grows (Grows.refl (w.alloc (.cells #[a, b, c] 24)))
    exact hideIt (by simpa using this)
  replace hr := hideIt (hr.keep G.out.keeps)
  go_enter Try.func3, Try.ntmps3
  go_wp2_with fail
  refine (szTable_any _ _ hr.out (by omega) (by omega)).mono ?_
  rintro e u1 ⟨l0, rfl, b1, b2, sm, g⟩
  replace G := hideIt (G.out.trans g)
  replace hr := hideIt (hr.out.keep g.keeps)
  replace S := hideIt (S.out.grows g)
  have SM := hideIt sm
  clear sm
  clear g
  have kS_0 : u1.cell? ⟨w.heap.size, 0, none⟩ = some (a) := S.out.cell 0
  have kS_1 : u1.cell? ⟨w.heap.size, 1, none⟩ = some (b) := S.out.cell 1
  have kS_2 : u1.cell? ⟨w.heap.size, 2, none⟩ = some (c) := S.out.cell 2
  have fS := S.out.frozen
  have lS : w.heap.size < u1.heap.size := S.out.lt
  by_cases n1 : l0 < 0
  · go_wp2
    go_ret
    exact ⟨rfl, G.out.below⟩
  replace SM := hideIt (SM.out (by omega))
  have y0 : 0 ≤ (tt.slews.length : Int) ∧ (tt.slews.length : Int) ≤ 1048576 := by have := SM.out.1; unfold SmL at this; omega
  have y1 : 0 ≤ (tt.loads.length : Int) ∧ (tt.loads.length : Int) ≤ 1048576 := by have := SM.out.2.1; unfold SmL at this; omega
  have y2 : 0 ≤ (tt.values.length : Int) ∧ (tt.values.length : Int) ≤ 1048576 := by have := SM.out.2.2; unfold SmL at this; omega
  go_wp2_with fail
  clear kS_0 kS_1 kS_2 fS lS
  refine (toTable_any _ hr.out SM.out).mono ?_
  rintro e u2 ⟨x, y, z, bs, rfl, o, ow, g⟩
  replace G := hideIt (G.out.trans g)
  replace hr := hideIt (hr.out.keep g.keeps)
  replace S := hideIt (S.out.grows g)
  have q := o.reads
  clear o ow
  clear g
  have kS_0 : u2.cell? ⟨w.heap.size, 0, none⟩ = some (a) := S.out.cell 0
  have kS_1 : u2.cell? ⟨w.heap.size, 1, none⟩ = some (b) := S.out.cell 1
  have kS_2 : u2.cell? ⟨w.heap.size, 2, none⟩ = some (c) := S.out.cell 2
  have fS := S.out.frozen
  have lS : w.heap.size < u2.heap.size := S.out.lt
  replace q := hideIt q
  go_wp2_with fail
  clear kS_0 kS_1 kS_2 fS lS
  refine (CS.out _ _ _ _ q.out).mono ?_
  rintro e u3 ⟨Aa0, na0, Aa1, na1, Aa2, na2, bs0, rfl, o0, ow0, g⟩
  replace G := hideIt (G.out.trans g)
  replace hr := hideIt (hr.out.keep g.keeps)
  replace q := hideIt (q.out.keep g.keeps)
  replace S := hideIt (S.out.grows g)
  have r0 := hideIt o0.reads
  clear o0 ow0
  clear g
  have kS_0 : u3.cell? ⟨w.heap.size, 0, none⟩ = some (a) := S.out.cell 0
  have kS_1 : u3.cell? ⟨w.heap.size, 1, none⟩ = some (b) := S.out.cell 1
  have kS_2 : u3.cell? ⟨w.heap.size, 2, none⟩ = some (c) := S.out.cell 2
  have fS := S.out.frozen
  have lS : w.heap.size < u3.heap.size := S.out.lt
  have GA : Hid (Grows u3 u3) := hideIt (Grows.refl _)
  have HA := hr
  have gl : Grows u3 (u3.alloc (.cells #[.slice Aa0 t.slews.length na0, .slice Aa1 t.loads.length na1, .slice Aa2 t.values.length na2] 26)) := (Grows.refl _).alloc _
  replace G := hideIt (G.out.trans gl)
  replace GA := hideIt (GA.out.trans gl)
  replace hr := hideIt (hr.out.keep gl.keeps)
  replace q := hideIt (q.out.keep gl.keeps)
  replace S := hideIt (S.out.grows gl)
  have V0 := hideIt (Blk.new u3 26 #[.slice Aa0 t.slews.length na0, .slice Aa1 t.loads.length na1, .slice Aa2 t.values.length na2])
  clear gl
  go_wp2_with fail
  clear kS_0 kS_1 kS_2 fS lS
  refine (toTable_any _ hr.out SM.out).mono ?_
  rintro e u4 ⟨x2, y2_, z2, bsx, rfl, ox, owx, g⟩
  have LB_G_bsx : Hid (∀ q ∈ bsx, (w).heap.size ≤ q) := hideIt fun q hq => Nat.le_trans G.out.size (owx.2 q hq).1
  have LB_GA_bsx : Hid (∀ q ∈ bsx, (u3).heap.size ≤ q) := hideIt fun q hq => Nat.le_trans GA.out.size (owx.2 q hq).1
  have NB_S_bsx : Hid ((w.heap.size) ∉ bsx) := hideIt fun hm => Nat.lt_irrefl _ (Nat.lt_of_lt_of_le S.out.lt (owx.2 _ hm).1)
  have NB_V0_bsx : Hid ((u3.heap.size) ∉ bsx) := hideIt fun hm => Nat.lt_irrefl _ (Nat.lt_of_lt_of_le V0.out.lt (owx.2 _ hm).1)
  have ND_bsx := hideIt owx.1
  replace G := hideIt (G.out.trans g)
  replace GA := hideIt (GA.out.trans g)
  replace hr := hideIt (hr.out.keep g.keeps)
  replace q := hideIt (q.out.keep g.keeps)
  replace S := hideIt (S.out.grows g)
  replace V0 := hideIt (V0.out.grows g)
  replace ox := hideIt ox
  clear owx
  obtain ⟨⟨Ax0, nx0, rfl⟩, ⟨Ax1, nx1, rfl⟩, ⟨Ax2, nx2, rfl⟩⟩ := ox.out.reads.shape
  clear g
  have kS_0 : u4.cell? ⟨w.heap.size, 0, none⟩ = some (a) := S.out.cell 0
  have kS_1 : u4.cell? ⟨w.heap.size, 1, none⟩ = some (b) := S.out.cell 1
  have kS_2 : u4.cell? ⟨w.heap.size, 2, none⟩ = some (c) := S.out.cell 2
  have fS := S.out.frozen
  have lS : w.heap.size < u4.heap.size := S.out.lt
  have kV0_0 : u4.cell? ⟨u3.heap.size, 0, none⟩ = some (.slice Aa0 t.slews.length na0) := V0.out.cell 0
  have kV0_1 : u4.cell? ⟨u3.heap.size, 1, none⟩ = some (.slice Aa1 t.loads.length na1) := V0.out.cell 1
  have kV0_2 : u4.cell? ⟨u3.heap.size, 2, none⟩ = some (.slice Aa2 t.values.length na2) := V0.out.cell 2
  have fV0 := V0.out.frozen
  have lV0 : u3.heap.size < u4.heap.size := V0.out.lt
  have NB_VX_bsx : Hid (u4.heap.size ∉ bsx) := hideIt fun hm => Nat.lt_irrefl _ (ox.out.lt _ hm)
  have gl : Grows u4 (u4.alloc (.cells #[.slice Ax0 tt.slews.length nx0, .slice Ax1 tt.loads.length nx1, .slice Ax2 tt.values.length nx2] 26)) := (Grows.refl _).alloc _
  replace G := hideIt (G.out.trans gl)
  replace GA := hideIt (GA.out.trans gl)
  replace hr := hideIt (hr.out.keep gl.keeps)
  replace q := hideIt (q.out.keep gl.keeps)
  replace ox := hideIt (ox.out.same ((SameOn.refl _ _).grows ox.out.lt gl))
  replace S := hideIt (S.out.grows gl)
  replace V0 := hideIt (V0.out.grows gl)
  have VX := hideIt (Blk.new u4 26 #[.slice Ax0 tt.slews.length nx0, .slice Ax1 tt.loads.length nx1, .slice Ax2 tt.values.length nx2])
  clear gl
  go_wp2_with fail
  clear kS_0 kS_1 kS_2 fS lS kV0_0 kV0_1 kV0_2 fV0 lV0
  refine (CI.out _ _ _ _ ox.out.reads).mono ?_
  rintro e u5 ⟨Ab0, nb0, Ab1, nb1, Ab2, nb2, bs1, rfl, o1, ow1, g⟩
  have DJ_bsx_bs1 : Hid (∀ q ∈ bsx, q ∉ bs1) := hideIt fun q hq hm => Nat.lt_irrefl _ (Nat.lt_of_lt_of_le (ox.out.lt q hq) (ow1.2 q hm).1)
  have LB_G_bs1 : Hid (∀ q ∈ bs1, (w).heap.size ≤ q) := hideIt fun q hq => Nat.le_trans G.out.size (ow1.2 q hq).1
  have LB_GA_bs1 : Hid (∀ q ∈ bs1, (u3).heap.size ≤ q) := hideIt fun q hq => Nat.le_trans GA.out.size (ow1.2 q hq).1
  have NB_S_bs1 : Hid ((w.heap.size) ∉ bs1) := hideIt fun hm => Nat.lt_irrefl _ (Nat.lt_of_lt_of_le S.out.lt (ow1.2 _ hm).1)
  have NB_V0_bs1 : Hid ((u3.heap.size) ∉ bs1) := hideIt fun hm => Nat.lt_irrefl _ (Nat.lt_of_lt_of_le V0.out.lt (ow1.2 _ hm).1)
  have NB_VX_bs1 : Hid ((u4.heap.size) ∉ bs1) := hideIt fun hm => Nat.lt_irrefl _ (Nat.lt_of_lt_of_le VX.out.lt (ow1.2 _ hm).1)
  have ND_bs1 := hideIt ow1.1
  replace G := hideIt (G.out.trans g)
  replace GA := hideIt (GA.out.trans g)
  replace hr := hideIt (hr.out.keep g.keeps)
  replace q := hideIt (q.out.keep g.keeps)
  replace ox := hideIt (ox.out.same ((SameOn.refl _ _).grows ox.out.lt g))
  replace S := hideIt (S.out.grows g)
  replace V0 := hideIt (V0.out.grows g)
  replace VX := hideIt (VX.out.grows g)
  replace o1 := hideIt o1
  clear ow1
  clear g
  have kS_0 : u5.cell? ⟨w.heap.size, 0, none⟩ = some (a) := S.out.cell 0
  have kS_1 : u5.cell? ⟨w.heap.size, 1, none⟩ = some (b) := S.out.cell 1
  have kS_2 : u5.cell? ⟨w.heap.size, 2, none⟩ = some (c) := S.out.cell 2
  have fS := S.out.frozen
  have lS : w.heap.size < u5.heap.size := S.out.lt
  have kV0_0 : u5.cell? ⟨u3.heap.size, 0, none⟩ = some (.slice Aa0 t.slews.length na0) := V0.out.cell 0
  have kV0_1 : u5.cell? ⟨u3.heap.size, 1, none⟩ = some (.slice Aa1 t.loads.length na1) := V0.out.cell 1
  have kV0_2 : u5.cell? ⟨u3.heap.size, 2, none⟩ = some (.slice Aa2 t.values.length na2) := V0.out.cell 2
  have fV0 := V0.out.frozen
  have lV0 : u3.heap.size < u5.heap.size := V0.out.lt
  have kVX_0 : u5.cell? ⟨u4.heap.size, 0, none⟩ = some (.slice Ax0 tt.slews.length nx0) := VX.out.cell 0
  have kVX_1 : u5.cell? ⟨u4.heap.size, 1, none⟩ = some (.slice Ax1 tt.loads.length nx1) := VX.out.cell 1
  have kVX_2 : u5.cell? ⟨u4.heap.size, 2, none⟩ = some (.slice Ax2 tt.values.length nx2) := VX.out.cell 2
  have fVX := VX.out.frozen
  have lVX : u4.heap.size < u5.heap.size := VX.out.lt
  have NB_V1_bsx : Hid (u5.heap.size ∉ bsx) := hideIt fun hm => Nat.lt_irrefl _ (ox.out.lt _ hm)
  have NB_V1_bs1 : Hid (u5.heap.size ∉ bs1) := hideIt fun hm => Nat.lt_irrefl _ (o1.out.lt _ hm)
  have gl : Grows u5 (u5.alloc (.cells #[.slice Ab0 t.slews.length nb0, .slice Ab1 t.loads.length nb1, .slice Ab2 t.values.length nb2] 26)) := (Grows.refl _).alloc _
  replace G := hideIt (G.out.trans gl)
  replace GA := hideIt (GA.out.trans gl)
  replace hr := hideIt (hr.out.keep gl.keeps)
  replace q := hideIt (q.out.keep gl.keeps)
  replace ox := hideIt (ox.out.same ((SameOn.refl _ _).grows ox.out.lt gl))
  replace o1 := hideIt (o1.out.same ((SameOn.refl _ _).grows o1.out.lt gl))
  replace S := hideIt (S.out.grows gl)
  replace V0 := hideIt (V0.out.grows gl)
  replace VX := hideIt (VX.out.grows gl)
  have V1 := hideIt (Blk.new u5 26 #[.slice Ab0 t.slews.length nb0, .slice Ab1 t.loads.length nb1, .slice Ab2 t.values.length nb2])
  clear gl
  go_wp2_with fail
  clear kS_0 kS_1 kS_2 fS lS kV0_0 kV0_1 kV0_2 fV0 lV0 kVX_0 kVX_1 kVX_2 fVX lVX
  refine (eqTable_same _ o1.out.reads (r0.out.keep GA.out.keeps)).mono ?_
  rintro e u6 ⟨rfl, g⟩
  replace G := hideIt (G.out.trans g)
  replace GA := hideIt (GA.out.trans g)
  replace hr := hideIt (hr.out.keep g.keeps)
  replace q := hideIt (q.out.keep g.keeps)
  replace ox := hideIt (ox.out.same ((SameOn.refl _ _).grows ox.out.lt g))
  replace o1 := hideIt (o1.out.same ((SameOn.refl _ _).grows o1.out.lt g))
  replace S := hideIt (S.out.grows g)
  replace V0 := hideIt (V0.out.grows g)
  replace VX := hideIt (VX.out.grows g)
  replace V1 := hideIt (V1.out.grows g)
  clear g
  have kS_0 : u6.cell? ⟨w.heap.size, 0, none⟩ = some (a) := S.out.cell 0
  have kS_1 : u6.cell? ⟨w.heap.size, 1, none⟩ = some (b) := S.out.cell 1
  have kS_2 : u6.cell? ⟨w.heap.size, 2, none⟩ = some (c) := S.out.cell 2
  have fS := S.out.frozen
  have lS : w.heap.size < u6.heap.size := S.out.lt
  have kV0_0 : u6.cell? ⟨u3.heap.size, 0, none⟩ = some (.slice Aa0 t.slews.length na0) := V0.out.cell 0
  have kV0_1 : u6.cell? ⟨u3.heap.size, 1, none⟩ = some (.slice Aa1 t.loads.length na1) := V0.out.cell 1
  have kV0_2 : u6.cell? ⟨u3.heap.size, 2, none⟩ = some (.slice Aa2 t.values.length na2) := V0.out.cell 2
  have fV0 := V0.out.frozen
  have lV0 : u3.heap.size < u6.heap.size := V0.out.lt
  have kVX_0 : u6.cell? ⟨u4.heap.size, 0, none⟩ = some (.slice Ax0 tt.slews.length nx0) := VX.out.cell 0
  have kVX_1 : u6.cell? ⟨u4.heap.size, 1, none⟩ = some (.slice Ax1 tt.loads.length nx1) := VX.out.cell 1
  have kVX_2 : u6.cell? ⟨u4.heap.size, 2, none⟩ = some (.slice Ax2 tt.values.length nx2) := VX.out.cell 2
  have fVX := VX.out.frozen
  have lVX : u4.heap.size < u6.heap.size := VX.out.lt
  have kV1_0 : u6.cell? ⟨u5.heap.size, 0, none⟩ = some (.slice Ab0 t.slews.length nb0) := V1.out.cell 0
  have kV1_1 : u6.cell? ⟨u5.heap.size, 1, none⟩ = some (.slice Ab1 t.loads.length nb1) := V1.out.cell 1
  have kV1_2 : u6.cell? ⟨u5.heap.size, 2, none⟩ = some (.slice Ab2 t.values.length nb2) := V1.out.cell 2
  have fV1 := V1.out.frozen
  have lV1 : u5.heap.size < u6.heap.size := V1.out.lt
  go_wp2_with fail
  clear kS_0 kS_1 kS_2 fS lS kV0_0 kV0_1 kV0_2 fV0 lV0 kVX_0 kVX_1 kVX_2 fVX lVX kV1_0 kV1_1 kV1_2 fV1 lV1
  have K0 : ∀ w', Grows u6 w' → w'.cell? ⟨w.heap.size, 0, none⟩ = some (a) ∧ w'.cell? ⟨w.heap.size, 1, none⟩ = some (b) ∧ w'.cell? ⟨w.heap.size, 2, none⟩ = some (c) ∧ w'.cell? ⟨u3.heap.size, 0, none⟩ = some (.slice Aa0 t.slews.length na0) ∧ w'.cell? ⟨u3.heap.size, 1, none⟩ = some (.slice Aa1 t.loads.length na1) ∧ w'.cell? ⟨u3.heap.size, 2, none⟩ = some (.slice Aa2 t.values.length na2) ∧ w'.cell? ⟨u4.heap.size, 0, none⟩ = some (.slice Ax0 tt.slews.length nx0) ∧ w'.cell? ⟨u4.heap.size, 1, none⟩ = some (.slice Ax1 tt.loads.length nx1) ∧ w'.cell? ⟨u4.heap.size, 2, none⟩ = some (.slice Ax2 tt.values.length nx2) ∧ w'.cell? ⟨u5.heap.size, 0, none⟩ = some (.slice Ab0 t.slews.length nb0) ∧ w'.cell? ⟨u5.heap.size, 1, none⟩ = some (.slice Ab1 t.loads.length nb1) ∧ w'.cell? ⟨u5.heap.size, 2, none⟩ = some (.slice Ab2 t.values.length nb2) ∧ Grows u6 w' := fun w' G => ⟨(G.cells.1 _ _ S.out.lt).trans (S.out.cell 0), (G.cells.1 _ _ S.out.lt).trans (S.out.cell 1), (G.cells.1 _ _ S.out.lt).trans (S.out.cell 2), (G.cells.1 _ _ V0.out.lt).trans (V0.out.cell 0), (G.cells.1 _ _ V0.out.lt).trans (V0.out.cell 1), (G.cells.1 _ _ V0.out.lt).trans (V0.out.cell 2), (G.cells.1 _ _ VX.out.lt).trans (VX.out.cell 0), (G.cells.1 _ _ VX.out.lt).trans (VX.out.cell 1), (G.cells.1 _ _ VX.out.lt).trans (VX.out.cell 2), (G.cells.1 _ _ V1.out.lt).trans (V1.out.cell 0), (G.cells.1 _ _ V1.out.lt).trans (V1.out.cell 1), (G.cells.1 _ _ V1.out.lt).trans (V1.out.cell 2), G⟩
  have HK := hideIt K0
  clear K0
  have gg : Grows u6 u6 := Grows.refl _
  refine wp_region_held_drew (S := (fun w' => w'.cell? ⟨w.heap.size, 0, none⟩ = some (a) ∧ w'.cell? ⟨w.heap.size, 1, none⟩ = some (b) ∧ w'.cell? ⟨w.heap.size, 2, none⟩ = some (c) ∧ w'.cell? ⟨u3.heap.size, 0, none⟩ = some (.slice Aa0 t.slews.length na0) ∧ w'.cell? ⟨u3.heap.size, 1, none⟩ = some (.slice Aa1 t.loads.length na1) ∧ w'.cell? ⟨u3.heap.size, 2, none⟩ = some (.slice Aa2 t.values.length na2) ∧ w'.cell? ⟨u4.heap.size, 0, none⟩ = some (.slice Ax0 tt.slews.length nx0) ∧ w'.cell? ⟨u4.heap.size, 1, none⟩ = some (.slice Ax1 tt.loads.length nx1) ∧ w'.cell? ⟨u4.heap.size, 2, none⟩ = some (.slice Ax2 tt.values.length nx2) ∧ w'.cell? ⟨u5.heap.size, 0, none⟩ = some (.slice Ab0 t.slews.length nb0) ∧ w'.cell? ⟨u5.heap.size, 1, none⟩ = some (.slice Ab1 t.loads.length nb1) ∧ w'.cell? ⟨u5.heap.size, 2, none⟩ = some (.slice Ab2 t.values.length nb2) ∧ Grows u6 w')) (by kernel_rfl) ?_ (fun hh0 => ?_)
  · (try dsimp only); refine HK.out _ ?_; (repeat (first | exact gg | refine Grows.drew ?_ | refine Grows.alloc ?_ _ | refine Grows.setCell ?_ (by simp <;> omega) _))
  refine regTake 0 (v := ?_) ?_ hh0 ?_
  rotate_left
  · intro w hw; (try dsimp only at hw); go_simp; (try with_reducible rfl)
  try simp only [Act.put, List.setIfInBounds_toArray, List.set_cons_zero, List.set_cons_succ]
  refine regTake 1 (v := ?_) ?_ hh0 ?_
  rotate_left
  · intro w hw; (try dsimp only at hw); go_simp; (try with_reducible rfl)
  try simp only [Act.put, List.setIfInBounds_toArray, List.set_cons_zero, List.set_cons_succ]
  refine regCall 2 (fun K hK => ?_)
  go_simp
  refine (toTable_any _ (hr.out.keep (Grows.keeps (by (repeat (first | exact gg | refine Grows.drew ?_ | refine Grows.alloc ?_ _ | refine Grows.setCell ?_ (by simp <;> omega) _))))) SM.out).mono ?_
  rintro e wx7_0 ⟨x3, y3_, z3, bs3, rfl, o3, ow3, g⟩
  have e0 := o3.reads
  clear o3 ow3
  replace e0 := hideIt e0
  replace gg : Grows u6 wx7_0 := Grows.trans (by (repeat (first | exact gg | refine Grows.drew ?_ | refine Grows.alloc ?_ _ | refine Grows.setCell ?_ (by simp <;> omega) _))) g
  clear g
  (try go_wp2_with fail)
  refine hK.out _ _ ?_ (fun hh1 => ?_)
  · (try dsimp only); refine HK.out _ ?_; (repeat (first | exact gg | refine Grows.drew ?_ | refine Grows.alloc ?_ _ | refine Grows.setCell ?_ (by simp <;> omega) _))
  clear hK K hh0
  try simp only [Act.put, List.setIfInBounds_toArray, List.set_cons_zero, List.set_cons_succ]
  refine regCall 3 (fun K hK => ?_)
  go_simp
  refine (eqTable_same _ (ox.out.reads.keep (Grows.keeps (by (repeat (first | exact gg | refine Grows.drew ?_ | refine Grows.alloc ?_ _ | refine Grows.setCell ?_ (by simp <;> omega) _))))) (e0.out)).mono ?_
  rintro e wx7_1 ⟨rfl, g⟩
  replace e0 := hideIt (e0.out.keep g.keeps)
  replace gg : Grows u6 wx7_1 := Grows.trans (by (repeat (first | exact gg | refine Grows.drew ?_ | refine Grows.alloc ?_ _ | refine Grows.setCell ?_ (by simp <;> omega) _))) g
  clear g
  (try go_wp2_with fail)
  refine hK.out _ _ ?_ (fun hh2 => ?_)
  · (try dsimp only); refine HK.out _ ?_; (repeat (first | exact gg | refine Grows.drew ?_ | refine Grows.alloc ?_ _ | refine Grows.setCell ?_ (by simp <;> omega) _))
  clear hK K hh1
  try simp only [Act.put, List.setIfInBounds_toArray, List.set_cons_zero, List.set_cons_succ]
  refine regTake 4 (v := ?_) ?_ hh2 ?_
  rotate_left
  · intro w hw; (try dsimp only at hw); go_simp; (try with_reducible rfl)
  try simp only [Act.put, List.setIfInBounds_toArray, List.set_cons_zero, List.set_cons_succ]
  refine wpAnyH_done (by kernel_rfl) ?_ _
  clear hh2 HK
  replace ox := hideIt (ox.out.same ((SameOn.refl _ _).grows ox.out.lt gg))
  replace o1 := hideIt (o1.out.same ((SameOn.refl _ _).grows o1.out.lt gg))
  replace G := hideIt (G.out.trans gg)
  replace GA := hideIt (GA.out.trans gg)
  replace hr := hideIt (hr.out.keep (Grows.keeps gg))
  replace q := hideIt (q.out.keep (Grows.keeps gg))
  replace S := hideIt (S.out.grows gg)
  replace V0 := hideIt (V0.out.grows gg)
  replace VX := hideIt (VX.out.grows gg)
  replace V1 := hideIt (V1.out.grows gg)
  clear gg
  have kS_0 : wx7_1.cell? ⟨w.heap.size, 0, none⟩ = some (a) := S.out.cell 0
  have kS_1 : wx7_1.cell? ⟨w.heap.size, 1, none⟩ = some (b) := S.out.cell 1
  have kS_2 : wx7_1.cell? ⟨w.heap.size, 2, none⟩ = some (c) := S.out.cell 2
  have fS := S.out.frozen
  have lS : w.heap.size < wx7_1.heap.size := S.out.lt
  have kV0_0 : wx7_1.cell? ⟨u3.heap.size, 0, none⟩ = some (.slice Aa0 t.slews.length na0) := V0.out.cell 0
  have kV0_1 : wx7_1.cell? ⟨u3.heap.size, 1, none⟩ = some (.slice Aa1 t.loads.length na1) := V0.out.cell 1
  have kV0_2 : wx7_1.cell? ⟨u3.heap.size, 2, none⟩ = some (.slice Aa2 t.values.length na2) := V0.out.cell 2
  have fV0 := V0.out.frozen
  have lV0 : u3.heap.size < wx7_1.heap.size := V0.out.lt
  have kVX_0 : wx7_1.cell? ⟨u4.heap.size, 0, none⟩ = some (.slice Ax0 tt.slews.length nx0) := VX.out.cell 0
  have kVX_1 : wx7_1.cell? ⟨u4.heap.size, 1, none⟩ = some (.slice Ax1 tt.loads.length nx1) := VX.out.cell 1
  have kVX_2 : wx7_1.cell? ⟨u4.heap.size, 2, none⟩ = some (.slice Ax2 tt.values.length nx2) := VX.out.cell 2
  have fVX := VX.out.frozen
  have lVX : u4.heap.size < wx7_1.heap.size := VX.out.lt
  have kV1_0 : wx7_1.cell? ⟨u5.heap.size, 0, none⟩ = some (.slice Ab0 t.slews.length nb0) := V1.out.cell 0
  have kV1_1 : wx7_1.cell? ⟨u5.heap.size, 1, none⟩ = some (.slice Ab1 t.loads.length nb1) := V1.out.cell 1
  have kV1_2 : wx7_1.cell? ⟨u5.heap.size, 2, none⟩ = some (.slice Ab2 t.values.length nb2) := V1.out.cell 2
  have fV1 := V1.out.frozen
  have lV1 : u5.heap.size < wx7_1.heap.size := V1.out.lt
  clear e0
  go_wp2_with fail
  clear kS_0 kS_1 kS_2 fS lS kV0_0 kV0_1 kV0_2 fV0 lV0 kVX_0 kVX_1 kVX_2 fVX lVX kV1_0 kV1_1 kV1_2 fV1 lV1
  refine (markTable_any 1 _ ox.out ND_bsx.out SM.out (by omega) (by omega)).mono ?_
  rintro e u8 ⟨rfl, _, c⟩
  replace G := hideIt (G.out.chg c LB_G_bsx.out)
  replace GA := hideIt (GA.out.chg c LB_GA_bsx.out)
  clear hr q
  replace S := hideIt (S.out.chg c NB_S_bsx.out)
  replace V0 := hideIt (V0.out.chg c NB_V0_bsx.out)
  replace VX := hideIt (VX.out.chg c NB_VX_bsx.out)
  replace V1 := hideIt (V1.out.chg c NB_V1_bsx.out)
  replace o1 := hideIt (o1.out.same (c.same o1.out.lt (fun q hq hm => DJ_bsx_bs1.out q hm hq)))
  clear c ox
  have kS_0 : u8.cell? ⟨w.heap.size, 0, none⟩ = some (a) := S.out.cell 0
  have kS_1 : u8.cell? ⟨w.heap.size, 1, none⟩ = some (b) := S.out.cell 1
  have kS_2 : u8.cell? ⟨w.heap.size, 2, none⟩ = some (c) := S.out.cell 2
  have fS := S.out.frozen
  have lS : w.heap.size < u8.heap.size := S.out.lt
  have kV0_0 : u8.cell? ⟨u3.heap.size, 0, none⟩ = some (.slice Aa0 t.slews.length na0) := V0.out.cell 0
  have kV0_1 : u8.cell? ⟨u3.heap.size, 1, none⟩ = some (.slice Aa1 t.loads.length na1) := V0.out.cell 1
  have kV0_2 : u8.cell? ⟨u3.heap.size, 2, none⟩ = some (.slice Aa2 t.values.length na2) := V0.out.cell 2
  have fV0 := V0.out.frozen
  have lV0 : u3.heap.size < u8.heap.size := V0.out.lt
  have kVX_0 : u8.cell? ⟨u4.heap.size, 0, none⟩ = some (.slice Ax0 tt.slews.length nx0) := VX.out.cell 0
  have kVX_1 : u8.cell? ⟨u4.heap.size, 1, none⟩ = some (.slice Ax1 tt.loads.length nx1) := VX.out.cell 1
  have kVX_2 : u8.cell? ⟨u4.heap.size, 2, none⟩ = some (.slice Ax2 tt.values.length nx2) := VX.out.cell 2
  have fVX := VX.out.frozen
  have lVX : u4.heap.size < u8.heap.size := VX.out.lt
  have kV1_0 : u8.cell? ⟨u5.heap.size, 0, none⟩ = some (.slice Ab0 t.slews.length nb0) := V1.out.cell 0
  have kV1_1 : u8.cell? ⟨u5.heap.size, 1, none⟩ = some (.slice Ab1 t.loads.length nb1) := V1.out.cell 1
  have kV1_2 : u8.cell? ⟨u5.heap.size, 2, none⟩ = some (.slice Ab2 t.values.length nb2) := V1.out.cell 2
  have fV1 := V1.out.frozen
  have lV1 : u5.heap.size < u8.heap.size := V1.out.lt
  go_wp2_with fail
  clear kS_0 kS_1 kS_2 fS lS kV0_0 kV0_1 kV0_2 fV0 lV0 kVX_0 kVX_1 kVX_2 fVX lVX kV1_0 kV1_1 kV1_2 fV1 lV1
  refine (eqTable_same _ o1.out.reads (r0.out.keep GA.out.keeps)).mono ?_
  rintro e u9 ⟨rfl, g⟩
  replace G := hideIt (G.out.trans g)
  replace GA := hideIt (GA.out.trans g)
  replace o1 := hideIt (o1.out.same ((SameOn.refl _ _).grows o1.out.lt g))
  replace S := hideIt (S.out.grows g)
  replace V0 := hideIt (V0.out.grows g)
  replace VX := hideIt (VX.out.grows g)
  replace V1 := hideIt (V1.out.grows g)
  clear g
  have kS_0 : u9.cell? ⟨w.heap.size, 0, none⟩ = some (a) := S.out.cell 0
  have kS_1 : u9.cell? ⟨w.heap.size, 1, none⟩ = some (b) := S.out.cell 1
  have kS_2 : u9.cell? ⟨w.heap.size, 2, none⟩ = some (c) := S.out.cell 2
  have fS := S.out.frozen
  have lS : w.heap.size < u9.heap.size := S.out.lt
  have kV0_0 : u9.cell? ⟨u3.heap.size, 0, none⟩ = some (.slice Aa0 t.slews.length na0) := V0.out.cell 0
  have kV0_1 : u9.cell? ⟨u3.heap.size, 1, none⟩ = some (.slice Aa1 t.loads.length na1) := V0.out.cell 1
  have kV0_2 : u9.cell? ⟨u3.heap.size, 2, none⟩ = some (.slice Aa2 t.values.length na2) := V0.out.cell 2
  have fV0 := V0.out.frozen
  have lV0 : u3.heap.size < u9.heap.size := V0.out.lt
  have kVX_0 : u9.cell? ⟨u4.heap.size, 0, none⟩ = some (.slice Ax0 tt.slews.length nx0) := VX.out.cell 0
  have kVX_1 : u9.cell? ⟨u4.heap.size, 1, none⟩ = some (.slice Ax1 tt.loads.length nx1) := VX.out.cell 1
  have kVX_2 : u9.cell? ⟨u4.heap.size, 2, none⟩ = some (.slice Ax2 tt.values.length nx2) := VX.out.cell 2
  have fVX := VX.out.frozen
  have lVX : u4.heap.size < u9.heap.size := VX.out.lt
  have kV1_0 : u9.cell? ⟨u5.heap.size, 0, none⟩ = some (.slice Ab0 t.slews.length nb0) := V1.out.cell 0
  have kV1_1 : u9.cell? ⟨u5.heap.size, 1, none⟩ = some (.slice Ab1 t.loads.length nb1) := V1.out.cell 1
  have kV1_2 : u9.cell? ⟨u5.heap.size, 2, none⟩ = some (.slice Ab2 t.values.length nb2) := V1.out.cell 2
  have fV1 := V1.out.frozen
  have lV1 : u5.heap.size < u9.heap.size := V1.out.lt
  go_wp2_with fail
  clear kS_0 kS_1 kS_2 fS lS kV0_0 kV0_1 kV0_2 fV0 lV0 kVX_0 kVX_1 kVX_2 fVX lVX kV1_0 kV1_1 kV1_2 fV1 lV1
  refine (markTable_any 1 _ o1.out ND_bs1.out ST.out (by omega) (by omega)).mono ?_
  rintro e u10 ⟨rfl, o, c⟩
  replace G := hideIt (G.out.chg c LB_G_bs1.out)
  replace GA := hideIt (GA.out.chg c LB_GA_bs1.out)
  replace S := hideIt (S.out.chg c NB_S_bs1.out)
  replace V0 := hideIt (V0.out.chg c NB_V0_bs1.out)
  replace VX := hideIt (VX.out.chg c NB_VX_bs1.out)
  replace V1 := hideIt (V1.out.chg c NB_V1_bs1.out)
  replace o1 := hideIt o
  clear o c
  have kS_0 : u10.cell? ⟨w.heap.size, 0, none⟩ = some (a) := S.out.cell 0
  have kS_1 : u10.cell? ⟨w.heap.size, 1, none⟩ = some (b) := S.out.cell 1
  have kS_2 : u10.cell? ⟨w.heap.size, 2, none⟩ = some (c) := S.out.cell 2
  have fS := S.out.frozen
  have lS : w.heap.size < u10.heap.size := S.out.lt
  have kV0_0 : u10.cell? ⟨u3.heap.size, 0, none⟩ = some (.slice Aa0 t.slews.length na0) := V0.out.cell 0
  have kV0_1 : u10.cell? ⟨u3.heap.size, 1, none⟩ = some (.slice Aa1 t.loads.length na1) := V0.out.cell 1
  have kV0_2 : u10.cell? ⟨u3.heap.size, 2, none⟩ = some (.slice Aa2 t.values.length na2) := V0.out.cell 2
  have fV0 := V0.out.frozen
  have lV0 : u3.heap.size < u10.heap.size := V0.out.lt
  have kVX_0 : u10.cell? ⟨u4.heap.size, 0, none⟩ = some (.slice Ax0 tt.slews.length nx0) := VX.out.cell 0
  have kVX_1 : u10.cell? ⟨u4.heap.size, 1, none⟩ = some (.slice Ax1 tt.loads.length nx1) := VX.out.cell 1
  have kVX_2 : u10.cell? ⟨u4.heap.size, 2, none⟩ = some (.slice Ax2 tt.values.length nx2) := VX.out.cell 2
  have fVX := VX.out.frozen
  have lVX : u4.heap.size < u10.heap.size := VX.out.lt
  have kV1_0 : u10.cell? ⟨u5.heap.size, 0, none⟩ = some (.slice Ab0 t.slews.length nb0) := V1.out.cell 0
  have kV1_1 : u10.cell? ⟨u5.heap.size, 1, none⟩ = some (.slice Ab1 t.loads.length nb1) := V1.out.cell 1
  have kV1_2 : u10.cell? ⟨u5.heap.size, 2, none⟩ = some (.slice Ab2 t.values.length nb2) := V1.out.cell 2
  have fV1 := V1.out.frozen
  have lV1 : u5.heap.size < u10.heap.size := V1.out.lt
  go_wp2_with fail
  clear kS_0 kS_1 kS_2 fS lS kV0_0 kV0_1 kV0_2 fV0 lV0 kVX_0 kVX_1 kVX_2 fVX lVX kV1_0 kV1_1 kV1_2 fV1 lV1
  refine (heldTable_any 1 _ o1.out.reads ST.out (by omega) (by omega)).mono ?_
  rintro e u11 ⟨rfl, g⟩
  replace G := hideIt (G.out.trans g)
  replace GA := hideIt (GA.out.trans g)
  replace o1 := hideIt (o1.out.same ((SameOn.refl _ _).grows o1.out.lt g))
  replace S := hideIt (S.out.grows g)
  replace V0 := hideIt (V0.out.grows g)
  replace VX := hideIt (VX.out.grows g)
  replace V1 := hideIt (V1.out.grows g)
  clear g
  have kS_0 : u11.cell? ⟨w.heap.size, 0, none⟩ = some (a) := S.out.cell 0
  have kS_1 : u11.cell? ⟨w.heap.size, 1, none⟩ = some (b) := S.out.cell 1
  have kS_2 : u11.cell? ⟨w.heap.size, 2, none⟩ = some (c) := S.out.cell 2
  have fS := S.out.frozen
  have lS : w.heap.size < u11.heap.size := S.out.lt
  have kV0_0 : u11.cell? ⟨u3.heap.size, 0, none⟩ = some (.slice Aa0 t.slews.length na0) := V0.out.cell 0
  have kV0_1 : u11.cell? ⟨u3.heap.size, 1, none⟩ = some (.slice Aa1 t.loads.length na1) := V0.out.cell 1
  have kV0_2 : u11.cell? ⟨u3.heap.size, 2, none⟩ = some (.slice Aa2 t.values.length na2) := V0.out.cell 2
  have fV0 := V0.out.frozen
  have lV0 : u3.heap.size < u11.heap.size := V0.out.lt
  have kVX_0 : u11.cell? ⟨u4.heap.size, 0, none⟩ = some (.slice Ax0 tt.slews.length nx0) := VX.out.cell 0
  have kVX_1 : u11.cell? ⟨u4.heap.size, 1, none⟩ = some (.slice Ax1 tt.loads.length nx1) := VX.out.cell 1
  have kVX_2 : u11.cell? ⟨u4.heap.size, 2, none⟩ = some (.slice Ax2 tt.values.length nx2) := VX.out.cell 2
  have fVX := VX.out.frozen
  have lVX : u4.heap.size < u11.heap.size := VX.out.lt
  have kV1_0 : u11.cell? ⟨u5.heap.size, 0, none⟩ = some (.slice Ab0 t.slews.length nb0) := V1.out.cell 0
  have kV1_1 : u11.cell? ⟨u5.heap.size, 1, none⟩ = some (.slice Ab1 t.loads.length nb1) := V1.out.cell 1
  have kV1_2 : u11.cell? ⟨u5.heap.size, 2, none⟩ = some (.slice Ab2 t.values.length nb2) := V1.out.cell 2
  have fV1 := V1.out.frozen
  have lV1 : u5.heap.size < u11.heap.size := V1.out.lt
  have hr := hideIt (HA.out.keep GA.out.keeps)
  go_wp2_with fail
  clear kS_0 kS_1 kS_2 fS lS kV0_0 kV0_1 kV0_2 fV0 lV0 kVX_0 kVX_1 kVX_2 fVX lVX kV1_0 kV1_1 kV1_2 fV1 lV1
  refine (toTable_any _ hr.out SM.out).mono ?_
  rintro e u12 ⟨x4, y4_, z4, bs4, rfl, o4, ow4, g⟩
  replace G := hideIt (G.out.trans g)
  replace GA := hideIt (GA.out.trans g)
  replace hr := hideIt (hr.out.keep g.keeps)
  replace o1 := hideIt (o1.out.same ((SameOn.refl _ _).grows o1.out.lt g))
  replace S := hideIt (S.out.grows g)
  replace V0 := hideIt (V0.out.grows g)
  replace VX := hideIt (VX.out.grows g)
  replace V1 := hideIt (V1.out.grows g)
  have q4 := o4.reads
  clear o4 ow4
  clear g
  have kS_0 : u12.cell? ⟨w.heap.size, 0, none⟩ = some (a) := S.out.cell 0
  have kS_1 : u12.cell? ⟨w.heap.size, 1, none⟩ = some (b) := S.out.cell 1
  have kS_2 : u12.cell? ⟨w.heap.size, 2, none⟩ = some (c) := S.out.cell 2
  have fS := S.out.frozen
  have lS : w.heap.size < u12.heap.size := S.out.lt
  have kV0_0 : u12.cell? ⟨u3.heap.size, 0, none⟩ = some (.slice Aa0 t.slews.length na0) := V0.out.cell 0
  have kV0_1 : u12.cell? ⟨u3.heap.size, 1, none⟩ = some (.slice Aa1 t.loads.length na1) := V0.out.cell 1
  have kV0_2 : u12.cell? ⟨u3.heap.size, 2, none⟩ = some (.slice Aa2 t.values.length na2) := V0.out.cell 2
  have fV0 := V0.out.frozen
  have lV0 : u3.heap.size < u12.heap.size := V0.out.lt
  have kVX_0 : u12.cell? ⟨u4.heap.size, 0, none⟩ = some (.slice Ax0 tt.slews.length nx0) := VX.out.cell 0
  have kVX_1 : u12.cell? ⟨u4.heap.size, 1, none⟩ = some (.slice Ax1 tt.loads.length nx1) := VX.out.cell 1
  have kVX_2 : u12.cell? ⟨u4.heap.size, 2, none⟩ = some (.slice Ax2 tt.values.length nx2) := VX.out.cell 2
  have fVX := VX.out.frozen
  have lVX : u4.heap.size < u12.heap.size := VX.out.lt
  have kV1_0 : u12.cell? ⟨u5.heap.size, 0, none⟩ = some (.slice Ab0 t.slews.length nb0) := V1.out.cell 0
  have kV1_1 : u12.cell? ⟨u5.heap.size, 1, none⟩ = some (.slice Ab1 t.loads.length nb1) := V1.out.cell 1
  have kV1_2 : u12.cell? ⟨u5.heap.size, 2, none⟩ = some (.slice Ab2 t.values.length nb2) := V1.out.cell 2
  have fV1 := V1.out.frozen
  have lV1 : u5.heap.size < u12.heap.size := V1.out.lt
  replace q4 := hideIt q4
  go_wp2_with fail
  clear kS_0 kS_1 kS_2 fS lS kV0_0 kV0_1 kV0_2 fV0 lV0 kVX_0 kVX_1 kVX_2 fVX lVX kV1_0 kV1_1 kV1_2 fV1 lV1
  refine (CI.out _ _ _ _ q4.out).mono ?_
  rintro e u13 ⟨Ac0, nc0, Ac1, nc1, Ac2, nc2, bs2, rfl, o2, ow2, g⟩
  replace G := hideIt (G.out.trans g)
  replace GA := hideIt (GA.out.trans g)
  replace hr := hideIt (hr.out.keep g.keeps)
  replace q4 := hideIt (q4.out.keep g.keeps)
  replace o1 := hideIt (o1.out.same ((SameOn.refl _ _).grows o1.out.lt g))
  replace S := hideIt (S.out.grows g)
  replace V0 := hideIt (V0.out.grows g)
  replace VX := hideIt (VX.out.grows g)
  replace V1 := hideIt (V1.out.grows g)
  have r2 := o2.reads
  clear o2 ow2
  clear g
  have kS_0 : u13.cell? ⟨w.heap.size, 0, none⟩ = some (a) := S.out.cell 0
  have kS_1 : u13.cell? ⟨w.heap.size, 1, none⟩ = some (b) := S.out.cell 1
  have kS_2 : u13.cell? ⟨w.heap.size, 2, none⟩ = some (c) := S.out.cell 2
  have fS := S.out.frozen
  have lS : w.heap.size < u13.heap.size := S.out.lt
  have kV0_0 : u13.cell? ⟨u3.heap.size, 0, none⟩ = some (.slice Aa0 t.slews.length na0) := V0.out.cell 0
  have kV0_1 : u13.cell? ⟨u3.heap.size, 1, none⟩ = some (.slice Aa1 t.loads.length na1) := V0.out.cell 1
  have kV0_2 : u13.cell? ⟨u3.heap.size, 2, none⟩ = some (.slice Aa2 t.values.length na2) := V0.out.cell 2
  have fV0 := V0.out.frozen
  have lV0 : u3.heap.size < u13.heap.size := V0.out.lt
  have kVX_0 : u13.cell? ⟨u4.heap.size, 0, none⟩ = some (.slice Ax0 tt.slews.length nx0) := VX.out.cell 0
  have kVX_1 : u13.cell? ⟨u4.heap.size, 1, none⟩ = some (.slice Ax1 tt.loads.length nx1) := VX.out.cell 1
  have kVX_2 : u13.cell? ⟨u4.heap.size, 2, none⟩ = some (.slice Ax2 tt.values.length nx2) := VX.out.cell 2
  have fVX := VX.out.frozen
  have lVX : u4.heap.size < u13.heap.size := VX.out.lt
  have kV1_0 : u13.cell? ⟨u5.heap.size, 0, none⟩ = some (.slice Ab0 t.slews.length nb0) := V1.out.cell 0
  have kV1_1 : u13.cell? ⟨u5.heap.size, 1, none⟩ = some (.slice Ab1 t.loads.length nb1) := V1.out.cell 1
  have kV1_2 : u13.cell? ⟨u5.heap.size, 2, none⟩ = some (.slice Ab2 t.values.length nb2) := V1.out.cell 2
  have fV1 := V1.out.frozen
  have lV1 : u5.heap.size < u13.heap.size := V1.out.lt
  replace r2 := hideIt r2
  have NB_V2_bs1 : Hid (u13.heap.size ∉ bs1) := hideIt fun hm => Nat.lt_irrefl _ (o1.out.lt _ hm)
  have gl : Grows u13 (u13.alloc (.cells #[.slice Ac0 t.slews.length nc0, .slice Ac1 t.loads.length nc1, .slice Ac2 t.values.length nc2] 26)) := (Grows.refl _).alloc _
  replace G := hideIt (G.out.trans gl)
  replace GA := hideIt (GA.out.trans gl)
  replace hr := hideIt (hr.out.keep gl.keeps)
  replace q4 := hideIt (q4.out.keep gl.keeps)
  replace r2 := hideIt (r2.out.keep gl.keeps)
  replace o1 := hideIt (o1.out.same ((SameOn.refl _ _).grows o1.out.lt gl))
  replace S := hideIt (S.out.grows gl)
  replace V0 := hideIt (V0.out.grows gl)
  replace VX := hideIt (VX.out.grows gl)
  replace V1 := hideIt (V1.out.grows gl)
  have V2 := hideIt (Blk.new u13 26 #[.slice Ac0 t.slews.length nc0, .slice Ac1 t.loads.length nc1, .slice Ac2 t.values.length nc2])
  clear gl
  go_wp2_with fail
  clear kS_0 kS_1 kS_2 fS lS kV0_0 kV0_1 kV0_2 fV0 lV0 kVX_0 kVX_1 kVX_2 fVX lVX kV1_0 kV1_1 kV1_2 fV1 lV1
  refine (eqTable_same _ r2.out (r0.out.keep GA.out.keeps)).mono ?_
  rintro e u14 ⟨rfl, g⟩
  replace G := hideIt (G.out.trans g)
  replace GA := hideIt (GA.out.trans g)
  replace hr := hideIt (hr.out.keep g.keeps)
  replace q4 := hideIt (q4.out.keep g.keeps)
  replace r2 := hideIt (r2.out.keep g.keeps)
  replace o1 := hideIt (o1.out.same ((SameOn.refl _ _).grows o1.out.lt g))
  replace S := hideIt (S.out.grows g)
  replace V0 := hideIt (V0.out.grows g)
  replace VX := hideIt (VX.out.grows g)
  replace V1 := hideIt (V1.out.grows g)
  replace V2 := hideIt (V2.out.grows g)
  clear g
  have kS_0 : u14.cell? ⟨w.heap.size, 0, none⟩ = some (a) := S.out.cell 0
  have kS_1 : u14.cell? ⟨w.heap.size, 1, none⟩ = some (b) := S.out.cell 1
  have kS_2 : u14.cell? ⟨w.heap.size, 2, none⟩ = some (c) := S.out.cell 2
  have fS := S.out.frozen
  have lS : w.heap.size < u14.heap.size := S.out.lt
  have kV0_0 : u14.cell? ⟨u3.heap.size, 0, none⟩ = some (.slice Aa0 t.slews.length na0) := V0.out.cell 0
  have kV0_1 : u14.cell? ⟨u3.heap.size, 1, none⟩ = some (.slice Aa1 t.loads.length na1) := V0.out.cell 1
  have kV0_2 : u14.cell? ⟨u3.heap.size, 2, none⟩ = some (.slice Aa2 t.values.length na2) := V0.out.cell 2
  have fV0 := V0.out.frozen
  have lV0 : u3.heap.size < u14.heap.size := V0.out.lt
  have kVX_0 : u14.cell? ⟨u4.heap.size, 0, none⟩ = some (.slice Ax0 tt.slews.length nx0) := VX.out.cell 0
  have kVX_1 : u14.cell? ⟨u4.heap.size, 1, none⟩ = some (.slice Ax1 tt.loads.length nx1) := VX.out.cell 1
  have kVX_2 : u14.cell? ⟨u4.heap.size, 2, none⟩ = some (.slice Ax2 tt.values.length nx2) := VX.out.cell 2
  have fVX := VX.out.frozen
  have lVX : u4.heap.size < u14.heap.size := VX.out.lt
  have kV1_0 : u14.cell? ⟨u5.heap.size, 0, none⟩ = some (.slice Ab0 t.slews.length nb0) := V1.out.cell 0
  have kV1_1 : u14.cell? ⟨u5.heap.size, 1, none⟩ = some (.slice Ab1 t.loads.length nb1) := V1.out.cell 1
  have kV1_2 : u14.cell? ⟨u5.heap.size, 2, none⟩ = some (.slice Ab2 t.values.length nb2) := V1.out.cell 2
  have fV1 := V1.out.frozen
  have lV1 : u5.heap.size < u14.heap.size := V1.out.lt
  have kV2_0 : u14.cell? ⟨u13.heap.size, 0, none⟩ = some (.slice Ac0 t.slews.length nc0) := V2.out.cell 0
  have kV2_1 : u14.cell? ⟨u13.heap.size, 1, none⟩ = some (.slice Ac1 t.loads.length nc1) := V2.out.cell 1
  have kV2_2 : u14.cell? ⟨u13.heap.size, 2, none⟩ = some (.slice Ac2 t.values.length nc2) := V2.out.cell 2
  have fV2 := V2.out.frozen
  have lV2 : u13.heap.size < u14.heap.size := V2.out.lt
  go_wp2_with fail
  clear kS_0 kS_1 kS_2 fS lS kV0_0 kV0_1 kV0_2 fV0 lV0 kVX_0 kVX_1 kVX_2 fVX lVX kV1_0 kV1_1 kV1_2 fV1 lV1 kV2_0 kV2_1 kV2_2 fV2 lV2
  refine (heldTable_any 1 _ o1.out.reads ST.out (by omega) (by omega)).mono ?_
  rintro e u15 ⟨rfl, g⟩
  replace G := hideIt (G.out.trans g)
  replace GA := hideIt (GA.out.trans g)
  replace hr := hideIt (hr.out.keep g.keeps)
  replace q4 := hideIt (q4.out.keep g.keeps)
  replace r2 := hideIt (r2.out.keep g.keeps)
  replace o1 := hideIt (o1.out.same ((SameOn.refl _ _).grows o1.out.lt g))
  replace S := hideIt (S.out.grows g)
  replace V0 := hideIt (V0.out.grows g)
  replace VX := hideIt (VX.out.grows g)
  replace V1 := hideIt (V1.out.grows g)
  replace V2 := hideIt (V2.out.grows g)
  clear g
  have kS_0 : u15.cell? ⟨w.heap.size, 0, none⟩ = some (a) := S.out.cell 0
  have kS_1 : u15.cell? ⟨w.heap.size, 1, none⟩ = some (b) := S.out.cell 1
  have kS_2 : u15.cell? ⟨w.heap.size, 2, none⟩ = some (c) := S.out.cell 2
  have fS := S.out.frozen
  have lS : w.heap.size < u15.heap.size := S.out.lt
  have kV0_0 : u15.cell? ⟨u3.heap.size, 0, none⟩ = some (.slice Aa0 t.slews.length na0) := V0.out.cell 0
  have kV0_1 : u15.cell? ⟨u3.heap.size, 1, none⟩ = some (.slice Aa1 t.loads.length na1) := V0.out.cell 1
  have kV0_2 : u15.cell? ⟨u3.heap.size, 2, none⟩ = some (.slice Aa2 t.values.length na2) := V0.out.cell 2
  have fV0 := V0.out.frozen
  have lV0 : u3.heap.size < u15.heap.size := V0.out.lt
  have kVX_0 : u15.cell? ⟨u4.heap.size, 0, none⟩ = some (.slice Ax0 tt.slews.length nx0) := VX.out.cell 0
  have kVX_1 : u15.cell? ⟨u4.heap.size, 1, none⟩ = some (.slice Ax1 tt.loads.length nx1) := VX.out.cell 1
  have kVX_2 : u15.cell? ⟨u4.heap.size, 2, none⟩ = some (.slice Ax2 tt.values.length nx2) := VX.out.cell 2
  have fVX := VX.out.frozen
  have lVX : u4.heap.size < u15.heap.size := VX.out.lt
  have kV1_0 : u15.cell? ⟨u5.heap.size, 0, none⟩ = some (.slice Ab0 t.slews.length nb0) := V1.out.cell 0
  have kV1_1 : u15.cell? ⟨u5.heap.size, 1, none⟩ = some (.slice Ab1 t.loads.length nb1) := V1.out.cell 1
  have kV1_2 : u15.cell? ⟨u5.heap.size, 2, none⟩ = some (.slice Ab2 t.values.length nb2) := V1.out.cell 2
  have fV1 := V1.out.frozen
  have lV1 : u5.heap.size < u15.heap.size := V1.out.lt
  have kV2_0 : u15.cell? ⟨u13.heap.size, 0, none⟩ = some (.slice Ac0 t.slews.length nc0) := V2.out.cell 0
  have kV2_1 : u15.cell? ⟨u13.heap.size, 1, none⟩ = some (.slice Ac1 t.loads.length nc1) := V2.out.cell 1
  have kV2_2 : u15.cell? ⟨u13.heap.size, 2, none⟩ = some (.slice Ac2 t.values.length nc2) := V2.out.cell 2
  have fV2 := V2.out.frozen
  have lV2 : u13.heap.size < u15.heap.size := V2.out.lt
  go_wp2
  go_ret
  exact ⟨rfl, G.out.below⟩
end Go.Proofs.Ytgglgghlndhfbaa
