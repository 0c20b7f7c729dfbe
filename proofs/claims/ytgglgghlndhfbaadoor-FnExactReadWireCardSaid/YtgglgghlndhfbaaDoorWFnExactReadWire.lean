/-
  The walk of FnExactReadWire.
-/
import Derived.Test.YtgglgghlndhfbaaDoorIReadW
import Derived.Test.YtgglgghlndhfbaaDoorSWire
import Derived.Test.YtgglgghlndhfbaaDoorWire
namespace Go.Proofs.YtgglgghlndhfbaaDoor
open Go.RowKit

set_option maxHeartbeats 16000000 in
set_option maxRecDepth 10000 in
theorem walk_FnExactReadWire {s : ByteArray} (hs : s.size ≤ maxLen) {k : Int} (_ : (Lit.int .i64 k).wf = true) (w : World) (hw : TW w ∧ TE w) :
    Calls Tryd.prog 7 #[.string s, .int .i64 k] w fun e w' => e = .returned (.bool true) ∧ Below w.heap.size w w' := by
  have zs : (s.size : Int) ≤ 9223372036854775807 := by unfold maxLen at hs; omega
  have H := hideIt hw.1
  have HE := hideIt hw.2
  clear hw hs
  by_cases hz : s.size > 1048576
  · go_enter Tryd.func7, Tryd.ntmps7
    go_wp2
    go_ret
    exact ⟨rfl, Below.refl _ _⟩
  have hz2 : s.size ≤ 1048576 := by omega
  have g : Grows w w := Grows.refl w
  have G : Hid (Grows w w) := hideIt (Grows.refl w)
  clear g
  go_enter Tryd.func7, Tryd.ntmps7
  go_wp2_with fail
  refine (sReadWire_any s k _ hz2).mono ?_
  rintro e u1 ⟨t, ok, Aa0, na0, Aa1, na1, Aa2, na2, Aa3, na3, bs0, rfl, o0, ow0, rt0, g⟩
  replace G := hideIt (G.out.trans g)
  have ST := hideIt (rt0.small hz2)
  have RT0 := hideIt rt0
  clear rt0
  obtain ⟨q0, r0⟩ : 0 ≤ (t.parent.length : Int) ∧ (t.parent.length : Int) ≤ 1048576 := by have := ST.out.1; unfold SmL at this; omega
  obtain ⟨q1, r1⟩ : 0 ≤ (t.res.length : Int) ∧ (t.res.length : Int) ≤ 1048576 := by have := ST.out.2.1; unfold SmL at this; omega
  obtain ⟨q2, r2⟩ : 0 ≤ (t.cap.length : Int) ∧ (t.cap.length : Int) ≤ 1048576 := by have := ST.out.2.2.1; unfold SmL at this; omega
  obtain ⟨q3, r3⟩ : 0 ≤ (t.sink.length : Int) ∧ (t.sink.length : Int) ≤ 1048576 := by have := ST.out.2.2.2; unfold SmL at this; omega
  have r0 := hideIt o0.reads
  clear o0 ow0
  clear g
  have GA : Hid (Grows u1 u1) := hideIt (Grows.refl _)
  have gl : Grows u1 (u1.alloc (.cells #[.slice Aa0 t.parent.length na0, .slice Aa1 t.res.length na1, .slice Aa2 t.cap.length na2, .slice Aa3 t.sink.length na3] 39)) := (Grows.refl _).alloc _
  replace G := hideIt (G.out.trans gl)
  replace GA := hideIt (GA.out.trans gl)
  have V0 := hideIt (Blk.new u1 39 #[.slice Aa0 t.parent.length na0, .slice Aa1 t.res.length na1, .slice Aa2 t.cap.length na2, .slice Aa3 t.sink.length na3])
  clear gl
  go_wp2_with fail
  refine (iReadWire_any s k _ hz2 (H.out.keep G.out) (HE.out.keep G.out)).mono ?_
  rintro e u2 ⟨t1, ok1, Ab0, nb0, Ab1, nb1, Ab2, nb2, Ab3, nb3, bs1, rfl, o1, ow1, rt1, g⟩
  obtain ⟨rfl, rfl⟩ := RW.uniq RT0.out rt1
  clear rt1
  have LB_G_bs1 : Hid (∀ q ∈ bs1, (w).heap.size ≤ q) := hideIt fun q hq => Nat.le_trans G.out.size (ow1.2 q hq).1
  have LB_GA_bs1 : Hid (∀ q ∈ bs1, (u1).heap.size ≤ q) := hideIt fun q hq => Nat.le_trans GA.out.size (ow1.2 q hq).1
  have NB_V0_bs1 : Hid ((u1.heap.size) ∉ bs1) := hideIt fun hm => Nat.lt_irrefl _ (Nat.lt_of_lt_of_le V0.out.lt (ow1.2 _ hm).1)
  have ND_bs1 := hideIt ow1.1
  replace G := hideIt (G.out.trans g)
  replace GA := hideIt (GA.out.trans g)
  replace V0 := hideIt (V0.out.grows g)
  replace o1 := hideIt o1
  clear ow1
  clear g
  have kV0_0 : u2.cell? ⟨u1.heap.size, 0, none⟩ = some (.slice Aa0 t.parent.length na0) := V0.out.cell 0
  have kV0_1 : u2.cell? ⟨u1.heap.size, 1, none⟩ = some (.slice Aa1 t.res.length na1) := V0.out.cell 1
  have kV0_2 : u2.cell? ⟨u1.heap.size, 2, none⟩ = some (.slice Aa2 t.cap.length na2) := V0.out.cell 2
  have kV0_3 : u2.cell? ⟨u1.heap.size, 3, none⟩ = some (.slice Aa3 t.sink.length na3) := V0.out.cell 3
  have fV0 := V0.out.frozen
  have lV0 : u1.heap.size < u2.heap.size := V0.out.lt
  have NB_V1_bs1 : Hid (u2.heap.size ∉ bs1) := hideIt fun hm => Nat.lt_irrefl _ (o1.out.lt _ hm)
  have gl : Grows u2 (u2.alloc (.cells #[.slice Ab0 t.parent.length nb0, .slice Ab1 t.res.length nb1, .slice Ab2 t.cap.length nb2, .slice Ab3 t.sink.length nb3] 39)) := (Grows.refl _).alloc _
  replace G := hideIt (G.out.trans gl)
  replace GA := hideIt (GA.out.trans gl)
  replace o1 := hideIt (o1.out.same ((SameOn.refl _ _).grows o1.out.lt gl))
  replace V0 := hideIt (V0.out.grows gl)
  have V1 := hideIt (Blk.new u2 39 #[.slice Ab0 t.parent.length nb0, .slice Ab1 t.res.length nb1, .slice Ab2 t.cap.length nb2, .slice Ab3 t.sink.length nb3])
  clear gl
  go_wp2_with fail
  clear kV0_0 kV0_1 kV0_2 kV0_3 fV0 lV0
  refine (eqWire_same _ o1.out.reads (r0.out.keep GA.out.keeps)).mono ?_
  rintro e u3 ⟨rfl, g⟩
  replace G := hideIt (G.out.trans g)
  replace GA := hideIt (GA.out.trans g)
  replace o1 := hideIt (o1.out.same ((SameOn.refl _ _).grows o1.out.lt g))
  replace V0 := hideIt (V0.out.grows g)
  replace V1 := hideIt (V1.out.grows g)
  clear g
  have kV0_0 : u3.cell? ⟨u1.heap.size, 0, none⟩ = some (.slice Aa0 t.parent.length na0) := V0.out.cell 0
  have kV0_1 : u3.cell? ⟨u1.heap.size, 1, none⟩ = some (.slice Aa1 t.res.length na1) := V0.out.cell 1
  have kV0_2 : u3.cell? ⟨u1.heap.size, 2, none⟩ = some (.slice Aa2 t.cap.length na2) := V0.out.cell 2
  have kV0_3 : u3.cell? ⟨u1.heap.size, 3, none⟩ = some (.slice Aa3 t.sink.length na3) := V0.out.cell 3
  have fV0 := V0.out.frozen
  have lV0 : u1.heap.size < u3.heap.size := V0.out.lt
  have kV1_0 : u3.cell? ⟨u2.heap.size, 0, none⟩ = some (.slice Ab0 t.parent.length nb0) := V1.out.cell 0
  have kV1_1 : u3.cell? ⟨u2.heap.size, 1, none⟩ = some (.slice Ab1 t.res.length nb1) := V1.out.cell 1
  have kV1_2 : u3.cell? ⟨u2.heap.size, 2, none⟩ = some (.slice Ab2 t.cap.length nb2) := V1.out.cell 2
  have kV1_3 : u3.cell? ⟨u2.heap.size, 3, none⟩ = some (.slice Ab3 t.sink.length nb3) := V1.out.cell 3
  have fV1 := V1.out.frozen
  have lV1 : u2.heap.size < u3.heap.size := V1.out.lt
  go_wp2_with fail
  clear kV0_0 kV0_1 kV0_2 kV0_3 fV0 lV0 kV1_0 kV1_1 kV1_2 kV1_3 fV1 lV1
  refine (markWire_any 1 _ o1.out ND_bs1.out ST.out (by omega) (by omega)).mono ?_
  rintro e u4 ⟨rfl, o, c⟩
  replace G := hideIt (G.out.chg c LB_G_bs1.out)
  replace GA := hideIt (GA.out.chg c LB_GA_bs1.out)
  replace V0 := hideIt (V0.out.chg c NB_V0_bs1.out)
  replace V1 := hideIt (V1.out.chg c NB_V1_bs1.out)
  replace o1 := hideIt o
  clear o c
  have kV0_0 : u4.cell? ⟨u1.heap.size, 0, none⟩ = some (.slice Aa0 t.parent.length na0) := V0.out.cell 0
  have kV0_1 : u4.cell? ⟨u1.heap.size, 1, none⟩ = some (.slice Aa1 t.res.length na1) := V0.out.cell 1
  have kV0_2 : u4.cell? ⟨u1.heap.size, 2, none⟩ = some (.slice Aa2 t.cap.length na2) := V0.out.cell 2
  have kV0_3 : u4.cell? ⟨u1.heap.size, 3, none⟩ = some (.slice Aa3 t.sink.length na3) := V0.out.cell 3
  have fV0 := V0.out.frozen
  have lV0 : u1.heap.size < u4.heap.size := V0.out.lt
  have kV1_0 : u4.cell? ⟨u2.heap.size, 0, none⟩ = some (.slice Ab0 t.parent.length nb0) := V1.out.cell 0
  have kV1_1 : u4.cell? ⟨u2.heap.size, 1, none⟩ = some (.slice Ab1 t.res.length nb1) := V1.out.cell 1
  have kV1_2 : u4.cell? ⟨u2.heap.size, 2, none⟩ = some (.slice Ab2 t.cap.length nb2) := V1.out.cell 2
  have kV1_3 : u4.cell? ⟨u2.heap.size, 3, none⟩ = some (.slice Ab3 t.sink.length nb3) := V1.out.cell 3
  have fV1 := V1.out.frozen
  have lV1 : u2.heap.size < u4.heap.size := V1.out.lt
  go_wp2_with fail
  clear kV0_0 kV0_1 kV0_2 kV0_3 fV0 lV0 kV1_0 kV1_1 kV1_2 kV1_3 fV1 lV1
  refine (heldWire_any 1 _ o1.out.reads ST.out (by omega) (by omega)).mono ?_
  rintro e u5 ⟨rfl, g⟩
  replace G := hideIt (G.out.trans g)
  replace GA := hideIt (GA.out.trans g)
  replace o1 := hideIt (o1.out.same ((SameOn.refl _ _).grows o1.out.lt g))
  replace V0 := hideIt (V0.out.grows g)
  replace V1 := hideIt (V1.out.grows g)
  clear g
  have kV0_0 : u5.cell? ⟨u1.heap.size, 0, none⟩ = some (.slice Aa0 t.parent.length na0) := V0.out.cell 0
  have kV0_1 : u5.cell? ⟨u1.heap.size, 1, none⟩ = some (.slice Aa1 t.res.length na1) := V0.out.cell 1
  have kV0_2 : u5.cell? ⟨u1.heap.size, 2, none⟩ = some (.slice Aa2 t.cap.length na2) := V0.out.cell 2
  have kV0_3 : u5.cell? ⟨u1.heap.size, 3, none⟩ = some (.slice Aa3 t.sink.length na3) := V0.out.cell 3
  have fV0 := V0.out.frozen
  have lV0 : u1.heap.size < u5.heap.size := V0.out.lt
  have kV1_0 : u5.cell? ⟨u2.heap.size, 0, none⟩ = some (.slice Ab0 t.parent.length nb0) := V1.out.cell 0
  have kV1_1 : u5.cell? ⟨u2.heap.size, 1, none⟩ = some (.slice Ab1 t.res.length nb1) := V1.out.cell 1
  have kV1_2 : u5.cell? ⟨u2.heap.size, 2, none⟩ = some (.slice Ab2 t.cap.length nb2) := V1.out.cell 2
  have kV1_3 : u5.cell? ⟨u2.heap.size, 3, none⟩ = some (.slice Ab3 t.sink.length nb3) := V1.out.cell 3
  have fV1 := V1.out.frozen
  have lV1 : u2.heap.size < u5.heap.size := V1.out.lt
  go_wp2_with fail
  clear kV0_0 kV0_1 kV0_2 kV0_3 fV0 lV0 kV1_0 kV1_1 kV1_2 kV1_3 fV1 lV1
  refine (iReadWire_any s k _ hz2 (H.out.keep G.out) (HE.out.keep G.out)).mono ?_
  rintro e u6 ⟨t2, ok2, Ac0, nc0, Ac1, nc1, Ac2, nc2, Ac3, nc3, bs2, rfl, o2, ow2, rt2, g⟩
  obtain ⟨rfl, rfl⟩ := RW.uniq RT0.out rt2
  clear rt2
  replace G := hideIt (G.out.trans g)
  replace GA := hideIt (GA.out.trans g)
  replace o1 := hideIt (o1.out.same ((SameOn.refl _ _).grows o1.out.lt g))
  replace V0 := hideIt (V0.out.grows g)
  replace V1 := hideIt (V1.out.grows g)
  have r2 := o2.reads
  clear o2 ow2
  clear g
  have kV0_0 : u6.cell? ⟨u1.heap.size, 0, none⟩ = some (.slice Aa0 t.parent.length na0) := V0.out.cell 0
  have kV0_1 : u6.cell? ⟨u1.heap.size, 1, none⟩ = some (.slice Aa1 t.res.length na1) := V0.out.cell 1
  have kV0_2 : u6.cell? ⟨u1.heap.size, 2, none⟩ = some (.slice Aa2 t.cap.length na2) := V0.out.cell 2
  have kV0_3 : u6.cell? ⟨u1.heap.size, 3, none⟩ = some (.slice Aa3 t.sink.length na3) := V0.out.cell 3
  have fV0 := V0.out.frozen
  have lV0 : u1.heap.size < u6.heap.size := V0.out.lt
  have kV1_0 : u6.cell? ⟨u2.heap.size, 0, none⟩ = some (.slice Ab0 t.parent.length nb0) := V1.out.cell 0
  have kV1_1 : u6.cell? ⟨u2.heap.size, 1, none⟩ = some (.slice Ab1 t.res.length nb1) := V1.out.cell 1
  have kV1_2 : u6.cell? ⟨u2.heap.size, 2, none⟩ = some (.slice Ab2 t.cap.length nb2) := V1.out.cell 2
  have kV1_3 : u6.cell? ⟨u2.heap.size, 3, none⟩ = some (.slice Ab3 t.sink.length nb3) := V1.out.cell 3
  have fV1 := V1.out.frozen
  have lV1 : u2.heap.size < u6.heap.size := V1.out.lt
  replace r2 := hideIt r2
  have NB_V2_bs1 : Hid (u6.heap.size ∉ bs1) := hideIt fun hm => Nat.lt_irrefl _ (o1.out.lt _ hm)
  have gl : Grows u6 (u6.alloc (.cells #[.slice Ac0 t.parent.length nc0, .slice Ac1 t.res.length nc1, .slice Ac2 t.cap.length nc2, .slice Ac3 t.sink.length nc3] 39)) := (Grows.refl _).alloc _
  replace G := hideIt (G.out.trans gl)
  replace GA := hideIt (GA.out.trans gl)
  replace r2 := hideIt (r2.out.keep gl.keeps)
  replace o1 := hideIt (o1.out.same ((SameOn.refl _ _).grows o1.out.lt gl))
  replace V0 := hideIt (V0.out.grows gl)
  replace V1 := hideIt (V1.out.grows gl)
  have V2 := hideIt (Blk.new u6 39 #[.slice Ac0 t.parent.length nc0, .slice Ac1 t.res.length nc1, .slice Ac2 t.cap.length nc2, .slice Ac3 t.sink.length nc3])
  clear gl
  go_wp2_with fail
  clear kV0_0 kV0_1 kV0_2 kV0_3 fV0 lV0 kV1_0 kV1_1 kV1_2 kV1_3 fV1 lV1
  refine (eqWire_same _ r2.out (r0.out.keep GA.out.keeps)).mono ?_
  rintro e u7 ⟨rfl, g⟩
  replace G := hideIt (G.out.trans g)
  replace GA := hideIt (GA.out.trans g)
  replace r2 := hideIt (r2.out.keep g.keeps)
  replace o1 := hideIt (o1.out.same ((SameOn.refl _ _).grows o1.out.lt g))
  replace V0 := hideIt (V0.out.grows g)
  replace V1 := hideIt (V1.out.grows g)
  replace V2 := hideIt (V2.out.grows g)
  clear g
  have kV0_0 : u7.cell? ⟨u1.heap.size, 0, none⟩ = some (.slice Aa0 t.parent.length na0) := V0.out.cell 0
  have kV0_1 : u7.cell? ⟨u1.heap.size, 1, none⟩ = some (.slice Aa1 t.res.length na1) := V0.out.cell 1
  have kV0_2 : u7.cell? ⟨u1.heap.size, 2, none⟩ = some (.slice Aa2 t.cap.length na2) := V0.out.cell 2
  have kV0_3 : u7.cell? ⟨u1.heap.size, 3, none⟩ = some (.slice Aa3 t.sink.length na3) := V0.out.cell 3
  have fV0 := V0.out.frozen
  have lV0 : u1.heap.size < u7.heap.size := V0.out.lt
  have kV1_0 : u7.cell? ⟨u2.heap.size, 0, none⟩ = some (.slice Ab0 t.parent.length nb0) := V1.out.cell 0
  have kV1_1 : u7.cell? ⟨u2.heap.size, 1, none⟩ = some (.slice Ab1 t.res.length nb1) := V1.out.cell 1
  have kV1_2 : u7.cell? ⟨u2.heap.size, 2, none⟩ = some (.slice Ab2 t.cap.length nb2) := V1.out.cell 2
  have kV1_3 : u7.cell? ⟨u2.heap.size, 3, none⟩ = some (.slice Ab3 t.sink.length nb3) := V1.out.cell 3
  have fV1 := V1.out.frozen
  have lV1 : u2.heap.size < u7.heap.size := V1.out.lt
  have kV2_0 : u7.cell? ⟨u6.heap.size, 0, none⟩ = some (.slice Ac0 t.parent.length nc0) := V2.out.cell 0
  have kV2_1 : u7.cell? ⟨u6.heap.size, 1, none⟩ = some (.slice Ac1 t.res.length nc1) := V2.out.cell 1
  have kV2_2 : u7.cell? ⟨u6.heap.size, 2, none⟩ = some (.slice Ac2 t.cap.length nc2) := V2.out.cell 2
  have kV2_3 : u7.cell? ⟨u6.heap.size, 3, none⟩ = some (.slice Ac3 t.sink.length nc3) := V2.out.cell 3
  have fV2 := V2.out.frozen
  have lV2 : u6.heap.size < u7.heap.size := V2.out.lt
  go_wp2_with fail
  clear kV0_0 kV0_1 kV0_2 kV0_3 fV0 lV0 kV1_0 kV1_1 kV1_2 kV1_3 fV1 lV1 kV2_0 kV2_1 kV2_2 kV2_3 fV2 lV2
  refine (heldWire_any 1 _ o1.out.reads ST.out (by omega) (by omega)).mono ?_
  rintro e u8 ⟨rfl, g⟩
  replace G := hideIt (G.out.trans g)
  replace GA := hideIt (GA.out.trans g)
  replace r2 := hideIt (r2.out.keep g.keeps)
  replace o1 := hideIt (o1.out.same ((SameOn.refl _ _).grows o1.out.lt g))
  replace V0 := hideIt (V0.out.grows g)
  replace V1 := hideIt (V1.out.grows g)
  replace V2 := hideIt (V2.out.grows g)
  clear g
  have kV0_0 : u8.cell? ⟨u1.heap.size, 0, none⟩ = some (.slice Aa0 t.parent.length na0) := V0.out.cell 0
  have kV0_1 : u8.cell? ⟨u1.heap.size, 1, none⟩ = some (.slice Aa1 t.res.length na1) := V0.out.cell 1
  have kV0_2 : u8.cell? ⟨u1.heap.size, 2, none⟩ = some (.slice Aa2 t.cap.length na2) := V0.out.cell 2
  have kV0_3 : u8.cell? ⟨u1.heap.size, 3, none⟩ = some (.slice Aa3 t.sink.length na3) := V0.out.cell 3
  have fV0 := V0.out.frozen
  have lV0 : u1.heap.size < u8.heap.size := V0.out.lt
  have kV1_0 : u8.cell? ⟨u2.heap.size, 0, none⟩ = some (.slice Ab0 t.parent.length nb0) := V1.out.cell 0
  have kV1_1 : u8.cell? ⟨u2.heap.size, 1, none⟩ = some (.slice Ab1 t.res.length nb1) := V1.out.cell 1
  have kV1_2 : u8.cell? ⟨u2.heap.size, 2, none⟩ = some (.slice Ab2 t.cap.length nb2) := V1.out.cell 2
  have kV1_3 : u8.cell? ⟨u2.heap.size, 3, none⟩ = some (.slice Ab3 t.sink.length nb3) := V1.out.cell 3
  have fV1 := V1.out.frozen
  have lV1 : u2.heap.size < u8.heap.size := V1.out.lt
  have kV2_0 : u8.cell? ⟨u6.heap.size, 0, none⟩ = some (.slice Ac0 t.parent.length nc0) := V2.out.cell 0
  have kV2_1 : u8.cell? ⟨u6.heap.size, 1, none⟩ = some (.slice Ac1 t.res.length nc1) := V2.out.cell 1
  have kV2_2 : u8.cell? ⟨u6.heap.size, 2, none⟩ = some (.slice Ac2 t.cap.length nc2) := V2.out.cell 2
  have kV2_3 : u8.cell? ⟨u6.heap.size, 3, none⟩ = some (.slice Ac3 t.sink.length nc3) := V2.out.cell 3
  have fV2 := V2.out.frozen
  have lV2 : u6.heap.size < u8.heap.size := V2.out.lt
  go_wp2
  go_ret
  exact ⟨rfl, G.out.below⟩
end Go.Proofs.YtgglgghlndhfbaaDoor
