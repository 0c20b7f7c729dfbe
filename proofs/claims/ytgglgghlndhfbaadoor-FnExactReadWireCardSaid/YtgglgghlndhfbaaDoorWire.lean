/-
  Wires: memory of one's own, size, copy, equality, marks.
-/
import Derived.Test.YtgglgghlndhfbaaDoorMark
namespace Go.Proofs.YtgglgghlndhfbaaDoor
open Go.RowKit
def OWire (w : World) (cs : List Value) (x : WireD) (bs : List Nat) : Prop :=
  ∃ (va vb vc vd : Value) (b0 b1 b2 b3 : List Nat), cs = [va, vb, vc, vd] ∧ OInts w va x.parent b0 ∧ OInts w vb x.res b1 ∧ OInts w vc x.cap b2 ∧ OInts w vd x.sink b3 ∧ bs = b0 ++ b1 ++ b2 ++ b3
theorem OWire.reads {w : World} {cs : List Value} {x : WireD} {bs : List Nat} (h : OWire w cs x bs) : RWire w cs x := by
  obtain ⟨va, vb, vc, vd, _, _, _, _, e, h0, h1, h2, h3, _⟩ := h
  exact ⟨va, vb, vc, vd, e, h0.reads, h1.reads, h2.reads, h3.reads⟩
theorem OWire.same {w w' : World} {cs : List Value} {x : WireD} {bs : List Nat} (h : OWire w cs x bs) (g : SameOn bs w w') : OWire w' cs x bs := by
  obtain ⟨va, vb, vc, vd, b0, b1, b2, b3, e, h0, h1, h2, h3, rfl⟩ := h
  exact ⟨va, vb, vc, vd, b0, b1, b2, b3, e, h0.same (g.sub (by simp +contextual)), h1.same (g.sub (by simp +contextual)), h2.same (g.sub (by simp +contextual)), h3.same (g.sub (by simp +contextual)), rfl⟩
theorem OWire.lt {w : World} {cs : List Value} {x : WireD} {bs : List Nat} (h : OWire w cs x bs) : ∀ g ∈ bs, g < w.heap.size := by
  obtain ⟨va, vb, vc, vd, b0, b1, b2, b3, e, h0, h1, h2, h3, rfl⟩ := h
  intro g hg
  simp only [List.mem_append] at hg
  rcases hg with (((hg | hg) | hg) | hg)
  · exact h0.lt g hg
  · exact h1.lt g hg
  · exact h2.lt g hg
  · exact h3.lt g hg
def SmWire (x : WireD) : Prop := SmL x.parent ∧ SmL x.res ∧ SmL x.cap ∧ SmL x.sink
theorem RWire.open_ {w : World} {va vb vc vd : Value} {x : WireD} (h : RWire w [va, vb, vc, vd] x) : RInts w va x.parent ∧ RInts w vb x.res ∧ RInts w vc x.cap ∧ RInts w vd x.sink := by
  obtain ⟨va', vb', vc', vd', he, h0, h1, h2, h3⟩ := h
  injection he with e0 he
  injection he with e1 he
  injection he with e2 he
  injection he with e3 he
  subst e0 e1 e2 e3
  clear he
  exact ⟨h0, h1, h2, h3⟩
theorem RWire.shape {w : World} {va vb vc vd : Value} {x : WireD} (h : RWire w [va, vb, vc, vd] x) : (∃ (A : Option Addr) (n : Nat), va = .slice A x.parent.length n) ∧ (∃ (A : Option Addr) (n : Nat), vb = .slice A x.res.length n) ∧ (∃ (A : Option Addr) (n : Nat), vc = .slice A x.cap.length n) ∧ (∃ (A : Option Addr) (n : Nat), vd = .slice A x.sink.length n) := by
  obtain ⟨h0, h1, h2, h3⟩ := h.open_
  exact ⟨h0.shape, h1.shape, h2.shape, h3.shape⟩
set_option maxHeartbeats 1000000 in
theorem eqWire_same {va vb vc vd va2 vb2 vc2 vd2 : Value} {x : WireD} (w : World) (h : RWire w [va, vb, vc, vd] x) (h2 : RWire w [va2, vb2, vc2, vd2] x) :
    Calls Tryd.prog 22 #[.agg #[va, vb, vc, vd], .agg #[va2, vb2, vc2, vd2]] w fun e w' => e = .returned (.bool true) ∧ Grows w w' := by
  obtain ⟨k0, k1, k2, k3⟩ := h.open_
  obtain ⟨m0, m1, m2, m3⟩ := h2.open_
  have H0 := hideIt k0
  have M0 := hideIt m0
  clear k0 m0
  have H1 := hideIt k1
  have M1 := hideIt m1
  clear k1 m1
  have H2 := hideIt k2
  have M2 := hideIt m2
  clear k2 m2
  have H3 := hideIt k3
  have M3 := hideIt m3
  clear k3 m3
  clear h h2
  have g0 : Grows w ((w.alloc (.cells #[va, vb, vc, vd] 39)).alloc (.cells #[va2, vb2, vc2, vd2] 39)) := ((Grows.refl w).alloc _).alloc _
  have s0 : Blk ((w.alloc (.cells #[va, vb, vc, vd] 39)).alloc (.cells #[va2, vb2, vc2, vd2] 39)) (w.heap.size) 39 #[va, vb, vc, vd] := (Blk.new w _ _).grows ((Grows.refl _).alloc _)
  have r0 : Blk ((w.alloc (.cells #[va, vb, vc, vd] 39)).alloc (.cells #[va2, vb2, vc2, vd2] 39)) (w.heap.size + 1) 39 #[va2, vb2, vc2, vd2] := by have := Blk.new (w.alloc (.cells #[va, vb, vc, vd] 39)) 39 #[va2, vb2, vc2, vd2]; simpa using this
  have G0 := hideIt g0
  have S0 := hideIt s0
  have R0 := hideIt r0
  clear g0 s0 r0
  go_enter Tryd.func22, Tryd.ntmps22
  go_wp2_with fail
  refine (eqInts_same _ (H0.out.keep G0.out.keeps) (M0.out.keep G0.out.keeps)).mono ?_
  rintro e u0 ⟨rfl, g0⟩
  have s1 := S0.out.grows g0
  have ks0_0 : u0.cell? ⟨w.heap.size, 0, none⟩ = some (va) := s1.cell 0
  have ks0_1 : u0.cell? ⟨w.heap.size, 1, none⟩ = some (vb) := s1.cell 1
  have ks0_2 : u0.cell? ⟨w.heap.size, 2, none⟩ = some (vc) := s1.cell 2
  have ks0_3 : u0.cell? ⟨w.heap.size, 3, none⟩ = some (vd) := s1.cell 3
  have r1 := R0.out.grows g0
  have kr0_0 : u0.cell? ⟨w.heap.size + 1, 0, none⟩ = some (va2) := r1.cell 0
  have kr0_1 : u0.cell? ⟨w.heap.size + 1, 1, none⟩ = some (vb2) := r1.cell 1
  have kr0_2 : u0.cell? ⟨w.heap.size + 1, 2, none⟩ = some (vc2) := r1.cell 2
  have kr0_3 : u0.cell? ⟨w.heap.size + 1, 3, none⟩ = some (vd2) := r1.cell 3
  have G1 := hideIt (G0.out.trans g0)
  have S1 := hideIt s1
  have R1 := hideIt r1
  clear s1 r1 g0
  go_wp2_with fail
  clear ks0_0 kr0_0 ks0_1 kr0_1 ks0_2 kr0_2 ks0_3 kr0_3
  refine (eqInts_same _ (H1.out.keep G1.out.keeps) (M1.out.keep G1.out.keeps)).mono ?_
  rintro e u1 ⟨rfl, g1⟩
  have s2 := S1.out.grows g1
  have ks1_0 : u1.cell? ⟨w.heap.size, 0, none⟩ = some (va) := s2.cell 0
  have ks1_1 : u1.cell? ⟨w.heap.size, 1, none⟩ = some (vb) := s2.cell 1
  have ks1_2 : u1.cell? ⟨w.heap.size, 2, none⟩ = some (vc) := s2.cell 2
  have ks1_3 : u1.cell? ⟨w.heap.size, 3, none⟩ = some (vd) := s2.cell 3
  have r2 := R1.out.grows g1
  have kr1_0 : u1.cell? ⟨w.heap.size + 1, 0, none⟩ = some (va2) := r2.cell 0
  have kr1_1 : u1.cell? ⟨w.heap.size + 1, 1, none⟩ = some (vb2) := r2.cell 1
  have kr1_2 : u1.cell? ⟨w.heap.size + 1, 2, none⟩ = some (vc2) := r2.cell 2
  have kr1_3 : u1.cell? ⟨w.heap.size + 1, 3, none⟩ = some (vd2) := r2.cell 3
  have G2 := hideIt (G1.out.trans g1)
  have S2 := hideIt s2
  have R2 := hideIt r2
  clear s2 r2 g1
  go_wp2_with fail
  clear ks1_0 kr1_0 ks1_1 kr1_1 ks1_2 kr1_2 ks1_3 kr1_3
  refine (eqInts_same _ (H2.out.keep G2.out.keeps) (M2.out.keep G2.out.keeps)).mono ?_
  rintro e u2 ⟨rfl, g2⟩
  have s3 := S2.out.grows g2
  have ks2_0 : u2.cell? ⟨w.heap.size, 0, none⟩ = some (va) := s3.cell 0
  have ks2_1 : u2.cell? ⟨w.heap.size, 1, none⟩ = some (vb) := s3.cell 1
  have ks2_2 : u2.cell? ⟨w.heap.size, 2, none⟩ = some (vc) := s3.cell 2
  have ks2_3 : u2.cell? ⟨w.heap.size, 3, none⟩ = some (vd) := s3.cell 3
  have r3 := R2.out.grows g2
  have kr2_0 : u2.cell? ⟨w.heap.size + 1, 0, none⟩ = some (va2) := r3.cell 0
  have kr2_1 : u2.cell? ⟨w.heap.size + 1, 1, none⟩ = some (vb2) := r3.cell 1
  have kr2_2 : u2.cell? ⟨w.heap.size + 1, 2, none⟩ = some (vc2) := r3.cell 2
  have kr2_3 : u2.cell? ⟨w.heap.size + 1, 3, none⟩ = some (vd2) := r3.cell 3
  have G3 := hideIt (G2.out.trans g2)
  have S3 := hideIt s3
  have R3 := hideIt r3
  clear s3 r3 g2
  go_wp2_with fail
  clear ks2_0 kr2_0 ks2_1 kr2_1 ks2_2 kr2_2 ks2_3 kr2_3
  refine (eqInts_same _ (H3.out.keep G3.out.keeps) (M3.out.keep G3.out.keeps)).mono ?_
  rintro e u3 ⟨rfl, g3⟩
  have s4 := S3.out.grows g3
  have ks3_0 : u3.cell? ⟨w.heap.size, 0, none⟩ = some (va) := s4.cell 0
  have ks3_1 : u3.cell? ⟨w.heap.size, 1, none⟩ = some (vb) := s4.cell 1
  have ks3_2 : u3.cell? ⟨w.heap.size, 2, none⟩ = some (vc) := s4.cell 2
  have ks3_3 : u3.cell? ⟨w.heap.size, 3, none⟩ = some (vd) := s4.cell 3
  have r4 := R3.out.grows g3
  have kr3_0 : u3.cell? ⟨w.heap.size + 1, 0, none⟩ = some (va2) := r4.cell 0
  have kr3_1 : u3.cell? ⟨w.heap.size + 1, 1, none⟩ = some (vb2) := r4.cell 1
  have kr3_2 : u3.cell? ⟨w.heap.size + 1, 2, none⟩ = some (vc2) := r4.cell 2
  have kr3_3 : u3.cell? ⟨w.heap.size + 1, 3, none⟩ = some (vd2) := r4.cell 3
  have G4 := hideIt (G3.out.trans g3)
  have S4 := hideIt s4
  have R4 := hideIt r4
  clear s4 r4 g3
  go_wp2
  go_ret
  exact ⟨rfl, G4.out⟩
def mkWire (k : Int) (x : WireD) : WireD := ⟨mkL (k) x.parent.length, mkL (k + (x.parent.length : Int)) x.res.length, mkL (k + (x.parent.length : Int) + (x.res.length : Int)) x.cap.length, mkL (k + (x.parent.length : Int) + (x.res.length : Int) + (x.cap.length : Int)) x.sink.length⟩
theorem nodup_Wire {b0 b1 b2 b3 : List Nat} (h : (b0 ++ b1 ++ b2 ++ b3).Nodup) : (∀ g ∈ b0, g ∉ b1) ∧ (∀ g ∈ b0, g ∉ b2) ∧ (∀ g ∈ b0, g ∉ b3) ∧ (∀ g ∈ b1, g ∉ b2) ∧ (∀ g ∈ b1, g ∉ b3) ∧ (∀ g ∈ b2, g ∉ b3) := by
  simp only [List.nodup_append, List.mem_append] at h
  refine ⟨?_, ?_, ?_, ?_, ?_, ?_⟩
  all_goals (intro g hg hm; simp_all; try grind)
set_option maxHeartbeats 1000000 in
theorem markWire_any {va vb vc vd : Value} {x : WireD} {bs : List Nat} (k : Int) (w : World) (h : OWire w [va, vb, vc, vd] x bs) (hd : bs.Nodup) (hs : SmWire x) (hk : 0 ≤ k) (hk2 : k ≤ 900000000000) :
    Calls Tryd.prog 23 #[.agg #[va, vb, vc, vd], .int .i64 k] w fun e w' => e = .returned (.int .i64 (k + (x.parent.length : Int) + (x.res.length : Int) + (x.cap.length : Int) + (x.sink.length : Int))) ∧ OWire w' [va, vb, vc, vd] (mkWire k x) bs ∧ Chg bs w w' := by
  obtain ⟨va', vb', vc', vd', b0, b1, b2, b3, he, h0, h1, h2, h3, rfl⟩ := h
  injection he with e0 he
  injection he with e1 he
  injection he with e2 he
  injection he with e3 he
  subst e0 e1 e2 e3
  clear he
  obtain ⟨s0, s1, s2, s3⟩ := hs
  obtain ⟨d0_1, d0_2, d0_3, d1_2, d1_3, d2_3⟩ := nodup_Wire hd
  have g0 : Grows w (w.alloc (.cells #[va, vb, vc, vd] 39)) := (Grows.refl w).alloc _
  have HS := hideIt (Blk.new w 39 #[va, vb, vc, vd])
  have C : Hid (Chg (b0 ++ b1 ++ b2 ++ b3) w (w.alloc (.cells #[va, vb, vc, vd] 39))) := Chg.of_grows g0
  have O0 := hideIt (h0.same ((SameOn.refl b0 w).grows h0.lt g0))
  have N0 : Hid (w.heap.size ∉ b0) := hideIt fun hm => by have := h0.lt _ hm; omega
  have S0 := hideIt s0
  have q0 : 0 ≤ (x.parent.length : Int) ∧ (x.parent.length : Int) ≤ 1048576 := by unfold SmL at s0; omega
  obtain ⟨q0, r0⟩ := q0
  have O1 := hideIt (h1.same ((SameOn.refl b1 w).grows h1.lt g0))
  have N1 : Hid (w.heap.size ∉ b1) := hideIt fun hm => by have := h1.lt _ hm; omega
  have S1 := hideIt s1
  have q1 : 0 ≤ (x.res.length : Int) ∧ (x.res.length : Int) ≤ 1048576 := by unfold SmL at s1; omega
  obtain ⟨q1, r1⟩ := q1
  have O2 := hideIt (h2.same ((SameOn.refl b2 w).grows h2.lt g0))
  have N2 : Hid (w.heap.size ∉ b2) := hideIt fun hm => by have := h2.lt _ hm; omega
  have S2 := hideIt s2
  have q2 : 0 ≤ (x.cap.length : Int) ∧ (x.cap.length : Int) ≤ 1048576 := by unfold SmL at s2; omega
  obtain ⟨q2, r2⟩ := q2
  have O3 := hideIt (h3.same ((SameOn.refl b3 w).grows h3.lt g0))
  have N3 : Hid (w.heap.size ∉ b3) := hideIt fun hm => by have := h3.lt _ hm; omega
  have S3 := hideIt s3
  have q3 : 0 ≤ (x.sink.length : Int) ∧ (x.sink.length : Int) ≤ 1048576 := by unfold SmL at s3; omega
  obtain ⟨q3, r3⟩ := q3
  have D0_1 := hideIt d0_1
  have D0_2 := hideIt d0_2
  have D0_3 := hideIt d0_3
  have D1_2 := hideIt d1_2
  have D1_3 := hideIt d1_3
  have D2_3 := hideIt d2_3
  clear g0 hd h0 h1 h2 h3 s0 s1 s2 s3 d0_1 d0_2 d0_3 d1_2 d1_3 d2_3
  go_enter Tryd.func23, Tryd.ntmps23
  go_wp2_with fail
  refine (markInts_any _ _ O0.out S0.out (by omega) (by omega)).mono ?_
  rintro e u0 ⟨rfl, o, c⟩
  replace O1 := hideIt (O1.out.same (c.same O1.out.lt fun g hg hm => D0_1.out g hm hg))
  replace O2 := hideIt (O2.out.same (c.same O2.out.lt fun g hg hm => D0_2.out g hm hg))
  replace O3 := hideIt (O3.out.same (c.same O3.out.lt fun g hg hm => D0_3.out g hm hg))
  replace HS := hideIt (HS.out.chg c N0.out)
  replace C := hideIt (C.out.trans (c.mono (by simp +contextual)))
  replace O0 := hideIt o
  clear o c
  have c0_0 : u0.cell? ⟨w.heap.size, 0, none⟩ = some va := HS.out.cell 0
  have c0_1 : u0.cell? ⟨w.heap.size, 1, none⟩ = some vb := HS.out.cell 1
  have c0_2 : u0.cell? ⟨w.heap.size, 2, none⟩ = some vc := HS.out.cell 2
  have c0_3 : u0.cell? ⟨w.heap.size, 3, none⟩ = some vd := HS.out.cell 3
  go_wp2_with fail
  clear c0_0 c0_1 c0_2 c0_3
  refine (markInts_any _ _ O1.out S1.out (by omega) (by omega)).mono ?_
  rintro e u1 ⟨rfl, o, c⟩
  replace O0 := hideIt (O0.out.same (c.same O0.out.lt fun g hg hm => D0_1.out g hg hm))
  replace O2 := hideIt (O2.out.same (c.same O2.out.lt fun g hg hm => D1_2.out g hm hg))
  replace O3 := hideIt (O3.out.same (c.same O3.out.lt fun g hg hm => D1_3.out g hm hg))
  replace HS := hideIt (HS.out.chg c N1.out)
  replace C := hideIt (C.out.trans (c.mono (by simp +contextual)))
  replace O1 := hideIt o
  clear o c
  have c1_0 : u1.cell? ⟨w.heap.size, 0, none⟩ = some va := HS.out.cell 0
  have c1_1 : u1.cell? ⟨w.heap.size, 1, none⟩ = some vb := HS.out.cell 1
  have c1_2 : u1.cell? ⟨w.heap.size, 2, none⟩ = some vc := HS.out.cell 2
  have c1_3 : u1.cell? ⟨w.heap.size, 3, none⟩ = some vd := HS.out.cell 3
  go_wp2_with fail
  clear c1_0 c1_1 c1_2 c1_3
  refine (markInts_any _ _ O2.out S2.out (by omega) (by omega)).mono ?_
  rintro e u2 ⟨rfl, o, c⟩
  replace O0 := hideIt (O0.out.same (c.same O0.out.lt fun g hg hm => D0_2.out g hg hm))
  replace O1 := hideIt (O1.out.same (c.same O1.out.lt fun g hg hm => D1_2.out g hg hm))
  replace O3 := hideIt (O3.out.same (c.same O3.out.lt fun g hg hm => D2_3.out g hm hg))
  replace HS := hideIt (HS.out.chg c N2.out)
  replace C := hideIt (C.out.trans (c.mono (by simp +contextual)))
  replace O2 := hideIt o
  clear o c
  have c2_0 : u2.cell? ⟨w.heap.size, 0, none⟩ = some va := HS.out.cell 0
  have c2_1 : u2.cell? ⟨w.heap.size, 1, none⟩ = some vb := HS.out.cell 1
  have c2_2 : u2.cell? ⟨w.heap.size, 2, none⟩ = some vc := HS.out.cell 2
  have c2_3 : u2.cell? ⟨w.heap.size, 3, none⟩ = some vd := HS.out.cell 3
  go_wp2_with fail
  clear c2_0 c2_1 c2_2 c2_3
  refine (markInts_any _ _ O3.out S3.out (by omega) (by omega)).mono ?_
  rintro e u3 ⟨rfl, o, c⟩
  replace O0 := hideIt (O0.out.same (c.same O0.out.lt fun g hg hm => D0_3.out g hg hm))
  replace O1 := hideIt (O1.out.same (c.same O1.out.lt fun g hg hm => D1_3.out g hg hm))
  replace O2 := hideIt (O2.out.same (c.same O2.out.lt fun g hg hm => D2_3.out g hg hm))
  replace HS := hideIt (HS.out.chg c N3.out)
  replace C := hideIt (C.out.trans (c.mono (by simp +contextual)))
  replace O3 := hideIt o
  clear o c
  have c3_0 : u3.cell? ⟨w.heap.size, 0, none⟩ = some va := HS.out.cell 0
  have c3_1 : u3.cell? ⟨w.heap.size, 1, none⟩ = some vb := HS.out.cell 1
  have c3_2 : u3.cell? ⟨w.heap.size, 2, none⟩ = some vc := HS.out.cell 2
  have c3_3 : u3.cell? ⟨w.heap.size, 3, none⟩ = some vd := HS.out.cell 3
  go_wp2
  go_ret
  exact ⟨rfl, ⟨va, vb, vc, vd, b0, b1, b2, b3, rfl, O0.out, O1.out, O2.out, O3.out, rfl⟩, C.out⟩
set_option maxHeartbeats 1000000 in
theorem heldWire_any {va vb vc vd : Value} {x : WireD} (k : Int) (w : World) (h : RWire w [va, vb, vc, vd] (mkWire k x)) (hs : SmWire x) (hk : 0 ≤ k) (hk2 : k ≤ 900000000000) :
    Calls Tryd.prog 24 #[.agg #[va, vb, vc, vd], .int .i64 k] w fun e w' => e = .returned (.int .i64 (k + (x.parent.length : Int) + (x.res.length : Int) + (x.cap.length : Int) + (x.sink.length : Int))) ∧ Grows w w' := by
  obtain ⟨h0, h1, h2, h3⟩ := h.open_
  obtain ⟨s0, s1, s2, s3⟩ := hs
  have g0 : Grows w (w.alloc (.cells #[va, vb, vc, vd] 39)) := (Grows.refl w).alloc _
  have HS := hideIt (Blk.new w 39 #[va, vb, vc, vd])
  have G := hideIt g0
  have H0 := hideIt (h0.keep g0.keeps)
  have S0 := hideIt s0
  have q0 : 0 ≤ (x.parent.length : Int) ∧ (x.parent.length : Int) ≤ 1048576 := by unfold SmL at s0; omega
  obtain ⟨q0, r0⟩ := q0
  have H1 := hideIt (h1.keep g0.keeps)
  have S1 := hideIt s1
  have q1 : 0 ≤ (x.res.length : Int) ∧ (x.res.length : Int) ≤ 1048576 := by unfold SmL at s1; omega
  obtain ⟨q1, r1⟩ := q1
  have H2 := hideIt (h2.keep g0.keeps)
  have S2 := hideIt s2
  have q2 : 0 ≤ (x.cap.length : Int) ∧ (x.cap.length : Int) ≤ 1048576 := by unfold SmL at s2; omega
  obtain ⟨q2, r2⟩ := q2
  have H3 := hideIt (h3.keep g0.keeps)
  have S3 := hideIt s3
  have q3 : 0 ≤ (x.sink.length : Int) ∧ (x.sink.length : Int) ≤ 1048576 := by unfold SmL at s3; omega
  obtain ⟨q3, r3⟩ := q3
  clear g0 h h0 h1 h2 h3 s0 s1 s2 s3
  go_enter Tryd.func24, Tryd.ntmps24
  go_wp2_with fail
  refine (heldInts_any _ _ H0.out S0.out (by omega) (by omega)).mono ?_
  rintro e u0 ⟨rfl, g⟩
  replace H1 := hideIt (H1.out.keep g.keeps)
  replace H2 := hideIt (H2.out.keep g.keeps)
  replace H3 := hideIt (H3.out.keep g.keeps)
  replace HS := hideIt (HS.out.grows g)
  replace G := hideIt (G.out.trans g)
  clear g
  have c0_0 : u0.cell? ⟨w.heap.size, 0, none⟩ = some va := HS.out.cell 0
  have c0_1 : u0.cell? ⟨w.heap.size, 1, none⟩ = some vb := HS.out.cell 1
  have c0_2 : u0.cell? ⟨w.heap.size, 2, none⟩ = some vc := HS.out.cell 2
  have c0_3 : u0.cell? ⟨w.heap.size, 3, none⟩ = some vd := HS.out.cell 3
  go_wp2_with fail
  clear c0_0 c0_1 c0_2 c0_3
  refine (heldInts_any _ _ H1.out S1.out (by omega) (by omega)).mono ?_
  rintro e u1 ⟨rfl, g⟩
  replace H2 := hideIt (H2.out.keep g.keeps)
  replace H3 := hideIt (H3.out.keep g.keeps)
  replace HS := hideIt (HS.out.grows g)
  replace G := hideIt (G.out.trans g)
  clear g
  have c1_0 : u1.cell? ⟨w.heap.size, 0, none⟩ = some va := HS.out.cell 0
  have c1_1 : u1.cell? ⟨w.heap.size, 1, none⟩ = some vb := HS.out.cell 1
  have c1_2 : u1.cell? ⟨w.heap.size, 2, none⟩ = some vc := HS.out.cell 2
  have c1_3 : u1.cell? ⟨w.heap.size, 3, none⟩ = some vd := HS.out.cell 3
  go_wp2_with fail
  clear c1_0 c1_1 c1_2 c1_3
  refine (heldInts_any _ _ H2.out S2.out (by omega) (by omega)).mono ?_
  rintro e u2 ⟨rfl, g⟩
  replace H3 := hideIt (H3.out.keep g.keeps)
  replace HS := hideIt (HS.out.grows g)
  replace G := hideIt (G.out.trans g)
  clear g
  have c2_0 : u2.cell? ⟨w.heap.size, 0, none⟩ = some va := HS.out.cell 0
  have c2_1 : u2.cell? ⟨w.heap.size, 1, none⟩ = some vb := HS.out.cell 1
  have c2_2 : u2.cell? ⟨w.heap.size, 2, none⟩ = some vc := HS.out.cell 2
  have c2_3 : u2.cell? ⟨w.heap.size, 3, none⟩ = some vd := HS.out.cell 3
  go_wp2_with fail
  clear c2_0 c2_1 c2_2 c2_3
  refine (heldInts_any _ _ H3.out S3.out (by omega) (by omega)).mono ?_
  rintro e u3 ⟨rfl, g⟩
  replace HS := hideIt (HS.out.grows g)
  replace G := hideIt (G.out.trans g)
  clear g
  have c3_0 : u3.cell? ⟨w.heap.size, 0, none⟩ = some va := HS.out.cell 0
  have c3_1 : u3.cell? ⟨w.heap.size, 1, none⟩ = some vb := HS.out.cell 1
  have c3_2 : u3.cell? ⟨w.heap.size, 2, none⟩ = some vc := HS.out.cell 2
  have c3_3 : u3.cell? ⟨w.heap.size, 3, none⟩ = some vd := HS.out.cell 3
  go_wp2
  go_ret
  exact ⟨rfl, G.out⟩
end Go.Proofs.YtgglgghlndhfbaaDoor
