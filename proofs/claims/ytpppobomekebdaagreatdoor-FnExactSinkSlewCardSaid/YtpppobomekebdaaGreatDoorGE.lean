/-
  A struct and the slices of it: owned, small, its budget, copy and equality.
-/
import Derived.Test.YtpppobomekebdaaGreatDoorGB
import Derived.Test.YtpppobomekebdaaGreatDoorGC
import Derived.Test.YtpppobomekebdaaGreatDoorGD
namespace Go.Proofs.YtpppobomekebdaaGreatDoor
open Go.RowKit

def OWire (w : World) (cs : List Value) (x : WireD) (bs : List Nat) : Prop :=
  ∃ (vv0 vv1 vv2 vv3 : Value) (b0 b1 b2 b3 : List Nat), cs = [vv0, vv1, vv2, vv3] ∧ OInts w vv0 x.parent b0 ∧ OInts w vv1 x.res b1 ∧ OInts w vv2 x.cap b2 ∧ OInts w vv3 x.sink b3 ∧ bs = b0 ++ b1 ++ b2 ++ b3
theorem OWire.reads {w : World} {cs : List Value} {x : WireD} {bs : List Nat} (h : OWire w cs x bs) : RWire w cs x := by
  obtain ⟨vv0, vv1, vv2, vv3, b0, b1, b2, b3, e, h0, h1, h2, h3, _⟩ := h
  exact ⟨vv0, vv1, vv2, vv3, e, h0.reads, h1.reads, h2.reads, h3.reads⟩
theorem OWire.same {w w' : World} {cs : List Value} {x : WireD} {bs : List Nat} (h : OWire w cs x bs) (g : SameOn bs w w') : OWire w' cs x bs := by
  obtain ⟨vv0, vv1, vv2, vv3, b0, b1, b2, b3, e, h0, h1, h2, h3, rfl⟩ := h
  exact ⟨vv0, vv1, vv2, vv3, _, _, _, _, e, h0.same (g.sub (by simp +contextual)), h1.same (g.sub (by simp +contextual)), h2.same (g.sub (by simp +contextual)), h3.same (g.sub (by simp +contextual)), rfl⟩
theorem OWire.lt {w : World} {cs : List Value} {x : WireD} {bs : List Nat} (h : OWire w cs x bs) : ∀ g ∈ bs, g < w.heap.size := by
  obtain ⟨vv0, vv1, vv2, vv3, b0, b1, b2, b3, e, h0, h1, h2, h3, rfl⟩ := h
  intro g hg
  simp only [List.mem_append] at hg
  rcases hg with (((hg | hg) | hg) | hg)
  · exact h0.lt g hg
  · exact h1.lt g hg
  · exact h2.lt g hg
  · exact h3.lt g hg
def SmWire (x : WireD) : Prop := SmL x.parent ∧ SmL x.res ∧ SmL x.cap ∧ SmL x.sink
theorem RWire.parts {w : World} {vv0 vv1 vv2 vv3 : Value} {x : WireD} (h : RWire w [vv0, vv1, vv2, vv3] x) : RInts w vv0 x.parent ∧ RInts w vv1 x.res ∧ RInts w vv2 x.cap ∧ RInts w vv3 x.sink := by
  obtain ⟨vv0', vv1', vv2', vv3', he, h0, h1, h2, h3⟩ := h
  injection he with e0 he
  injection he with e1 he
  injection he with e2 he
  injection he with e3 he
  subst e0 e1 e2 e3
  exact ⟨h0, h1, h2, h3⟩
theorem OWire.shape {w : World} {vv0 vv1 vv2 vv3 : Value} {x : WireD} {bs : List Nat} (h : OWire w [vv0, vv1, vv2, vv3] x bs) : (∃ (A : Option Addr) (n : Nat), vv0 = .slice A x.parent.length n) ∧ (∃ (A : Option Addr) (n : Nat), vv1 = .slice A x.res.length n) ∧ (∃ (A : Option Addr) (n : Nat), vv2 = .slice A x.cap.length n) ∧ (∃ (A : Option Addr) (n : Nat), vv3 = .slice A x.sink.length n) := by
  obtain ⟨e0, e1, e2, e3⟩ := h.reads.parts
  exact ⟨(by obtain ⟨A, c, h, -⟩ := RList.form e0; exact ⟨A, c, h⟩), (by obtain ⟨A, c, h, -⟩ := RList.form e1; exact ⟨A, c, h⟩), (by obtain ⟨A, c, h, -⟩ := RList.form e2; exact ⟨A, c, h⟩), (by obtain ⟨A, c, h, -⟩ := RList.form e3; exact ⟨A, c, h⟩)⟩
def wtWire (x : WireD) : Nat := List.length x.parent + List.length x.res + List.length x.cap + List.length x.sink
set_option maxHeartbeats 1000000 in
theorem szWire_w {vv0 vv1 vv2 vv3 : Value} {x : WireD} (left : Int) (w : World) (h : RWire w [vv0, vv1, vv2, vv3] x) (h1 : 0 ≤ left) (h2 : left ≤ 1048576) :
    Calls Tryz.prog 80 #[.agg #[vv0, vv1, vv2, vv3], .int .i64 left] w (SzPostW (SmWire x) (wtWire x) left w) := by
  obtain ⟨k0, k1, k2, k3⟩ := h.parts
  have g0 := (Grows.refl w).alloc (.cells #[vv0, vv1, vv2, vv3] 120)
  have H0 := hideIt (k0.keep g0.keeps)
  have H1 := hideIt (k1.keep g0.keeps)
  have H2 := hideIt (k2.keep g0.keeps)
  have H3 := hideIt (k3.keep g0.keeps)
  have S := hideIt (Blk.new w 120 #[vv0, vv1, vv2, vv3])
  have G := hideIt g0
  clear g0 k0 k1 k2 k3
  go_enter Tryz.func80, Tryz.ntmps80
  go_wp2_with fail
  refine (szInts_w _ _ H0.out (by omega) (by omega)).mono ?_
  rintro e w0 ⟨r0, rfl, p0, q0, s0, g⟩
  have S0 := hideIt s0
  clear s0
  replace G := hideIt (G.out.trans g)
  replace S := hideIt (S.out.grows g)
  replace H1 := hideIt (H1.out.keep g.keeps)
  replace H2 := hideIt (H2.out.keep g.keeps)
  replace H3 := hideIt (H3.out.keep g.keeps)
  clear g
  have c0 : w0.cell? ⟨w.heap.size, 0, none⟩ = some (vv0) := S.out.cell 0
  have c1 : w0.cell? ⟨w.heap.size, 1, none⟩ = some (vv1) := S.out.cell 1
  have c2 : w0.cell? ⟨w.heap.size, 2, none⟩ = some (vv2) := S.out.cell 2
  have c3 : w0.cell? ⟨w.heap.size, 3, none⟩ = some (vv3) := S.out.cell 3
  by_cases n0 : r0 < 0
  · go_wp2
    go_ret
    exact ⟨-1, rfl, by omega, by omega, fun h => by omega, G.out⟩
  go_wp2_with fail
  clear c0 c1 c2 c3
  refine (szInts_w _ _ H1.out (by omega) (by omega)).mono ?_
  rintro e w1 ⟨r1, rfl, p1, q1, s1, g⟩
  have S1 := hideIt s1
  clear s1
  replace G := hideIt (G.out.trans g)
  replace S := hideIt (S.out.grows g)
  replace H2 := hideIt (H2.out.keep g.keeps)
  replace H3 := hideIt (H3.out.keep g.keeps)
  clear g
  have c0 : w1.cell? ⟨w.heap.size, 0, none⟩ = some (vv0) := S.out.cell 0
  have c1 : w1.cell? ⟨w.heap.size, 1, none⟩ = some (vv1) := S.out.cell 1
  have c2 : w1.cell? ⟨w.heap.size, 2, none⟩ = some (vv2) := S.out.cell 2
  have c3 : w1.cell? ⟨w.heap.size, 3, none⟩ = some (vv3) := S.out.cell 3
  by_cases n1 : r1 < 0
  · go_wp2
    go_ret
    exact ⟨-1, rfl, by omega, by omega, fun h => by omega, G.out⟩
  go_wp2_with fail
  clear c0 c1 c2 c3
  refine (szInts_w _ _ H2.out (by omega) (by omega)).mono ?_
  rintro e w2 ⟨r2, rfl, p2, q2, s2, g⟩
  have S2 := hideIt s2
  clear s2
  replace G := hideIt (G.out.trans g)
  replace S := hideIt (S.out.grows g)
  replace H3 := hideIt (H3.out.keep g.keeps)
  clear g
  have c0 : w2.cell? ⟨w.heap.size, 0, none⟩ = some (vv0) := S.out.cell 0
  have c1 : w2.cell? ⟨w.heap.size, 1, none⟩ = some (vv1) := S.out.cell 1
  have c2 : w2.cell? ⟨w.heap.size, 2, none⟩ = some (vv2) := S.out.cell 2
  have c3 : w2.cell? ⟨w.heap.size, 3, none⟩ = some (vv3) := S.out.cell 3
  by_cases n2 : r2 < 0
  · go_wp2
    go_ret
    exact ⟨-1, rfl, by omega, by omega, fun h => by omega, G.out⟩
  go_wp2_with fail
  clear c0 c1 c2 c3
  refine (szInts_w _ _ H3.out (by omega) (by omega)).mono ?_
  rintro e w3 ⟨r3, rfl, p3, q3, s3, g⟩
  have S3 := hideIt s3
  clear s3
  replace G := hideIt (G.out.trans g)
  replace S := hideIt (S.out.grows g)
  clear g
  have c0 : w3.cell? ⟨w.heap.size, 0, none⟩ = some (vv0) := S.out.cell 0
  have c1 : w3.cell? ⟨w.heap.size, 1, none⟩ = some (vv1) := S.out.cell 1
  have c2 : w3.cell? ⟨w.heap.size, 2, none⟩ = some (vv2) := S.out.cell 2
  have c3 : w3.cell? ⟨w.heap.size, 3, none⟩ = some (vv3) := S.out.cell 3
  by_cases n3 : r3 < 0
  · go_wp2
    go_ret
    exact ⟨-1, rfl, by omega, by omega, fun h => by omega, G.out⟩
  go_wp2
  go_ret
  exact ⟨_, rfl, by omega, by omega, fun _ => ⟨⟨(S0.out (by omega)).1, (S1.out (by omega)).1, (S2.out (by omega)).1, (S3.out (by omega)).1⟩, (by have h0 := (S0.out (by omega)).2; have h1 := (S1.out (by omega)).2; have h2 := (S2.out (by omega)).2; have h3 := (S3.out (by omega)).2; unfold wtWire; omega)⟩, G.out⟩
theorem szWire_any {vv0 vv1 vv2 vv3 : Value} {x : WireD} (left : Int) (w : World) (h : RWire w [vv0, vv1, vv2, vv3] x) (h1 : 0 ≤ left) (h2 : left ≤ 1048576) :
    Calls Tryz.prog 80 #[.agg #[vv0, vv1, vv2, vv3], .int .i64 left] w (SzPost (SmWire x) w) := (szWire_w left w h h1 h2).mono fun _ _ h => h.post
set_option maxHeartbeats 2000000 in
theorem toWire_o {vv0 vv1 vv2 vv3 : Value} {x : WireD} (w : World) (h : RWire w [vv0, vv1, vv2, vv3] x) (hs : SmWire x) :
    Calls Tryz.prog 89 #[.agg #[vv0, vv1, vv2, vv3]] w fun e w' => ∃ (y0_ y1_ y2_ y3_ : Value) (bs : List Nat), e = .returned (.agg #[y0_, y1_, y2_, y3_]) ∧ OWire w' [y0_, y1_, y2_, y3_] x bs ∧ Own w.heap.size w'.heap.size bs ∧ Grows w w' := by
  obtain ⟨k0, k1, k2, k3⟩ := h.parts
  obtain ⟨s0, s1, s2, s3⟩ := hs
  have H0 := hideIt k0
  have M0 := hideIt s0
  have H1 := hideIt k1
  have M1 := hideIt s1
  have H2 := hideIt k2
  have M2 := hideIt s2
  have H3 := hideIt k3
  have M3 := hideIt s3
  clear k0 s0 k1 s1 k2 s2 k3 s3
  have g0 : Grows w (((w.alloc (.cells #[vv0, vv1, vv2, vv3] 120)).alloc (.cells #[.slice none 0 0, .slice none 0 0, .slice none 0 0, .slice none 0 0] 79)).alloc (.cells #[.slice none 0 0, .slice none 0 0, .slice none 0 0, .slice none 0 0] 79)) := (((Grows.refl w).alloc _).alloc _).alloc _
  have s0 : Blk (((w.alloc (.cells #[vv0, vv1, vv2, vv3] 120)).alloc (.cells #[.slice none 0 0, .slice none 0 0, .slice none 0 0, .slice none 0 0] 79)).alloc (.cells #[.slice none 0 0, .slice none 0 0, .slice none 0 0, .slice none 0 0] 79)) (w.heap.size) 120 #[vv0, vv1, vv2, vv3] := ((Blk.new w _ _).grows ((Grows.refl _).alloc _)).grows ((Grows.refl _).alloc _)
  have r0 : Blk (((w.alloc (.cells #[vv0, vv1, vv2, vv3] 120)).alloc (.cells #[.slice none 0 0, .slice none 0 0, .slice none 0 0, .slice none 0 0] 79)).alloc (.cells #[.slice none 0 0, .slice none 0 0, .slice none 0 0, .slice none 0 0] 79)) (w.heap.size + 1) 79 #[.slice none 0 0, .slice none 0 0, .slice none 0 0, .slice none 0 0] := by have := (Blk.new (w.alloc (.cells #[vv0, vv1, vv2, vv3] 120)) 79 #[.slice none 0 0, .slice none 0 0, .slice none 0 0, .slice none 0 0]).grows ((Grows.refl _).alloc (.cells #[.slice none 0 0, .slice none 0 0, .slice none 0 0, .slice none 0 0] 79)); simpa using this
  have b0 : Blk (((w.alloc (.cells #[vv0, vv1, vv2, vv3] 120)).alloc (.cells #[.slice none 0 0, .slice none 0 0, .slice none 0 0, .slice none 0 0] 79)).alloc (.cells #[.slice none 0 0, .slice none 0 0, .slice none 0 0, .slice none 0 0] 79)) (w.heap.size + 1 + 1) 79 #[.slice none 0 0, .slice none 0 0, .slice none 0 0, .slice none 0 0] := by have := Blk.new ((w.alloc (.cells #[vv0, vv1, vv2, vv3] 120)).alloc (.cells #[.slice none 0 0, .slice none 0 0, .slice none 0 0, .slice none 0 0] 79)) 79 #[.slice none 0 0, .slice none 0 0, .slice none 0 0, .slice none 0 0]; simpa using this
  have G0 := hideIt g0
  have S0 := hideIt s0
  have R0 := hideIt r0
  have B0 := hideIt b0
  clear g0 s0 r0 b0
  go_enter Tryz.func89, Tryz.ntmps89
  go_wp2_with fail
  refine (toInts_o _ (H0.out.keep G0.out.keeps) M0.out).mono ?_
  rintro e u0 ⟨A0, c0, y0, rfl, o0, n0, g0⟩
  have s1 := S0.out.grows g0
  have ks0_0 : u0.cell? ⟨w.heap.size, 0, none⟩ = some (vv0) := s1.cell 0
  have ks0_1 : u0.cell? ⟨w.heap.size, 1, none⟩ = some (vv1) := s1.cell 1
  have ks0_2 : u0.cell? ⟨w.heap.size, 2, none⟩ = some (vv2) := s1.cell 2
  have ks0_3 : u0.cell? ⟨w.heap.size, 3, none⟩ = some (vv3) := s1.cell 3
  have fs0 := s1.frozen
  have r1 := R0.out.grows g0
  have kr0_0 : u0.cell? ⟨w.heap.size + 1, 0, none⟩ = some (.slice none 0 0) := r1.cell 0
  have kr0_1 : u0.cell? ⟨w.heap.size + 1, 1, none⟩ = some (.slice none 0 0) := r1.cell 1
  have kr0_2 : u0.cell? ⟨w.heap.size + 1, 2, none⟩ = some (.slice none 0 0) := r1.cell 2
  have kr0_3 : u0.cell? ⟨w.heap.size + 1, 3, none⟩ = some (.slice none 0 0) := r1.cell 3
  have fr0 := r1.frozen
  have b1 := B0.out.grows g0
  have kb0_0 : u0.cell? ⟨w.heap.size + 1 + 1, 0, none⟩ = some (.slice none 0 0) := b1.cell 0
  have kb0_1 : u0.cell? ⟨w.heap.size + 1 + 1, 1, none⟩ = some (.slice none 0 0) := b1.cell 1
  have kb0_2 : u0.cell? ⟨w.heap.size + 1 + 1, 2, none⟩ = some (.slice none 0 0) := b1.cell 2
  have kb0_3 : u0.cell? ⟨w.heap.size + 1 + 1, 3, none⟩ = some (.slice none 0 0) := b1.cell 3
  have fb0 := b1.frozen
  have z0 := b1.lt
  have v0 : w.heap.size + 1 + 1 + 1 ≤ u0.heap.size := by have := g0.size; simpa using this
  have G1 := hideIt ((G0.out.trans g0).setCell (p := ⟨w.heap.size + 1 + 1, 0, none⟩) (by simp <;> omega) (.slice A0 x.parent.length c0))
  have S1 := hideIt (s1.far (p := ⟨w.heap.size + 1 + 1, 0, none⟩) (by simp <;> omega) (.slice A0 x.parent.length c0))
  have R1 := hideIt (r1.far (p := ⟨w.heap.size + 1 + 1, 0, none⟩) (by simp <;> omega) (.slice A0 x.parent.length c0))
  have B1 := hideIt (b1.set_ 0 (.slice A0 x.parent.length c0))
  have O0 := hideIt o0
  have N0 := hideIt n0
  have Q0 := hideIt g0
  clear s1 r1 b1 o0 n0 g0
  go_wp2_with fail
  clear ks0_0 kr0_0 kb0_0 ks0_1 kr0_1 kb0_1 ks0_2 kr0_2 kb0_2 ks0_3 kr0_3 kb0_3 fs0 fr0 fb0
  refine (toInts_o _ (H1.out.keep G1.out.keeps) M1.out).mono ?_
  rintro e u1 ⟨A1, c1, y1, rfl, o1, n1, g1⟩
  have s2 := S1.out.grows g1
  have ks1_0 : u1.cell? ⟨w.heap.size, 0, none⟩ = some (vv0) := s2.cell 0
  have ks1_1 : u1.cell? ⟨w.heap.size, 1, none⟩ = some (vv1) := s2.cell 1
  have ks1_2 : u1.cell? ⟨w.heap.size, 2, none⟩ = some (vv2) := s2.cell 2
  have ks1_3 : u1.cell? ⟨w.heap.size, 3, none⟩ = some (vv3) := s2.cell 3
  have fs1 := s2.frozen
  have r2 := R1.out.grows g1
  have kr1_0 : u1.cell? ⟨w.heap.size + 1, 0, none⟩ = some (.slice none 0 0) := r2.cell 0
  have kr1_1 : u1.cell? ⟨w.heap.size + 1, 1, none⟩ = some (.slice none 0 0) := r2.cell 1
  have kr1_2 : u1.cell? ⟨w.heap.size + 1, 2, none⟩ = some (.slice none 0 0) := r2.cell 2
  have kr1_3 : u1.cell? ⟨w.heap.size + 1, 3, none⟩ = some (.slice none 0 0) := r2.cell 3
  have fr1 := r2.frozen
  have b2 := B1.out.grows g1
  have kb1_0 : u1.cell? ⟨w.heap.size + 1 + 1, 0, none⟩ = some (.slice A0 x.parent.length c0) := b2.cell 0
  have kb1_1 : u1.cell? ⟨w.heap.size + 1 + 1, 1, none⟩ = some (.slice none 0 0) := b2.cell 1
  have kb1_2 : u1.cell? ⟨w.heap.size + 1 + 1, 2, none⟩ = some (.slice none 0 0) := b2.cell 2
  have kb1_3 : u1.cell? ⟨w.heap.size + 1 + 1, 3, none⟩ = some (.slice none 0 0) := b2.cell 3
  have fb1 := b2.frozen
  have z1 := b2.lt
  have v1 : u0.heap.size ≤ u1.heap.size := by have := g1.size; simpa using this
  have G2 := hideIt ((G1.out.trans g1).setCell (p := ⟨w.heap.size + 1 + 1, 1, none⟩) (by simp <;> omega) (.slice A1 x.res.length c1))
  have S2 := hideIt (s2.far (p := ⟨w.heap.size + 1 + 1, 1, none⟩) (by simp <;> omega) (.slice A1 x.res.length c1))
  have R2 := hideIt (r2.far (p := ⟨w.heap.size + 1 + 1, 1, none⟩) (by simp <;> omega) (.slice A1 x.res.length c1))
  have B2 := hideIt (b2.set_ 1 (.slice A1 x.res.length c1))
  have O1 := hideIt o1
  have N1 := hideIt n1
  have Q1 := hideIt g1
  clear s2 r2 b2 o1 n1 g1
  go_wp2_with fail
  clear ks1_0 kr1_0 kb1_0 ks1_1 kr1_1 kb1_1 ks1_2 kr1_2 kb1_2 ks1_3 kr1_3 kb1_3 fs1 fr1 fb1
  refine (toInts_o _ (H2.out.keep G2.out.keeps) M2.out).mono ?_
  rintro e u2 ⟨A2, c2, y2, rfl, o2, n2, g2⟩
  have s3 := S2.out.grows g2
  have ks2_0 : u2.cell? ⟨w.heap.size, 0, none⟩ = some (vv0) := s3.cell 0
  have ks2_1 : u2.cell? ⟨w.heap.size, 1, none⟩ = some (vv1) := s3.cell 1
  have ks2_2 : u2.cell? ⟨w.heap.size, 2, none⟩ = some (vv2) := s3.cell 2
  have ks2_3 : u2.cell? ⟨w.heap.size, 3, none⟩ = some (vv3) := s3.cell 3
  have fs2 := s3.frozen
  have r3 := R2.out.grows g2
  have kr2_0 : u2.cell? ⟨w.heap.size + 1, 0, none⟩ = some (.slice none 0 0) := r3.cell 0
  have kr2_1 : u2.cell? ⟨w.heap.size + 1, 1, none⟩ = some (.slice none 0 0) := r3.cell 1
  have kr2_2 : u2.cell? ⟨w.heap.size + 1, 2, none⟩ = some (.slice none 0 0) := r3.cell 2
  have kr2_3 : u2.cell? ⟨w.heap.size + 1, 3, none⟩ = some (.slice none 0 0) := r3.cell 3
  have fr2 := r3.frozen
  have b3 := B2.out.grows g2
  have kb2_0 : u2.cell? ⟨w.heap.size + 1 + 1, 0, none⟩ = some (.slice A0 x.parent.length c0) := b3.cell 0
  have kb2_1 : u2.cell? ⟨w.heap.size + 1 + 1, 1, none⟩ = some (.slice A1 x.res.length c1) := b3.cell 1
  have kb2_2 : u2.cell? ⟨w.heap.size + 1 + 1, 2, none⟩ = some (.slice none 0 0) := b3.cell 2
  have kb2_3 : u2.cell? ⟨w.heap.size + 1 + 1, 3, none⟩ = some (.slice none 0 0) := b3.cell 3
  have fb2 := b3.frozen
  have z2 := b3.lt
  have v2 : u1.heap.size ≤ u2.heap.size := by have := g2.size; simpa using this
  have G3 := hideIt ((G2.out.trans g2).setCell (p := ⟨w.heap.size + 1 + 1, 2, none⟩) (by simp <;> omega) (.slice A2 x.cap.length c2))
  have S3 := hideIt (s3.far (p := ⟨w.heap.size + 1 + 1, 2, none⟩) (by simp <;> omega) (.slice A2 x.cap.length c2))
  have R3 := hideIt (r3.far (p := ⟨w.heap.size + 1 + 1, 2, none⟩) (by simp <;> omega) (.slice A2 x.cap.length c2))
  have B3 := hideIt (b3.set_ 2 (.slice A2 x.cap.length c2))
  have O2 := hideIt o2
  have N2 := hideIt n2
  have Q2 := hideIt g2
  clear s3 r3 b3 o2 n2 g2
  go_wp2_with fail
  clear ks2_0 kr2_0 kb2_0 ks2_1 kr2_1 kb2_1 ks2_2 kr2_2 kb2_2 ks2_3 kr2_3 kb2_3 fs2 fr2 fb2
  refine (toInts_o _ (H3.out.keep G3.out.keeps) M3.out).mono ?_
  rintro e u3 ⟨A3, c3, y3, rfl, o3, n3, g3⟩
  have s4 := S3.out.grows g3
  have ks3_0 : u3.cell? ⟨w.heap.size, 0, none⟩ = some (vv0) := s4.cell 0
  have ks3_1 : u3.cell? ⟨w.heap.size, 1, none⟩ = some (vv1) := s4.cell 1
  have ks3_2 : u3.cell? ⟨w.heap.size, 2, none⟩ = some (vv2) := s4.cell 2
  have ks3_3 : u3.cell? ⟨w.heap.size, 3, none⟩ = some (vv3) := s4.cell 3
  have fs3 := s4.frozen
  have r4 := R3.out.grows g3
  have kr3_0 : u3.cell? ⟨w.heap.size + 1, 0, none⟩ = some (.slice none 0 0) := r4.cell 0
  have kr3_1 : u3.cell? ⟨w.heap.size + 1, 1, none⟩ = some (.slice none 0 0) := r4.cell 1
  have kr3_2 : u3.cell? ⟨w.heap.size + 1, 2, none⟩ = some (.slice none 0 0) := r4.cell 2
  have kr3_3 : u3.cell? ⟨w.heap.size + 1, 3, none⟩ = some (.slice none 0 0) := r4.cell 3
  have fr3 := r4.frozen
  have b4 := B3.out.grows g3
  have kb3_0 : u3.cell? ⟨w.heap.size + 1 + 1, 0, none⟩ = some (.slice A0 x.parent.length c0) := b4.cell 0
  have kb3_1 : u3.cell? ⟨w.heap.size + 1 + 1, 1, none⟩ = some (.slice A1 x.res.length c1) := b4.cell 1
  have kb3_2 : u3.cell? ⟨w.heap.size + 1 + 1, 2, none⟩ = some (.slice A2 x.cap.length c2) := b4.cell 2
  have kb3_3 : u3.cell? ⟨w.heap.size + 1 + 1, 3, none⟩ = some (.slice none 0 0) := b4.cell 3
  have fb3 := b4.frozen
  have z3 := b4.lt
  have v3 : u2.heap.size ≤ u3.heap.size := by have := g3.size; simpa using this
  have G4 := hideIt ((G3.out.trans g3).setCell (p := ⟨w.heap.size + 1 + 1, 3, none⟩) (by simp <;> omega) (.slice A3 x.sink.length c3))
  have S4 := hideIt (s4.far (p := ⟨w.heap.size + 1 + 1, 3, none⟩) (by simp <;> omega) (.slice A3 x.sink.length c3))
  have R4 := hideIt (r4.far (p := ⟨w.heap.size + 1 + 1, 3, none⟩) (by simp <;> omega) (.slice A3 x.sink.length c3))
  have B4 := hideIt (b4.set_ 3 (.slice A3 x.sink.length c3))
  have O3 := hideIt o3
  have N3 := hideIt n3
  have Q3 := hideIt g3
  clear s4 r4 b4 o3 n3 g3
  go_wp2
  refine bodyPost_ret (by simp [*, results, Tryz.results89, go_sem]; try rfl) rfl ?_
  exact ⟨_, _, _, _, _, rfl, ⟨_, _, _, _, _, _, _, _, rfl, O0.out.same ((((((((((((SameOn.refl y0 u0).set (p := ⟨w.heap.size + 1 + 1, 0, none⟩) (fun g hg => by have := (N0.out.2 g hg).1; simp at this ⊢; omega) (.slice A0 x.parent.length c0)).grows (fun g hg => by have := (N0.out.2 g hg).2; simp; omega) Q1.out).set (p := ⟨w.heap.size + 1 + 1, 1, none⟩) (fun g hg => by have := (N0.out.2 g hg).1; simp at this ⊢; omega) (.slice A1 x.res.length c1)).grows (fun g hg => by have := (N0.out.2 g hg).2; simp; omega) Q2.out).set (p := ⟨w.heap.size + 1 + 1, 2, none⟩) (fun g hg => by have := (N0.out.2 g hg).1; simp at this ⊢; omega) (.slice A2 x.cap.length c2)).grows (fun g hg => by have := (N0.out.2 g hg).2; simp; omega) Q3.out).set (p := ⟨w.heap.size + 1 + 1, 3, none⟩) (fun g hg => by have := (N0.out.2 g hg).1; simp at this ⊢; omega) (.slice A3 x.sink.length c3)).set (p := ⟨w.heap.size + 1, 0, none⟩) (fun g hg => by have := (N0.out.2 g hg).1; simp at this ⊢; omega) (.slice A0 x.parent.length c0)).set (p := ⟨w.heap.size + 1, 1, none⟩) (fun g hg => by have := (N0.out.2 g hg).1; simp at this ⊢; omega) (.slice A1 x.res.length c1)).set (p := ⟨w.heap.size + 1, 2, none⟩) (fun g hg => by have := (N0.out.2 g hg).1; simp at this ⊢; omega) (.slice A2 x.cap.length c2)).set (p := ⟨w.heap.size + 1, 3, none⟩) (fun g hg => by have := (N0.out.2 g hg).1; simp at this ⊢; omega) (.slice A3 x.sink.length c3)), O1.out.same ((((((((((SameOn.refl y1 u1).set (p := ⟨w.heap.size + 1 + 1, 1, none⟩) (fun g hg => by have := (N1.out.2 g hg).1; simp at this ⊢; omega) (.slice A1 x.res.length c1)).grows (fun g hg => by have := (N1.out.2 g hg).2; simp; omega) Q2.out).set (p := ⟨w.heap.size + 1 + 1, 2, none⟩) (fun g hg => by have := (N1.out.2 g hg).1; simp at this ⊢; omega) (.slice A2 x.cap.length c2)).grows (fun g hg => by have := (N1.out.2 g hg).2; simp; omega) Q3.out).set (p := ⟨w.heap.size + 1 + 1, 3, none⟩) (fun g hg => by have := (N1.out.2 g hg).1; simp at this ⊢; omega) (.slice A3 x.sink.length c3)).set (p := ⟨w.heap.size + 1, 0, none⟩) (fun g hg => by have := (N1.out.2 g hg).1; simp at this ⊢; omega) (.slice A0 x.parent.length c0)).set (p := ⟨w.heap.size + 1, 1, none⟩) (fun g hg => by have := (N1.out.2 g hg).1; simp at this ⊢; omega) (.slice A1 x.res.length c1)).set (p := ⟨w.heap.size + 1, 2, none⟩) (fun g hg => by have := (N1.out.2 g hg).1; simp at this ⊢; omega) (.slice A2 x.cap.length c2)).set (p := ⟨w.heap.size + 1, 3, none⟩) (fun g hg => by have := (N1.out.2 g hg).1; simp at this ⊢; omega) (.slice A3 x.sink.length c3)), O2.out.same ((((((((SameOn.refl y2 u2).set (p := ⟨w.heap.size + 1 + 1, 2, none⟩) (fun g hg => by have := (N2.out.2 g hg).1; simp at this ⊢; omega) (.slice A2 x.cap.length c2)).grows (fun g hg => by have := (N2.out.2 g hg).2; simp; omega) Q3.out).set (p := ⟨w.heap.size + 1 + 1, 3, none⟩) (fun g hg => by have := (N2.out.2 g hg).1; simp at this ⊢; omega) (.slice A3 x.sink.length c3)).set (p := ⟨w.heap.size + 1, 0, none⟩) (fun g hg => by have := (N2.out.2 g hg).1; simp at this ⊢; omega) (.slice A0 x.parent.length c0)).set (p := ⟨w.heap.size + 1, 1, none⟩) (fun g hg => by have := (N2.out.2 g hg).1; simp at this ⊢; omega) (.slice A1 x.res.length c1)).set (p := ⟨w.heap.size + 1, 2, none⟩) (fun g hg => by have := (N2.out.2 g hg).1; simp at this ⊢; omega) (.slice A2 x.cap.length c2)).set (p := ⟨w.heap.size + 1, 3, none⟩) (fun g hg => by have := (N2.out.2 g hg).1; simp at this ⊢; omega) (.slice A3 x.sink.length c3)), O3.out.same ((((((SameOn.refl y3 u3).set (p := ⟨w.heap.size + 1 + 1, 3, none⟩) (fun g hg => by have := (N3.out.2 g hg).1; simp at this ⊢; omega) (.slice A3 x.sink.length c3)).set (p := ⟨w.heap.size + 1, 0, none⟩) (fun g hg => by have := (N3.out.2 g hg).1; simp at this ⊢; omega) (.slice A0 x.parent.length c0)).set (p := ⟨w.heap.size + 1, 1, none⟩) (fun g hg => by have := (N3.out.2 g hg).1; simp at this ⊢; omega) (.slice A1 x.res.length c1)).set (p := ⟨w.heap.size + 1, 2, none⟩) (fun g hg => by have := (N3.out.2 g hg).1; simp at this ⊢; omega) (.slice A2 x.cap.length c2)).set (p := ⟨w.heap.size + 1, 3, none⟩) (fun g hg => by have := (N3.out.2 g hg).1; simp at this ⊢; omega) (.slice A3 x.sink.length c3)), rfl⟩, ((Own.append (Own.append (Own.append (N0.out.mono (lo' := w.heap.size) (hi' := u0.heap.size) (by simp <;> omega) (Nat.le_refl _)) (N1.out.mono (lo' := u0.heap.size) (hi' := u1.heap.size) (by simp <;> omega) (Nat.le_refl _)) (by omega) (by omega)) (N2.out.mono (lo' := u1.heap.size) (hi' := u2.heap.size) (by simp <;> omega) (Nat.le_refl _)) (by omega) (by omega)) (N3.out.mono (lo' := u2.heap.size) (hi' := u3.heap.size) (by simp <;> omega) (Nat.le_refl _)) (by omega) (by omega))).mono (Nat.le_refl _) (by simp), ((((G4.out.setCell (p := ⟨w.heap.size + 1, 0, none⟩) (by simp <;> omega) (.slice A0 x.parent.length c0)).setCell (p := ⟨w.heap.size + 1, 1, none⟩) (by simp <;> omega) (.slice A1 x.res.length c1)).setCell (p := ⟨w.heap.size + 1, 2, none⟩) (by simp <;> omega) (.slice A2 x.cap.length c2)).setCell (p := ⟨w.heap.size + 1, 3, none⟩) (by simp <;> omega) (.slice A3 x.sink.length c3))⟩
set_option maxHeartbeats 1000000 in
theorem eqWire_same {vv0 vv1 vv2 vv3 uu0 uu1 uu2 uu3 : Value} {x : WireD} (w : World) (h : RWire w [vv0, vv1, vv2, vv3] x) (h2 : RWire w [uu0, uu1, uu2, uu3] x) :
    Calls Tryz.prog 102 #[.agg #[vv0, vv1, vv2, vv3], .agg #[uu0, uu1, uu2, uu3]] w fun e w' => e = .returned (.bool true) ∧ Grows w w' := by
  obtain ⟨k0, k1, k2, k3⟩ := h.parts
  obtain ⟨m0, m1, m2, m3⟩ := h2.parts
  have H0 := hideIt k0
  have M0 := hideIt m0
  have H1 := hideIt k1
  have M1 := hideIt m1
  have H2 := hideIt k2
  have M2 := hideIt m2
  have H3 := hideIt k3
  have M3 := hideIt m3
  clear k0 m0 k1 m1 k2 m2 k3 m3
  have g0 : Grows w ((w.alloc (.cells #[vv0, vv1, vv2, vv3] 79)).alloc (.cells #[uu0, uu1, uu2, uu3] 79)) := ((Grows.refl w).alloc _).alloc _
  have s0 : Blk ((w.alloc (.cells #[vv0, vv1, vv2, vv3] 79)).alloc (.cells #[uu0, uu1, uu2, uu3] 79)) (w.heap.size) 79 #[vv0, vv1, vv2, vv3] := (Blk.new w _ _).grows ((Grows.refl _).alloc _)
  have r0 : Blk ((w.alloc (.cells #[vv0, vv1, vv2, vv3] 79)).alloc (.cells #[uu0, uu1, uu2, uu3] 79)) (w.heap.size + 1) 79 #[uu0, uu1, uu2, uu3] := by have := Blk.new (w.alloc (.cells #[vv0, vv1, vv2, vv3] 79)) 79 #[uu0, uu1, uu2, uu3]; simpa using this
  have G0 := hideIt g0
  have S0 := hideIt s0
  have R0 := hideIt r0
  clear g0 s0 r0
  go_enter Tryz.func102, Tryz.ntmps102
  go_wp2_with fail
  refine (eqInts_same _ (H0.out.keep G0.out.keeps) (M0.out.keep G0.out.keeps)).mono ?_
  rintro e u0 ⟨rfl, g0⟩
  have s1 := S0.out.grows g0
  have ks0_0 : u0.cell? ⟨w.heap.size, 0, none⟩ = some (vv0) := s1.cell 0
  have ks0_1 : u0.cell? ⟨w.heap.size, 1, none⟩ = some (vv1) := s1.cell 1
  have ks0_2 : u0.cell? ⟨w.heap.size, 2, none⟩ = some (vv2) := s1.cell 2
  have ks0_3 : u0.cell? ⟨w.heap.size, 3, none⟩ = some (vv3) := s1.cell 3
  have r1 := R0.out.grows g0
  have kr0_0 : u0.cell? ⟨w.heap.size + 1, 0, none⟩ = some (uu0) := r1.cell 0
  have kr0_1 : u0.cell? ⟨w.heap.size + 1, 1, none⟩ = some (uu1) := r1.cell 1
  have kr0_2 : u0.cell? ⟨w.heap.size + 1, 2, none⟩ = some (uu2) := r1.cell 2
  have kr0_3 : u0.cell? ⟨w.heap.size + 1, 3, none⟩ = some (uu3) := r1.cell 3
  have G1 := hideIt (G0.out.trans g0)
  have S1 := hideIt s1
  have R1 := hideIt r1
  clear s1 r1 g0
  go_wp2_with fail
  clear ks0_0 kr0_0 ks0_1 kr0_1 ks0_2 kr0_2 ks0_3 kr0_3
  refine (eqInts_same _ (H1.out.keep G1.out.keeps) (M1.out.keep G1.out.keeps)).mono ?_
  rintro e u1 ⟨rfl, g1⟩
  have s2 := S1.out.grows g1
  have ks1_0 : u1.cell? ⟨w.heap.size, 0, none⟩ = some (vv0) := s2.cell 0
  have ks1_1 : u1.cell? ⟨w.heap.size, 1, none⟩ = some (vv1) := s2.cell 1
  have ks1_2 : u1.cell? ⟨w.heap.size, 2, none⟩ = some (vv2) := s2.cell 2
  have ks1_3 : u1.cell? ⟨w.heap.size, 3, none⟩ = some (vv3) := s2.cell 3
  have r2 := R1.out.grows g1
  have kr1_0 : u1.cell? ⟨w.heap.size + 1, 0, none⟩ = some (uu0) := r2.cell 0
  have kr1_1 : u1.cell? ⟨w.heap.size + 1, 1, none⟩ = some (uu1) := r2.cell 1
  have kr1_2 : u1.cell? ⟨w.heap.size + 1, 2, none⟩ = some (uu2) := r2.cell 2
  have kr1_3 : u1.cell? ⟨w.heap.size + 1, 3, none⟩ = some (uu3) := r2.cell 3
  have G2 := hideIt (G1.out.trans g1)
  have S2 := hideIt s2
  have R2 := hideIt r2
  clear s2 r2 g1
  go_wp2_with fail
  clear ks1_0 kr1_0 ks1_1 kr1_1 ks1_2 kr1_2 ks1_3 kr1_3
  refine (eqInts_same _ (H2.out.keep G2.out.keeps) (M2.out.keep G2.out.keeps)).mono ?_
  rintro e u2 ⟨rfl, g2⟩
  have s3 := S2.out.grows g2
  have ks2_0 : u2.cell? ⟨w.heap.size, 0, none⟩ = some (vv0) := s3.cell 0
  have ks2_1 : u2.cell? ⟨w.heap.size, 1, none⟩ = some (vv1) := s3.cell 1
  have ks2_2 : u2.cell? ⟨w.heap.size, 2, none⟩ = some (vv2) := s3.cell 2
  have ks2_3 : u2.cell? ⟨w.heap.size, 3, none⟩ = some (vv3) := s3.cell 3
  have r3 := R2.out.grows g2
  have kr2_0 : u2.cell? ⟨w.heap.size + 1, 0, none⟩ = some (uu0) := r3.cell 0
  have kr2_1 : u2.cell? ⟨w.heap.size + 1, 1, none⟩ = some (uu1) := r3.cell 1
  have kr2_2 : u2.cell? ⟨w.heap.size + 1, 2, none⟩ = some (uu2) := r3.cell 2
  have kr2_3 : u2.cell? ⟨w.heap.size + 1, 3, none⟩ = some (uu3) := r3.cell 3
  have G3 := hideIt (G2.out.trans g2)
  have S3 := hideIt s3
  have R3 := hideIt r3
  clear s3 r3 g2
  go_wp2_with fail
  clear ks2_0 kr2_0 ks2_1 kr2_1 ks2_2 kr2_2 ks2_3 kr2_3
  refine (eqInts_same _ (H3.out.keep G3.out.keeps) (M3.out.keep G3.out.keeps)).mono ?_
  rintro e u3 ⟨rfl, g3⟩
  have s4 := S3.out.grows g3
  have ks3_0 : u3.cell? ⟨w.heap.size, 0, none⟩ = some (vv0) := s4.cell 0
  have ks3_1 : u3.cell? ⟨w.heap.size, 1, none⟩ = some (vv1) := s4.cell 1
  have ks3_2 : u3.cell? ⟨w.heap.size, 2, none⟩ = some (vv2) := s4.cell 2
  have ks3_3 : u3.cell? ⟨w.heap.size, 3, none⟩ = some (vv3) := s4.cell 3
  have r4 := R3.out.grows g3
  have kr3_0 : u3.cell? ⟨w.heap.size + 1, 0, none⟩ = some (uu0) := r4.cell 0
  have kr3_1 : u3.cell? ⟨w.heap.size + 1, 1, none⟩ = some (uu1) := r4.cell 1
  have kr3_2 : u3.cell? ⟨w.heap.size + 1, 2, none⟩ = some (uu2) := r4.cell 2
  have kr3_3 : u3.cell? ⟨w.heap.size + 1, 3, none⟩ = some (uu3) := r4.cell 3
  have G4 := hideIt (G3.out.trans g3)
  have S4 := hideIt s4
  have R4 := hideIt r4
  clear s4 r4 g3
  go_wp2
  go_ret
  exact ⟨rfl, G4.out⟩
def OWires : World → Value → List WireD → List Nat → Prop := OList 4 79 OWire
def SmWires (xs : List WireD) : Prop := SmL xs ∧ ∀ x ∈ xs, SmWire x
def wtWires (xs : List WireD) : Nat := wtL wtWire xs
theorem OWires.reads {w : World} {v : Value} {xs : List WireD} {bs : List Nat} (h : OWires w v xs bs) : RWires w v xs := OList.reads h fun _ _ _ h => h.reads
theorem OWires.same {w w' : World} {v : Value} {xs : List WireD} {bs : List Nat} (h : OWires w v xs bs) (g : SameOn bs w w') : OWires w' v xs bs := OList.same h g fun _ _ _ h g => h.same g
theorem OWires.lt {w : World} {v : Value} {xs : List WireD} {bs : List Nat} (h : OWires w v xs bs) : ∀ g ∈ bs, g < w.heap.size := OList.lt h fun _ _ _ h => h.lt
theorem info_Wire : (Tryz.prog.info? 79).map (fun i => (i.zero, i.size)) = some (some (.agg #[.slice none 0 0, .slice none 0 0, .slice none 0 0, .slice none 0 0]), 4) := by kernel_rfl
theorem bytes_Wire : ∀ i, Tryz.prog.info? 79 = some i → i.bytes ≤ 256 := by
  intro i hi
  have h : (Tryz.prog.info? 79).map (fun i => decide (i.bytes ≤ 256)) = some true := by kernel_rfl
  rw [hi] at h
  simpa using h
set_option maxHeartbeats 4000000 in
theorem toWires_o {v : Value} {xs : List WireD} (w : World) (h : RWires w v xs) (hn : SmWires xs) :
    Calls Tryz.prog 40 #[v] w fun e w' => ∃ (A : Option Addr) (c : Nat) (bs : List Nat), e = .returned (.slice A xs.length c) ∧ OWires w' (.slice A xs.length c) xs bs ∧ Own w.heap.size w'.heap.size bs ∧ Grows w w' := by
  obtain ⟨i0, hi, hzz⟩ := Option.map_eq_some_iff.1 info_Wire
  simp only [Prod.mk.injEq] at hzz
  obtain ⟨hz0, hz1⟩ := hzz
  have hbt := bytes_Wire i0 hi
  obtain ⟨hn1, hn2⟩ := hn
  unfold SmL at hn1
  have hmk : ∀ u : World, (Instr.makeSlice 42 (.int .i64 (xs.length : Int)) (.int .i64 (xs.length : Int))).run Tryz.prog u =
      .ok (.slice (some ⟨u.heap.size, 0, none⟩) xs.length xs.length) (u.alloc (.cells (madeCells #[.slice none 0 0, .slice none 0 0, .slice none 0 0, .slice none 0 0] (xs.length * 4)) 79)) := fun u => by
    have h := run_make (P := Tryz.prog) u 42 79 i0 (.agg #[.slice none 0 0, .slice none 0 0, .slice none 0 0, .slice none 0 0]) Tryz.underlying42 hi hz0 .i64 .i64 (xs.length : Int) (xs.length : Int) (by omega) (Int.le_refl _) (by have h5 := Nat.mul_le_mul hbt hn1; have e : (i0.bytes : Int) * (xs.length : Int) = ((i0.bytes * xs.length : Nat) : Int) := (Int.natCast_mul _ _).symm; rw [e]; omega) (by omega)
    simpa [hz1, Value.cells] using h
  obtain ⟨A, c, rfl, hle, hc, hx⟩ := h.form
  have HX := hideIt hx
  have HN := hideIt hn2
  clear hx hi hz0 hz1 hbt h hn2
  go_enter Tryz.func40, Tryz.ntmps40
  go_wp2
  go_loopw [4] (fun i wr => ∃ k : Nat, k ≤ xs.length ∧ i = .int .i64 k ∧ CopyG 4 79 OWire w wr xs k) (fun i _ => xs.length - (intOf i).toNat)
  case atStart => exact ⟨0, Nat.zero_le _, rfl, CopyG.start _ (Blk.new _ _ _) (by simp [size_madeCells]) ((Grows.refl _).alloc _)⟩
  case round =>
    obtain ⟨k, hk, rfl, hco⟩ := hrel
    by_cases hlt : k < xs.length
    · obtain ⟨x, hx⟩ : ∃ x, xs[k]? = some x := ⟨_, List.getElem?_eq_getElem hlt⟩
      obtain ⟨b, off, rfl, cs, hl1, hcs, hr⟩ := HX.out k x hx
      obtain ⟨c0, c1, c2, c3, rfl⟩ := list4 hl1
      have HST := hideIt (fun u es b => CopyG.step (u := u) (es := es) (b := b) hco (fun _ _ _ _ _ h g => OWire.same h g) hx)
      have SX := hideIt (HN.out x (List.mem_of_getElem? hx))
      obtain ⟨ds, bss, hb, hsz, -, -, hg, -⟩ := hco
      have HR : Hid (RWire wr [c0, c1, c2, c3] x) := hideIt (hr.keep hg.keeps)
      have hs0 : wr.cell? ⟨b, off + k * 4, none⟩ = some c0 := by simpa [Nat.add_assoc] using hg.keeps _ _ (hcs 0 _ rfl)
      have hs1 : wr.cell? ⟨b, off + k * 4 + 1, none⟩ = some c1 := by simpa [Nat.add_assoc] using hg.keeps _ _ (hcs 1 _ rfl)
      have hs2 : wr.cell? ⟨b, off + k * 4 + 2, none⟩ = some c2 := by simpa [Nat.add_assoc] using hg.keeps _ _ (hcs 2 _ rfl)
      have hs3 : wr.cell? ⟨b, off + k * 4 + 3, none⟩ = some c3 := by simpa [Nat.add_assoc] using hg.keeps _ _ (hcs 3 _ rfl)
      have HB := hideIt hb
      have hmul : k * 4 + 4 ≤ ds.size := by rw [hsz]; omega
      clear hcs hl1 hx hr hb hsz hmk hg
      go_wp2_with fail
      refine (toWire_o _ HR.out SX.out).mono ?_
      rintro e u ⟨y0, y1, y2, y3, bb, rfl, ho, ow, g⟩
      obtain ⟨⟨A0, m0, rfl⟩, ⟨A1, m1, rfl⟩, ⟨A2, m2, rfl⟩, ⟨A3, m3, rfl⟩⟩ := ho.shape
      have st := hideIt (HST.out u _ bb g ho ow rfl)
      have hbu := HB.out.grows g
      have hf := hbu.frozen
      obtain ⟨o0, hd0⟩ : ∃ o, u.cell? ⟨w.heap.size, k * 4, none⟩ = some o := ⟨_, by rw [hbu.cell]; exact Array.getElem?_eq_getElem (by omega)⟩
      obtain ⟨o1, hd1⟩ : ∃ o, u.cell? ⟨w.heap.size, k * 4 + 1, none⟩ = some o := ⟨_, by rw [hbu.cell]; exact Array.getElem?_eq_getElem (by omega)⟩
      obtain ⟨o2, hd2⟩ : ∃ o, u.cell? ⟨w.heap.size, k * 4 + 2, none⟩ = some o := ⟨_, by rw [hbu.cell]; exact Array.getElem?_eq_getElem (by omega)⟩
      obtain ⟨o3, hd3⟩ : ∃ o, u.cell? ⟨w.heap.size, k * 4 + 3, none⟩ = some o := ⟨_, by rw [hbu.cell]; exact Array.getElem?_eq_getElem (by omega)⟩
      clear hbu ho ow g HST HB HR
      go_wp2
      go_roundw
      case rel => exact ⟨k + 1, by omega, by go_num, st.out⟩
      case measure => simp [intOf]; omega
    · have hk2 : k = xs.length := by omega
      subst hk2
      have H := hideIt hco
      clear hco hmk
      go_wp2
      go_ret
      obtain ⟨bs, h1, h2, h3⟩ := H.out.done (by unfold maxLen; omega)
      exact ⟨_, _, bs, rfl, h1, h2, h3⟩
theorem toWires_any {v : Value} {xs : List WireD} (w : World) (h : RWires w v xs) (hn : SmWires xs) :
    Calls Tryz.prog 40 #[v] w fun e w' => ∃ (v' : Value) (bs : List Nat), e = .returned v' ∧ OWires w' v' xs bs ∧ Own w.heap.size w'.heap.size bs ∧ Grows w w' :=
  (toWires_o w h hn).mono fun _ _ ⟨_, _, bs, he, h⟩ => ⟨_, bs, he, h⟩
set_option maxHeartbeats 4000000 in
theorem eqWires_same {v1 v2 : Value} {xs : List WireD} (w : World) (h1 : RWires w v1 xs) (h2 : RWires w v2 xs) :
    Calls Tryz.prog 46 #[v1, v2] w fun e w' => e = .returned (.bool true) ∧ Grows w w' := by
  have l1 := h1.len
  obtain ⟨A, c, rfl, hle, hc, hx⟩ := h1.form
  obtain ⟨A2, c2, rfl, hle2, hc2, hy⟩ := h2.form
  have HX := hideIt hx
  have HY := hideIt hy
  have hb : ((xs.length : Int) != (xs.length : Int)) = false := by simp
  clear hx hy h1 h2 hle hle2 hc hc2
  go_enter Tryz.func46, Tryz.ntmps46
  go_wp2
  go_loopw [5] (fun i wr => ∃ k : Nat, k ≤ xs.length ∧ i = .int .i64 k ∧ Grows w wr) (fun i _ => xs.length - (intOf i).toNat)
  case atStart => exact ⟨0, Nat.zero_le _, rfl, Grows.refl _⟩
  case round =>
    obtain ⟨k, hk, rfl, hg⟩ := hrel
    by_cases hlt : k < xs.length
    · obtain ⟨x, hx⟩ : ∃ x, xs[k]? = some x := ⟨_, List.getElem?_eq_getElem hlt⟩
      obtain ⟨b, off, rfl, cs, hl1, hcs, hr⟩ := HX.out k x hx
      obtain ⟨b2, off2, rfl, cs2, hl2, hcs2, hr2⟩ := HY.out k x hx
      obtain ⟨c0, c1, c2, c3, rfl⟩ := list4 hl1
      obtain ⟨d0, d1, d2, d3, rfl⟩ := list4 hl2
      have HR : Hid (RWire wr [c0, c1, c2, c3] x) := hideIt (hr.keep hg.keeps)
      have HR2 : Hid (RWire wr [d0, d1, d2, d3] x) := hideIt (hr2.keep hg.keeps)
      have zc0 : wr.cell? ⟨b, off + k * 4, none⟩ = some c0 := by simpa [Nat.add_assoc] using hg.keeps _ _ (hcs 0 _ rfl)
      have zc1 : wr.cell? ⟨b, off + k * 4 + 1, none⟩ = some c1 := by simpa [Nat.add_assoc] using hg.keeps _ _ (hcs 1 _ rfl)
      have zc2 : wr.cell? ⟨b, off + k * 4 + 2, none⟩ = some c2 := by simpa [Nat.add_assoc] using hg.keeps _ _ (hcs 2 _ rfl)
      have zc3 : wr.cell? ⟨b, off + k * 4 + 3, none⟩ = some c3 := by simpa [Nat.add_assoc] using hg.keeps _ _ (hcs 3 _ rfl)
      have zd0 : wr.cell? ⟨b2, off2 + k * 4, none⟩ = some d0 := by simpa [Nat.add_assoc] using hg.keeps _ _ (hcs2 0 _ rfl)
      have zd1 : wr.cell? ⟨b2, off2 + k * 4 + 1, none⟩ = some d1 := by simpa [Nat.add_assoc] using hg.keeps _ _ (hcs2 1 _ rfl)
      have zd2 : wr.cell? ⟨b2, off2 + k * 4 + 2, none⟩ = some d2 := by simpa [Nat.add_assoc] using hg.keeps _ _ (hcs2 2 _ rfl)
      have zd3 : wr.cell? ⟨b2, off2 + k * 4 + 3, none⟩ = some d3 := by simpa [Nat.add_assoc] using hg.keeps _ _ (hcs2 3 _ rfl)
      have K0 : ∀ w', Grows wr w' → w'.cell? ⟨b, off + k * 4, none⟩ = some c0 ∧ w'.cell? ⟨b, off + k * 4 + 1, none⟩ = some c1 ∧ w'.cell? ⟨b, off + k * 4 + 2, none⟩ = some c2 ∧ w'.cell? ⟨b, off + k * 4 + 3, none⟩ = some c3 ∧ w'.cell? ⟨b2, off2 + k * 4, none⟩ = some d0 ∧ w'.cell? ⟨b2, off2 + k * 4 + 1, none⟩ = some d1 ∧ w'.cell? ⟨b2, off2 + k * 4 + 2, none⟩ = some d2 ∧ w'.cell? ⟨b2, off2 + k * 4 + 3, none⟩ = some d3 ∧ Grows wr w' := fun w' G => ⟨G.keeps _ _ zc0, G.keeps _ _ zc1, G.keeps _ _ zc2, G.keeps _ _ zc3, G.keeps _ _ zd0, G.keeps _ _ zd1, G.keeps _ _ zd2, G.keeps _ _ zd3, G⟩
      have HK := hideIt K0
      have HG := hideIt hg
      have gg : Grows wr wr := Grows.refl _
      clear K0 hcs hcs2 hl1 hl2 hr hr2 hx hg
      go_wp2_with fail
      go_region_held3 (fun w' => w'.cell? ⟨b, off + k * 4, none⟩ = some c0 ∧ w'.cell? ⟨b, off + k * 4 + 1, none⟩ = some c1 ∧ w'.cell? ⟨b, off + k * 4 + 2, none⟩ = some c2 ∧ w'.cell? ⟨b, off + k * 4 + 3, none⟩ = some c3 ∧ w'.cell? ⟨b2, off2 + k * 4, none⟩ = some d0 ∧ w'.cell? ⟨b2, off2 + k * 4 + 1, none⟩ = some d1 ∧ w'.cell? ⟨b2, off2 + k * 4 + 2, none⟩ = some d2 ∧ w'.cell? ⟨b2, off2 + k * 4 + 3, none⟩ = some d3 ∧ Grows wr w')
        ((refine HK.out _ ?_; (repeat (first | exact gg | refine Grows.drew ?_ | refine Grows.alloc ?_ _ | refine Grows.setCell ?_ (by simp <;> omega) _))))
        (first | (go_at_call 102; refine (eqWire_same _ (HR.out.keep (Grows.keeps (by (repeat (first | exact gg | refine Grows.drew ?_))))) (HR2.out.keep (Grows.keeps (by (repeat (first | exact gg | refine Grows.drew ?_)))))).mono ?_; rintro e wx ⟨rfl, g⟩; replace gg : Grows wr wx := Grows.trans (by (repeat (first | exact gg | refine Grows.drew ?_))) g))
      all_goals go_split_ands
      all_goals go_wp2
      all_goals go_roundw
      all_goals first
        | (case rel => exact ⟨k + 1, by omega, by go_num, HG.out.trans (by repeat (first | exact gg | refine Grows.drew ?_))⟩)
        | (simp [intOf]; omega)
    · have hk2 : k = xs.length := by omega
      subst hk2
      go_wp2
      go_ret
      exact ⟨rfl, hg⟩
set_option maxHeartbeats 2000000 in
theorem szWires_w {v : Value} {xs : List WireD} (left : Int) (w : World) (h : RWires w v xs) (h1 : 0 ≤ left) (h2 : left ≤ 1048576) :
    Calls Tryz.prog 34 #[v, .int .i64 left] w (SzPostW (SmWires xs) (wtWires xs) left w) := by
  have hl := h.len
  obtain ⟨A, c, rfl, hle, hc, hx⟩ := h.form
  have HX := hideIt hx
  clear hx h hle hc
  by_cases hlt : left - xs.length < 0
  · go_enter Tryz.func34, Tryz.ntmps34
    go_wp2
    go_ret
    exact ⟨_, rfl, by omega, by omega, fun h => absurd h (by omega), Grows.refl _⟩
  · go_enter Tryz.func34, Tryz.ntmps34
    go_wp2
    go_loopw [1, 5] (fun l i wr => ∃ (k : Nat) (r : Int), k ≤ xs.length ∧ l = .int .i64 r ∧ i = .int .i64 (k : Int) ∧ 0 ≤ r ∧ r ≤ 1048576 ∧ Hid ((((xs.take k).map wtWire).sum : Int) + r ≤ left - xs.length) ∧ Hid (∀ (j : Nat) (x : WireD), j < k → xs[j]? = some x → SmWire x) ∧ Grows w wr) (fun _ i _ => xs.length - (intOf i).toNat)
    case atStart => exact ⟨0, left - xs.length, Nat.zero_le _, rfl, rfl, by omega, by omega, hideIt (by simp), fun j x hj => absurd hj (by omega), Grows.refl _⟩
    case round =>
      obtain ⟨k, r, hk, rfl, rfl, hr0, hr1, hwt, hco, hg⟩ := hrel
      by_cases hk1 : k < xs.length
      · obtain ⟨x, hx⟩ : ∃ x, xs[k]? = some x := ⟨_, List.getElem?_eq_getElem hk1⟩
        obtain ⟨b, off, rfl, cs, hl1, hcs, hr⟩ := HX.out k x hx
        obtain ⟨c0, c1, c2, c3, rfl⟩ := list4 hl1
        have HR : Hid (RWire wr [c0, c1, c2, c3] x) := hideIt (hr.keep hg.keeps)
        have hs0 : wr.cell? ⟨b, off + k * 4, none⟩ = some c0 := by simpa [Nat.add_assoc] using hg.keeps _ _ (hcs 0 _ rfl)
        have hs1 : wr.cell? ⟨b, off + k * 4 + 1, none⟩ = some c1 := by simpa [Nat.add_assoc] using hg.keeps _ _ (hcs 1 _ rfl)
        have hs2 : wr.cell? ⟨b, off + k * 4 + 2, none⟩ = some c2 := by simpa [Nat.add_assoc] using hg.keeps _ _ (hcs 2 _ rfl)
        have hs3 : wr.cell? ⟨b, off + k * 4 + 3, none⟩ = some c3 := by simpa [Nat.add_assoc] using hg.keeps _ _ (hcs 3 _ rfl)
        have X1 := hideIt hx
        have HG := hideIt hg
        clear hcs hl1 hx hr hg
        go_wp2_with fail
        refine (szWire_w _ _ HR.out hr0 hr1).mono ?_
        rintro e u ⟨r2, rfl, p1, p2, sm, g⟩
        have SM := hideIt sm
        have GU := hideIt (HG.out.trans g)
        clear sm g HG HR
        by_cases n1 : r2 < 0
        · go_wp2
          go_ret
          exact ⟨-1, rfl, by omega, by omega, fun h => absurd h (by omega), GU.out⟩
        · go_wp2
          go_roundw
          case rel => exact ⟨k + 1, r2, by omega, rfl, by go_num, by omega, by omega, hideIt (by rw [sum_take_succ X1.out]; have h1 := hwt.out; have h2 := (SM.out (by omega)).2; omega), fun j y hj hy => by
            by_cases e : j = k
            · subst e; rw [X1.out] at hy; injection hy with hy; rw [← hy]; exact (SM.out (by omega)).1
            · exact hco.out j y (by omega) hy, GU.out⟩
          case measure => simp [intOf]; omega
      · have hk2 : k = xs.length := by omega
        subst hk2
        have HC := hideIt hco.out
        clear hco
        go_wp2
        go_ret
        exact ⟨_, rfl, by omega, by omega, fun _ => ⟨⟨by unfold SmL; omega, fun x hx => by obtain ⟨i, hi⟩ := List.getElem?_of_mem hx; exact HC.out i x (lt_of_at hi) hi⟩, by have h1 := hwt.out; rw [List.take_of_length_le (Nat.le_refl _)] at h1; unfold wtWires wtL; omega⟩, hg⟩
theorem szWires_any {v : Value} {xs : List WireD} (left : Int) (w : World) (h : RWires w v xs) (h1 : 0 ≤ left) (h2 : left ≤ 1048576) :
    Calls Tryz.prog 34 #[v, .int .i64 left] w (SzPost (SmWires xs) w) := (szWires_w left w h h1 h2).mono fun _ _ h => h.post
theorem RWire.open_ {w : World} {va vb vc vd : Value} {x : WireD} (h : RWire w [va, vb, vc, vd] x) : RInts w va x.parent ∧ RInts w vb x.res ∧ RInts w vc x.cap ∧ RInts w vd x.sink := h.parts
theorem RWire.shape {w : World} {va vb vc vd : Value} {x : WireD} (h : RWire w [va, vb, vc, vd] x) : (∃ (A : Option Addr) (n : Nat), va = .slice A x.parent.length n) ∧ (∃ (A : Option Addr) (n : Nat), vb = .slice A x.res.length n) ∧ (∃ (A : Option Addr) (n : Nat), vc = .slice A x.cap.length n) ∧ (∃ (A : Option Addr) (n : Nat), vd = .slice A x.sink.length n) := by
  obtain ⟨a, b, c, d⟩ := h.parts
  exact ⟨(by obtain ⟨A, c, h, -⟩ := RList.form a; exact ⟨A, c, h⟩), (by obtain ⟨A, c, h, -⟩ := RList.form b; exact ⟨A, c, h⟩), (by obtain ⟨A, c, h, -⟩ := RList.form c; exact ⟨A, c, h⟩), (by obtain ⟨A, c, h, -⟩ := RList.form d; exact ⟨A, c, h⟩)⟩
end Go.Proofs.YtpppobomekebdaaGreatDoor
/-
  Blocks: owned, small, budget, copy and equality.
-/
namespace Go.Proofs.YtpppobomekebdaaGreatDoor
open Go.RowKit
def OBlock (w : World) (cs : List Value) (x : BlockD) (bs : List Nat) : Prop :=
  ∃ (l i n p ws : Value) (b0 b1 b2 : List Nat), cs = [l, i, n, p, ws] ∧ OLib w [l] ⟨x.lib⟩ b0 ∧ ODesign w [i, n, p] x.design b1 ∧ OWires w ws x.wires b2 ∧ bs = b0 ++ b1 ++ b2
theorem RBlock.mk {w : World} {l i n p ws : Value} {x : BlockD} (h0 : RLib w [l] ⟨x.lib⟩) (h1 : RDesign w [i, n, p] x.design) (h2 : RWires w ws x.wires) : RBlock w [l, i, n, p, ws] x := by
  obtain ⟨v, e, h⟩ := h0
  injection e with e
  subst e
  exact ⟨_, _, _, _, _, rfl, h, h1, h2⟩
theorem RBlock.parts {w : World} {l i n p ws : Value} {x : BlockD} (h : RBlock w [l, i, n, p, ws] x) : RLib w [l] ⟨x.lib⟩ ∧ RDesign w [i, n, p] x.design ∧ RWires w ws x.wires := by
  obtain ⟨l', i', n', p', ws', e, h0, h1, h2⟩ := h
  injection e with e0 e
  injection e with e1 e
  injection e with e2 e
  injection e with e3 e
  injection e with e4 e
  subst e0 e1 e2 e3 e4
  exact ⟨RLib.mk h0, h1, h2⟩
theorem OBlock.reads {w : World} {cs : List Value} {x : BlockD} {bs : List Nat} (h : OBlock w cs x bs) : RBlock w cs x := by
  obtain ⟨l, i, n, p, ws, b0, b1, b2, rfl, h0, h1, h2, -⟩ := h
  exact RBlock.mk h0.reads h1.reads h2.reads
def wtBlock (x : BlockD) : Nat := wtLib ⟨x.lib⟩ + wtDesign x.design + wtWires x.wires
def SmBlock (x : BlockD) : Prop := SmLib ⟨x.lib⟩ ∧ SmDesign x.design ∧ SmWires x.wires
theorem slices_of_lib {w : World} {v : Value} {xs : List CellD} (h : RLib w [v] ⟨xs⟩) : ∃ (A : Option Addr) (n : Nat), v = .slice A xs.length n := by
  have := h.parts
  obtain ⟨A, c, e, -⟩ := RList.form this
  exact ⟨A, c, e⟩
theorem slices_of_design {w : World} {a b c : Value} {x : DesignD} (h : RDesign w [a, b, c] x) : (∃ (A : Option Addr) (n : Nat), a = .slice A x.insts.length n) ∧ (∃ (A : Option Addr) (n : Nat), b = .slice A x.nets.length n) ∧ (∃ (A : Option Addr) (n : Nat), c = .slice A x.ports.length n) := by
  obtain ⟨h1, h2, h3⟩ := h.parts
  exact ⟨(by obtain ⟨A, c, e, -⟩ := RList.form h1; exact ⟨A, c, e⟩), (by obtain ⟨A, c, e, -⟩ := RList.form h2; exact ⟨A, c, e⟩), (by obtain ⟨A, c, e, -⟩ := RList.form h3; exact ⟨A, c, e⟩)⟩
theorem RBlock.shape {w : World} {l i n p ws : Value} {x : BlockD} (h : RBlock w [l, i, n, p, ws] x) : (∃ (A : Option Addr) (c : Nat), l = .slice A x.lib.length c) ∧ (∃ (A : Option Addr) (c : Nat), i = .slice A x.design.insts.length c) ∧ (∃ (A : Option Addr) (c : Nat), n = .slice A x.design.nets.length c) ∧ (∃ (A : Option Addr) (c : Nat), p = .slice A x.design.ports.length c) ∧ (∃ (A : Option Addr) (c : Nat), ws = .slice A x.wires.length c) := by
  obtain ⟨h0, h1, h2⟩ := h.parts
  obtain ⟨a, b, c⟩ := slices_of_design h1
  exact ⟨slices_of_lib h0, a, b, c, (by obtain ⟨A, c, e, -⟩ := RList.form h2; exact ⟨A, c, e⟩)⟩
set_option maxHeartbeats 1000000 in
theorem szBlock_w {l i n p ws : Value} {x : BlockD} (left : Int) (w : World) (h : RBlock w [l, i, n, p, ws] x) (h1 : 0 ≤ left) (h2 : left ≤ 1048576) :
    Calls Tryz.prog 9 #[.agg #[l, i, n, p, ws], .int .i64 left] w (SzPostW (SmBlock x) (wtBlock x) left w) := by
  obtain ⟨k0, k1, k2⟩ := h.parts
  have g0 := (Grows.refl w).alloc (.cells #[l, i, n, p, ws] 32)
  have S := hideIt (Blk.new w 32 #[l, i, n, p, ws])
  have H0 := hideIt (k0.keep g0.keeps)
  have H1 := hideIt (k1.keep g0.keeps)
  have H2 := hideIt (k2.keep g0.keeps)
  have G := hideIt g0
  clear h k0 k1 k2 g0
  go_enter Tryz.func9, Tryz.ntmps9
  go_wp2_with fail
  refine (szLib_w _ _ H0.out (by omega) (by omega)).mono ?_
  rintro e w0 ⟨r0, rfl, p0, q0, s0, g⟩
  have S0 := hideIt s0
  clear s0
  replace G := hideIt (G.out.trans g)
  replace S := hideIt (S.out.grows g)
  replace H1 := hideIt (H1.out.keep g.keeps)
  replace H2 := hideIt (H2.out.keep g.keeps)
  clear g
  have c0 : w0.cell? ⟨w.heap.size, 0, none⟩ = some (l) := S.out.cell 0
  have c1 : w0.cell? ⟨w.heap.size, 1, none⟩ = some (i) := S.out.cell 1
  have c2 : w0.cell? ⟨w.heap.size, 2, none⟩ = some (n) := S.out.cell 2
  have c3 : w0.cell? ⟨w.heap.size, 3, none⟩ = some (p) := S.out.cell 3
  have c4 : w0.cell? ⟨w.heap.size, 4, none⟩ = some (ws) := S.out.cell 4
  have cl := S.out.lt
  by_cases n0 : r0 < 0
  · go_wp2
    go_ret
    exact ⟨-1, rfl, by omega, by omega, fun h => by omega, G.out⟩
  go_wp2_with fail
  clear c0 c1 c2 c3 c4 cl
  refine (szDesign_w _ _ H1.out (by omega) (by omega)).mono ?_
  rintro e w1 ⟨r1, rfl, p1, q1, s1, g⟩
  have S1 := hideIt s1
  clear s1
  replace G := hideIt (G.out.trans g)
  replace S := hideIt (S.out.grows g)
  replace H2 := hideIt (H2.out.keep g.keeps)
  clear g
  have c0 : w1.cell? ⟨w.heap.size, 0, none⟩ = some (l) := S.out.cell 0
  have c1 : w1.cell? ⟨w.heap.size, 1, none⟩ = some (i) := S.out.cell 1
  have c2 : w1.cell? ⟨w.heap.size, 2, none⟩ = some (n) := S.out.cell 2
  have c3 : w1.cell? ⟨w.heap.size, 3, none⟩ = some (p) := S.out.cell 3
  have c4 : w1.cell? ⟨w.heap.size, 4, none⟩ = some (ws) := S.out.cell 4
  have cl := S.out.lt
  by_cases n1 : r1 < 0
  · go_wp2
    go_ret
    exact ⟨-1, rfl, by omega, by omega, fun h => by omega, G.out⟩
  go_wp2_with fail
  clear c0 c1 c2 c3 c4 cl
  refine (szWires_w _ _ H2.out (by omega) (by omega)).mono ?_
  rintro e w2 ⟨r2, rfl, p2, q2, s2, g⟩
  have S2 := hideIt s2
  clear s2
  replace G := hideIt (G.out.trans g)
  replace S := hideIt (S.out.grows g)
  clear g
  have c0 : w2.cell? ⟨w.heap.size, 0, none⟩ = some (l) := S.out.cell 0
  have c1 : w2.cell? ⟨w.heap.size, 1, none⟩ = some (i) := S.out.cell 1
  have c2 : w2.cell? ⟨w.heap.size, 2, none⟩ = some (n) := S.out.cell 2
  have c3 : w2.cell? ⟨w.heap.size, 3, none⟩ = some (p) := S.out.cell 3
  have c4 : w2.cell? ⟨w.heap.size, 4, none⟩ = some (ws) := S.out.cell 4
  have cl := S.out.lt
  by_cases n2 : r2 < 0
  · go_wp2
    go_ret
    exact ⟨-1, rfl, by omega, by omega, fun h => by omega, G.out⟩
  go_wp2
  go_ret
  exact ⟨_, rfl, by omega, by omega, fun _ => ⟨⟨(S0.out (by omega)).1, (S1.out (by omega)).1, (S2.out (by omega)).1⟩, by have h0 := (S0.out (by omega)).2; have h1 := (S1.out (by omega)).2; have h2 := (S2.out (by omega)).2; unfold wtBlock; omega⟩, G.out⟩
theorem szBlock_any {l i n p ws : Value} {x : BlockD} (left : Int) (w : World) (h : RBlock w [l, i, n, p, ws] x) (h1 : 0 ≤ left) (h2 : left ≤ 1048576) :
    Calls Tryz.prog 9 #[.agg #[l, i, n, p, ws], .int .i64 left] w (SzPost (SmBlock x) w) := (szBlock_w left w h h1 h2).mono fun _ _ h => h.post
set_option maxHeartbeats 4000000 in
theorem toBlock_o {l i n p ws : Value} {x : BlockD} (w : World) (h : RBlock w [l, i, n, p, ws] x) (hs : SmBlock x) :
    Calls Tryz.prog 11 #[.agg #[l, i, n, p, ws]] w fun e w' => ∃ (y0 y1 y2 y3 y4 : Value) (bs : List Nat), e = .returned (.agg #[y0, y1, y2, y3, y4]) ∧ OBlock w' [y0, y1, y2, y3, y4] x bs ∧ Own w.heap.size w'.heap.size bs ∧ Grows w w' := by
  obtain ⟨k0, k1, k2⟩ := h.parts
  obtain ⟨s0, s1, s2⟩ := hs
  have H0 := hideIt k0
  have H1 := hideIt k1
  have H2 := hideIt k2
  have M0 := hideIt s0
  have M1 := hideIt s1
  have M2 := hideIt s2
  clear h k0 k1 k2 s0 s1 s2
  have g0 : Grows w (((w.alloc (.cells #[l, i, n, p, ws] 32)).alloc (.cells #[.slice none 0 0, .slice none 0 0, .slice none 0 0, .slice none 0 0, .slice none 0 0] 44)).alloc (.cells #[.slice none 0 0, .slice none 0 0, .slice none 0 0, .slice none 0 0, .slice none 0 0] 44)) := (((Grows.refl w).alloc _).alloc _).alloc _
  have s0 : Blk (((w.alloc (.cells #[l, i, n, p, ws] 32)).alloc (.cells #[.slice none 0 0, .slice none 0 0, .slice none 0 0, .slice none 0 0, .slice none 0 0] 44)).alloc (.cells #[.slice none 0 0, .slice none 0 0, .slice none 0 0, .slice none 0 0, .slice none 0 0] 44)) (w.heap.size) 32 #[l, i, n, p, ws] := ((Blk.new w _ _).grows ((Grows.refl _).alloc _)).grows ((Grows.refl _).alloc _)
  have r0 : Blk (((w.alloc (.cells #[l, i, n, p, ws] 32)).alloc (.cells #[.slice none 0 0, .slice none 0 0, .slice none 0 0, .slice none 0 0, .slice none 0 0] 44)).alloc (.cells #[.slice none 0 0, .slice none 0 0, .slice none 0 0, .slice none 0 0, .slice none 0 0] 44)) (w.heap.size + 1) 44 #[.slice none 0 0, .slice none 0 0, .slice none 0 0, .slice none 0 0, .slice none 0 0] := by have := (Blk.new (w.alloc (.cells #[l, i, n, p, ws] 32)) 44 #[.slice none 0 0, .slice none 0 0, .slice none 0 0, .slice none 0 0, .slice none 0 0]).grows ((Grows.refl _).alloc (.cells #[.slice none 0 0, .slice none 0 0, .slice none 0 0, .slice none 0 0, .slice none 0 0] 44)); simpa using this
  have b0 : Blk (((w.alloc (.cells #[l, i, n, p, ws] 32)).alloc (.cells #[.slice none 0 0, .slice none 0 0, .slice none 0 0, .slice none 0 0, .slice none 0 0] 44)).alloc (.cells #[.slice none 0 0, .slice none 0 0, .slice none 0 0, .slice none 0 0, .slice none 0 0] 44)) (w.heap.size + 1 + 1) 44 #[.slice none 0 0, .slice none 0 0, .slice none 0 0, .slice none 0 0, .slice none 0 0] := by have := Blk.new ((w.alloc (.cells #[l, i, n, p, ws] 32)).alloc (.cells #[.slice none 0 0, .slice none 0 0, .slice none 0 0, .slice none 0 0, .slice none 0 0] 44)) 44 #[.slice none 0 0, .slice none 0 0, .slice none 0 0, .slice none 0 0, .slice none 0 0]; simpa using this
  have G0 := hideIt g0
  have S0 := hideIt s0
  have R0 := hideIt r0
  have B0 := hideIt b0
  clear g0 s0 r0 b0
  go_enter Tryz.func11, Tryz.ntmps11
  go_wp2_with fail
  refine (toLib_o _ (H0.out.keep G0.out.keeps) M0.out).mono ?_
  rintro e u0 ⟨z0, y0, rfl, o0, n0, g0⟩
  obtain ⟨A0, c0, rfl⟩ := o0.shape
  simp only at o0
  have s1 := S0.out.grows g0
  have ks0_0 : u0.cell? ⟨w.heap.size, 0, none⟩ = some (l) := s1.cell 0
  have ks0_1 : u0.cell? ⟨w.heap.size, 1, none⟩ = some (i) := s1.cell 1
  have ks0_2 : u0.cell? ⟨w.heap.size, 2, none⟩ = some (n) := s1.cell 2
  have ks0_3 : u0.cell? ⟨w.heap.size, 3, none⟩ = some (p) := s1.cell 3
  have ks0_4 : u0.cell? ⟨w.heap.size, 4, none⟩ = some (ws) := s1.cell 4
  have fs0 := s1.frozen
  have r1 := R0.out.grows g0
  have kr0_0 : u0.cell? ⟨w.heap.size + 1, 0, none⟩ = some (.slice none 0 0) := r1.cell 0
  have kr0_1 : u0.cell? ⟨w.heap.size + 1, 1, none⟩ = some (.slice none 0 0) := r1.cell 1
  have kr0_2 : u0.cell? ⟨w.heap.size + 1, 2, none⟩ = some (.slice none 0 0) := r1.cell 2
  have kr0_3 : u0.cell? ⟨w.heap.size + 1, 3, none⟩ = some (.slice none 0 0) := r1.cell 3
  have kr0_4 : u0.cell? ⟨w.heap.size + 1, 4, none⟩ = some (.slice none 0 0) := r1.cell 4
  have fr0 := r1.frozen
  have b1 := B0.out.grows g0
  have kb0_0 : u0.cell? ⟨w.heap.size + 1 + 1, 0, none⟩ = some (.slice none 0 0) := b1.cell 0
  have kb0_1 : u0.cell? ⟨w.heap.size + 1 + 1, 1, none⟩ = some (.slice none 0 0) := b1.cell 1
  have kb0_2 : u0.cell? ⟨w.heap.size + 1 + 1, 2, none⟩ = some (.slice none 0 0) := b1.cell 2
  have kb0_3 : u0.cell? ⟨w.heap.size + 1 + 1, 3, none⟩ = some (.slice none 0 0) := b1.cell 3
  have kb0_4 : u0.cell? ⟨w.heap.size + 1 + 1, 4, none⟩ = some (.slice none 0 0) := b1.cell 4
  have fb0 := b1.frozen
  have z0_ := b1.lt
  have v0_ : w.heap.size + 1 + 1 + 1 ≤ u0.heap.size := by have := g0.size; simpa using this
  have G1 := hideIt ((G0.out.trans g0).setCell (p := ⟨w.heap.size + 1 + 1, 0, none⟩) (by simp <;> omega) (.slice A0 x.lib.length c0))
  have S1 := hideIt (s1.far (p := ⟨w.heap.size + 1 + 1, 0, none⟩) (by simp <;> omega) (.slice A0 x.lib.length c0))
  have R1 := hideIt (r1.far (p := ⟨w.heap.size + 1 + 1, 0, none⟩) (by simp <;> omega) (.slice A0 x.lib.length c0))
  have B1 := hideIt (b1.set_ 0 (.slice A0 x.lib.length c0))
  have O0 := hideIt o0
  have N0 := hideIt n0
  have Q0 := hideIt g0
  clear s1 r1 b1 o0 n0 g0
  go_wp2_with fail
  clear ks0_0 kr0_0 kb0_0 ks0_1 kr0_1 kb0_1 ks0_2 kr0_2 kb0_2 ks0_3 kr0_3 kb0_3 ks0_4 kr0_4 kb0_4 fs0 fr0 fb0
  refine (toDesign_o _ (H1.out.keep G1.out.keeps) M1.out).mono ?_
  rintro e u1 ⟨z1, z2, z3, y1, rfl, o1, n1, g1⟩
  obtain ⟨⟨A1, c1, rfl⟩, ⟨A2, c2, rfl⟩, ⟨A3, c3, rfl⟩⟩ := o1.shape
  have s2 := S1.out.grows g1
  have ks1_0 : u1.cell? ⟨w.heap.size, 0, none⟩ = some (l) := s2.cell 0
  have ks1_1 : u1.cell? ⟨w.heap.size, 1, none⟩ = some (i) := s2.cell 1
  have ks1_2 : u1.cell? ⟨w.heap.size, 2, none⟩ = some (n) := s2.cell 2
  have ks1_3 : u1.cell? ⟨w.heap.size, 3, none⟩ = some (p) := s2.cell 3
  have ks1_4 : u1.cell? ⟨w.heap.size, 4, none⟩ = some (ws) := s2.cell 4
  have fs1 := s2.frozen
  have r2 := R1.out.grows g1
  have kr1_0 : u1.cell? ⟨w.heap.size + 1, 0, none⟩ = some (.slice none 0 0) := r2.cell 0
  have kr1_1 : u1.cell? ⟨w.heap.size + 1, 1, none⟩ = some (.slice none 0 0) := r2.cell 1
  have kr1_2 : u1.cell? ⟨w.heap.size + 1, 2, none⟩ = some (.slice none 0 0) := r2.cell 2
  have kr1_3 : u1.cell? ⟨w.heap.size + 1, 3, none⟩ = some (.slice none 0 0) := r2.cell 3
  have kr1_4 : u1.cell? ⟨w.heap.size + 1, 4, none⟩ = some (.slice none 0 0) := r2.cell 4
  have fr1 := r2.frozen
  have b2 := B1.out.grows g1
  have kb1_0 : u1.cell? ⟨w.heap.size + 1 + 1, 0, none⟩ = some (.slice A0 x.lib.length c0) := b2.cell 0
  have kb1_1 : u1.cell? ⟨w.heap.size + 1 + 1, 1, none⟩ = some (.slice none 0 0) := b2.cell 1
  have kb1_2 : u1.cell? ⟨w.heap.size + 1 + 1, 2, none⟩ = some (.slice none 0 0) := b2.cell 2
  have kb1_3 : u1.cell? ⟨w.heap.size + 1 + 1, 3, none⟩ = some (.slice none 0 0) := b2.cell 3
  have kb1_4 : u1.cell? ⟨w.heap.size + 1 + 1, 4, none⟩ = some (.slice none 0 0) := b2.cell 4
  have fb1 := b2.frozen
  have z1_ := b2.lt
  have v1_ : u0.heap.size ≤ u1.heap.size := by have := g1.size; simpa using this
  have G2 := hideIt ((((G1.out.trans g1).setCell (p := ⟨w.heap.size + 1 + 1, 1, none⟩) (by simp <;> omega) (.slice A1 x.design.insts.length c1)).setCell (p := ⟨w.heap.size + 1 + 1, 2, none⟩) (by simp <;> omega) (.slice A2 x.design.nets.length c2)).setCell (p := ⟨w.heap.size + 1 + 1, 3, none⟩) (by simp <;> omega) (.slice A3 x.design.ports.length c3))
  have S2 := hideIt (((s2.far (p := ⟨w.heap.size + 1 + 1, 1, none⟩) (by simp <;> omega) (.slice A1 x.design.insts.length c1)).far (p := ⟨w.heap.size + 1 + 1, 2, none⟩) (by simp <;> omega) (.slice A2 x.design.nets.length c2)).far (p := ⟨w.heap.size + 1 + 1, 3, none⟩) (by simp <;> omega) (.slice A3 x.design.ports.length c3))
  have R2 := hideIt (((r2.far (p := ⟨w.heap.size + 1 + 1, 1, none⟩) (by simp <;> omega) (.slice A1 x.design.insts.length c1)).far (p := ⟨w.heap.size + 1 + 1, 2, none⟩) (by simp <;> omega) (.slice A2 x.design.nets.length c2)).far (p := ⟨w.heap.size + 1 + 1, 3, none⟩) (by simp <;> omega) (.slice A3 x.design.ports.length c3))
  have B2 := hideIt (((b2.set_ 1 (.slice A1 x.design.insts.length c1)).set_ 2 (.slice A2 x.design.nets.length c2)).set_ 3 (.slice A3 x.design.ports.length c3))
  have O1 := hideIt o1
  have N1 := hideIt n1
  have Q1 := hideIt g1
  clear s2 r2 b2 o1 n1 g1
  go_wp2_with fail
  clear ks1_0 kr1_0 kb1_0 ks1_1 kr1_1 kb1_1 ks1_2 kr1_2 kb1_2 ks1_3 kr1_3 kb1_3 ks1_4 kr1_4 kb1_4 fs1 fr1 fb1
  refine (toWires_o _ (H2.out.keep G2.out.keeps) M2.out).mono ?_
  rintro e u2 ⟨A4, c4, y2, rfl, o2, n2, g2⟩
  have s3 := S2.out.grows g2
  have ks2_0 : u2.cell? ⟨w.heap.size, 0, none⟩ = some (l) := s3.cell 0
  have ks2_1 : u2.cell? ⟨w.heap.size, 1, none⟩ = some (i) := s3.cell 1
  have ks2_2 : u2.cell? ⟨w.heap.size, 2, none⟩ = some (n) := s3.cell 2
  have ks2_3 : u2.cell? ⟨w.heap.size, 3, none⟩ = some (p) := s3.cell 3
  have ks2_4 : u2.cell? ⟨w.heap.size, 4, none⟩ = some (ws) := s3.cell 4
  have fs2 := s3.frozen
  have r3 := R2.out.grows g2
  have kr2_0 : u2.cell? ⟨w.heap.size + 1, 0, none⟩ = some (.slice none 0 0) := r3.cell 0
  have kr2_1 : u2.cell? ⟨w.heap.size + 1, 1, none⟩ = some (.slice none 0 0) := r3.cell 1
  have kr2_2 : u2.cell? ⟨w.heap.size + 1, 2, none⟩ = some (.slice none 0 0) := r3.cell 2
  have kr2_3 : u2.cell? ⟨w.heap.size + 1, 3, none⟩ = some (.slice none 0 0) := r3.cell 3
  have kr2_4 : u2.cell? ⟨w.heap.size + 1, 4, none⟩ = some (.slice none 0 0) := r3.cell 4
  have fr2 := r3.frozen
  have b3 := B2.out.grows g2
  have kb2_0 : u2.cell? ⟨w.heap.size + 1 + 1, 0, none⟩ = some (.slice A0 x.lib.length c0) := b3.cell 0
  have kb2_1 : u2.cell? ⟨w.heap.size + 1 + 1, 1, none⟩ = some (.slice A1 x.design.insts.length c1) := b3.cell 1
  have kb2_2 : u2.cell? ⟨w.heap.size + 1 + 1, 2, none⟩ = some (.slice A2 x.design.nets.length c2) := b3.cell 2
  have kb2_3 : u2.cell? ⟨w.heap.size + 1 + 1, 3, none⟩ = some (.slice A3 x.design.ports.length c3) := b3.cell 3
  have kb2_4 : u2.cell? ⟨w.heap.size + 1 + 1, 4, none⟩ = some (.slice none 0 0) := b3.cell 4
  have fb2 := b3.frozen
  have z2_ := b3.lt
  have v2_ : u1.heap.size ≤ u2.heap.size := by have := g2.size; simpa using this
  have G3 := hideIt ((G2.out.trans g2).setCell (p := ⟨w.heap.size + 1 + 1, 4, none⟩) (by simp <;> omega) (.slice A4 x.wires.length c4))
  have S3 := hideIt (s3.far (p := ⟨w.heap.size + 1 + 1, 4, none⟩) (by simp <;> omega) (.slice A4 x.wires.length c4))
  have R3 := hideIt (r3.far (p := ⟨w.heap.size + 1 + 1, 4, none⟩) (by simp <;> omega) (.slice A4 x.wires.length c4))
  have B3 := hideIt (b3.set_ 4 (.slice A4 x.wires.length c4))
  have O2 := hideIt o2
  have N2 := hideIt n2
  have Q2 := hideIt g2
  clear s3 r3 b3 o2 n2 g2
  go_wp2
  refine bodyPost_ret (by simp [*, results, Tryz.results11, go_sem]; try rfl) rfl ?_
  exact ⟨_, _, _, _, _, _, rfl, ⟨_, _, _, _, _, _, _, _, rfl, O0.out.same (((((((((((((SameOn.refl y0 u0).set (p := ⟨w.heap.size + 1 + 1, 0, none⟩) (fun g hg => by have := (N0.out.2 g hg).1; simp at this ⊢; omega) (.slice A0 x.lib.length c0)).grows (fun g hg => by have := (N0.out.2 g hg).2; simp; omega) Q1.out).set (p := ⟨w.heap.size + 1 + 1, 1, none⟩) (fun g hg => by have := (N0.out.2 g hg).1; simp at this ⊢; omega) (.slice A1 x.design.insts.length c1)).set (p := ⟨w.heap.size + 1 + 1, 2, none⟩) (fun g hg => by have := (N0.out.2 g hg).1; simp at this ⊢; omega) (.slice A2 x.design.nets.length c2)).set (p := ⟨w.heap.size + 1 + 1, 3, none⟩) (fun g hg => by have := (N0.out.2 g hg).1; simp at this ⊢; omega) (.slice A3 x.design.ports.length c3)).grows (fun g hg => by have := (N0.out.2 g hg).2; simp; omega) Q2.out).set (p := ⟨w.heap.size + 1 + 1, 4, none⟩) (fun g hg => by have := (N0.out.2 g hg).1; simp at this ⊢; omega) (.slice A4 x.wires.length c4)).set (p := ⟨w.heap.size + 1, 0, none⟩) (fun g hg => by have := (N0.out.2 g hg).1; simp at this ⊢; omega) (.slice A0 x.lib.length c0)).set (p := ⟨w.heap.size + 1, 1, none⟩) (fun g hg => by have := (N0.out.2 g hg).1; simp at this ⊢; omega) (.slice A1 x.design.insts.length c1)).set (p := ⟨w.heap.size + 1, 2, none⟩) (fun g hg => by have := (N0.out.2 g hg).1; simp at this ⊢; omega) (.slice A2 x.design.nets.length c2)).set (p := ⟨w.heap.size + 1, 3, none⟩) (fun g hg => by have := (N0.out.2 g hg).1; simp at this ⊢; omega) (.slice A3 x.design.ports.length c3)).set (p := ⟨w.heap.size + 1, 4, none⟩) (fun g hg => by have := (N0.out.2 g hg).1; simp at this ⊢; omega) (.slice A4 x.wires.length c4)), O1.out.same (((((((((((SameOn.refl y1 u1).set (p := ⟨w.heap.size + 1 + 1, 1, none⟩) (fun g hg => by have := (N1.out.2 g hg).1; simp at this ⊢; omega) (.slice A1 x.design.insts.length c1)).set (p := ⟨w.heap.size + 1 + 1, 2, none⟩) (fun g hg => by have := (N1.out.2 g hg).1; simp at this ⊢; omega) (.slice A2 x.design.nets.length c2)).set (p := ⟨w.heap.size + 1 + 1, 3, none⟩) (fun g hg => by have := (N1.out.2 g hg).1; simp at this ⊢; omega) (.slice A3 x.design.ports.length c3)).grows (fun g hg => by have := (N1.out.2 g hg).2; simp; omega) Q2.out).set (p := ⟨w.heap.size + 1 + 1, 4, none⟩) (fun g hg => by have := (N1.out.2 g hg).1; simp at this ⊢; omega) (.slice A4 x.wires.length c4)).set (p := ⟨w.heap.size + 1, 0, none⟩) (fun g hg => by have := (N1.out.2 g hg).1; simp at this ⊢; omega) (.slice A0 x.lib.length c0)).set (p := ⟨w.heap.size + 1, 1, none⟩) (fun g hg => by have := (N1.out.2 g hg).1; simp at this ⊢; omega) (.slice A1 x.design.insts.length c1)).set (p := ⟨w.heap.size + 1, 2, none⟩) (fun g hg => by have := (N1.out.2 g hg).1; simp at this ⊢; omega) (.slice A2 x.design.nets.length c2)).set (p := ⟨w.heap.size + 1, 3, none⟩) (fun g hg => by have := (N1.out.2 g hg).1; simp at this ⊢; omega) (.slice A3 x.design.ports.length c3)).set (p := ⟨w.heap.size + 1, 4, none⟩) (fun g hg => by have := (N1.out.2 g hg).1; simp at this ⊢; omega) (.slice A4 x.wires.length c4)), O2.out.same (((((((SameOn.refl y2 u2).set (p := ⟨w.heap.size + 1 + 1, 4, none⟩) (fun g hg => by have := (N2.out.2 g hg).1; simp at this ⊢; omega) (.slice A4 x.wires.length c4)).set (p := ⟨w.heap.size + 1, 0, none⟩) (fun g hg => by have := (N2.out.2 g hg).1; simp at this ⊢; omega) (.slice A0 x.lib.length c0)).set (p := ⟨w.heap.size + 1, 1, none⟩) (fun g hg => by have := (N2.out.2 g hg).1; simp at this ⊢; omega) (.slice A1 x.design.insts.length c1)).set (p := ⟨w.heap.size + 1, 2, none⟩) (fun g hg => by have := (N2.out.2 g hg).1; simp at this ⊢; omega) (.slice A2 x.design.nets.length c2)).set (p := ⟨w.heap.size + 1, 3, none⟩) (fun g hg => by have := (N2.out.2 g hg).1; simp at this ⊢; omega) (.slice A3 x.design.ports.length c3)).set (p := ⟨w.heap.size + 1, 4, none⟩) (fun g hg => by have := (N2.out.2 g hg).1; simp at this ⊢; omega) (.slice A4 x.wires.length c4)), rfl⟩, ((Own.append (Own.append (N0.out.mono (lo' := w.heap.size) (hi' := u0.heap.size) (by simp <;> omega) (Nat.le_refl _)) (N1.out.mono (lo' := u0.heap.size) (hi' := u1.heap.size) (by simp <;> omega) (Nat.le_refl _)) (by omega) (by omega)) (N2.out.mono (lo' := u1.heap.size) (hi' := u2.heap.size) (by simp <;> omega) (Nat.le_refl _)) (by omega) (by omega))).mono (Nat.le_refl _) (by simp), (((((G3.out.setCell (p := ⟨w.heap.size + 1, 0, none⟩) (by simp <;> omega) (.slice A0 x.lib.length c0)).setCell (p := ⟨w.heap.size + 1, 1, none⟩) (by simp <;> omega) (.slice A1 x.design.insts.length c1)).setCell (p := ⟨w.heap.size + 1, 2, none⟩) (by simp <;> omega) (.slice A2 x.design.nets.length c2)).setCell (p := ⟨w.heap.size + 1, 3, none⟩) (by simp <;> omega) (.slice A3 x.design.ports.length c3)).setCell (p := ⟨w.heap.size + 1, 4, none⟩) (by simp <;> omega) (.slice A4 x.wires.length c4))⟩
set_option maxHeartbeats 2000000 in
theorem eqBlock_same {l i n p ws l2 i2 n2 p2 ws2 : Value} {x : BlockD} (w : World) (h : RBlock w [l, i, n, p, ws] x) (h2 : RBlock w [l2, i2, n2, p2, ws2] x) :
    Calls Tryz.prog 13 #[.agg #[l, i, n, p, ws], .agg #[l2, i2, n2, p2, ws2]] w fun e w' => e = .returned (.bool true) ∧ Grows w w' := by
  obtain ⟨k0, k1, k2⟩ := h.parts
  obtain ⟨m0, m1, m2⟩ := h2.parts
  have H0 := hideIt k0
  have H1 := hideIt k1
  have H2 := hideIt k2
  have M0 := hideIt m0
  have M1 := hideIt m1
  have M2 := hideIt m2
  clear h h2 k0 k1 k2 m0 m1 m2
  have g0 : Grows w ((w.alloc (.cells #[l, i, n, p, ws] 44)).alloc (.cells #[l2, i2, n2, p2, ws2] 44)) := ((Grows.refl w).alloc _).alloc _
  have s0 : Blk ((w.alloc (.cells #[l, i, n, p, ws] 44)).alloc (.cells #[l2, i2, n2, p2, ws2] 44)) (w.heap.size) 44 #[l, i, n, p, ws] := (Blk.new w _ _).grows ((Grows.refl _).alloc _)
  have r0 : Blk ((w.alloc (.cells #[l, i, n, p, ws] 44)).alloc (.cells #[l2, i2, n2, p2, ws2] 44)) (w.heap.size + 1) 44 #[l2, i2, n2, p2, ws2] := by have := Blk.new (w.alloc (.cells #[l, i, n, p, ws] 44)) 44 #[l2, i2, n2, p2, ws2]; simpa using this
  have G0 := hideIt g0
  have S0 := hideIt s0
  have R0 := hideIt r0
  clear g0 s0 r0
  go_enter Tryz.func13, Tryz.ntmps13
  go_wp2_with fail
  refine (eqLib_same _ (H0.out.keep G0.out.keeps) (M0.out.keep G0.out.keeps)).mono ?_
  rintro e u0 ⟨rfl, g0⟩
  have s1 := S0.out.grows g0
  have ks0_0 : u0.cell? ⟨w.heap.size, 0, none⟩ = some (l) := s1.cell 0
  have ks0_1 : u0.cell? ⟨w.heap.size, 1, none⟩ = some (i) := s1.cell 1
  have ks0_2 : u0.cell? ⟨w.heap.size, 2, none⟩ = some (n) := s1.cell 2
  have ks0_3 : u0.cell? ⟨w.heap.size, 3, none⟩ = some (p) := s1.cell 3
  have ks0_4 : u0.cell? ⟨w.heap.size, 4, none⟩ = some (ws) := s1.cell 4
  have ls0 := s1.lt
  have r1 := R0.out.grows g0
  have kr0_0 : u0.cell? ⟨w.heap.size + 1, 0, none⟩ = some (l2) := r1.cell 0
  have kr0_1 : u0.cell? ⟨w.heap.size + 1, 1, none⟩ = some (i2) := r1.cell 1
  have kr0_2 : u0.cell? ⟨w.heap.size + 1, 2, none⟩ = some (n2) := r1.cell 2
  have kr0_3 : u0.cell? ⟨w.heap.size + 1, 3, none⟩ = some (p2) := r1.cell 3
  have kr0_4 : u0.cell? ⟨w.heap.size + 1, 4, none⟩ = some (ws2) := r1.cell 4
  have lr0 := r1.lt
  have G1 := hideIt (G0.out.trans g0)
  have S1 := hideIt s1
  have R1 := hideIt r1
  clear s1 r1 g0
  go_wp2_with fail
  clear ks0_0 kr0_0 ks0_1 kr0_1 ks0_2 kr0_2 ks0_3 kr0_3 ks0_4 kr0_4
  refine (eqDesign_same _ (H1.out.keep G1.out.keeps) (M1.out.keep G1.out.keeps)).mono ?_
  rintro e u1 ⟨rfl, g1⟩
  have s2 := S1.out.grows g1
  have ks1_0 : u1.cell? ⟨w.heap.size, 0, none⟩ = some (l) := s2.cell 0
  have ks1_1 : u1.cell? ⟨w.heap.size, 1, none⟩ = some (i) := s2.cell 1
  have ks1_2 : u1.cell? ⟨w.heap.size, 2, none⟩ = some (n) := s2.cell 2
  have ks1_3 : u1.cell? ⟨w.heap.size, 3, none⟩ = some (p) := s2.cell 3
  have ks1_4 : u1.cell? ⟨w.heap.size, 4, none⟩ = some (ws) := s2.cell 4
  have ls1 := s2.lt
  have r2 := R1.out.grows g1
  have kr1_0 : u1.cell? ⟨w.heap.size + 1, 0, none⟩ = some (l2) := r2.cell 0
  have kr1_1 : u1.cell? ⟨w.heap.size + 1, 1, none⟩ = some (i2) := r2.cell 1
  have kr1_2 : u1.cell? ⟨w.heap.size + 1, 2, none⟩ = some (n2) := r2.cell 2
  have kr1_3 : u1.cell? ⟨w.heap.size + 1, 3, none⟩ = some (p2) := r2.cell 3
  have kr1_4 : u1.cell? ⟨w.heap.size + 1, 4, none⟩ = some (ws2) := r2.cell 4
  have lr1 := r2.lt
  have G2 := hideIt (G1.out.trans g1)
  have S2 := hideIt s2
  have R2 := hideIt r2
  clear s2 r2 g1
  go_wp2_with fail
  clear ks1_0 kr1_0 ks1_1 kr1_1 ks1_2 kr1_2 ks1_3 kr1_3 ks1_4 kr1_4
  refine (eqWires_same _ (H2.out.keep G2.out.keeps) (M2.out.keep G2.out.keeps)).mono ?_
  rintro e u2 ⟨rfl, g2⟩
  have s3 := S2.out.grows g2
  have ks2_0 : u2.cell? ⟨w.heap.size, 0, none⟩ = some (l) := s3.cell 0
  have ks2_1 : u2.cell? ⟨w.heap.size, 1, none⟩ = some (i) := s3.cell 1
  have ks2_2 : u2.cell? ⟨w.heap.size, 2, none⟩ = some (n) := s3.cell 2
  have ks2_3 : u2.cell? ⟨w.heap.size, 3, none⟩ = some (p) := s3.cell 3
  have ks2_4 : u2.cell? ⟨w.heap.size, 4, none⟩ = some (ws) := s3.cell 4
  have ls2 := s3.lt
  have r3 := R2.out.grows g2
  have kr2_0 : u2.cell? ⟨w.heap.size + 1, 0, none⟩ = some (l2) := r3.cell 0
  have kr2_1 : u2.cell? ⟨w.heap.size + 1, 1, none⟩ = some (i2) := r3.cell 1
  have kr2_2 : u2.cell? ⟨w.heap.size + 1, 2, none⟩ = some (n2) := r3.cell 2
  have kr2_3 : u2.cell? ⟨w.heap.size + 1, 3, none⟩ = some (p2) := r3.cell 3
  have kr2_4 : u2.cell? ⟨w.heap.size + 1, 4, none⟩ = some (ws2) := r3.cell 4
  have lr2 := r3.lt
  have G3 := hideIt (G2.out.trans g2)
  have S3 := hideIt s3
  have R3 := hideIt r3
  clear s3 r3 g2
  go_wp2
  go_ret
  exact ⟨rfl, G3.out⟩
end Go.Proofs.YtpppobomekebdaaGreatDoor
