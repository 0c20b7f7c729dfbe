/-
  A struct and the slices of it: owned, small, its budget, copy and equality.
-/
import Derived.Test.YtcaklodecejkhaaInstT
namespace Go.Proofs.Ytcaklodecejkhaa
open Go.RowKit

def ODesign (w : World) (cs : List Value) (x : DesignD) (bs : List Nat) : Prop :=
  ∃ (vv0 vv1 vv2 : Value) (b0 b1 b2 : List Nat), cs = [vv0, vv1, vv2] ∧ OInsts w vv0 x.insts b0 ∧ OStrs w vv1 x.nets b1 ∧ OPorts w vv2 x.ports b2 ∧ bs = b0 ++ b1 ++ b2
theorem ODesign.reads {w : World} {cs : List Value} {x : DesignD} {bs : List Nat} (h : ODesign w cs x bs) : RDesign w cs x := by
  obtain ⟨vv0, vv1, vv2, b0, b1, b2, e, h0, h1, h2, _⟩ := h
  exact ⟨vv0, vv1, vv2, e, h0.reads, h1.reads, h2.reads⟩
theorem ODesign.same {w w' : World} {cs : List Value} {x : DesignD} {bs : List Nat} (h : ODesign w cs x bs) (g : SameOn bs w w') : ODesign w' cs x bs := by
  obtain ⟨vv0, vv1, vv2, b0, b1, b2, e, h0, h1, h2, rfl⟩ := h
  exact ⟨vv0, vv1, vv2, _, _, _, e, h0.same (g.sub (by simp +contextual)), h1.same (g.sub (by simp +contextual)), h2.same (g.sub (by simp +contextual)), rfl⟩
theorem ODesign.lt {w : World} {cs : List Value} {x : DesignD} {bs : List Nat} (h : ODesign w cs x bs) : ∀ g ∈ bs, g < w.heap.size := by
  obtain ⟨vv0, vv1, vv2, b0, b1, b2, e, h0, h1, h2, rfl⟩ := h
  intro g hg
  simp only [List.mem_append] at hg
  rcases hg with ((hg | hg) | hg)
  · exact h0.lt g hg
  · exact h1.lt g hg
  · exact h2.lt g hg
def SmDesign (x : DesignD) : Prop := SmInsts x.insts ∧ SmStrs x.nets ∧ SmPorts x.ports
theorem RDesign.parts {w : World} {vv0 vv1 vv2 : Value} {x : DesignD} (h : RDesign w [vv0, vv1, vv2] x) : RInsts w vv0 x.insts ∧ RStrs w vv1 x.nets ∧ RPorts w vv2 x.ports := by
  obtain ⟨vv0', vv1', vv2', he, h0, h1, h2⟩ := h
  injection he with e0 he
  injection he with e1 he
  injection he with e2 he
  subst e0 e1 e2
  exact ⟨h0, h1, h2⟩
theorem ODesign.shape {w : World} {vv0 vv1 vv2 : Value} {x : DesignD} {bs : List Nat} (h : ODesign w [vv0, vv1, vv2] x bs) : (∃ (A : Option Addr) (n : Nat), vv0 = .slice A x.insts.length n) ∧ (∃ (A : Option Addr) (n : Nat), vv1 = .slice A x.nets.length n) ∧ (∃ (A : Option Addr) (n : Nat), vv2 = .slice A x.ports.length n) := by
  obtain ⟨e0, e1, e2⟩ := h.reads.parts
  exact ⟨(by obtain ⟨A, c, h, -⟩ := RList.form e0; exact ⟨A, c, h⟩), (by obtain ⟨A, c, h, -⟩ := RList.form e1; exact ⟨A, c, h⟩), (by obtain ⟨A, c, h, -⟩ := RList.form e2; exact ⟨A, c, h⟩)⟩
set_option maxHeartbeats 1000000 in
theorem szDesign_any {vv0 vv1 vv2 : Value} {x : DesignD} (left : Int) (w : World) (h : RDesign w [vv0, vv1, vv2] x) (h1 : 0 ≤ left) (h2 : left ≤ 1048576) :
    Calls Try.prog 6 #[.agg #[vv0, vv1, vv2], .int .i64 left] w (SzPost (SmDesign x) w) := by
  obtain ⟨k0, k1, k2⟩ := h.parts
  have g0 := (Grows.refl w).alloc (.cells #[vv0, vv1, vv2] 26)
  have H0 := hideIt (k0.keep g0.keeps)
  have H1 := hideIt (k1.keep g0.keeps)
  have H2 := hideIt (k2.keep g0.keeps)
  have S := hideIt (Blk.new w 26 #[vv0, vv1, vv2])
  have G := hideIt g0
  clear g0 k0 k1 k2
  go_enter Try.func6, Try.ntmps6
  go_wp2_with fail
  refine (szInsts_any _ _ H0.out (by omega) (by omega)).mono ?_
  rintro e w0 ⟨r0, rfl, p0, q0, s0, g⟩
  have S0 := hideIt s0
  clear s0
  replace G := hideIt (G.out.trans g)
  replace S := hideIt (S.out.grows g)
  replace H1 := hideIt (H1.out.keep g.keeps)
  replace H2 := hideIt (H2.out.keep g.keeps)
  clear g
  have c0 : w0.cell? ⟨w.heap.size, 0, none⟩ = some (vv0) := S.out.cell 0
  have c1 : w0.cell? ⟨w.heap.size, 1, none⟩ = some (vv1) := S.out.cell 1
  have c2 : w0.cell? ⟨w.heap.size, 2, none⟩ = some (vv2) := S.out.cell 2
  by_cases n0 : r0 < 0
  · go_wp2
    go_ret
    exact ⟨-1, rfl, by omega, by omega, fun h => by omega, G.out⟩
  go_wp2_with fail
  clear c0 c1 c2
  refine (szStrs_any _ _ H1.out (by omega) (by omega)).mono ?_
  rintro e w1 ⟨r1, rfl, p1, q1, s1, g⟩
  have S1 := hideIt s1
  clear s1
  replace G := hideIt (G.out.trans g)
  replace S := hideIt (S.out.grows g)
  replace H2 := hideIt (H2.out.keep g.keeps)
  clear g
  have c0 : w1.cell? ⟨w.heap.size, 0, none⟩ = some (vv0) := S.out.cell 0
  have c1 : w1.cell? ⟨w.heap.size, 1, none⟩ = some (vv1) := S.out.cell 1
  have c2 : w1.cell? ⟨w.heap.size, 2, none⟩ = some (vv2) := S.out.cell 2
  by_cases n1 : r1 < 0
  · go_wp2
    go_ret
    exact ⟨-1, rfl, by omega, by omega, fun h => by omega, G.out⟩
  go_wp2_with fail
  clear c0 c1 c2
  refine (szPorts_any _ _ H2.out (by omega) (by omega)).mono ?_
  rintro e w2 ⟨r2, rfl, p2, q2, s2, g⟩
  have S2 := hideIt s2
  clear s2
  replace G := hideIt (G.out.trans g)
  replace S := hideIt (S.out.grows g)
  clear g
  have c0 : w2.cell? ⟨w.heap.size, 0, none⟩ = some (vv0) := S.out.cell 0
  have c1 : w2.cell? ⟨w.heap.size, 1, none⟩ = some (vv1) := S.out.cell 1
  have c2 : w2.cell? ⟨w.heap.size, 2, none⟩ = some (vv2) := S.out.cell 2
  by_cases n2 : r2 < 0
  · go_wp2
    go_ret
    exact ⟨-1, rfl, by omega, by omega, fun h => by omega, G.out⟩
  go_wp2
  go_ret
  exact ⟨_, rfl, by omega, by omega, fun _ => ⟨S0.out (by omega), S1.out (by omega), S2.out (by omega)⟩, G.out⟩
set_option maxHeartbeats 2000000 in
theorem toDesign_o {vv0 vv1 vv2 : Value} {x : DesignD} (w : World) (h : RDesign w [vv0, vv1, vv2] x) (hs : SmDesign x) :
    Calls Try.prog 8 #[.agg #[vv0, vv1, vv2]] w fun e w' => ∃ (y0_ y1_ y2_ : Value) (bs : List Nat), e = .returned (.agg #[y0_, y1_, y2_]) ∧ ODesign w' [y0_, y1_, y2_] x bs ∧ Own w.heap.size w'.heap.size bs ∧ Grows w w' := by
  obtain ⟨k0, k1, k2⟩ := h.parts
  obtain ⟨s0, s1, s2⟩ := hs
  have H0 := hideIt k0
  have M0 := hideIt s0
  have H1 := hideIt k1
  have M1 := hideIt s1
  have H2 := hideIt k2
  have M2 := hideIt s2
  clear k0 s0 k1 s1 k2 s2
  have g0 : Grows w (((w.alloc (.cells #[vv0, vv1, vv2] 26)).alloc (.cells #[.slice none 0 0, .slice none 0 0, .slice none 0 0] 32)).alloc (.cells #[.slice none 0 0, .slice none 0 0, .slice none 0 0] 32)) := (((Grows.refl w).alloc _).alloc _).alloc _
  have s0 : Blk (((w.alloc (.cells #[vv0, vv1, vv2] 26)).alloc (.cells #[.slice none 0 0, .slice none 0 0, .slice none 0 0] 32)).alloc (.cells #[.slice none 0 0, .slice none 0 0, .slice none 0 0] 32)) (w.heap.size) 26 #[vv0, vv1, vv2] := ((Blk.new w _ _).grows ((Grows.refl _).alloc _)).grows ((Grows.refl _).alloc _)
  have r0 : Blk (((w.alloc (.cells #[vv0, vv1, vv2] 26)).alloc (.cells #[.slice none 0 0, .slice none 0 0, .slice none 0 0] 32)).alloc (.cells #[.slice none 0 0, .slice none 0 0, .slice none 0 0] 32)) (w.heap.size + 1) 32 #[.slice none 0 0, .slice none 0 0, .slice none 0 0] := by have := (Blk.new (w.alloc (.cells #[vv0, vv1, vv2] 26)) 32 #[.slice none 0 0, .slice none 0 0, .slice none 0 0]).grows ((Grows.refl _).alloc (.cells #[.slice none 0 0, .slice none 0 0, .slice none 0 0] 32)); simpa using this
  have b0 : Blk (((w.alloc (.cells #[vv0, vv1, vv2] 26)).alloc (.cells #[.slice none 0 0, .slice none 0 0, .slice none 0 0] 32)).alloc (.cells #[.slice none 0 0, .slice none 0 0, .slice none 0 0] 32)) (w.heap.size + 1 + 1) 32 #[.slice none 0 0, .slice none 0 0, .slice none 0 0] := by have := Blk.new ((w.alloc (.cells #[vv0, vv1, vv2] 26)).alloc (.cells #[.slice none 0 0, .slice none 0 0, .slice none 0 0] 32)) 32 #[.slice none 0 0, .slice none 0 0, .slice none 0 0]; simpa using this
  have G0 := hideIt g0
  have S0 := hideIt s0
  have R0 := hideIt r0
  have B0 := hideIt b0
  clear g0 s0 r0 b0
  go_enter Try.func8, Try.ntmps8
  go_wp2_with fail
  refine (toInsts_o _ (H0.out.keep G0.out.keeps) M0.out).mono ?_
  rintro e u0 ⟨A0, c0, y0, rfl, o0, n0, g0⟩
  have s1 := S0.out.grows g0
  have ks0_0 : u0.cell? ⟨w.heap.size, 0, none⟩ = some (vv0) := s1.cell 0
  have ks0_1 : u0.cell? ⟨w.heap.size, 1, none⟩ = some (vv1) := s1.cell 1
  have ks0_2 : u0.cell? ⟨w.heap.size, 2, none⟩ = some (vv2) := s1.cell 2
  have fs0 := s1.frozen
  have r1 := R0.out.grows g0
  have kr0_0 : u0.cell? ⟨w.heap.size + 1, 0, none⟩ = some (.slice none 0 0) := r1.cell 0
  have kr0_1 : u0.cell? ⟨w.heap.size + 1, 1, none⟩ = some (.slice none 0 0) := r1.cell 1
  have kr0_2 : u0.cell? ⟨w.heap.size + 1, 2, none⟩ = some (.slice none 0 0) := r1.cell 2
  have fr0 := r1.frozen
  have b1 := B0.out.grows g0
  have kb0_0 : u0.cell? ⟨w.heap.size + 1 + 1, 0, none⟩ = some (.slice none 0 0) := b1.cell 0
  have kb0_1 : u0.cell? ⟨w.heap.size + 1 + 1, 1, none⟩ = some (.slice none 0 0) := b1.cell 1
  have kb0_2 : u0.cell? ⟨w.heap.size + 1 + 1, 2, none⟩ = some (.slice none 0 0) := b1.cell 2
  have fb0 := b1.frozen
  have z0 := b1.lt
  have v0 : w.heap.size + 1 + 1 + 1 ≤ u0.heap.size := by have := g0.size; simpa using this
  have G1 := hideIt ((G0.out.trans g0).setCell (p := ⟨w.heap.size + 1 + 1, 0, none⟩) (by simp <;> omega) (.slice A0 x.insts.length c0))
  have S1 := hideIt (s1.far (p := ⟨w.heap.size + 1 + 1, 0, none⟩) (by simp <;> omega) (.slice A0 x.insts.length c0))
  have R1 := hideIt (r1.far (p := ⟨w.heap.size + 1 + 1, 0, none⟩) (by simp <;> omega) (.slice A0 x.insts.length c0))
  have B1 := hideIt (b1.set_ 0 (.slice A0 x.insts.length c0))
  have O0 := hideIt o0
  have N0 := hideIt n0
  have Q0 := hideIt g0
  clear s1 r1 b1 o0 n0 g0
  go_wp2_with fail
  clear ks0_0 kr0_0 kb0_0 ks0_1 kr0_1 kb0_1 ks0_2 kr0_2 kb0_2 fs0 fr0 fb0
  refine (toStrs_o _ (H1.out.keep G1.out.keeps) M1.out).mono ?_
  rintro e u1 ⟨A1, c1, y1, rfl, o1, n1, g1⟩
  have s2 := S1.out.grows g1
  have ks1_0 : u1.cell? ⟨w.heap.size, 0, none⟩ = some (vv0) := s2.cell 0
  have ks1_1 : u1.cell? ⟨w.heap.size, 1, none⟩ = some (vv1) := s2.cell 1
  have ks1_2 : u1.cell? ⟨w.heap.size, 2, none⟩ = some (vv2) := s2.cell 2
  have fs1 := s2.frozen
  have r2 := R1.out.grows g1
  have kr1_0 : u1.cell? ⟨w.heap.size + 1, 0, none⟩ = some (.slice none 0 0) := r2.cell 0
  have kr1_1 : u1.cell? ⟨w.heap.size + 1, 1, none⟩ = some (.slice none 0 0) := r2.cell 1
  have kr1_2 : u1.cell? ⟨w.heap.size + 1, 2, none⟩ = some (.slice none 0 0) := r2.cell 2
  have fr1 := r2.frozen
  have b2 := B1.out.grows g1
  have kb1_0 : u1.cell? ⟨w.heap.size + 1 + 1, 0, none⟩ = some (.slice A0 x.insts.length c0) := b2.cell 0
  have kb1_1 : u1.cell? ⟨w.heap.size + 1 + 1, 1, none⟩ = some (.slice none 0 0) := b2.cell 1
  have kb1_2 : u1.cell? ⟨w.heap.size + 1 + 1, 2, none⟩ = some (.slice none 0 0) := b2.cell 2
  have fb1 := b2.frozen
  have z1 := b2.lt
  have v1 : u0.heap.size ≤ u1.heap.size := by have := g1.size; simpa using this
  have G2 := hideIt ((G1.out.trans g1).setCell (p := ⟨w.heap.size + 1 + 1, 1, none⟩) (by simp <;> omega) (.slice A1 x.nets.length c1))
  have S2 := hideIt (s2.far (p := ⟨w.heap.size + 1 + 1, 1, none⟩) (by simp <;> omega) (.slice A1 x.nets.length c1))
  have R2 := hideIt (r2.far (p := ⟨w.heap.size + 1 + 1, 1, none⟩) (by simp <;> omega) (.slice A1 x.nets.length c1))
  have B2 := hideIt (b2.set_ 1 (.slice A1 x.nets.length c1))
  have O1 := hideIt o1
  have N1 := hideIt n1
  have Q1 := hideIt g1
  clear s2 r2 b2 o1 n1 g1
  go_wp2_with fail
  clear ks1_0 kr1_0 kb1_0 ks1_1 kr1_1 kb1_1 ks1_2 kr1_2 kb1_2 fs1 fr1 fb1
  refine (toPorts_o _ (H2.out.keep G2.out.keeps) M2.out).mono ?_
  rintro e u2 ⟨A2, c2, y2, rfl, o2, n2, g2⟩
  have s3 := S2.out.grows g2
  have ks2_0 : u2.cell? ⟨w.heap.size, 0, none⟩ = some (vv0) := s3.cell 0
  have ks2_1 : u2.cell? ⟨w.heap.size, 1, none⟩ = some (vv1) := s3.cell 1
  have ks2_2 : u2.cell? ⟨w.heap.size, 2, none⟩ = some (vv2) := s3.cell 2
  have fs2 := s3.frozen
  have r3 := R2.out.grows g2
  have kr2_0 : u2.cell? ⟨w.heap.size + 1, 0, none⟩ = some (.slice none 0 0) := r3.cell 0
  have kr2_1 : u2.cell? ⟨w.heap.size + 1, 1, none⟩ = some (.slice none 0 0) := r3.cell 1
  have kr2_2 : u2.cell? ⟨w.heap.size + 1, 2, none⟩ = some (.slice none 0 0) := r3.cell 2
  have fr2 := r3.frozen
  have b3 := B2.out.grows g2
  have kb2_0 : u2.cell? ⟨w.heap.size + 1 + 1, 0, none⟩ = some (.slice A0 x.insts.length c0) := b3.cell 0
  have kb2_1 : u2.cell? ⟨w.heap.size + 1 + 1, 1, none⟩ = some (.slice A1 x.nets.length c1) := b3.cell 1
  have kb2_2 : u2.cell? ⟨w.heap.size + 1 + 1, 2, none⟩ = some (.slice none 0 0) := b3.cell 2
  have fb2 := b3.frozen
  have z2 := b3.lt
  have v2 : u1.heap.size ≤ u2.heap.size := by have := g2.size; simpa using this
  have G3 := hideIt ((G2.out.trans g2).setCell (p := ⟨w.heap.size + 1 + 1, 2, none⟩) (by simp <;> omega) (.slice A2 x.ports.length c2))
  have S3 := hideIt (s3.far (p := ⟨w.heap.size + 1 + 1, 2, none⟩) (by simp <;> omega) (.slice A2 x.ports.length c2))
  have R3 := hideIt (r3.far (p := ⟨w.heap.size + 1 + 1, 2, none⟩) (by simp <;> omega) (.slice A2 x.ports.length c2))
  have B3 := hideIt (b3.set_ 2 (.slice A2 x.ports.length c2))
  have O2 := hideIt o2
  have N2 := hideIt n2
  have Q2 := hideIt g2
  clear s3 r3 b3 o2 n2 g2
  go_wp2
  refine bodyPost_ret (by simp [*, results, Try.results8, go_sem]; try rfl) rfl ?_
  exact ⟨_, _, _, _, rfl, ⟨_, _, _, _, _, _, rfl, O0.out.same (((((((((SameOn.refl y0 u0).set (p := ⟨w.heap.size + 1 + 1, 0, none⟩) (fun g hg => by have := (N0.out.2 g hg).1; simp at this ⊢; omega) (.slice A0 x.insts.length c0)).grows (fun g hg => by have := (N0.out.2 g hg).2; simp; omega) Q1.out).set (p := ⟨w.heap.size + 1 + 1, 1, none⟩) (fun g hg => by have := (N0.out.2 g hg).1; simp at this ⊢; omega) (.slice A1 x.nets.length c1)).grows (fun g hg => by have := (N0.out.2 g hg).2; simp; omega) Q2.out).set (p := ⟨w.heap.size + 1 + 1, 2, none⟩) (fun g hg => by have := (N0.out.2 g hg).1; simp at this ⊢; omega) (.slice A2 x.ports.length c2)).set (p := ⟨w.heap.size + 1, 0, none⟩) (fun g hg => by have := (N0.out.2 g hg).1; simp at this ⊢; omega) (.slice A0 x.insts.length c0)).set (p := ⟨w.heap.size + 1, 1, none⟩) (fun g hg => by have := (N0.out.2 g hg).1; simp at this ⊢; omega) (.slice A1 x.nets.length c1)).set (p := ⟨w.heap.size + 1, 2, none⟩) (fun g hg => by have := (N0.out.2 g hg).1; simp at this ⊢; omega) (.slice A2 x.ports.length c2)), O1.out.same (((((((SameOn.refl y1 u1).set (p := ⟨w.heap.size + 1 + 1, 1, none⟩) (fun g hg => by have := (N1.out.2 g hg).1; simp at this ⊢; omega) (.slice A1 x.nets.length c1)).grows (fun g hg => by have := (N1.out.2 g hg).2; simp; omega) Q2.out).set (p := ⟨w.heap.size + 1 + 1, 2, none⟩) (fun g hg => by have := (N1.out.2 g hg).1; simp at this ⊢; omega) (.slice A2 x.ports.length c2)).set (p := ⟨w.heap.size + 1, 0, none⟩) (fun g hg => by have := (N1.out.2 g hg).1; simp at this ⊢; omega) (.slice A0 x.insts.length c0)).set (p := ⟨w.heap.size + 1, 1, none⟩) (fun g hg => by have := (N1.out.2 g hg).1; simp at this ⊢; omega) (.slice A1 x.nets.length c1)).set (p := ⟨w.heap.size + 1, 2, none⟩) (fun g hg => by have := (N1.out.2 g hg).1; simp at this ⊢; omega) (.slice A2 x.ports.length c2)), O2.out.same (((((SameOn.refl y2 u2).set (p := ⟨w.heap.size + 1 + 1, 2, none⟩) (fun g hg => by have := (N2.out.2 g hg).1; simp at this ⊢; omega) (.slice A2 x.ports.length c2)).set (p := ⟨w.heap.size + 1, 0, none⟩) (fun g hg => by have := (N2.out.2 g hg).1; simp at this ⊢; omega) (.slice A0 x.insts.length c0)).set (p := ⟨w.heap.size + 1, 1, none⟩) (fun g hg => by have := (N2.out.2 g hg).1; simp at this ⊢; omega) (.slice A1 x.nets.length c1)).set (p := ⟨w.heap.size + 1, 2, none⟩) (fun g hg => by have := (N2.out.2 g hg).1; simp at this ⊢; omega) (.slice A2 x.ports.length c2)), rfl⟩, ((Own.append (Own.append (N0.out.mono (lo' := w.heap.size) (hi' := u0.heap.size) (by simp <;> omega) (Nat.le_refl _)) (N1.out.mono (lo' := u0.heap.size) (hi' := u1.heap.size) (by simp <;> omega) (Nat.le_refl _)) (by omega) (by omega)) (N2.out.mono (lo' := u1.heap.size) (hi' := u2.heap.size) (by simp <;> omega) (Nat.le_refl _)) (by omega) (by omega))).mono (Nat.le_refl _) (by simp), (((G3.out.setCell (p := ⟨w.heap.size + 1, 0, none⟩) (by simp <;> omega) (.slice A0 x.insts.length c0)).setCell (p := ⟨w.heap.size + 1, 1, none⟩) (by simp <;> omega) (.slice A1 x.nets.length c1)).setCell (p := ⟨w.heap.size + 1, 2, none⟩) (by simp <;> omega) (.slice A2 x.ports.length c2))⟩
set_option maxHeartbeats 1000000 in
theorem eqDesign_same {vv0 vv1 vv2 uu0 uu1 uu2 : Value} {x : DesignD} (w : World) (h : RDesign w [vv0, vv1, vv2] x) (h2 : RDesign w [uu0, uu1, uu2] x) :
    Calls Try.prog 10 #[.agg #[vv0, vv1, vv2], .agg #[uu0, uu1, uu2]] w fun e w' => e = .returned (.bool true) ∧ Grows w w' := by
  obtain ⟨k0, k1, k2⟩ := h.parts
  obtain ⟨m0, m1, m2⟩ := h2.parts
  have H0 := hideIt k0
  have M0 := hideIt m0
  have H1 := hideIt k1
  have M1 := hideIt m1
  have H2 := hideIt k2
  have M2 := hideIt m2
  clear k0 m0 k1 m1 k2 m2
  have g0 : Grows w ((w.alloc (.cells #[vv0, vv1, vv2] 32)).alloc (.cells #[uu0, uu1, uu2] 32)) := ((Grows.refl w).alloc _).alloc _
  have s0 : Blk ((w.alloc (.cells #[vv0, vv1, vv2] 32)).alloc (.cells #[uu0, uu1, uu2] 32)) (w.heap.size) 32 #[vv0, vv1, vv2] := (Blk.new w _ _).grows ((Grows.refl _).alloc _)
  have r0 : Blk ((w.alloc (.cells #[vv0, vv1, vv2] 32)).alloc (.cells #[uu0, uu1, uu2] 32)) (w.heap.size + 1) 32 #[uu0, uu1, uu2] := by have := Blk.new (w.alloc (.cells #[vv0, vv1, vv2] 32)) 32 #[uu0, uu1, uu2]; simpa using this
  have G0 := hideIt g0
  have S0 := hideIt s0
  have R0 := hideIt r0
  clear g0 s0 r0
  go_enter Try.func10, Try.ntmps10
  go_wp2_with fail
  refine (eqInsts_same _ (H0.out.keep G0.out.keeps) (M0.out.keep G0.out.keeps)).mono ?_
  rintro e u0 ⟨rfl, g0⟩
  have s1 := S0.out.grows g0
  have ks0_0 : u0.cell? ⟨w.heap.size, 0, none⟩ = some (vv0) := s1.cell 0
  have ks0_1 : u0.cell? ⟨w.heap.size, 1, none⟩ = some (vv1) := s1.cell 1
  have ks0_2 : u0.cell? ⟨w.heap.size, 2, none⟩ = some (vv2) := s1.cell 2
  have r1 := R0.out.grows g0
  have kr0_0 : u0.cell? ⟨w.heap.size + 1, 0, none⟩ = some (uu0) := r1.cell 0
  have kr0_1 : u0.cell? ⟨w.heap.size + 1, 1, none⟩ = some (uu1) := r1.cell 1
  have kr0_2 : u0.cell? ⟨w.heap.size + 1, 2, none⟩ = some (uu2) := r1.cell 2
  have G1 := hideIt (G0.out.trans g0)
  have S1 := hideIt s1
  have R1 := hideIt r1
  clear s1 r1 g0
  go_wp2_with fail
  clear ks0_0 kr0_0 ks0_1 kr0_1 ks0_2 kr0_2
  refine (eqStrs_same _ (H1.out.keep G1.out.keeps) (M1.out.keep G1.out.keeps)).mono ?_
  rintro e u1 ⟨rfl, g1⟩
  have s2 := S1.out.grows g1
  have ks1_0 : u1.cell? ⟨w.heap.size, 0, none⟩ = some (vv0) := s2.cell 0
  have ks1_1 : u1.cell? ⟨w.heap.size, 1, none⟩ = some (vv1) := s2.cell 1
  have ks1_2 : u1.cell? ⟨w.heap.size, 2, none⟩ = some (vv2) := s2.cell 2
  have r2 := R1.out.grows g1
  have kr1_0 : u1.cell? ⟨w.heap.size + 1, 0, none⟩ = some (uu0) := r2.cell 0
  have kr1_1 : u1.cell? ⟨w.heap.size + 1, 1, none⟩ = some (uu1) := r2.cell 1
  have kr1_2 : u1.cell? ⟨w.heap.size + 1, 2, none⟩ = some (uu2) := r2.cell 2
  have G2 := hideIt (G1.out.trans g1)
  have S2 := hideIt s2
  have R2 := hideIt r2
  clear s2 r2 g1
  go_wp2_with fail
  clear ks1_0 kr1_0 ks1_1 kr1_1 ks1_2 kr1_2
  refine (eqPorts_same _ (H2.out.keep G2.out.keeps) (M2.out.keep G2.out.keeps)).mono ?_
  rintro e u2 ⟨rfl, g2⟩
  have s3 := S2.out.grows g2
  have ks2_0 : u2.cell? ⟨w.heap.size, 0, none⟩ = some (vv0) := s3.cell 0
  have ks2_1 : u2.cell? ⟨w.heap.size, 1, none⟩ = some (vv1) := s3.cell 1
  have ks2_2 : u2.cell? ⟨w.heap.size, 2, none⟩ = some (vv2) := s3.cell 2
  have r3 := R2.out.grows g2
  have kr2_0 : u2.cell? ⟨w.heap.size + 1, 0, none⟩ = some (uu0) := r3.cell 0
  have kr2_1 : u2.cell? ⟨w.heap.size + 1, 1, none⟩ = some (uu1) := r3.cell 1
  have kr2_2 : u2.cell? ⟨w.heap.size + 1, 2, none⟩ = some (uu2) := r3.cell 2
  have G3 := hideIt (G2.out.trans g2)
  have S3 := hideIt s3
  have R3 := hideIt r3
  clear s3 r3 g2
  go_wp2
  go_ret
  exact ⟨rfl, G3.out⟩
end Go.Proofs.Ytcaklodecejkhaa
