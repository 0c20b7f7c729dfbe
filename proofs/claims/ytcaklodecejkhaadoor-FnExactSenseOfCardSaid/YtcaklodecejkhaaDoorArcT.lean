/-
  A struct and the slices of it: owned, small, its budget, copy and equality.
-/
import Derived.Test.YtcaklodecejkhaaDoorTablesT
namespace Go.Proofs.YtcaklodecejkhaaDoor
open Go.RowKit

def OArc (w : World) (cs : List Value) (x : ArcD) (bs : List Nat) : Prop :=
  ∃ (vv4 vv5 : Value) (b4 b5 : List Nat), cs = [.int .i64 x.kind, .int .i64 x.src, .int .i64 x.dst, .int .i64 x.sense, vv4, vv5] ∧ OTables w vv4 x.delay b4 ∧ OTables w vv5 x.slew b5 ∧ bs = b4 ++ b5
theorem OArc.reads {w : World} {cs : List Value} {x : ArcD} {bs : List Nat} (h : OArc w cs x bs) : RArc w cs x := by
  obtain ⟨vv4, vv5, b4, b5, e, h4, h5, _⟩ := h
  exact ⟨vv4, vv5, e, h4.reads, h5.reads⟩
theorem OArc.same {w w' : World} {cs : List Value} {x : ArcD} {bs : List Nat} (h : OArc w cs x bs) (g : SameOn bs w w') : OArc w' cs x bs := by
  obtain ⟨vv4, vv5, b4, b5, e, h4, h5, rfl⟩ := h
  exact ⟨vv4, vv5, _, _, e, h4.same (g.sub (by simp +contextual)), h5.same (g.sub (by simp +contextual)), rfl⟩
theorem OArc.lt {w : World} {cs : List Value} {x : ArcD} {bs : List Nat} (h : OArc w cs x bs) : ∀ g ∈ bs, g < w.heap.size := by
  obtain ⟨vv4, vv5, b4, b5, e, h4, h5, rfl⟩ := h
  intro g hg
  simp only [List.mem_append] at hg
  rcases hg with (hg | hg)
  · exact h4.lt g hg
  · exact h5.lt g hg
def SmArc (x : ArcD) : Prop := SmTables x.delay ∧ SmTables x.slew
theorem RArc.parts {w : World} {vv0 vv1 vv2 vv3 vv4 vv5 : Value} {x : ArcD} (h : RArc w [vv0, vv1, vv2, vv3, vv4, vv5] x) : (vv0 = .int .i64 x.kind) ∧ (vv1 = .int .i64 x.src) ∧ (vv2 = .int .i64 x.dst) ∧ (vv3 = .int .i64 x.sense) ∧ RTables w vv4 x.delay ∧ RTables w vv5 x.slew := by
  obtain ⟨vv4', vv5', he, h4, h5⟩ := h
  injection he with e0 he
  injection he with e1 he
  injection he with e2 he
  injection he with e3 he
  injection he with e4 he
  injection he with e5 he
  subst e4 e5
  exact ⟨e0, e1, e2, e3, h4, h5⟩
theorem OArc.shape {w : World} {vv0 vv1 vv2 vv3 vv4 vv5 : Value} {x : ArcD} {bs : List Nat} (h : OArc w [vv0, vv1, vv2, vv3, vv4, vv5] x bs) : vv0 = .int .i64 x.kind ∧ vv1 = .int .i64 x.src ∧ vv2 = .int .i64 x.dst ∧ vv3 = .int .i64 x.sense ∧ (∃ (A : Option Addr) (n : Nat), vv4 = .slice A x.delay.length n) ∧ (∃ (A : Option Addr) (n : Nat), vv5 = .slice A x.slew.length n) := by
  obtain ⟨e0, e1, e2, e3, e4, e5⟩ := h.reads.parts
  exact ⟨e0, e1, e2, e3, (by obtain ⟨A, c, h, -⟩ := RList.form e4; exact ⟨A, c, h⟩), (by obtain ⟨A, c, h, -⟩ := RList.form e5; exact ⟨A, c, h⟩)⟩
set_option maxHeartbeats 1000000 in
theorem szArc_any {vv0 vv1 vv2 vv3 vv4 vv5 : Value} {x : ArcD} (left : Int) (w : World) (h : RArc w [vv0, vv1, vv2, vv3, vv4, vv5] x) (h1 : 0 ≤ left) (h2 : left ≤ 1048576) :
    Calls Tryd.prog 56 #[.agg #[vv0, vv1, vv2, vv3, vv4, vv5], .int .i64 left] w (SzPost (SmArc x) w) := by
  obtain ⟨rfl, rfl, rfl, rfl, k4, k5⟩ := h.parts
  have g0 := (Grows.refl w).alloc (.cells #[.int .i64 x.kind, .int .i64 x.src, .int .i64 x.dst, .int .i64 x.sense, vv4, vv5] 79)
  have H4 := hideIt (k4.keep g0.keeps)
  have H5 := hideIt (k5.keep g0.keeps)
  have S := hideIt (Blk.new w 79 #[.int .i64 x.kind, .int .i64 x.src, .int .i64 x.dst, .int .i64 x.sense, vv4, vv5])
  have G := hideIt g0
  clear g0 k4 k5
  go_enter Tryd.func56, Tryd.ntmps56
  go_wp2_with fail
  refine (szTables_any _ _ H4.out (by omega) (by omega)).mono ?_
  rintro e w4 ⟨r4, rfl, p4, q4, s4, g⟩
  have S4 := hideIt s4
  clear s4
  replace G := hideIt (G.out.trans g)
  replace S := hideIt (S.out.grows g)
  replace H5 := hideIt (H5.out.keep g.keeps)
  clear g
  have c0 : w4.cell? ⟨w.heap.size, 0, none⟩ = some (.int .i64 x.kind) := S.out.cell 0
  have c1 : w4.cell? ⟨w.heap.size, 1, none⟩ = some (.int .i64 x.src) := S.out.cell 1
  have c2 : w4.cell? ⟨w.heap.size, 2, none⟩ = some (.int .i64 x.dst) := S.out.cell 2
  have c3 : w4.cell? ⟨w.heap.size, 3, none⟩ = some (.int .i64 x.sense) := S.out.cell 3
  have c4 : w4.cell? ⟨w.heap.size, 4, none⟩ = some (vv4) := S.out.cell 4
  have c5 : w4.cell? ⟨w.heap.size, 5, none⟩ = some (vv5) := S.out.cell 5
  by_cases n4 : r4 < 0
  · go_wp2
    go_ret
    exact ⟨-1, rfl, by omega, by omega, fun h => by omega, G.out⟩
  go_wp2_with fail
  clear c0 c1 c2 c3 c4 c5
  refine (szTables_any _ _ H5.out (by omega) (by omega)).mono ?_
  rintro e w5 ⟨r5, rfl, p5, q5, s5, g⟩
  have S5 := hideIt s5
  clear s5
  replace G := hideIt (G.out.trans g)
  replace S := hideIt (S.out.grows g)
  clear g
  have c0 : w5.cell? ⟨w.heap.size, 0, none⟩ = some (.int .i64 x.kind) := S.out.cell 0
  have c1 : w5.cell? ⟨w.heap.size, 1, none⟩ = some (.int .i64 x.src) := S.out.cell 1
  have c2 : w5.cell? ⟨w.heap.size, 2, none⟩ = some (.int .i64 x.dst) := S.out.cell 2
  have c3 : w5.cell? ⟨w.heap.size, 3, none⟩ = some (.int .i64 x.sense) := S.out.cell 3
  have c4 : w5.cell? ⟨w.heap.size, 4, none⟩ = some (vv4) := S.out.cell 4
  have c5 : w5.cell? ⟨w.heap.size, 5, none⟩ = some (vv5) := S.out.cell 5
  by_cases n5 : r5 < 0
  · go_wp2
    go_ret
    exact ⟨-1, rfl, by omega, by omega, fun h => by omega, G.out⟩
  go_wp2
  go_ret
  exact ⟨_, rfl, by omega, by omega, fun _ => ⟨S4.out (by omega), S5.out (by omega)⟩, G.out⟩
set_option maxHeartbeats 2000000 in
theorem toArc_o {vv0 vv1 vv2 vv3 vv4 vv5 : Value} {x : ArcD} (w : World) (h : RArc w [vv0, vv1, vv2, vv3, vv4, vv5] x) (hs : SmArc x) :
    Calls Tryd.prog 59 #[.agg #[vv0, vv1, vv2, vv3, vv4, vv5]] w fun e w' => ∃ (y0_ y1_ y2_ y3_ y4_ y5_ : Value) (bs : List Nat), e = .returned (.agg #[y0_, y1_, y2_, y3_, y4_, y5_]) ∧ OArc w' [y0_, y1_, y2_, y3_, y4_, y5_] x bs ∧ Own w.heap.size w'.heap.size bs ∧ Grows w w' := by
  obtain ⟨rfl, rfl, rfl, rfl, k4, k5⟩ := h.parts
  obtain ⟨s4, s5⟩ := hs
  have H0 := hideIt k4
  have M0 := hideIt s4
  have H1 := hideIt k5
  have M1 := hideIt s5
  clear k4 s4 k5 s5
  have g0 : Grows w (((w.alloc (.cells #[.int .i64 x.kind, .int .i64 x.src, .int .i64 x.dst, .int .i64 x.sense, vv4, vv5] 79)).alloc (.cells #[.int .i64 0, .int .i64 0, .int .i64 0, .int .i64 0, .slice none 0 0, .slice none 0 0] 55)).alloc (.cells #[.int .i64 x.kind, .int .i64 x.src, .int .i64 x.dst, .int .i64 x.sense, .slice none 0 0, .slice none 0 0] 55)) := (((Grows.refl w).alloc _).alloc _).alloc _
  have s0 : Blk (((w.alloc (.cells #[.int .i64 x.kind, .int .i64 x.src, .int .i64 x.dst, .int .i64 x.sense, vv4, vv5] 79)).alloc (.cells #[.int .i64 0, .int .i64 0, .int .i64 0, .int .i64 0, .slice none 0 0, .slice none 0 0] 55)).alloc (.cells #[.int .i64 x.kind, .int .i64 x.src, .int .i64 x.dst, .int .i64 x.sense, .slice none 0 0, .slice none 0 0] 55)) (w.heap.size) 79 #[.int .i64 x.kind, .int .i64 x.src, .int .i64 x.dst, .int .i64 x.sense, vv4, vv5] := ((Blk.new w _ _).grows ((Grows.refl _).alloc _)).grows ((Grows.refl _).alloc _)
  have r0 : Blk (((w.alloc (.cells #[.int .i64 x.kind, .int .i64 x.src, .int .i64 x.dst, .int .i64 x.sense, vv4, vv5] 79)).alloc (.cells #[.int .i64 0, .int .i64 0, .int .i64 0, .int .i64 0, .slice none 0 0, .slice none 0 0] 55)).alloc (.cells #[.int .i64 x.kind, .int .i64 x.src, .int .i64 x.dst, .int .i64 x.sense, .slice none 0 0, .slice none 0 0] 55)) (w.heap.size + 1) 55 #[.int .i64 0, .int .i64 0, .int .i64 0, .int .i64 0, .slice none 0 0, .slice none 0 0] := by have := (Blk.new (w.alloc (.cells #[.int .i64 x.kind, .int .i64 x.src, .int .i64 x.dst, .int .i64 x.sense, vv4, vv5] 79)) 55 #[.int .i64 0, .int .i64 0, .int .i64 0, .int .i64 0, .slice none 0 0, .slice none 0 0]).grows ((Grows.refl _).alloc (.cells #[.int .i64 x.kind, .int .i64 x.src, .int .i64 x.dst, .int .i64 x.sense, .slice none 0 0, .slice none 0 0] 55)); simpa using this
  have b0 : Blk (((w.alloc (.cells #[.int .i64 x.kind, .int .i64 x.src, .int .i64 x.dst, .int .i64 x.sense, vv4, vv5] 79)).alloc (.cells #[.int .i64 0, .int .i64 0, .int .i64 0, .int .i64 0, .slice none 0 0, .slice none 0 0] 55)).alloc (.cells #[.int .i64 x.kind, .int .i64 x.src, .int .i64 x.dst, .int .i64 x.sense, .slice none 0 0, .slice none 0 0] 55)) (w.heap.size + 1 + 1) 55 #[.int .i64 x.kind, .int .i64 x.src, .int .i64 x.dst, .int .i64 x.sense, .slice none 0 0, .slice none 0 0] := by have := Blk.new ((w.alloc (.cells #[.int .i64 x.kind, .int .i64 x.src, .int .i64 x.dst, .int .i64 x.sense, vv4, vv5] 79)).alloc (.cells #[.int .i64 0, .int .i64 0, .int .i64 0, .int .i64 0, .slice none 0 0, .slice none 0 0] 55)) 55 #[.int .i64 x.kind, .int .i64 x.src, .int .i64 x.dst, .int .i64 x.sense, .slice none 0 0, .slice none 0 0]; simpa using this
  have G0 := hideIt g0
  have S0 := hideIt s0
  have R0 := hideIt r0
  have B0 := hideIt b0
  clear g0 s0 r0 b0
  go_enter Tryd.func59, Tryd.ntmps59
  go_wp2_with fail
  refine (toTables_o _ (H0.out.keep G0.out.keeps) M0.out).mono ?_
  rintro e u0 ⟨A0, c0, y0, rfl, o0, n0, g0⟩
  have s1 := S0.out.grows g0
  have ks0_0 : u0.cell? ⟨w.heap.size, 0, none⟩ = some (.int .i64 x.kind) := s1.cell 0
  have ks0_1 : u0.cell? ⟨w.heap.size, 1, none⟩ = some (.int .i64 x.src) := s1.cell 1
  have ks0_2 : u0.cell? ⟨w.heap.size, 2, none⟩ = some (.int .i64 x.dst) := s1.cell 2
  have ks0_3 : u0.cell? ⟨w.heap.size, 3, none⟩ = some (.int .i64 x.sense) := s1.cell 3
  have ks0_4 : u0.cell? ⟨w.heap.size, 4, none⟩ = some (vv4) := s1.cell 4
  have ks0_5 : u0.cell? ⟨w.heap.size, 5, none⟩ = some (vv5) := s1.cell 5
  have fs0 := s1.frozen
  have r1 := R0.out.grows g0
  have kr0_0 : u0.cell? ⟨w.heap.size + 1, 0, none⟩ = some (.int .i64 0) := r1.cell 0
  have kr0_1 : u0.cell? ⟨w.heap.size + 1, 1, none⟩ = some (.int .i64 0) := r1.cell 1
  have kr0_2 : u0.cell? ⟨w.heap.size + 1, 2, none⟩ = some (.int .i64 0) := r1.cell 2
  have kr0_3 : u0.cell? ⟨w.heap.size + 1, 3, none⟩ = some (.int .i64 0) := r1.cell 3
  have kr0_4 : u0.cell? ⟨w.heap.size + 1, 4, none⟩ = some (.slice none 0 0) := r1.cell 4
  have kr0_5 : u0.cell? ⟨w.heap.size + 1, 5, none⟩ = some (.slice none 0 0) := r1.cell 5
  have fr0 := r1.frozen
  have b1 := B0.out.grows g0
  have kb0_0 : u0.cell? ⟨w.heap.size + 1 + 1, 0, none⟩ = some (.int .i64 x.kind) := b1.cell 0
  have kb0_1 : u0.cell? ⟨w.heap.size + 1 + 1, 1, none⟩ = some (.int .i64 x.src) := b1.cell 1
  have kb0_2 : u0.cell? ⟨w.heap.size + 1 + 1, 2, none⟩ = some (.int .i64 x.dst) := b1.cell 2
  have kb0_3 : u0.cell? ⟨w.heap.size + 1 + 1, 3, none⟩ = some (.int .i64 x.sense) := b1.cell 3
  have kb0_4 : u0.cell? ⟨w.heap.size + 1 + 1, 4, none⟩ = some (.slice none 0 0) := b1.cell 4
  have kb0_5 : u0.cell? ⟨w.heap.size + 1 + 1, 5, none⟩ = some (.slice none 0 0) := b1.cell 5
  have fb0 := b1.frozen
  have z0 := b1.lt
  have v0 : w.heap.size + 1 + 1 + 1 ≤ u0.heap.size := by have := g0.size; simpa using this
  have G1 := hideIt ((G0.out.trans g0).setCell (p := ⟨w.heap.size + 1 + 1, 4, none⟩) (by simp <;> omega) (.slice A0 x.delay.length c0))
  have S1 := hideIt (s1.far (p := ⟨w.heap.size + 1 + 1, 4, none⟩) (by simp <;> omega) (.slice A0 x.delay.length c0))
  have R1 := hideIt (r1.far (p := ⟨w.heap.size + 1 + 1, 4, none⟩) (by simp <;> omega) (.slice A0 x.delay.length c0))
  have B1 := hideIt (b1.set_ 4 (.slice A0 x.delay.length c0))
  have O0 := hideIt o0
  have N0 := hideIt n0
  have Q0 := hideIt g0
  clear s1 r1 b1 o0 n0 g0
  go_wp2_with fail
  clear ks0_0 kr0_0 kb0_0 ks0_1 kr0_1 kb0_1 ks0_2 kr0_2 kb0_2 ks0_3 kr0_3 kb0_3 ks0_4 kr0_4 kb0_4 ks0_5 kr0_5 kb0_5 fs0 fr0 fb0
  refine (toTables_o _ (H1.out.keep G1.out.keeps) M1.out).mono ?_
  rintro e u1 ⟨A1, c1, y1, rfl, o1, n1, g1⟩
  have s2 := S1.out.grows g1
  have ks1_0 : u1.cell? ⟨w.heap.size, 0, none⟩ = some (.int .i64 x.kind) := s2.cell 0
  have ks1_1 : u1.cell? ⟨w.heap.size, 1, none⟩ = some (.int .i64 x.src) := s2.cell 1
  have ks1_2 : u1.cell? ⟨w.heap.size, 2, none⟩ = some (.int .i64 x.dst) := s2.cell 2
  have ks1_3 : u1.cell? ⟨w.heap.size, 3, none⟩ = some (.int .i64 x.sense) := s2.cell 3
  have ks1_4 : u1.cell? ⟨w.heap.size, 4, none⟩ = some (vv4) := s2.cell 4
  have ks1_5 : u1.cell? ⟨w.heap.size, 5, none⟩ = some (vv5) := s2.cell 5
  have fs1 := s2.frozen
  have r2 := R1.out.grows g1
  have kr1_0 : u1.cell? ⟨w.heap.size + 1, 0, none⟩ = some (.int .i64 0) := r2.cell 0
  have kr1_1 : u1.cell? ⟨w.heap.size + 1, 1, none⟩ = some (.int .i64 0) := r2.cell 1
  have kr1_2 : u1.cell? ⟨w.heap.size + 1, 2, none⟩ = some (.int .i64 0) := r2.cell 2
  have kr1_3 : u1.cell? ⟨w.heap.size + 1, 3, none⟩ = some (.int .i64 0) := r2.cell 3
  have kr1_4 : u1.cell? ⟨w.heap.size + 1, 4, none⟩ = some (.slice none 0 0) := r2.cell 4
  have kr1_5 : u1.cell? ⟨w.heap.size + 1, 5, none⟩ = some (.slice none 0 0) := r2.cell 5
  have fr1 := r2.frozen
  have b2 := B1.out.grows g1
  have kb1_0 : u1.cell? ⟨w.heap.size + 1 + 1, 0, none⟩ = some (.int .i64 x.kind) := b2.cell 0
  have kb1_1 : u1.cell? ⟨w.heap.size + 1 + 1, 1, none⟩ = some (.int .i64 x.src) := b2.cell 1
  have kb1_2 : u1.cell? ⟨w.heap.size + 1 + 1, 2, none⟩ = some (.int .i64 x.dst) := b2.cell 2
  have kb1_3 : u1.cell? ⟨w.heap.size + 1 + 1, 3, none⟩ = some (.int .i64 x.sense) := b2.cell 3
  have kb1_4 : u1.cell? ⟨w.heap.size + 1 + 1, 4, none⟩ = some (.slice A0 x.delay.length c0) := b2.cell 4
  have kb1_5 : u1.cell? ⟨w.heap.size + 1 + 1, 5, none⟩ = some (.slice none 0 0) := b2.cell 5
  have fb1 := b2.frozen
  have z1 := b2.lt
  have v1 : u0.heap.size ≤ u1.heap.size := by have := g1.size; simpa using this
  have G2 := hideIt ((G1.out.trans g1).setCell (p := ⟨w.heap.size + 1 + 1, 5, none⟩) (by simp <;> omega) (.slice A1 x.slew.length c1))
  have S2 := hideIt (s2.far (p := ⟨w.heap.size + 1 + 1, 5, none⟩) (by simp <;> omega) (.slice A1 x.slew.length c1))
  have R2 := hideIt (r2.far (p := ⟨w.heap.size + 1 + 1, 5, none⟩) (by simp <;> omega) (.slice A1 x.slew.length c1))
  have B2 := hideIt (b2.set_ 5 (.slice A1 x.slew.length c1))
  have O1 := hideIt o1
  have N1 := hideIt n1
  have Q1 := hideIt g1
  clear s2 r2 b2 o1 n1 g1
  go_wp2
  refine bodyPost_ret (by simp [*, results, Tryd.results59, go_sem]; try rfl) rfl ?_
  exact ⟨_, _, _, _, _, _, _, rfl, ⟨_, _, _, _, rfl, O0.out.same ((((((((((SameOn.refl y0 u0).set (p := ⟨w.heap.size + 1 + 1, 4, none⟩) (fun g hg => by have := (N0.out.2 g hg).1; simp at this ⊢; omega) (.slice A0 x.delay.length c0)).grows (fun g hg => by have := (N0.out.2 g hg).2; simp; omega) Q1.out).set (p := ⟨w.heap.size + 1 + 1, 5, none⟩) (fun g hg => by have := (N0.out.2 g hg).1; simp at this ⊢; omega) (.slice A1 x.slew.length c1)).set (p := ⟨w.heap.size + 1, 0, none⟩) (fun g hg => by have := (N0.out.2 g hg).1; simp at this ⊢; omega) (.int .i64 x.kind)).set (p := ⟨w.heap.size + 1, 1, none⟩) (fun g hg => by have := (N0.out.2 g hg).1; simp at this ⊢; omega) (.int .i64 x.src)).set (p := ⟨w.heap.size + 1, 2, none⟩) (fun g hg => by have := (N0.out.2 g hg).1; simp at this ⊢; omega) (.int .i64 x.dst)).set (p := ⟨w.heap.size + 1, 3, none⟩) (fun g hg => by have := (N0.out.2 g hg).1; simp at this ⊢; omega) (.int .i64 x.sense)).set (p := ⟨w.heap.size + 1, 4, none⟩) (fun g hg => by have := (N0.out.2 g hg).1; simp at this ⊢; omega) (.slice A0 x.delay.length c0)).set (p := ⟨w.heap.size + 1, 5, none⟩) (fun g hg => by have := (N0.out.2 g hg).1; simp at this ⊢; omega) (.slice A1 x.slew.length c1)), O1.out.same ((((((((SameOn.refl y1 u1).set (p := ⟨w.heap.size + 1 + 1, 5, none⟩) (fun g hg => by have := (N1.out.2 g hg).1; simp at this ⊢; omega) (.slice A1 x.slew.length c1)).set (p := ⟨w.heap.size + 1, 0, none⟩) (fun g hg => by have := (N1.out.2 g hg).1; simp at this ⊢; omega) (.int .i64 x.kind)).set (p := ⟨w.heap.size + 1, 1, none⟩) (fun g hg => by have := (N1.out.2 g hg).1; simp at this ⊢; omega) (.int .i64 x.src)).set (p := ⟨w.heap.size + 1, 2, none⟩) (fun g hg => by have := (N1.out.2 g hg).1; simp at this ⊢; omega) (.int .i64 x.dst)).set (p := ⟨w.heap.size + 1, 3, none⟩) (fun g hg => by have := (N1.out.2 g hg).1; simp at this ⊢; omega) (.int .i64 x.sense)).set (p := ⟨w.heap.size + 1, 4, none⟩) (fun g hg => by have := (N1.out.2 g hg).1; simp at this ⊢; omega) (.slice A0 x.delay.length c0)).set (p := ⟨w.heap.size + 1, 5, none⟩) (fun g hg => by have := (N1.out.2 g hg).1; simp at this ⊢; omega) (.slice A1 x.slew.length c1)), rfl⟩, ((Own.append (N0.out.mono (lo' := w.heap.size) (hi' := u0.heap.size) (by simp <;> omega) (Nat.le_refl _)) (N1.out.mono (lo' := u0.heap.size) (hi' := u1.heap.size) (by simp <;> omega) (Nat.le_refl _)) (by omega) (by omega))).mono (Nat.le_refl _) (by simp), ((((((G2.out.setCell (p := ⟨w.heap.size + 1, 0, none⟩) (by simp <;> omega) (.int .i64 x.kind)).setCell (p := ⟨w.heap.size + 1, 1, none⟩) (by simp <;> omega) (.int .i64 x.src)).setCell (p := ⟨w.heap.size + 1, 2, none⟩) (by simp <;> omega) (.int .i64 x.dst)).setCell (p := ⟨w.heap.size + 1, 3, none⟩) (by simp <;> omega) (.int .i64 x.sense)).setCell (p := ⟨w.heap.size + 1, 4, none⟩) (by simp <;> omega) (.slice A0 x.delay.length c0)).setCell (p := ⟨w.heap.size + 1, 5, none⟩) (by simp <;> omega) (.slice A1 x.slew.length c1))⟩
set_option maxHeartbeats 1000000 in
theorem eqArc_same {vv0 vv1 vv2 vv3 vv4 vv5 uu0 uu1 uu2 uu3 uu4 uu5 : Value} {x : ArcD} (w : World) (h : RArc w [vv0, vv1, vv2, vv3, vv4, vv5] x) (h2 : RArc w [uu0, uu1, uu2, uu3, uu4, uu5] x) :
    Calls Tryd.prog 68 #[.agg #[vv0, vv1, vv2, vv3, vv4, vv5], .agg #[uu0, uu1, uu2, uu3, uu4, uu5]] w fun e w' => e = .returned (.bool true) ∧ Grows w w' := by
  obtain ⟨rfl, rfl, rfl, rfl, k4, k5⟩ := h.parts
  obtain ⟨rfl, rfl, rfl, rfl, m4, m5⟩ := h2.parts
  have H0 := hideIt k4
  have M0 := hideIt m4
  have H1 := hideIt k5
  have M1 := hideIt m5
  clear k4 m4 k5 m5
  have g0 : Grows w ((w.alloc (.cells #[.int .i64 x.kind, .int .i64 x.src, .int .i64 x.dst, .int .i64 x.sense, vv4, vv5] 55)).alloc (.cells #[.int .i64 x.kind, .int .i64 x.src, .int .i64 x.dst, .int .i64 x.sense, uu4, uu5] 55)) := ((Grows.refl w).alloc _).alloc _
  have s0 : Blk ((w.alloc (.cells #[.int .i64 x.kind, .int .i64 x.src, .int .i64 x.dst, .int .i64 x.sense, vv4, vv5] 55)).alloc (.cells #[.int .i64 x.kind, .int .i64 x.src, .int .i64 x.dst, .int .i64 x.sense, uu4, uu5] 55)) (w.heap.size) 55 #[.int .i64 x.kind, .int .i64 x.src, .int .i64 x.dst, .int .i64 x.sense, vv4, vv5] := (Blk.new w _ _).grows ((Grows.refl _).alloc _)
  have r0 : Blk ((w.alloc (.cells #[.int .i64 x.kind, .int .i64 x.src, .int .i64 x.dst, .int .i64 x.sense, vv4, vv5] 55)).alloc (.cells #[.int .i64 x.kind, .int .i64 x.src, .int .i64 x.dst, .int .i64 x.sense, uu4, uu5] 55)) (w.heap.size + 1) 55 #[.int .i64 x.kind, .int .i64 x.src, .int .i64 x.dst, .int .i64 x.sense, uu4, uu5] := by have := Blk.new (w.alloc (.cells #[.int .i64 x.kind, .int .i64 x.src, .int .i64 x.dst, .int .i64 x.sense, vv4, vv5] 55)) 55 #[.int .i64 x.kind, .int .i64 x.src, .int .i64 x.dst, .int .i64 x.sense, uu4, uu5]; simpa using this
  have G0 := hideIt g0
  have S0 := hideIt s0
  have R0 := hideIt r0
  clear g0 s0 r0
  go_enter Tryd.func68, Tryd.ntmps68
  go_wp2_with fail
  refine (eqTables_same _ (H0.out.keep G0.out.keeps) (M0.out.keep G0.out.keeps)).mono ?_
  rintro e u0 ⟨rfl, g0⟩
  have s1 := S0.out.grows g0
  have ks0_0 : u0.cell? ⟨w.heap.size, 0, none⟩ = some (.int .i64 x.kind) := s1.cell 0
  have ks0_1 : u0.cell? ⟨w.heap.size, 1, none⟩ = some (.int .i64 x.src) := s1.cell 1
  have ks0_2 : u0.cell? ⟨w.heap.size, 2, none⟩ = some (.int .i64 x.dst) := s1.cell 2
  have ks0_3 : u0.cell? ⟨w.heap.size, 3, none⟩ = some (.int .i64 x.sense) := s1.cell 3
  have ks0_4 : u0.cell? ⟨w.heap.size, 4, none⟩ = some (vv4) := s1.cell 4
  have ks0_5 : u0.cell? ⟨w.heap.size, 5, none⟩ = some (vv5) := s1.cell 5
  have r1 := R0.out.grows g0
  have kr0_0 : u0.cell? ⟨w.heap.size + 1, 0, none⟩ = some (.int .i64 x.kind) := r1.cell 0
  have kr0_1 : u0.cell? ⟨w.heap.size + 1, 1, none⟩ = some (.int .i64 x.src) := r1.cell 1
  have kr0_2 : u0.cell? ⟨w.heap.size + 1, 2, none⟩ = some (.int .i64 x.dst) := r1.cell 2
  have kr0_3 : u0.cell? ⟨w.heap.size + 1, 3, none⟩ = some (.int .i64 x.sense) := r1.cell 3
  have kr0_4 : u0.cell? ⟨w.heap.size + 1, 4, none⟩ = some (uu4) := r1.cell 4
  have kr0_5 : u0.cell? ⟨w.heap.size + 1, 5, none⟩ = some (uu5) := r1.cell 5
  have G1 := hideIt (G0.out.trans g0)
  have S1 := hideIt s1
  have R1 := hideIt r1
  clear s1 r1 g0
  go_wp2_with fail
  clear ks0_0 kr0_0 ks0_1 kr0_1 ks0_2 kr0_2 ks0_3 kr0_3 ks0_4 kr0_4 ks0_5 kr0_5
  refine (eqTables_same _ (H1.out.keep G1.out.keeps) (M1.out.keep G1.out.keeps)).mono ?_
  rintro e u1 ⟨rfl, g1⟩
  have s2 := S1.out.grows g1
  have ks1_0 : u1.cell? ⟨w.heap.size, 0, none⟩ = some (.int .i64 x.kind) := s2.cell 0
  have ks1_1 : u1.cell? ⟨w.heap.size, 1, none⟩ = some (.int .i64 x.src) := s2.cell 1
  have ks1_2 : u1.cell? ⟨w.heap.size, 2, none⟩ = some (.int .i64 x.dst) := s2.cell 2
  have ks1_3 : u1.cell? ⟨w.heap.size, 3, none⟩ = some (.int .i64 x.sense) := s2.cell 3
  have ks1_4 : u1.cell? ⟨w.heap.size, 4, none⟩ = some (vv4) := s2.cell 4
  have ks1_5 : u1.cell? ⟨w.heap.size, 5, none⟩ = some (vv5) := s2.cell 5
  have r2 := R1.out.grows g1
  have kr1_0 : u1.cell? ⟨w.heap.size + 1, 0, none⟩ = some (.int .i64 x.kind) := r2.cell 0
  have kr1_1 : u1.cell? ⟨w.heap.size + 1, 1, none⟩ = some (.int .i64 x.src) := r2.cell 1
  have kr1_2 : u1.cell? ⟨w.heap.size + 1, 2, none⟩ = some (.int .i64 x.dst) := r2.cell 2
  have kr1_3 : u1.cell? ⟨w.heap.size + 1, 3, none⟩ = some (.int .i64 x.sense) := r2.cell 3
  have kr1_4 : u1.cell? ⟨w.heap.size + 1, 4, none⟩ = some (uu4) := r2.cell 4
  have kr1_5 : u1.cell? ⟨w.heap.size + 1, 5, none⟩ = some (uu5) := r2.cell 5
  have G2 := hideIt (G1.out.trans g1)
  have S2 := hideIt s2
  have R2 := hideIt r2
  clear s2 r2 g1
  go_wp2
  go_ret
  exact ⟨rfl, G2.out⟩
def OArcs : World → Value → List ArcD → List Nat → Prop := OList 6 55 OArc
def SmArcs (xs : List ArcD) : Prop := SmL xs ∧ ∀ x ∈ xs, SmArc x
theorem OArcs.reads {w : World} {v : Value} {xs : List ArcD} {bs : List Nat} (h : OArcs w v xs bs) : RArcs w v xs := OList.reads h fun _ _ _ h => h.reads
theorem OArcs.same {w w' : World} {v : Value} {xs : List ArcD} {bs : List Nat} (h : OArcs w v xs bs) (g : SameOn bs w w') : OArcs w' v xs bs := OList.same h g fun _ _ _ h g => h.same g
theorem OArcs.lt {w : World} {v : Value} {xs : List ArcD} {bs : List Nat} (h : OArcs w v xs bs) : ∀ g ∈ bs, g < w.heap.size := OList.lt h fun _ _ _ h => h.lt
theorem info_Arc : (Tryd.prog.info? 55).map (fun i => (i.zero, i.size)) = some (some (.agg #[.int .i64 0, .int .i64 0, .int .i64 0, .int .i64 0, .slice none 0 0, .slice none 0 0]), 6) := by kernel_rfl
theorem bytes_Arc : ∀ i, Tryd.prog.info? 55 = some i → i.bytes ≤ 256 := by
  intro i hi
  have h : (Tryd.prog.info? 55).map (fun i => decide (i.bytes ≤ 256)) = some true := by kernel_rfl
  rw [hi] at h
  simpa using h
set_option maxHeartbeats 4000000 in
theorem toArcs_o {v : Value} {xs : List ArcD} (w : World) (h : RArcs w v xs) (hn : SmArcs xs) :
    Calls Tryd.prog 35 #[v] w fun e w' => ∃ (A : Option Addr) (c : Nat) (bs : List Nat), e = .returned (.slice A xs.length c) ∧ OArcs w' (.slice A xs.length c) xs bs ∧ Own w.heap.size w'.heap.size bs ∧ Grows w w' := by
  obtain ⟨i0, hi, hzz⟩ := Option.map_eq_some_iff.1 info_Arc
  simp only [Prod.mk.injEq] at hzz
  obtain ⟨hz0, hz1⟩ := hzz
  have hbt := bytes_Arc i0 hi
  obtain ⟨hn1, hn2⟩ := hn
  unfold SmL at hn1
  have hmk : ∀ u : World, (Instr.makeSlice 30 (.int .i64 (xs.length : Int)) (.int .i64 (xs.length : Int))).run Tryd.prog u =
      .ok (.slice (some ⟨u.heap.size, 0, none⟩) xs.length xs.length) (u.alloc (.cells (madeCells #[.int .i64 0, .int .i64 0, .int .i64 0, .int .i64 0, .slice none 0 0, .slice none 0 0] (xs.length * 6)) 55)) := fun u => by
    have h := run_make (P := Tryd.prog) u 30 55 i0 (.agg #[.int .i64 0, .int .i64 0, .int .i64 0, .int .i64 0, .slice none 0 0, .slice none 0 0]) Tryd.underlying30 hi hz0 .i64 .i64 (xs.length : Int) (xs.length : Int) (by omega) (Int.le_refl _) (by have h5 := Nat.mul_le_mul hbt hn1; have e : (i0.bytes : Int) * (xs.length : Int) = ((i0.bytes * xs.length : Nat) : Int) := (Int.natCast_mul _ _).symm; rw [e]; omega) (by omega)
    simpa [hz1, Value.cells] using h
  obtain ⟨A, c, rfl, hle, hc, hx⟩ := h.form
  have HX := hideIt hx
  have HN := hideIt hn2
  clear hx hi hz0 hz1 hbt h hn2
  go_enter Tryd.func35, Tryd.ntmps35
  go_wp2
  go_loopw [4] (fun i wr => ∃ k : Nat, k ≤ xs.length ∧ i = .int .i64 k ∧ CopyG 6 55 OArc w wr xs k) (fun i _ => xs.length - (intOf i).toNat)
  case atStart => exact ⟨0, Nat.zero_le _, rfl, CopyG.start _ (Blk.new _ _ _) (by simp [size_madeCells]) ((Grows.refl _).alloc _)⟩
  case round =>
    obtain ⟨k, hk, rfl, hco⟩ := hrel
    by_cases hlt : k < xs.length
    · obtain ⟨x, hx⟩ : ∃ x, xs[k]? = some x := ⟨_, List.getElem?_eq_getElem hlt⟩
      obtain ⟨b, off, rfl, cs, hl1, hcs, hr⟩ := HX.out k x hx
      obtain ⟨c0, c1, c2, c3, c4, c5, rfl⟩ := list6 hl1
      have HST := hideIt (fun u es b => CopyG.step (u := u) (es := es) (b := b) hco (fun _ _ _ _ _ h g => OArc.same h g) hx)
      have SX := hideIt (HN.out x (List.mem_of_getElem? hx))
      obtain ⟨ds, bss, hb, hsz, -, -, hg, -⟩ := hco
      have HR : Hid (RArc wr [c0, c1, c2, c3, c4, c5] x) := hideIt (hr.keep hg.keeps)
      have hs0 : wr.cell? ⟨b, off + k * 6, none⟩ = some c0 := by simpa [Nat.add_assoc] using hg.keeps _ _ (hcs 0 _ rfl)
      have hs1 : wr.cell? ⟨b, off + k * 6 + 1, none⟩ = some c1 := by simpa [Nat.add_assoc] using hg.keeps _ _ (hcs 1 _ rfl)
      have hs2 : wr.cell? ⟨b, off + k * 6 + 2, none⟩ = some c2 := by simpa [Nat.add_assoc] using hg.keeps _ _ (hcs 2 _ rfl)
      have hs3 : wr.cell? ⟨b, off + k * 6 + 3, none⟩ = some c3 := by simpa [Nat.add_assoc] using hg.keeps _ _ (hcs 3 _ rfl)
      have hs4 : wr.cell? ⟨b, off + k * 6 + 4, none⟩ = some c4 := by simpa [Nat.add_assoc] using hg.keeps _ _ (hcs 4 _ rfl)
      have hs5 : wr.cell? ⟨b, off + k * 6 + 5, none⟩ = some c5 := by simpa [Nat.add_assoc] using hg.keeps _ _ (hcs 5 _ rfl)
      have HB := hideIt hb
      have hmul : k * 6 + 6 ≤ ds.size := by rw [hsz]; omega
      clear hcs hl1 hx hr hb hsz hmk hg
      go_wp2_with fail
      refine (toArc_o _ HR.out SX.out).mono ?_
      rintro e u ⟨y0, y1, y2, y3, y4, y5, bb, rfl, ho, ow, g⟩
      obtain ⟨rfl, rfl, rfl, rfl, ⟨A4, m4, rfl⟩, ⟨A5, m5, rfl⟩⟩ := ho.shape
      have st := hideIt (HST.out u _ bb g ho ow rfl)
      have hbu := HB.out.grows g
      have hf := hbu.frozen
      obtain ⟨o0, hd0⟩ : ∃ o, u.cell? ⟨w.heap.size, k * 6, none⟩ = some o := ⟨_, by rw [hbu.cell]; exact Array.getElem?_eq_getElem (by omega)⟩
      obtain ⟨o1, hd1⟩ : ∃ o, u.cell? ⟨w.heap.size, k * 6 + 1, none⟩ = some o := ⟨_, by rw [hbu.cell]; exact Array.getElem?_eq_getElem (by omega)⟩
      obtain ⟨o2, hd2⟩ : ∃ o, u.cell? ⟨w.heap.size, k * 6 + 2, none⟩ = some o := ⟨_, by rw [hbu.cell]; exact Array.getElem?_eq_getElem (by omega)⟩
      obtain ⟨o3, hd3⟩ : ∃ o, u.cell? ⟨w.heap.size, k * 6 + 3, none⟩ = some o := ⟨_, by rw [hbu.cell]; exact Array.getElem?_eq_getElem (by omega)⟩
      obtain ⟨o4, hd4⟩ : ∃ o, u.cell? ⟨w.heap.size, k * 6 + 4, none⟩ = some o := ⟨_, by rw [hbu.cell]; exact Array.getElem?_eq_getElem (by omega)⟩
      obtain ⟨o5, hd5⟩ : ∃ o, u.cell? ⟨w.heap.size, k * 6 + 5, none⟩ = some o := ⟨_, by rw [hbu.cell]; exact Array.getElem?_eq_getElem (by omega)⟩
      clear hbu ho ow g HST HB HR
      go_wp2
      go_roundw
      case rel => exact ⟨k + 1, by omega, by go_num, st.out⟩
      case measure => simp [intOf]; omega
    · have hk2 : k = xs.length := by omega
      subst hk2
      have H := hideIt hco
      clear hco hmk
      go_wp2
      go_ret
      obtain ⟨bs, h1, h2, h3⟩ := H.out.done (by unfold maxLen; omega)
      exact ⟨_, _, bs, rfl, h1, h2, h3⟩
theorem toArcs_any {v : Value} {xs : List ArcD} (w : World) (h : RArcs w v xs) (hn : SmArcs xs) :
    Calls Tryd.prog 35 #[v] w fun e w' => ∃ (v' : Value) (bs : List Nat), e = .returned v' ∧ OArcs w' v' xs bs ∧ Own w.heap.size w'.heap.size bs ∧ Grows w w' :=
  (toArcs_o w h hn).mono fun _ _ ⟨_, _, bs, he, h⟩ => ⟨_, bs, he, h⟩
set_option maxHeartbeats 4000000 in
theorem eqArcs_same {v1 v2 : Value} {xs : List ArcD} (w : World) (h1 : RArcs w v1 xs) (h2 : RArcs w v2 xs) :
    Calls Tryd.prog 42 #[v1, v2] w fun e w' => e = .returned (.bool true) ∧ Grows w w' := by
  have l1 := h1.len
  obtain ⟨A, c, rfl, hle, hc, hx⟩ := h1.form
  obtain ⟨A2, c2, rfl, hle2, hc2, hy⟩ := h2.form
  have HX := hideIt hx
  have HY := hideIt hy
  have hb : ((xs.length : Int) != (xs.length : Int)) = false := by simp
  clear hx hy h1 h2 hle hle2 hc hc2
  go_enter Tryd.func42, Tryd.ntmps42
  go_wp2
  go_loopw [5] (fun i wr => ∃ k : Nat, k ≤ xs.length ∧ i = .int .i64 k ∧ Grows w wr) (fun i _ => xs.length - (intOf i).toNat)
  case atStart => exact ⟨0, Nat.zero_le _, rfl, Grows.refl _⟩
  case round =>
    obtain ⟨k, hk, rfl, hg⟩ := hrel
    by_cases hlt : k < xs.length
    · obtain ⟨x, hx⟩ : ∃ x, xs[k]? = some x := ⟨_, List.getElem?_eq_getElem hlt⟩
      obtain ⟨b, off, rfl, cs, hl1, hcs, hr⟩ := HX.out k x hx
      obtain ⟨b2, off2, rfl, cs2, hl2, hcs2, hr2⟩ := HY.out k x hx
      obtain ⟨c0, c1, c2, c3, c4, c5, rfl⟩ := list6 hl1
      obtain ⟨d0, d1, d2, d3, d4, d5, rfl⟩ := list6 hl2
      have HR : Hid (RArc wr [c0, c1, c2, c3, c4, c5] x) := hideIt (hr.keep hg.keeps)
      have HR2 : Hid (RArc wr [d0, d1, d2, d3, d4, d5] x) := hideIt (hr2.keep hg.keeps)
      have zc0 : wr.cell? ⟨b, off + k * 6, none⟩ = some c0 := by simpa [Nat.add_assoc] using hg.keeps _ _ (hcs 0 _ rfl)
      have zc1 : wr.cell? ⟨b, off + k * 6 + 1, none⟩ = some c1 := by simpa [Nat.add_assoc] using hg.keeps _ _ (hcs 1 _ rfl)
      have zc2 : wr.cell? ⟨b, off + k * 6 + 2, none⟩ = some c2 := by simpa [Nat.add_assoc] using hg.keeps _ _ (hcs 2 _ rfl)
      have zc3 : wr.cell? ⟨b, off + k * 6 + 3, none⟩ = some c3 := by simpa [Nat.add_assoc] using hg.keeps _ _ (hcs 3 _ rfl)
      have zc4 : wr.cell? ⟨b, off + k * 6 + 4, none⟩ = some c4 := by simpa [Nat.add_assoc] using hg.keeps _ _ (hcs 4 _ rfl)
      have zc5 : wr.cell? ⟨b, off + k * 6 + 5, none⟩ = some c5 := by simpa [Nat.add_assoc] using hg.keeps _ _ (hcs 5 _ rfl)
      have zd0 : wr.cell? ⟨b2, off2 + k * 6, none⟩ = some d0 := by simpa [Nat.add_assoc] using hg.keeps _ _ (hcs2 0 _ rfl)
      have zd1 : wr.cell? ⟨b2, off2 + k * 6 + 1, none⟩ = some d1 := by simpa [Nat.add_assoc] using hg.keeps _ _ (hcs2 1 _ rfl)
      have zd2 : wr.cell? ⟨b2, off2 + k * 6 + 2, none⟩ = some d2 := by simpa [Nat.add_assoc] using hg.keeps _ _ (hcs2 2 _ rfl)
      have zd3 : wr.cell? ⟨b2, off2 + k * 6 + 3, none⟩ = some d3 := by simpa [Nat.add_assoc] using hg.keeps _ _ (hcs2 3 _ rfl)
      have zd4 : wr.cell? ⟨b2, off2 + k * 6 + 4, none⟩ = some d4 := by simpa [Nat.add_assoc] using hg.keeps _ _ (hcs2 4 _ rfl)
      have zd5 : wr.cell? ⟨b2, off2 + k * 6 + 5, none⟩ = some d5 := by simpa [Nat.add_assoc] using hg.keeps _ _ (hcs2 5 _ rfl)
      have K0 : ∀ w', Grows wr w' → w'.cell? ⟨b, off + k * 6, none⟩ = some c0 ∧ w'.cell? ⟨b, off + k * 6 + 1, none⟩ = some c1 ∧ w'.cell? ⟨b, off + k * 6 + 2, none⟩ = some c2 ∧ w'.cell? ⟨b, off + k * 6 + 3, none⟩ = some c3 ∧ w'.cell? ⟨b, off + k * 6 + 4, none⟩ = some c4 ∧ w'.cell? ⟨b, off + k * 6 + 5, none⟩ = some c5 ∧ w'.cell? ⟨b2, off2 + k * 6, none⟩ = some d0 ∧ w'.cell? ⟨b2, off2 + k * 6 + 1, none⟩ = some d1 ∧ w'.cell? ⟨b2, off2 + k * 6 + 2, none⟩ = some d2 ∧ w'.cell? ⟨b2, off2 + k * 6 + 3, none⟩ = some d3 ∧ w'.cell? ⟨b2, off2 + k * 6 + 4, none⟩ = some d4 ∧ w'.cell? ⟨b2, off2 + k * 6 + 5, none⟩ = some d5 ∧ Grows wr w' := fun w' G => ⟨G.keeps _ _ zc0, G.keeps _ _ zc1, G.keeps _ _ zc2, G.keeps _ _ zc3, G.keeps _ _ zc4, G.keeps _ _ zc5, G.keeps _ _ zd0, G.keeps _ _ zd1, G.keeps _ _ zd2, G.keeps _ _ zd3, G.keeps _ _ zd4, G.keeps _ _ zd5, G⟩
      have HK := hideIt K0
      have HG := hideIt hg
      have gg : Grows wr wr := Grows.refl _
      clear K0 hcs hcs2 hl1 hl2 hr hr2 hx hg
      go_wp2_with fail
      go_region_held3 (fun w' => w'.cell? ⟨b, off + k * 6, none⟩ = some c0 ∧ w'.cell? ⟨b, off + k * 6 + 1, none⟩ = some c1 ∧ w'.cell? ⟨b, off + k * 6 + 2, none⟩ = some c2 ∧ w'.cell? ⟨b, off + k * 6 + 3, none⟩ = some c3 ∧ w'.cell? ⟨b, off + k * 6 + 4, none⟩ = some c4 ∧ w'.cell? ⟨b, off + k * 6 + 5, none⟩ = some c5 ∧ w'.cell? ⟨b2, off2 + k * 6, none⟩ = some d0 ∧ w'.cell? ⟨b2, off2 + k * 6 + 1, none⟩ = some d1 ∧ w'.cell? ⟨b2, off2 + k * 6 + 2, none⟩ = some d2 ∧ w'.cell? ⟨b2, off2 + k * 6 + 3, none⟩ = some d3 ∧ w'.cell? ⟨b2, off2 + k * 6 + 4, none⟩ = some d4 ∧ w'.cell? ⟨b2, off2 + k * 6 + 5, none⟩ = some d5 ∧ Grows wr w')
        ((refine HK.out _ ?_; (repeat (first | exact gg | refine Grows.drew ?_ | refine Grows.alloc ?_ _ | refine Grows.setCell ?_ (by simp <;> omega) _))))
        (first | (go_at_call 68; refine (eqArc_same _ (HR.out.keep (Grows.keeps (by (repeat (first | exact gg | refine Grows.drew ?_))))) (HR2.out.keep (Grows.keeps (by (repeat (first | exact gg | refine Grows.drew ?_)))))).mono ?_; rintro e wx ⟨rfl, g⟩; replace gg : Grows wr wx := Grows.trans (by (repeat (first | exact gg | refine Grows.drew ?_))) g))
      all_goals go_split_ands
      all_goals go_wp2
      all_goals go_roundw
      all_goals first
        | (case rel => exact ⟨k + 1, by omega, by go_num, HG.out.trans (by repeat (first | exact gg | refine Grows.drew ?_))⟩)
        | (simp [intOf]; omega)
    · have hk2 : k = xs.length := by omega
      subst hk2
      go_wp2
      go_ret
      exact ⟨rfl, hg⟩
set_option maxHeartbeats 2000000 in
theorem szArcs_any {v : Value} {xs : List ArcD} (left : Int) (w : World) (h : RArcs w v xs) (h1 : 0 ≤ left) (h2 : left ≤ 1048576) :
    Calls Tryd.prog 27 #[v, .int .i64 left] w (SzPost (SmArcs xs) w) := by
  have hl := h.len
  obtain ⟨A, c, rfl, hle, hc, hx⟩ := h.form
  have HX := hideIt hx
  clear hx h hle hc
  by_cases hlt : left - xs.length < 0
  · go_enter Tryd.func27, Tryd.ntmps27
    go_wp2
    go_ret
    exact ⟨_, rfl, by omega, by omega, fun h => absurd h (by omega), Grows.refl _⟩
  · go_enter Tryd.func27, Tryd.ntmps27
    go_wp2
    go_loopw [1, 5] (fun l i wr => ∃ (k : Nat) (r : Int), k ≤ xs.length ∧ l = .int .i64 r ∧ i = .int .i64 (k : Int) ∧ 0 ≤ r ∧ r ≤ 1048576 ∧ Hid (∀ (j : Nat) (x : ArcD), j < k → xs[j]? = some x → SmArc x) ∧ Grows w wr) (fun _ i _ => xs.length - (intOf i).toNat)
    case atStart => exact ⟨0, left - xs.length, Nat.zero_le _, rfl, rfl, by omega, by omega, fun j x hj => absurd hj (by omega), Grows.refl _⟩
    case round =>
      obtain ⟨k, r, hk, rfl, rfl, hr0, hr1, hco, hg⟩ := hrel
      by_cases hk1 : k < xs.length
      · obtain ⟨x, hx⟩ : ∃ x, xs[k]? = some x := ⟨_, List.getElem?_eq_getElem hk1⟩
        obtain ⟨b, off, rfl, cs, hl1, hcs, hr⟩ := HX.out k x hx
        obtain ⟨c0, c1, c2, c3, c4, c5, rfl⟩ := list6 hl1
        have HR : Hid (RArc wr [c0, c1, c2, c3, c4, c5] x) := hideIt (hr.keep hg.keeps)
        have hs0 : wr.cell? ⟨b, off + k * 6, none⟩ = some c0 := by simpa [Nat.add_assoc] using hg.keeps _ _ (hcs 0 _ rfl)
        have hs1 : wr.cell? ⟨b, off + k * 6 + 1, none⟩ = some c1 := by simpa [Nat.add_assoc] using hg.keeps _ _ (hcs 1 _ rfl)
        have hs2 : wr.cell? ⟨b, off + k * 6 + 2, none⟩ = some c2 := by simpa [Nat.add_assoc] using hg.keeps _ _ (hcs 2 _ rfl)
        have hs3 : wr.cell? ⟨b, off + k * 6 + 3, none⟩ = some c3 := by simpa [Nat.add_assoc] using hg.keeps _ _ (hcs 3 _ rfl)
        have hs4 : wr.cell? ⟨b, off + k * 6 + 4, none⟩ = some c4 := by simpa [Nat.add_assoc] using hg.keeps _ _ (hcs 4 _ rfl)
        have hs5 : wr.cell? ⟨b, off + k * 6 + 5, none⟩ = some c5 := by simpa [Nat.add_assoc] using hg.keeps _ _ (hcs 5 _ rfl)
        have X1 := hideIt hx
        have HG := hideIt hg
        clear hcs hl1 hx hr hg
        go_wp2_with fail
        refine (szArc_any _ _ HR.out hr0 hr1).mono ?_
        rintro e u ⟨r2, rfl, p1, p2, sm, g⟩
        have SM := hideIt sm
        have GU := hideIt (HG.out.trans g)
        clear sm g HG HR
        by_cases n1 : r2 < 0
        · go_wp2
          go_ret
          exact ⟨-1, rfl, by omega, by omega, fun h => absurd h (by omega), GU.out⟩
        · go_wp2
          go_roundw
          case rel => exact ⟨k + 1, r2, by omega, rfl, by go_num, by omega, by omega, fun j y hj hy => by
            by_cases e : j = k
            · subst e; rw [X1.out] at hy; injection hy with hy; rw [← hy]; exact SM.out (by omega)
            · exact hco.out j y (by omega) hy, GU.out⟩
          case measure => simp [intOf]; omega
      · have hk2 : k = xs.length := by omega
        subst hk2
        have HC := hideIt hco.out
        clear hco
        go_wp2
        go_ret
        exact ⟨_, rfl, by omega, by omega, fun _ => ⟨by unfold SmL; omega, fun x hx => by obtain ⟨i, hi⟩ := List.getElem?_of_mem hx; exact HC.out i x (lt_of_at hi) hi⟩, hg⟩
end Go.Proofs.YtcaklodecejkhaaDoor
