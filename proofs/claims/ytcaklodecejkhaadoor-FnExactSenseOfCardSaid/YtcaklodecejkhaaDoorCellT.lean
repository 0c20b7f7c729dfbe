/-
  A struct and the slices of it: owned, small, its budget, copy and equality.
-/
import Derived.Test.YtcaklodecejkhaaDoorArcT
namespace Go.Proofs.YtcaklodecejkhaaDoor
open Go.RowKit

def OCell (w : World) (cs : List Value) (x : CellD) (bs : List Nat) : Prop :=
  ∃ (vv2 vv3 vv4 : Value) (b2 b3 b4 : List Nat), cs = [.string x.name, .int .i64 x.kind, vv2, vv3, vv4, .int .i64 x.leak, .int .i64 x.energy] ∧ x.name.size ≤ maxLen ∧ OPins w vv2 x.pins b2 ∧ OArcs w vv3 x.arcs b3 ∧ OInts w vv4 x.truth b4 ∧ bs = b2 ++ b3 ++ b4
theorem OCell.reads {w : World} {cs : List Value} {x : CellD} {bs : List Nat} (h : OCell w cs x bs) : RCell w cs x := by
  obtain ⟨vv2, vv3, vv4, b2, b3, b4, e, z0, h2, h3, h4, _⟩ := h
  exact ⟨vv2, vv3, vv4, e, z0, h2.reads, h3.reads, h4.reads⟩
theorem OCell.same {w w' : World} {cs : List Value} {x : CellD} {bs : List Nat} (h : OCell w cs x bs) (g : SameOn bs w w') : OCell w' cs x bs := by
  obtain ⟨vv2, vv3, vv4, b2, b3, b4, e, z0, h2, h3, h4, rfl⟩ := h
  exact ⟨vv2, vv3, vv4, _, _, _, e, z0, h2.same (g.sub (by simp +contextual)), h3.same (g.sub (by simp +contextual)), h4.same (g.sub (by simp +contextual)), rfl⟩
theorem OCell.lt {w : World} {cs : List Value} {x : CellD} {bs : List Nat} (h : OCell w cs x bs) : ∀ g ∈ bs, g < w.heap.size := by
  obtain ⟨vv2, vv3, vv4, b2, b3, b4, e, z0, h2, h3, h4, rfl⟩ := h
  intro g hg
  simp only [List.mem_append] at hg
  rcases hg with ((hg | hg) | hg)
  · exact h2.lt g hg
  · exact h3.lt g hg
  · exact h4.lt g hg
def SmCell (x : CellD) : Prop := x.name.size ≤ 1048576 ∧ SmPins x.pins ∧ SmArcs x.arcs ∧ SmL x.truth
theorem RCell.parts {w : World} {vv0 vv1 vv2 vv3 vv4 vv5 vv6 : Value} {x : CellD} (h : RCell w [vv0, vv1, vv2, vv3, vv4, vv5, vv6] x) : (vv0 = .string x.name) ∧ (vv1 = .int .i64 x.kind) ∧ RPins w vv2 x.pins ∧ RArcs w vv3 x.arcs ∧ RInts w vv4 x.truth ∧ (vv5 = .int .i64 x.leak) ∧ (vv6 = .int .i64 x.energy) ∧ x.name.size ≤ maxLen := by
  obtain ⟨vv2', vv3', vv4', he, z0, h2, h3, h4⟩ := h
  injection he with e0 he
  injection he with e1 he
  injection he with e2 he
  injection he with e3 he
  injection he with e4 he
  injection he with e5 he
  injection he with e6 he
  subst e2 e3 e4
  exact ⟨e0, e1, h2, h3, h4, e5, e6, z0⟩
theorem OCell.shape {w : World} {vv0 vv1 vv2 vv3 vv4 vv5 vv6 : Value} {x : CellD} {bs : List Nat} (h : OCell w [vv0, vv1, vv2, vv3, vv4, vv5, vv6] x bs) : vv0 = .string x.name ∧ vv1 = .int .i64 x.kind ∧ (∃ (A : Option Addr) (n : Nat), vv2 = .slice A x.pins.length n) ∧ (∃ (A : Option Addr) (n : Nat), vv3 = .slice A x.arcs.length n) ∧ (∃ (A : Option Addr) (n : Nat), vv4 = .slice A x.truth.length n) ∧ vv5 = .int .i64 x.leak ∧ vv6 = .int .i64 x.energy := by
  obtain ⟨e0, e1, e2, e3, e4, e5, e6, -⟩ := h.reads.parts
  exact ⟨e0, e1, (by obtain ⟨A, c, h, -⟩ := RList.form e2; exact ⟨A, c, h⟩), (by obtain ⟨A, c, h, -⟩ := RList.form e3; exact ⟨A, c, h⟩), (by obtain ⟨A, c, h, -⟩ := RList.form e4; exact ⟨A, c, h⟩), e5, e6⟩
set_option maxHeartbeats 1000000 in
theorem szCell_any {vv0 vv1 vv2 vv3 vv4 vv5 vv6 : Value} {x : CellD} (left : Int) (w : World) (h : RCell w [vv0, vv1, vv2, vv3, vv4, vv5, vv6] x) (h1 : 0 ≤ left) (h2 : left ≤ 1048576) :
    Calls Tryd.prog 9 #[.agg #[vv0, vv1, vv2, vv3, vv4, vv5, vv6], .int .i64 left] w (SzPost (SmCell x) w) := by
  obtain ⟨rfl, rfl, k2, k3, k4, rfl, rfl, kz0⟩ := h.parts
  have g0 := (Grows.refl w).alloc (.cells #[.string x.name, .int .i64 x.kind, vv2, vv3, vv4, .int .i64 x.leak, .int .i64 x.energy] 26)
  have zs0 : (x.name.size : Int) ≤ 9223372036854775807 := by unfold maxLen at kz0; omega
  clear kz0
  have H2 := hideIt (k2.keep g0.keeps)
  have H3 := hideIt (k3.keep g0.keeps)
  have H4 := hideIt (k4.keep g0.keeps)
  have S := hideIt (Blk.new w 26 #[.string x.name, .int .i64 x.kind, vv2, vv3, vv4, .int .i64 x.leak, .int .i64 x.energy])
  have G := hideIt g0
  clear g0 k2 k3 k4
  go_enter Tryd.func9, Tryd.ntmps9
  by_cases n0 : left - (x.name.size : Int) < 0
  · go_wp2
    go_ret
    exact ⟨-1, rfl, by omega, by omega, fun h => by omega, G.out⟩
  obtain ⟨r0, er0⟩ : ∃ r : Int, r = left - (x.name.size : Int) := ⟨_, rfl⟩
  go_wp2_with fail
  refine (szPins_any _ _ H2.out (by omega) (by omega)).mono ?_
  rintro e w2 ⟨r2, rfl, p2, q2, s2, g⟩
  have S2 := hideIt s2
  clear s2
  replace G := hideIt (G.out.trans g)
  replace S := hideIt (S.out.grows g)
  replace H3 := hideIt (H3.out.keep g.keeps)
  replace H4 := hideIt (H4.out.keep g.keeps)
  clear g
  have c0 : w2.cell? ⟨w.heap.size, 0, none⟩ = some (.string x.name) := S.out.cell 0
  have c1 : w2.cell? ⟨w.heap.size, 1, none⟩ = some (.int .i64 x.kind) := S.out.cell 1
  have c2 : w2.cell? ⟨w.heap.size, 2, none⟩ = some (vv2) := S.out.cell 2
  have c3 : w2.cell? ⟨w.heap.size, 3, none⟩ = some (vv3) := S.out.cell 3
  have c4 : w2.cell? ⟨w.heap.size, 4, none⟩ = some (vv4) := S.out.cell 4
  have c5 : w2.cell? ⟨w.heap.size, 5, none⟩ = some (.int .i64 x.leak) := S.out.cell 5
  have c6 : w2.cell? ⟨w.heap.size, 6, none⟩ = some (.int .i64 x.energy) := S.out.cell 6
  by_cases n2 : r2 < 0
  · go_wp2
    go_ret
    exact ⟨-1, rfl, by omega, by omega, fun h => by omega, G.out⟩
  go_wp2_with fail
  clear c0 c1 c2 c3 c4 c5 c6
  refine (szArcs_any _ _ H3.out (by omega) (by omega)).mono ?_
  rintro e w3 ⟨r3, rfl, p3, q3, s3, g⟩
  have S3 := hideIt s3
  clear s3
  replace G := hideIt (G.out.trans g)
  replace S := hideIt (S.out.grows g)
  replace H4 := hideIt (H4.out.keep g.keeps)
  clear g
  have c0 : w3.cell? ⟨w.heap.size, 0, none⟩ = some (.string x.name) := S.out.cell 0
  have c1 : w3.cell? ⟨w.heap.size, 1, none⟩ = some (.int .i64 x.kind) := S.out.cell 1
  have c2 : w3.cell? ⟨w.heap.size, 2, none⟩ = some (vv2) := S.out.cell 2
  have c3 : w3.cell? ⟨w.heap.size, 3, none⟩ = some (vv3) := S.out.cell 3
  have c4 : w3.cell? ⟨w.heap.size, 4, none⟩ = some (vv4) := S.out.cell 4
  have c5 : w3.cell? ⟨w.heap.size, 5, none⟩ = some (.int .i64 x.leak) := S.out.cell 5
  have c6 : w3.cell? ⟨w.heap.size, 6, none⟩ = some (.int .i64 x.energy) := S.out.cell 6
  by_cases n3 : r3 < 0
  · go_wp2
    go_ret
    exact ⟨-1, rfl, by omega, by omega, fun h => by omega, G.out⟩
  go_wp2_with fail
  clear c0 c1 c2 c3 c4 c5 c6
  refine (szInts_s _ _ H4.out (by omega) (by omega)).mono ?_
  rintro e w4 ⟨r4, rfl, p4, q4, s4, g⟩
  have S4 := hideIt s4
  clear s4
  replace G := hideIt (G.out.trans g)
  replace S := hideIt (S.out.grows g)
  clear g
  have c0 : w4.cell? ⟨w.heap.size, 0, none⟩ = some (.string x.name) := S.out.cell 0
  have c1 : w4.cell? ⟨w.heap.size, 1, none⟩ = some (.int .i64 x.kind) := S.out.cell 1
  have c2 : w4.cell? ⟨w.heap.size, 2, none⟩ = some (vv2) := S.out.cell 2
  have c3 : w4.cell? ⟨w.heap.size, 3, none⟩ = some (vv3) := S.out.cell 3
  have c4 : w4.cell? ⟨w.heap.size, 4, none⟩ = some (vv4) := S.out.cell 4
  have c5 : w4.cell? ⟨w.heap.size, 5, none⟩ = some (.int .i64 x.leak) := S.out.cell 5
  have c6 : w4.cell? ⟨w.heap.size, 6, none⟩ = some (.int .i64 x.energy) := S.out.cell 6
  by_cases n4 : r4 < 0
  · go_wp2
    go_ret
    exact ⟨-1, rfl, by omega, by omega, fun h => by omega, G.out⟩
  go_wp2
  go_ret
  exact ⟨_, rfl, by omega, by omega, fun _ => ⟨(by omega), S2.out (by omega), S3.out (by omega), S4.out (by omega)⟩, G.out⟩
set_option maxHeartbeats 2000000 in
theorem toCell_o {vv0 vv1 vv2 vv3 vv4 vv5 vv6 : Value} {x : CellD} (w : World) (h : RCell w [vv0, vv1, vv2, vv3, vv4, vv5, vv6] x) (hs : SmCell x) :
    Calls Tryd.prog 11 #[.agg #[vv0, vv1, vv2, vv3, vv4, vv5, vv6]] w fun e w' => ∃ (y0_ y1_ y2_ y3_ y4_ y5_ y6_ : Value) (bs : List Nat), e = .returned (.agg #[y0_, y1_, y2_, y3_, y4_, y5_, y6_]) ∧ OCell w' [y0_, y1_, y2_, y3_, y4_, y5_, y6_] x bs ∧ Own w.heap.size w'.heap.size bs ∧ Grows w w' := by
  obtain ⟨rfl, rfl, k2, k3, k4, rfl, rfl, kz0⟩ := h.parts
  obtain ⟨-, s2, s3, s4⟩ := hs
  have H0 := hideIt k2
  have M0 := hideIt s2
  have H1 := hideIt k3
  have M1 := hideIt s3
  have H2 := hideIt k4
  have M2 := hideIt s4
  clear k2 s2 k3 s3 k4 s4
  have Z0 := hideIt kz0
  clear kz0
  have g0 : Grows w (((w.alloc (.cells #[.string x.name, .int .i64 x.kind, vv2, vv3, vv4, .int .i64 x.leak, .int .i64 x.energy] 26)).alloc (.cells #[.string .empty, .int .i64 0, .slice none 0 0, .slice none 0 0, .slice none 0 0, .int .i64 0, .int .i64 0] 32)).alloc (.cells #[.string x.name, .int .i64 x.kind, .slice none 0 0, .slice none 0 0, .slice none 0 0, .int .i64 0, .int .i64 0] 32)) := (((Grows.refl w).alloc _).alloc _).alloc _
  have s0 : Blk (((w.alloc (.cells #[.string x.name, .int .i64 x.kind, vv2, vv3, vv4, .int .i64 x.leak, .int .i64 x.energy] 26)).alloc (.cells #[.string .empty, .int .i64 0, .slice none 0 0, .slice none 0 0, .slice none 0 0, .int .i64 0, .int .i64 0] 32)).alloc (.cells #[.string x.name, .int .i64 x.kind, .slice none 0 0, .slice none 0 0, .slice none 0 0, .int .i64 0, .int .i64 0] 32)) (w.heap.size) 26 #[.string x.name, .int .i64 x.kind, vv2, vv3, vv4, .int .i64 x.leak, .int .i64 x.energy] := ((Blk.new w _ _).grows ((Grows.refl _).alloc _)).grows ((Grows.refl _).alloc _)
  have r0 : Blk (((w.alloc (.cells #[.string x.name, .int .i64 x.kind, vv2, vv3, vv4, .int .i64 x.leak, .int .i64 x.energy] 26)).alloc (.cells #[.string .empty, .int .i64 0, .slice none 0 0, .slice none 0 0, .slice none 0 0, .int .i64 0, .int .i64 0] 32)).alloc (.cells #[.string x.name, .int .i64 x.kind, .slice none 0 0, .slice none 0 0, .slice none 0 0, .int .i64 0, .int .i64 0] 32)) (w.heap.size + 1) 32 #[.string .empty, .int .i64 0, .slice none 0 0, .slice none 0 0, .slice none 0 0, .int .i64 0, .int .i64 0] := by have := (Blk.new (w.alloc (.cells #[.string x.name, .int .i64 x.kind, vv2, vv3, vv4, .int .i64 x.leak, .int .i64 x.energy] 26)) 32 #[.string .empty, .int .i64 0, .slice none 0 0, .slice none 0 0, .slice none 0 0, .int .i64 0, .int .i64 0]).grows ((Grows.refl _).alloc (.cells #[.string x.name, .int .i64 x.kind, .slice none 0 0, .slice none 0 0, .slice none 0 0, .int .i64 0, .int .i64 0] 32)); simpa using this
  have b0 : Blk (((w.alloc (.cells #[.string x.name, .int .i64 x.kind, vv2, vv3, vv4, .int .i64 x.leak, .int .i64 x.energy] 26)).alloc (.cells #[.string .empty, .int .i64 0, .slice none 0 0, .slice none 0 0, .slice none 0 0, .int .i64 0, .int .i64 0] 32)).alloc (.cells #[.string x.name, .int .i64 x.kind, .slice none 0 0, .slice none 0 0, .slice none 0 0, .int .i64 0, .int .i64 0] 32)) (w.heap.size + 1 + 1) 32 #[.string x.name, .int .i64 x.kind, .slice none 0 0, .slice none 0 0, .slice none 0 0, .int .i64 0, .int .i64 0] := by have := Blk.new ((w.alloc (.cells #[.string x.name, .int .i64 x.kind, vv2, vv3, vv4, .int .i64 x.leak, .int .i64 x.energy] 26)).alloc (.cells #[.string .empty, .int .i64 0, .slice none 0 0, .slice none 0 0, .slice none 0 0, .int .i64 0, .int .i64 0] 32)) 32 #[.string x.name, .int .i64 x.kind, .slice none 0 0, .slice none 0 0, .slice none 0 0, .int .i64 0, .int .i64 0]; simpa using this
  have G0 := hideIt g0
  have S0 := hideIt s0
  have R0 := hideIt r0
  have B0 := hideIt b0
  clear g0 s0 r0 b0
  go_enter Tryd.func11, Tryd.ntmps11
  go_wp2_with fail
  refine (toPins_o _ (H0.out.keep G0.out.keeps) M0.out).mono ?_
  rintro e u0 ⟨A0, c0, y0, rfl, o0, n0, g0⟩
  have s1 := S0.out.grows g0
  have ks0_0 : u0.cell? ⟨w.heap.size, 0, none⟩ = some (.string x.name) := s1.cell 0
  have ks0_1 : u0.cell? ⟨w.heap.size, 1, none⟩ = some (.int .i64 x.kind) := s1.cell 1
  have ks0_2 : u0.cell? ⟨w.heap.size, 2, none⟩ = some (vv2) := s1.cell 2
  have ks0_3 : u0.cell? ⟨w.heap.size, 3, none⟩ = some (vv3) := s1.cell 3
  have ks0_4 : u0.cell? ⟨w.heap.size, 4, none⟩ = some (vv4) := s1.cell 4
  have ks0_5 : u0.cell? ⟨w.heap.size, 5, none⟩ = some (.int .i64 x.leak) := s1.cell 5
  have ks0_6 : u0.cell? ⟨w.heap.size, 6, none⟩ = some (.int .i64 x.energy) := s1.cell 6
  have fs0 := s1.frozen
  have r1 := R0.out.grows g0
  have kr0_0 : u0.cell? ⟨w.heap.size + 1, 0, none⟩ = some (.string .empty) := r1.cell 0
  have kr0_1 : u0.cell? ⟨w.heap.size + 1, 1, none⟩ = some (.int .i64 0) := r1.cell 1
  have kr0_2 : u0.cell? ⟨w.heap.size + 1, 2, none⟩ = some (.slice none 0 0) := r1.cell 2
  have kr0_3 : u0.cell? ⟨w.heap.size + 1, 3, none⟩ = some (.slice none 0 0) := r1.cell 3
  have kr0_4 : u0.cell? ⟨w.heap.size + 1, 4, none⟩ = some (.slice none 0 0) := r1.cell 4
  have kr0_5 : u0.cell? ⟨w.heap.size + 1, 5, none⟩ = some (.int .i64 0) := r1.cell 5
  have kr0_6 : u0.cell? ⟨w.heap.size + 1, 6, none⟩ = some (.int .i64 0) := r1.cell 6
  have fr0 := r1.frozen
  have b1 := B0.out.grows g0
  have kb0_0 : u0.cell? ⟨w.heap.size + 1 + 1, 0, none⟩ = some (.string x.name) := b1.cell 0
  have kb0_1 : u0.cell? ⟨w.heap.size + 1 + 1, 1, none⟩ = some (.int .i64 x.kind) := b1.cell 1
  have kb0_2 : u0.cell? ⟨w.heap.size + 1 + 1, 2, none⟩ = some (.slice none 0 0) := b1.cell 2
  have kb0_3 : u0.cell? ⟨w.heap.size + 1 + 1, 3, none⟩ = some (.slice none 0 0) := b1.cell 3
  have kb0_4 : u0.cell? ⟨w.heap.size + 1 + 1, 4, none⟩ = some (.slice none 0 0) := b1.cell 4
  have kb0_5 : u0.cell? ⟨w.heap.size + 1 + 1, 5, none⟩ = some (.int .i64 0) := b1.cell 5
  have kb0_6 : u0.cell? ⟨w.heap.size + 1 + 1, 6, none⟩ = some (.int .i64 0) := b1.cell 6
  have fb0 := b1.frozen
  have z0 := b1.lt
  have v0 : w.heap.size + 1 + 1 + 1 ≤ u0.heap.size := by have := g0.size; simpa using this
  have G1 := hideIt ((G0.out.trans g0).setCell (p := ⟨w.heap.size + 1 + 1, 2, none⟩) (by simp <;> omega) (.slice A0 x.pins.length c0))
  have S1 := hideIt (s1.far (p := ⟨w.heap.size + 1 + 1, 2, none⟩) (by simp <;> omega) (.slice A0 x.pins.length c0))
  have R1 := hideIt (r1.far (p := ⟨w.heap.size + 1 + 1, 2, none⟩) (by simp <;> omega) (.slice A0 x.pins.length c0))
  have B1 := hideIt (b1.set_ 2 (.slice A0 x.pins.length c0))
  have O0 := hideIt o0
  have N0 := hideIt n0
  have Q0 := hideIt g0
  clear s1 r1 b1 o0 n0 g0
  go_wp2_with fail
  clear ks0_0 kr0_0 kb0_0 ks0_1 kr0_1 kb0_1 ks0_2 kr0_2 kb0_2 ks0_3 kr0_3 kb0_3 ks0_4 kr0_4 kb0_4 ks0_5 kr0_5 kb0_5 ks0_6 kr0_6 kb0_6 fs0 fr0 fb0
  refine (toArcs_o _ (H1.out.keep G1.out.keeps) M1.out).mono ?_
  rintro e u1 ⟨A1, c1, y1, rfl, o1, n1, g1⟩
  have s2 := S1.out.grows g1
  have ks1_0 : u1.cell? ⟨w.heap.size, 0, none⟩ = some (.string x.name) := s2.cell 0
  have ks1_1 : u1.cell? ⟨w.heap.size, 1, none⟩ = some (.int .i64 x.kind) := s2.cell 1
  have ks1_2 : u1.cell? ⟨w.heap.size, 2, none⟩ = some (vv2) := s2.cell 2
  have ks1_3 : u1.cell? ⟨w.heap.size, 3, none⟩ = some (vv3) := s2.cell 3
  have ks1_4 : u1.cell? ⟨w.heap.size, 4, none⟩ = some (vv4) := s2.cell 4
  have ks1_5 : u1.cell? ⟨w.heap.size, 5, none⟩ = some (.int .i64 x.leak) := s2.cell 5
  have ks1_6 : u1.cell? ⟨w.heap.size, 6, none⟩ = some (.int .i64 x.energy) := s2.cell 6
  have fs1 := s2.frozen
  have r2 := R1.out.grows g1
  have kr1_0 : u1.cell? ⟨w.heap.size + 1, 0, none⟩ = some (.string .empty) := r2.cell 0
  have kr1_1 : u1.cell? ⟨w.heap.size + 1, 1, none⟩ = some (.int .i64 0) := r2.cell 1
  have kr1_2 : u1.cell? ⟨w.heap.size + 1, 2, none⟩ = some (.slice none 0 0) := r2.cell 2
  have kr1_3 : u1.cell? ⟨w.heap.size + 1, 3, none⟩ = some (.slice none 0 0) := r2.cell 3
  have kr1_4 : u1.cell? ⟨w.heap.size + 1, 4, none⟩ = some (.slice none 0 0) := r2.cell 4
  have kr1_5 : u1.cell? ⟨w.heap.size + 1, 5, none⟩ = some (.int .i64 0) := r2.cell 5
  have kr1_6 : u1.cell? ⟨w.heap.size + 1, 6, none⟩ = some (.int .i64 0) := r2.cell 6
  have fr1 := r2.frozen
  have b2 := B1.out.grows g1
  have kb1_0 : u1.cell? ⟨w.heap.size + 1 + 1, 0, none⟩ = some (.string x.name) := b2.cell 0
  have kb1_1 : u1.cell? ⟨w.heap.size + 1 + 1, 1, none⟩ = some (.int .i64 x.kind) := b2.cell 1
  have kb1_2 : u1.cell? ⟨w.heap.size + 1 + 1, 2, none⟩ = some (.slice A0 x.pins.length c0) := b2.cell 2
  have kb1_3 : u1.cell? ⟨w.heap.size + 1 + 1, 3, none⟩ = some (.slice none 0 0) := b2.cell 3
  have kb1_4 : u1.cell? ⟨w.heap.size + 1 + 1, 4, none⟩ = some (.slice none 0 0) := b2.cell 4
  have kb1_5 : u1.cell? ⟨w.heap.size + 1 + 1, 5, none⟩ = some (.int .i64 0) := b2.cell 5
  have kb1_6 : u1.cell? ⟨w.heap.size + 1 + 1, 6, none⟩ = some (.int .i64 0) := b2.cell 6
  have fb1 := b2.frozen
  have z1 := b2.lt
  have v1 : u0.heap.size ≤ u1.heap.size := by have := g1.size; simpa using this
  have G2 := hideIt ((G1.out.trans g1).setCell (p := ⟨w.heap.size + 1 + 1, 3, none⟩) (by simp <;> omega) (.slice A1 x.arcs.length c1))
  have S2 := hideIt (s2.far (p := ⟨w.heap.size + 1 + 1, 3, none⟩) (by simp <;> omega) (.slice A1 x.arcs.length c1))
  have R2 := hideIt (r2.far (p := ⟨w.heap.size + 1 + 1, 3, none⟩) (by simp <;> omega) (.slice A1 x.arcs.length c1))
  have B2 := hideIt (b2.set_ 3 (.slice A1 x.arcs.length c1))
  have O1 := hideIt o1
  have N1 := hideIt n1
  have Q1 := hideIt g1
  clear s2 r2 b2 o1 n1 g1
  go_wp2_with fail
  clear ks1_0 kr1_0 kb1_0 ks1_1 kr1_1 kb1_1 ks1_2 kr1_2 kb1_2 ks1_3 kr1_3 kb1_3 ks1_4 kr1_4 kb1_4 ks1_5 kr1_5 kb1_5 ks1_6 kr1_6 kb1_6 fs1 fr1 fb1
  refine (toInts_o _ (H2.out.keep G2.out.keeps) M2.out).mono ?_
  rintro e u2 ⟨A2, c2, y2, rfl, o2, n2, g2⟩
  have s3 := S2.out.grows g2
  have ks2_0 : u2.cell? ⟨w.heap.size, 0, none⟩ = some (.string x.name) := s3.cell 0
  have ks2_1 : u2.cell? ⟨w.heap.size, 1, none⟩ = some (.int .i64 x.kind) := s3.cell 1
  have ks2_2 : u2.cell? ⟨w.heap.size, 2, none⟩ = some (vv2) := s3.cell 2
  have ks2_3 : u2.cell? ⟨w.heap.size, 3, none⟩ = some (vv3) := s3.cell 3
  have ks2_4 : u2.cell? ⟨w.heap.size, 4, none⟩ = some (vv4) := s3.cell 4
  have ks2_5 : u2.cell? ⟨w.heap.size, 5, none⟩ = some (.int .i64 x.leak) := s3.cell 5
  have ks2_6 : u2.cell? ⟨w.heap.size, 6, none⟩ = some (.int .i64 x.energy) := s3.cell 6
  have fs2 := s3.frozen
  have r3 := R2.out.grows g2
  have kr2_0 : u2.cell? ⟨w.heap.size + 1, 0, none⟩ = some (.string .empty) := r3.cell 0
  have kr2_1 : u2.cell? ⟨w.heap.size + 1, 1, none⟩ = some (.int .i64 0) := r3.cell 1
  have kr2_2 : u2.cell? ⟨w.heap.size + 1, 2, none⟩ = some (.slice none 0 0) := r3.cell 2
  have kr2_3 : u2.cell? ⟨w.heap.size + 1, 3, none⟩ = some (.slice none 0 0) := r3.cell 3
  have kr2_4 : u2.cell? ⟨w.heap.size + 1, 4, none⟩ = some (.slice none 0 0) := r3.cell 4
  have kr2_5 : u2.cell? ⟨w.heap.size + 1, 5, none⟩ = some (.int .i64 0) := r3.cell 5
  have kr2_6 : u2.cell? ⟨w.heap.size + 1, 6, none⟩ = some (.int .i64 0) := r3.cell 6
  have fr2 := r3.frozen
  have b3 := B2.out.grows g2
  have kb2_0 : u2.cell? ⟨w.heap.size + 1 + 1, 0, none⟩ = some (.string x.name) := b3.cell 0
  have kb2_1 : u2.cell? ⟨w.heap.size + 1 + 1, 1, none⟩ = some (.int .i64 x.kind) := b3.cell 1
  have kb2_2 : u2.cell? ⟨w.heap.size + 1 + 1, 2, none⟩ = some (.slice A0 x.pins.length c0) := b3.cell 2
  have kb2_3 : u2.cell? ⟨w.heap.size + 1 + 1, 3, none⟩ = some (.slice A1 x.arcs.length c1) := b3.cell 3
  have kb2_4 : u2.cell? ⟨w.heap.size + 1 + 1, 4, none⟩ = some (.slice none 0 0) := b3.cell 4
  have kb2_5 : u2.cell? ⟨w.heap.size + 1 + 1, 5, none⟩ = some (.int .i64 0) := b3.cell 5
  have kb2_6 : u2.cell? ⟨w.heap.size + 1 + 1, 6, none⟩ = some (.int .i64 0) := b3.cell 6
  have fb2 := b3.frozen
  have z2 := b3.lt
  have v2 : u1.heap.size ≤ u2.heap.size := by have := g2.size; simpa using this
  have G3 := hideIt ((((G2.out.trans g2).setCell (p := ⟨w.heap.size + 1 + 1, 4, none⟩) (by simp <;> omega) (.slice A2 x.truth.length c2)).setCell (p := ⟨w.heap.size + 1 + 1, 5, none⟩) (by simp <;> omega) (.int .i64 x.leak)).setCell (p := ⟨w.heap.size + 1 + 1, 6, none⟩) (by simp <;> omega) (.int .i64 x.energy))
  have S3 := hideIt (((s3.far (p := ⟨w.heap.size + 1 + 1, 4, none⟩) (by simp <;> omega) (.slice A2 x.truth.length c2)).far (p := ⟨w.heap.size + 1 + 1, 5, none⟩) (by simp <;> omega) (.int .i64 x.leak)).far (p := ⟨w.heap.size + 1 + 1, 6, none⟩) (by simp <;> omega) (.int .i64 x.energy))
  have R3 := hideIt (((r3.far (p := ⟨w.heap.size + 1 + 1, 4, none⟩) (by simp <;> omega) (.slice A2 x.truth.length c2)).far (p := ⟨w.heap.size + 1 + 1, 5, none⟩) (by simp <;> omega) (.int .i64 x.leak)).far (p := ⟨w.heap.size + 1 + 1, 6, none⟩) (by simp <;> omega) (.int .i64 x.energy))
  have B3 := hideIt (((b3.set_ 4 (.slice A2 x.truth.length c2)).set_ 5 (.int .i64 x.leak)).set_ 6 (.int .i64 x.energy))
  have O2 := hideIt o2
  have N2 := hideIt n2
  have Q2 := hideIt g2
  clear s3 r3 b3 o2 n2 g2
  go_wp2
  refine bodyPost_ret (by simp [*, results, Tryd.results11, go_sem]; try rfl) rfl ?_
  exact ⟨_, _, _, _, _, _, _, _, rfl, ⟨_, _, _, _, _, _, rfl, Z0.out, O0.out.same (((((((((((((((SameOn.refl y0 u0).set (p := ⟨w.heap.size + 1 + 1, 2, none⟩) (fun g hg => by have := (N0.out.2 g hg).1; simp at this ⊢; omega) (.slice A0 x.pins.length c0)).grows (fun g hg => by have := (N0.out.2 g hg).2; simp; omega) Q1.out).set (p := ⟨w.heap.size + 1 + 1, 3, none⟩) (fun g hg => by have := (N0.out.2 g hg).1; simp at this ⊢; omega) (.slice A1 x.arcs.length c1)).grows (fun g hg => by have := (N0.out.2 g hg).2; simp; omega) Q2.out).set (p := ⟨w.heap.size + 1 + 1, 4, none⟩) (fun g hg => by have := (N0.out.2 g hg).1; simp at this ⊢; omega) (.slice A2 x.truth.length c2)).set (p := ⟨w.heap.size + 1 + 1, 5, none⟩) (fun g hg => by have := (N0.out.2 g hg).1; simp at this ⊢; omega) (.int .i64 x.leak)).set (p := ⟨w.heap.size + 1 + 1, 6, none⟩) (fun g hg => by have := (N0.out.2 g hg).1; simp at this ⊢; omega) (.int .i64 x.energy)).set (p := ⟨w.heap.size + 1, 0, none⟩) (fun g hg => by have := (N0.out.2 g hg).1; simp at this ⊢; omega) (.string x.name)).set (p := ⟨w.heap.size + 1, 1, none⟩) (fun g hg => by have := (N0.out.2 g hg).1; simp at this ⊢; omega) (.int .i64 x.kind)).set (p := ⟨w.heap.size + 1, 2, none⟩) (fun g hg => by have := (N0.out.2 g hg).1; simp at this ⊢; omega) (.slice A0 x.pins.length c0)).set (p := ⟨w.heap.size + 1, 3, none⟩) (fun g hg => by have := (N0.out.2 g hg).1; simp at this ⊢; omega) (.slice A1 x.arcs.length c1)).set (p := ⟨w.heap.size + 1, 4, none⟩) (fun g hg => by have := (N0.out.2 g hg).1; simp at this ⊢; omega) (.slice A2 x.truth.length c2)).set (p := ⟨w.heap.size + 1, 5, none⟩) (fun g hg => by have := (N0.out.2 g hg).1; simp at this ⊢; omega) (.int .i64 x.leak)).set (p := ⟨w.heap.size + 1, 6, none⟩) (fun g hg => by have := (N0.out.2 g hg).1; simp at this ⊢; omega) (.int .i64 x.energy)), O1.out.same (((((((((((((SameOn.refl y1 u1).set (p := ⟨w.heap.size + 1 + 1, 3, none⟩) (fun g hg => by have := (N1.out.2 g hg).1; simp at this ⊢; omega) (.slice A1 x.arcs.length c1)).grows (fun g hg => by have := (N1.out.2 g hg).2; simp; omega) Q2.out).set (p := ⟨w.heap.size + 1 + 1, 4, none⟩) (fun g hg => by have := (N1.out.2 g hg).1; simp at this ⊢; omega) (.slice A2 x.truth.length c2)).set (p := ⟨w.heap.size + 1 + 1, 5, none⟩) (fun g hg => by have := (N1.out.2 g hg).1; simp at this ⊢; omega) (.int .i64 x.leak)).set (p := ⟨w.heap.size + 1 + 1, 6, none⟩) (fun g hg => by have := (N1.out.2 g hg).1; simp at this ⊢; omega) (.int .i64 x.energy)).set (p := ⟨w.heap.size + 1, 0, none⟩) (fun g hg => by have := (N1.out.2 g hg).1; simp at this ⊢; omega) (.string x.name)).set (p := ⟨w.heap.size + 1, 1, none⟩) (fun g hg => by have := (N1.out.2 g hg).1; simp at this ⊢; omega) (.int .i64 x.kind)).set (p := ⟨w.heap.size + 1, 2, none⟩) (fun g hg => by have := (N1.out.2 g hg).1; simp at this ⊢; omega) (.slice A0 x.pins.length c0)).set (p := ⟨w.heap.size + 1, 3, none⟩) (fun g hg => by have := (N1.out.2 g hg).1; simp at this ⊢; omega) (.slice A1 x.arcs.length c1)).set (p := ⟨w.heap.size + 1, 4, none⟩) (fun g hg => by have := (N1.out.2 g hg).1; simp at this ⊢; omega) (.slice A2 x.truth.length c2)).set (p := ⟨w.heap.size + 1, 5, none⟩) (fun g hg => by have := (N1.out.2 g hg).1; simp at this ⊢; omega) (.int .i64 x.leak)).set (p := ⟨w.heap.size + 1, 6, none⟩) (fun g hg => by have := (N1.out.2 g hg).1; simp at this ⊢; omega) (.int .i64 x.energy)), O2.out.same (((((((((((SameOn.refl y2 u2).set (p := ⟨w.heap.size + 1 + 1, 4, none⟩) (fun g hg => by have := (N2.out.2 g hg).1; simp at this ⊢; omega) (.slice A2 x.truth.length c2)).set (p := ⟨w.heap.size + 1 + 1, 5, none⟩) (fun g hg => by have := (N2.out.2 g hg).1; simp at this ⊢; omega) (.int .i64 x.leak)).set (p := ⟨w.heap.size + 1 + 1, 6, none⟩) (fun g hg => by have := (N2.out.2 g hg).1; simp at this ⊢; omega) (.int .i64 x.energy)).set (p := ⟨w.heap.size + 1, 0, none⟩) (fun g hg => by have := (N2.out.2 g hg).1; simp at this ⊢; omega) (.string x.name)).set (p := ⟨w.heap.size + 1, 1, none⟩) (fun g hg => by have := (N2.out.2 g hg).1; simp at this ⊢; omega) (.int .i64 x.kind)).set (p := ⟨w.heap.size + 1, 2, none⟩) (fun g hg => by have := (N2.out.2 g hg).1; simp at this ⊢; omega) (.slice A0 x.pins.length c0)).set (p := ⟨w.heap.size + 1, 3, none⟩) (fun g hg => by have := (N2.out.2 g hg).1; simp at this ⊢; omega) (.slice A1 x.arcs.length c1)).set (p := ⟨w.heap.size + 1, 4, none⟩) (fun g hg => by have := (N2.out.2 g hg).1; simp at this ⊢; omega) (.slice A2 x.truth.length c2)).set (p := ⟨w.heap.size + 1, 5, none⟩) (fun g hg => by have := (N2.out.2 g hg).1; simp at this ⊢; omega) (.int .i64 x.leak)).set (p := ⟨w.heap.size + 1, 6, none⟩) (fun g hg => by have := (N2.out.2 g hg).1; simp at this ⊢; omega) (.int .i64 x.energy)), rfl⟩, ((Own.append (Own.append (N0.out.mono (lo' := w.heap.size) (hi' := u0.heap.size) (by simp <;> omega) (Nat.le_refl _)) (N1.out.mono (lo' := u0.heap.size) (hi' := u1.heap.size) (by simp <;> omega) (Nat.le_refl _)) (by omega) (by omega)) (N2.out.mono (lo' := u1.heap.size) (hi' := u2.heap.size) (by simp <;> omega) (Nat.le_refl _)) (by omega) (by omega))).mono (Nat.le_refl _) (by simp), (((((((G3.out.setCell (p := ⟨w.heap.size + 1, 0, none⟩) (by simp <;> omega) (.string x.name)).setCell (p := ⟨w.heap.size + 1, 1, none⟩) (by simp <;> omega) (.int .i64 x.kind)).setCell (p := ⟨w.heap.size + 1, 2, none⟩) (by simp <;> omega) (.slice A0 x.pins.length c0)).setCell (p := ⟨w.heap.size + 1, 3, none⟩) (by simp <;> omega) (.slice A1 x.arcs.length c1)).setCell (p := ⟨w.heap.size + 1, 4, none⟩) (by simp <;> omega) (.slice A2 x.truth.length c2)).setCell (p := ⟨w.heap.size + 1, 5, none⟩) (by simp <;> omega) (.int .i64 x.leak)).setCell (p := ⟨w.heap.size + 1, 6, none⟩) (by simp <;> omega) (.int .i64 x.energy))⟩
set_option maxHeartbeats 1000000 in
theorem eqCell_same {vv0 vv1 vv2 vv3 vv4 vv5 vv6 uu0 uu1 uu2 uu3 uu4 uu5 uu6 : Value} {x : CellD} (w : World) (h : RCell w [vv0, vv1, vv2, vv3, vv4, vv5, vv6] x) (h2 : RCell w [uu0, uu1, uu2, uu3, uu4, uu5, uu6] x) :
    Calls Tryd.prog 13 #[.agg #[vv0, vv1, vv2, vv3, vv4, vv5, vv6], .agg #[uu0, uu1, uu2, uu3, uu4, uu5, uu6]] w fun e w' => e = .returned (.bool true) ∧ Grows w w' := by
  obtain ⟨rfl, rfl, k2, k3, k4, rfl, rfl, kz0⟩ := h.parts
  obtain ⟨rfl, rfl, m2, m3, m4, rfl, rfl, mz0⟩ := h2.parts
  have H0 := hideIt k2
  have M0 := hideIt m2
  have H1 := hideIt k3
  have M1 := hideIt m3
  have H2 := hideIt k4
  have M2 := hideIt m4
  clear k2 m2 k3 m3 k4 m4
  clear kz0 mz0
  have g0 : Grows w ((w.alloc (.cells #[.string x.name, .int .i64 x.kind, vv2, vv3, vv4, .int .i64 x.leak, .int .i64 x.energy] 32)).alloc (.cells #[.string x.name, .int .i64 x.kind, uu2, uu3, uu4, .int .i64 x.leak, .int .i64 x.energy] 32)) := ((Grows.refl w).alloc _).alloc _
  have s0 : Blk ((w.alloc (.cells #[.string x.name, .int .i64 x.kind, vv2, vv3, vv4, .int .i64 x.leak, .int .i64 x.energy] 32)).alloc (.cells #[.string x.name, .int .i64 x.kind, uu2, uu3, uu4, .int .i64 x.leak, .int .i64 x.energy] 32)) (w.heap.size) 32 #[.string x.name, .int .i64 x.kind, vv2, vv3, vv4, .int .i64 x.leak, .int .i64 x.energy] := (Blk.new w _ _).grows ((Grows.refl _).alloc _)
  have r0 : Blk ((w.alloc (.cells #[.string x.name, .int .i64 x.kind, vv2, vv3, vv4, .int .i64 x.leak, .int .i64 x.energy] 32)).alloc (.cells #[.string x.name, .int .i64 x.kind, uu2, uu3, uu4, .int .i64 x.leak, .int .i64 x.energy] 32)) (w.heap.size + 1) 32 #[.string x.name, .int .i64 x.kind, uu2, uu3, uu4, .int .i64 x.leak, .int .i64 x.energy] := by have := Blk.new (w.alloc (.cells #[.string x.name, .int .i64 x.kind, vv2, vv3, vv4, .int .i64 x.leak, .int .i64 x.energy] 32)) 32 #[.string x.name, .int .i64 x.kind, uu2, uu3, uu4, .int .i64 x.leak, .int .i64 x.energy]; simpa using this
  have G0 := hideIt g0
  have S0 := hideIt s0
  have R0 := hideIt r0
  clear g0 s0 r0
  go_enter Tryd.func13, Tryd.ntmps13
  go_wp2_with fail
  refine (eqPins_same _ (H0.out.keep G0.out.keeps) (M0.out.keep G0.out.keeps)).mono ?_
  rintro e u0 ⟨rfl, g0⟩
  have s1 := S0.out.grows g0
  have ks0_0 : u0.cell? ⟨w.heap.size, 0, none⟩ = some (.string x.name) := s1.cell 0
  have ks0_1 : u0.cell? ⟨w.heap.size, 1, none⟩ = some (.int .i64 x.kind) := s1.cell 1
  have ks0_2 : u0.cell? ⟨w.heap.size, 2, none⟩ = some (vv2) := s1.cell 2
  have ks0_3 : u0.cell? ⟨w.heap.size, 3, none⟩ = some (vv3) := s1.cell 3
  have ks0_4 : u0.cell? ⟨w.heap.size, 4, none⟩ = some (vv4) := s1.cell 4
  have ks0_5 : u0.cell? ⟨w.heap.size, 5, none⟩ = some (.int .i64 x.leak) := s1.cell 5
  have ks0_6 : u0.cell? ⟨w.heap.size, 6, none⟩ = some (.int .i64 x.energy) := s1.cell 6
  have r1 := R0.out.grows g0
  have kr0_0 : u0.cell? ⟨w.heap.size + 1, 0, none⟩ = some (.string x.name) := r1.cell 0
  have kr0_1 : u0.cell? ⟨w.heap.size + 1, 1, none⟩ = some (.int .i64 x.kind) := r1.cell 1
  have kr0_2 : u0.cell? ⟨w.heap.size + 1, 2, none⟩ = some (uu2) := r1.cell 2
  have kr0_3 : u0.cell? ⟨w.heap.size + 1, 3, none⟩ = some (uu3) := r1.cell 3
  have kr0_4 : u0.cell? ⟨w.heap.size + 1, 4, none⟩ = some (uu4) := r1.cell 4
  have kr0_5 : u0.cell? ⟨w.heap.size + 1, 5, none⟩ = some (.int .i64 x.leak) := r1.cell 5
  have kr0_6 : u0.cell? ⟨w.heap.size + 1, 6, none⟩ = some (.int .i64 x.energy) := r1.cell 6
  have G1 := hideIt (G0.out.trans g0)
  have S1 := hideIt s1
  have R1 := hideIt r1
  clear s1 r1 g0
  go_wp2_with fail
  clear ks0_0 kr0_0 ks0_1 kr0_1 ks0_2 kr0_2 ks0_3 kr0_3 ks0_4 kr0_4 ks0_5 kr0_5 ks0_6 kr0_6
  refine (eqArcs_same _ (H1.out.keep G1.out.keeps) (M1.out.keep G1.out.keeps)).mono ?_
  rintro e u1 ⟨rfl, g1⟩
  have s2 := S1.out.grows g1
  have ks1_0 : u1.cell? ⟨w.heap.size, 0, none⟩ = some (.string x.name) := s2.cell 0
  have ks1_1 : u1.cell? ⟨w.heap.size, 1, none⟩ = some (.int .i64 x.kind) := s2.cell 1
  have ks1_2 : u1.cell? ⟨w.heap.size, 2, none⟩ = some (vv2) := s2.cell 2
  have ks1_3 : u1.cell? ⟨w.heap.size, 3, none⟩ = some (vv3) := s2.cell 3
  have ks1_4 : u1.cell? ⟨w.heap.size, 4, none⟩ = some (vv4) := s2.cell 4
  have ks1_5 : u1.cell? ⟨w.heap.size, 5, none⟩ = some (.int .i64 x.leak) := s2.cell 5
  have ks1_6 : u1.cell? ⟨w.heap.size, 6, none⟩ = some (.int .i64 x.energy) := s2.cell 6
  have r2 := R1.out.grows g1
  have kr1_0 : u1.cell? ⟨w.heap.size + 1, 0, none⟩ = some (.string x.name) := r2.cell 0
  have kr1_1 : u1.cell? ⟨w.heap.size + 1, 1, none⟩ = some (.int .i64 x.kind) := r2.cell 1
  have kr1_2 : u1.cell? ⟨w.heap.size + 1, 2, none⟩ = some (uu2) := r2.cell 2
  have kr1_3 : u1.cell? ⟨w.heap.size + 1, 3, none⟩ = some (uu3) := r2.cell 3
  have kr1_4 : u1.cell? ⟨w.heap.size + 1, 4, none⟩ = some (uu4) := r2.cell 4
  have kr1_5 : u1.cell? ⟨w.heap.size + 1, 5, none⟩ = some (.int .i64 x.leak) := r2.cell 5
  have kr1_6 : u1.cell? ⟨w.heap.size + 1, 6, none⟩ = some (.int .i64 x.energy) := r2.cell 6
  have G2 := hideIt (G1.out.trans g1)
  have S2 := hideIt s2
  have R2 := hideIt r2
  clear s2 r2 g1
  go_wp2_with fail
  clear ks1_0 kr1_0 ks1_1 kr1_1 ks1_2 kr1_2 ks1_3 kr1_3 ks1_4 kr1_4 ks1_5 kr1_5 ks1_6 kr1_6
  refine (eqInts_same _ (H2.out.keep G2.out.keeps) (M2.out.keep G2.out.keeps)).mono ?_
  rintro e u2 ⟨rfl, g2⟩
  have s3 := S2.out.grows g2
  have ks2_0 : u2.cell? ⟨w.heap.size, 0, none⟩ = some (.string x.name) := s3.cell 0
  have ks2_1 : u2.cell? ⟨w.heap.size, 1, none⟩ = some (.int .i64 x.kind) := s3.cell 1
  have ks2_2 : u2.cell? ⟨w.heap.size, 2, none⟩ = some (vv2) := s3.cell 2
  have ks2_3 : u2.cell? ⟨w.heap.size, 3, none⟩ = some (vv3) := s3.cell 3
  have ks2_4 : u2.cell? ⟨w.heap.size, 4, none⟩ = some (vv4) := s3.cell 4
  have ks2_5 : u2.cell? ⟨w.heap.size, 5, none⟩ = some (.int .i64 x.leak) := s3.cell 5
  have ks2_6 : u2.cell? ⟨w.heap.size, 6, none⟩ = some (.int .i64 x.energy) := s3.cell 6
  have r3 := R2.out.grows g2
  have kr2_0 : u2.cell? ⟨w.heap.size + 1, 0, none⟩ = some (.string x.name) := r3.cell 0
  have kr2_1 : u2.cell? ⟨w.heap.size + 1, 1, none⟩ = some (.int .i64 x.kind) := r3.cell 1
  have kr2_2 : u2.cell? ⟨w.heap.size + 1, 2, none⟩ = some (uu2) := r3.cell 2
  have kr2_3 : u2.cell? ⟨w.heap.size + 1, 3, none⟩ = some (uu3) := r3.cell 3
  have kr2_4 : u2.cell? ⟨w.heap.size + 1, 4, none⟩ = some (uu4) := r3.cell 4
  have kr2_5 : u2.cell? ⟨w.heap.size + 1, 5, none⟩ = some (.int .i64 x.leak) := r3.cell 5
  have kr2_6 : u2.cell? ⟨w.heap.size + 1, 6, none⟩ = some (.int .i64 x.energy) := r3.cell 6
  have G3 := hideIt (G2.out.trans g2)
  have S3 := hideIt s3
  have R3 := hideIt r3
  clear s3 r3 g2
  go_wp2
  go_ret
  exact ⟨rfl, G3.out⟩
end Go.Proofs.YtcaklodecejkhaaDoor
