/-
  A struct and the slices of it: owned, small, its budget, copy and equality.
-/
import Derived.Test.YtcaklodecejkhaaPortT
namespace Go.Proofs.Ytcaklodecejkhaa
open Go.RowKit

theorem szInts_s {v : Value} {xs : List Int} (left : Int) (w : World) (h : RInts w v xs) (h1 : 0 ≤ left) (h2 : left ≤ 1048576) :
    Calls Try.prog 37 #[v, .int .i64 left] w (SzPost (SmL xs) w) :=
  (szInts_p left w h h1 h2).mono fun _ _ ⟨r, he, a, b, s, hw⟩ => ⟨r, he, a, b, s, by rw [← hw]; exact Grows.refl _⟩
def OInst (w : World) (cs : List Value) (x : InstD) (bs : List Nat) : Prop :=
  ∃ (vv2 : Value) (b2 : List Nat), cs = [.string x.name, .int .i64 x.cell, vv2] ∧ x.name.size ≤ maxLen ∧ OInts w vv2 x.nets b2 ∧ bs = b2
theorem OInst.reads {w : World} {cs : List Value} {x : InstD} {bs : List Nat} (h : OInst w cs x bs) : RInst w cs x := by
  obtain ⟨vv2, b2, e, z0, h2, _⟩ := h
  exact ⟨vv2, e, z0, h2.reads⟩
theorem OInst.same {w w' : World} {cs : List Value} {x : InstD} {bs : List Nat} (h : OInst w cs x bs) (g : SameOn bs w w') : OInst w' cs x bs := by
  obtain ⟨vv2, b2, e, z0, h2, rfl⟩ := h
  exact ⟨vv2, _, e, z0, h2.same (g.sub (by simp +contextual)), rfl⟩
theorem OInst.lt {w : World} {cs : List Value} {x : InstD} {bs : List Nat} (h : OInst w cs x bs) : ∀ g ∈ bs, g < w.heap.size := by
  obtain ⟨vv2, b2, e, z0, h2, rfl⟩ := h
  intro g hg
  exact h2.lt g hg
def SmInst (x : InstD) : Prop := x.name.size ≤ 1048576 ∧ SmL x.nets
theorem RInst.parts {w : World} {vv0 vv1 vv2 : Value} {x : InstD} (h : RInst w [vv0, vv1, vv2] x) : (vv0 = .string x.name) ∧ (vv1 = .int .i64 x.cell) ∧ RInts w vv2 x.nets ∧ x.name.size ≤ maxLen := by
  obtain ⟨vv2', he, z0, h2⟩ := h
  injection he with e0 he
  injection he with e1 he
  injection he with e2 he
  subst e2
  exact ⟨e0, e1, h2, z0⟩
theorem OInst.shape {w : World} {vv0 vv1 vv2 : Value} {x : InstD} {bs : List Nat} (h : OInst w [vv0, vv1, vv2] x bs) : vv0 = .string x.name ∧ vv1 = .int .i64 x.cell ∧ (∃ (A : Option Addr) (n : Nat), vv2 = .slice A x.nets.length n) := by
  obtain ⟨e0, e1, e2, -⟩ := h.reads.parts
  exact ⟨e0, e1, (by obtain ⟨A, c, h, -⟩ := RList.form e2; exact ⟨A, c, h⟩)⟩
set_option maxHeartbeats 1000000 in
theorem szInst_any {vv0 vv1 vv2 : Value} {x : InstD} (left : Int) (w : World) (h : RInst w [vv0, vv1, vv2] x) (h1 : 0 ≤ left) (h2 : left ≤ 1048576) :
    Calls Try.prog 30 #[.agg #[vv0, vv1, vv2], .int .i64 left] w (SzPost (SmInst x) w) := by
  obtain ⟨rfl, rfl, k2, kz0⟩ := h.parts
  have g0 := (Grows.refl w).alloc (.cells #[.string x.name, .int .i64 x.cell, vv2] 57)
  have zs0 : (x.name.size : Int) ≤ 9223372036854775807 := by unfold maxLen at kz0; omega
  clear kz0
  have H2 := hideIt (k2.keep g0.keeps)
  have S := hideIt (Blk.new w 57 #[.string x.name, .int .i64 x.cell, vv2])
  have G := hideIt g0
  clear g0 k2
  go_enter Try.func30, Try.ntmps30
  by_cases n0 : left - (x.name.size : Int) < 0
  · go_wp2
    go_ret
    exact ⟨-1, rfl, by omega, by omega, fun h => by omega, G.out⟩
  obtain ⟨r0, er0⟩ : ∃ r : Int, r = left - (x.name.size : Int) := ⟨_, rfl⟩
  go_wp2_with fail
  refine (szInts_s _ _ H2.out (by omega) (by omega)).mono ?_
  rintro e w2 ⟨r2, rfl, p2, q2, s2, g⟩
  have S2 := hideIt s2
  clear s2
  replace G := hideIt (G.out.trans g)
  replace S := hideIt (S.out.grows g)
  clear g
  have c0 : w2.cell? ⟨w.heap.size, 0, none⟩ = some (.string x.name) := S.out.cell 0
  have c1 : w2.cell? ⟨w.heap.size, 1, none⟩ = some (.int .i64 x.cell) := S.out.cell 1
  have c2 : w2.cell? ⟨w.heap.size, 2, none⟩ = some (vv2) := S.out.cell 2
  by_cases n2 : r2 < 0
  · go_wp2
    go_ret
    exact ⟨-1, rfl, by omega, by omega, fun h => by omega, G.out⟩
  go_wp2
  go_ret
  exact ⟨_, rfl, by omega, by omega, fun _ => ⟨(by omega), S2.out (by omega)⟩, G.out⟩
set_option maxHeartbeats 2000000 in
theorem toInst_o {vv0 vv1 vv2 : Value} {x : InstD} (w : World) (h : RInst w [vv0, vv1, vv2] x) (hs : SmInst x) :
    Calls Try.prog 32 #[.agg #[vv0, vv1, vv2]] w fun e w' => ∃ (y0_ y1_ y2_ : Value) (bs : List Nat), e = .returned (.agg #[y0_, y1_, y2_]) ∧ OInst w' [y0_, y1_, y2_] x bs ∧ Own w.heap.size w'.heap.size bs ∧ Grows w w' := by
  obtain ⟨rfl, rfl, k2, kz0⟩ := h.parts
  obtain ⟨-, s2⟩ := hs
  have H0 := hideIt k2
  have M0 := hideIt s2
  clear k2 s2
  have Z0 := hideIt kz0
  clear kz0
  have g0 : Grows w (((w.alloc (.cells #[.string x.name, .int .i64 x.cell, vv2] 57)).alloc (.cells #[.string .empty, .int .i64 0, .slice none 0 0] 41)).alloc (.cells #[.string x.name, .int .i64 x.cell, .slice none 0 0] 41)) := (((Grows.refl w).alloc _).alloc _).alloc _
  have s0 : Blk (((w.alloc (.cells #[.string x.name, .int .i64 x.cell, vv2] 57)).alloc (.cells #[.string .empty, .int .i64 0, .slice none 0 0] 41)).alloc (.cells #[.string x.name, .int .i64 x.cell, .slice none 0 0] 41)) (w.heap.size) 57 #[.string x.name, .int .i64 x.cell, vv2] := ((Blk.new w _ _).grows ((Grows.refl _).alloc _)).grows ((Grows.refl _).alloc _)
  have r0 : Blk (((w.alloc (.cells #[.string x.name, .int .i64 x.cell, vv2] 57)).alloc (.cells #[.string .empty, .int .i64 0, .slice none 0 0] 41)).alloc (.cells #[.string x.name, .int .i64 x.cell, .slice none 0 0] 41)) (w.heap.size + 1) 41 #[.string .empty, .int .i64 0, .slice none 0 0] := by have := (Blk.new (w.alloc (.cells #[.string x.name, .int .i64 x.cell, vv2] 57)) 41 #[.string .empty, .int .i64 0, .slice none 0 0]).grows ((Grows.refl _).alloc (.cells #[.string x.name, .int .i64 x.cell, .slice none 0 0] 41)); simpa using this
  have b0 : Blk (((w.alloc (.cells #[.string x.name, .int .i64 x.cell, vv2] 57)).alloc (.cells #[.string .empty, .int .i64 0, .slice none 0 0] 41)).alloc (.cells #[.string x.name, .int .i64 x.cell, .slice none 0 0] 41)) (w.heap.size + 1 + 1) 41 #[.string x.name, .int .i64 x.cell, .slice none 0 0] := by have := Blk.new ((w.alloc (.cells #[.string x.name, .int .i64 x.cell, vv2] 57)).alloc (.cells #[.string .empty, .int .i64 0, .slice none 0 0] 41)) 41 #[.string x.name, .int .i64 x.cell, .slice none 0 0]; simpa using this
  have G0 := hideIt g0
  have S0 := hideIt s0
  have R0 := hideIt r0
  have B0 := hideIt b0
  clear g0 s0 r0 b0
  go_enter Try.func32, Try.ntmps32
  go_wp2_with fail
  refine (toInts_o _ (H0.out.keep G0.out.keeps) M0.out).mono ?_
  rintro e u0 ⟨A0, c0, y0, rfl, o0, n0, g0⟩
  have s1 := S0.out.grows g0
  have ks0_0 : u0.cell? ⟨w.heap.size, 0, none⟩ = some (.string x.name) := s1.cell 0
  have ks0_1 : u0.cell? ⟨w.heap.size, 1, none⟩ = some (.int .i64 x.cell) := s1.cell 1
  have ks0_2 : u0.cell? ⟨w.heap.size, 2, none⟩ = some (vv2) := s1.cell 2
  have fs0 := s1.frozen
  have r1 := R0.out.grows g0
  have kr0_0 : u0.cell? ⟨w.heap.size + 1, 0, none⟩ = some (.string .empty) := r1.cell 0
  have kr0_1 : u0.cell? ⟨w.heap.size + 1, 1, none⟩ = some (.int .i64 0) := r1.cell 1
  have kr0_2 : u0.cell? ⟨w.heap.size + 1, 2, none⟩ = some (.slice none 0 0) := r1.cell 2
  have fr0 := r1.frozen
  have b1 := B0.out.grows g0
  have kb0_0 : u0.cell? ⟨w.heap.size + 1 + 1, 0, none⟩ = some (.string x.name) := b1.cell 0
  have kb0_1 : u0.cell? ⟨w.heap.size + 1 + 1, 1, none⟩ = some (.int .i64 x.cell) := b1.cell 1
  have kb0_2 : u0.cell? ⟨w.heap.size + 1 + 1, 2, none⟩ = some (.slice none 0 0) := b1.cell 2
  have fb0 := b1.frozen
  have z0 := b1.lt
  have v0 : w.heap.size + 1 + 1 + 1 ≤ u0.heap.size := by have := g0.size; simpa using this
  have G1 := hideIt ((G0.out.trans g0).setCell (p := ⟨w.heap.size + 1 + 1, 2, none⟩) (by simp <;> omega) (.slice A0 x.nets.length c0))
  have S1 := hideIt (s1.far (p := ⟨w.heap.size + 1 + 1, 2, none⟩) (by simp <;> omega) (.slice A0 x.nets.length c0))
  have R1 := hideIt (r1.far (p := ⟨w.heap.size + 1 + 1, 2, none⟩) (by simp <;> omega) (.slice A0 x.nets.length c0))
  have B1 := hideIt (b1.set_ 2 (.slice A0 x.nets.length c0))
  have O0 := hideIt o0
  have N0 := hideIt n0
  have Q0 := hideIt g0
  clear s1 r1 b1 o0 n0 g0
  go_wp2
  refine bodyPost_ret (by simp [*, results, Try.results32, go_sem]; try rfl) rfl ?_
  exact ⟨_, _, _, _, rfl, ⟨_, _, rfl, Z0.out, O0.out.same (((((SameOn.refl y0 u0).set (p := ⟨w.heap.size + 1 + 1, 2, none⟩) (fun g hg => by have := (N0.out.2 g hg).1; simp at this ⊢; omega) (.slice A0 x.nets.length c0)).set (p := ⟨w.heap.size + 1, 0, none⟩) (fun g hg => by have := (N0.out.2 g hg).1; simp at this ⊢; omega) (.string x.name)).set (p := ⟨w.heap.size + 1, 1, none⟩) (fun g hg => by have := (N0.out.2 g hg).1; simp at this ⊢; omega) (.int .i64 x.cell)).set (p := ⟨w.heap.size + 1, 2, none⟩) (fun g hg => by have := (N0.out.2 g hg).1; simp at this ⊢; omega) (.slice A0 x.nets.length c0)), rfl⟩, ((N0.out.mono (lo' := w.heap.size) (hi' := u0.heap.size) (by simp <;> omega) (Nat.le_refl _))).mono (Nat.le_refl _) (by simp), (((G1.out.setCell (p := ⟨w.heap.size + 1, 0, none⟩) (by simp <;> omega) (.string x.name)).setCell (p := ⟨w.heap.size + 1, 1, none⟩) (by simp <;> omega) (.int .i64 x.cell)).setCell (p := ⟨w.heap.size + 1, 2, none⟩) (by simp <;> omega) (.slice A0 x.nets.length c0))⟩
set_option maxHeartbeats 1000000 in
theorem eqInst_same {vv0 vv1 vv2 uu0 uu1 uu2 : Value} {x : InstD} (w : World) (h : RInst w [vv0, vv1, vv2] x) (h2 : RInst w [uu0, uu1, uu2] x) :
    Calls Try.prog 34 #[.agg #[vv0, vv1, vv2], .agg #[uu0, uu1, uu2]] w fun e w' => e = .returned (.bool true) ∧ Grows w w' := by
  obtain ⟨rfl, rfl, k2, kz0⟩ := h.parts
  obtain ⟨rfl, rfl, m2, mz0⟩ := h2.parts
  have H0 := hideIt k2
  have M0 := hideIt m2
  clear k2 m2
  clear kz0 mz0
  have g0 : Grows w ((w.alloc (.cells #[.string x.name, .int .i64 x.cell, vv2] 41)).alloc (.cells #[.string x.name, .int .i64 x.cell, uu2] 41)) := ((Grows.refl w).alloc _).alloc _
  have s0 : Blk ((w.alloc (.cells #[.string x.name, .int .i64 x.cell, vv2] 41)).alloc (.cells #[.string x.name, .int .i64 x.cell, uu2] 41)) (w.heap.size) 41 #[.string x.name, .int .i64 x.cell, vv2] := (Blk.new w _ _).grows ((Grows.refl _).alloc _)
  have r0 : Blk ((w.alloc (.cells #[.string x.name, .int .i64 x.cell, vv2] 41)).alloc (.cells #[.string x.name, .int .i64 x.cell, uu2] 41)) (w.heap.size + 1) 41 #[.string x.name, .int .i64 x.cell, uu2] := by have := Blk.new (w.alloc (.cells #[.string x.name, .int .i64 x.cell, vv2] 41)) 41 #[.string x.name, .int .i64 x.cell, uu2]; simpa using this
  have G0 := hideIt g0
  have S0 := hideIt s0
  have R0 := hideIt r0
  clear g0 s0 r0
  go_enter Try.func34, Try.ntmps34
  go_wp2_with fail
  refine (eqInts_same _ (H0.out.keep G0.out.keeps) (M0.out.keep G0.out.keeps)).mono ?_
  rintro e u0 ⟨rfl, g0⟩
  have s1 := S0.out.grows g0
  have ks0_0 : u0.cell? ⟨w.heap.size, 0, none⟩ = some (.string x.name) := s1.cell 0
  have ks0_1 : u0.cell? ⟨w.heap.size, 1, none⟩ = some (.int .i64 x.cell) := s1.cell 1
  have ks0_2 : u0.cell? ⟨w.heap.size, 2, none⟩ = some (vv2) := s1.cell 2
  have r1 := R0.out.grows g0
  have kr0_0 : u0.cell? ⟨w.heap.size + 1, 0, none⟩ = some (.string x.name) := r1.cell 0
  have kr0_1 : u0.cell? ⟨w.heap.size + 1, 1, none⟩ = some (.int .i64 x.cell) := r1.cell 1
  have kr0_2 : u0.cell? ⟨w.heap.size + 1, 2, none⟩ = some (uu2) := r1.cell 2
  have G1 := hideIt (G0.out.trans g0)
  have S1 := hideIt s1
  have R1 := hideIt r1
  clear s1 r1 g0
  go_wp2
  go_ret
  exact ⟨rfl, G1.out⟩
def OInsts : World → Value → List InstD → List Nat → Prop := OList 3 41 OInst
def SmInsts (xs : List InstD) : Prop := SmL xs ∧ ∀ x ∈ xs, SmInst x
theorem OInsts.reads {w : World} {v : Value} {xs : List InstD} {bs : List Nat} (h : OInsts w v xs bs) : RInsts w v xs := OList.reads h fun _ _ _ h => h.reads
theorem OInsts.same {w w' : World} {v : Value} {xs : List InstD} {bs : List Nat} (h : OInsts w v xs bs) (g : SameOn bs w w') : OInsts w' v xs bs := OList.same h g fun _ _ _ h g => h.same g
theorem OInsts.lt {w : World} {v : Value} {xs : List InstD} {bs : List Nat} (h : OInsts w v xs bs) : ∀ g ∈ bs, g < w.heap.size := OList.lt h fun _ _ _ h => h.lt
theorem info_Inst : (Try.prog.info? 41).map (fun i => (i.zero, i.size)) = some (some (.agg #[.string .empty, .int .i64 0, .slice none 0 0]), 3) := by kernel_rfl
theorem bytes_Inst : ∀ i, Try.prog.info? 41 = some i → i.bytes ≤ 256 := by
  intro i hi
  have h : (Try.prog.info? 41).map (fun i => decide (i.bytes ≤ 256)) = some true := by kernel_rfl
  rw [hi] at h
  simpa using h
set_option maxHeartbeats 4000000 in
theorem toInsts_o {v : Value} {xs : List InstD} (w : World) (h : RInsts w v xs) (hn : SmInsts xs) :
    Calls Try.prog 18 #[v] w fun e w' => ∃ (A : Option Addr) (c : Nat) (bs : List Nat), e = .returned (.slice A xs.length c) ∧ OInsts w' (.slice A xs.length c) xs bs ∧ Own w.heap.size w'.heap.size bs ∧ Grows w w' := by
  obtain ⟨i0, hi, hzz⟩ := Option.map_eq_some_iff.1 info_Inst
  simp only [Prod.mk.injEq] at hzz
  obtain ⟨hz0, hz1⟩ := hzz
  have hbt := bytes_Inst i0 hi
  obtain ⟨hn1, hn2⟩ := hn
  unfold SmL at hn1
  have hmk : ∀ u : World, (Instr.makeSlice 29 (.int .i64 (xs.length : Int)) (.int .i64 (xs.length : Int))).run Try.prog u =
      .ok (.slice (some ⟨u.heap.size, 0, none⟩) xs.length xs.length) (u.alloc (.cells (madeCells #[.string .empty, .int .i64 0, .slice none 0 0] (xs.length * 3)) 41)) := fun u => by
    have h := run_make (P := Try.prog) u 29 41 i0 (.agg #[.string .empty, .int .i64 0, .slice none 0 0]) Try.underlying29 hi hz0 .i64 .i64 (xs.length : Int) (xs.length : Int) (by omega) (Int.le_refl _) (by have h5 := Nat.mul_le_mul hbt hn1; have e : (i0.bytes : Int) * (xs.length : Int) = ((i0.bytes * xs.length : Nat) : Int) := (Int.natCast_mul _ _).symm; rw [e]; omega) (by omega)
    simpa [hz1, Value.cells] using h
  obtain ⟨A, c, rfl, hle, hc, hx⟩ := h.form
  have HX := hideIt hx
  have HN := hideIt hn2
  clear hx hi hz0 hz1 hbt h hn2
  go_enter Try.func18, Try.ntmps18
  go_wp2
  go_loopw [4] (fun i wr => ∃ k : Nat, k ≤ xs.length ∧ i = .int .i64 k ∧ CopyG 3 41 OInst w wr xs k) (fun i _ => xs.length - (intOf i).toNat)
  case atStart => exact ⟨0, Nat.zero_le _, rfl, CopyG.start _ (Blk.new _ _ _) (by simp [size_madeCells]) ((Grows.refl _).alloc _)⟩
  case round =>
    obtain ⟨k, hk, rfl, hco⟩ := hrel
    by_cases hlt : k < xs.length
    · obtain ⟨x, hx⟩ : ∃ x, xs[k]? = some x := ⟨_, List.getElem?_eq_getElem hlt⟩
      obtain ⟨b, off, rfl, cs, hl1, hcs, hr⟩ := HX.out k x hx
      obtain ⟨c0, c1, c2, rfl⟩ := list3 hl1
      have HST := hideIt (fun u es b => CopyG.step (u := u) (es := es) (b := b) hco (fun _ _ _ _ _ h g => OInst.same h g) hx)
      have SX := hideIt (HN.out x (List.mem_of_getElem? hx))
      obtain ⟨ds, bss, hb, hsz, -, -, hg, -⟩ := hco
      have HR : Hid (RInst wr [c0, c1, c2] x) := hideIt (hr.keep hg.keeps)
      have hs0 : wr.cell? ⟨b, off + k * 3, none⟩ = some c0 := by simpa [Nat.add_assoc] using hg.keeps _ _ (hcs 0 _ rfl)
      have hs1 : wr.cell? ⟨b, off + k * 3 + 1, none⟩ = some c1 := by simpa [Nat.add_assoc] using hg.keeps _ _ (hcs 1 _ rfl)
      have hs2 : wr.cell? ⟨b, off + k * 3 + 2, none⟩ = some c2 := by simpa [Nat.add_assoc] using hg.keeps _ _ (hcs 2 _ rfl)
      have HB := hideIt hb
      have hmul : k * 3 + 3 ≤ ds.size := by rw [hsz]; omega
      clear hcs hl1 hx hr hb hsz hmk hg
      go_wp2_with fail
      refine (toInst_o _ HR.out SX.out).mono ?_
      rintro e u ⟨y0, y1, y2, bb, rfl, ho, ow, g⟩
      obtain ⟨rfl, rfl, ⟨A2, m2, rfl⟩⟩ := ho.shape
      have st := hideIt (HST.out u _ bb g ho ow rfl)
      have hbu := HB.out.grows g
      have hf := hbu.frozen
      obtain ⟨o0, hd0⟩ : ∃ o, u.cell? ⟨w.heap.size, k * 3, none⟩ = some o := ⟨_, by rw [hbu.cell]; exact Array.getElem?_eq_getElem (by omega)⟩
      obtain ⟨o1, hd1⟩ : ∃ o, u.cell? ⟨w.heap.size, k * 3 + 1, none⟩ = some o := ⟨_, by rw [hbu.cell]; exact Array.getElem?_eq_getElem (by omega)⟩
      obtain ⟨o2, hd2⟩ : ∃ o, u.cell? ⟨w.heap.size, k * 3 + 2, none⟩ = some o := ⟨_, by rw [hbu.cell]; exact Array.getElem?_eq_getElem (by omega)⟩
      clear hbu ho ow g HST HB HR
      go_wp2
      go_roundw
      case rel => exact ⟨k + 1, by omega, by go_num, st.out⟩
      case measure => simp [intOf]; omega
    · have hk2 : k = xs.length := by omega
      subst hk2
      have H := hideIt hco
      clear hco hmk
      go_wp2
      go_ret
      obtain ⟨bs, h1, h2, h3⟩ := H.out.done (by unfold maxLen; omega)
      exact ⟨_, _, bs, rfl, h1, h2, h3⟩
theorem toInsts_any {v : Value} {xs : List InstD} (w : World) (h : RInsts w v xs) (hn : SmInsts xs) :
    Calls Try.prog 18 #[v] w fun e w' => ∃ (v' : Value) (bs : List Nat), e = .returned v' ∧ OInsts w' v' xs bs ∧ Own w.heap.size w'.heap.size bs ∧ Grows w w' :=
  (toInsts_o w h hn).mono fun _ _ ⟨_, _, bs, he, h⟩ => ⟨_, bs, he, h⟩
set_option maxHeartbeats 4000000 in
theorem eqInsts_same {v1 v2 : Value} {xs : List InstD} (w : World) (h1 : RInsts w v1 xs) (h2 : RInsts w v2 xs) :
    Calls Try.prog 23 #[v1, v2] w fun e w' => e = .returned (.bool true) ∧ Grows w w' := by
  have l1 := h1.len
  obtain ⟨A, c, rfl, hle, hc, hx⟩ := h1.form
  obtain ⟨A2, c2, rfl, hle2, hc2, hy⟩ := h2.form
  have HX := hideIt hx
  have HY := hideIt hy
  have hb : ((xs.length : Int) != (xs.length : Int)) = false := by simp
  clear hx hy h1 h2 hle hle2 hc hc2
  go_enter Try.func23, Try.ntmps23
  go_wp2
  go_loopw [5] (fun i wr => ∃ k : Nat, k ≤ xs.length ∧ i = .int .i64 k ∧ Grows w wr) (fun i _ => xs.length - (intOf i).toNat)
  case atStart => exact ⟨0, Nat.zero_le _, rfl, Grows.refl _⟩
  case round =>
    obtain ⟨k, hk, rfl, hg⟩ := hrel
    by_cases hlt : k < xs.length
    · obtain ⟨x, hx⟩ : ∃ x, xs[k]? = some x := ⟨_, List.getElem?_eq_getElem hlt⟩
      obtain ⟨b, off, rfl, cs, hl1, hcs, hr⟩ := HX.out k x hx
      obtain ⟨b2, off2, rfl, cs2, hl2, hcs2, hr2⟩ := HY.out k x hx
      obtain ⟨c0, c1, c2, rfl⟩ := list3 hl1
      obtain ⟨d0, d1, d2, rfl⟩ := list3 hl2
      have HR : Hid (RInst wr [c0, c1, c2] x) := hideIt (hr.keep hg.keeps)
      have HR2 : Hid (RInst wr [d0, d1, d2] x) := hideIt (hr2.keep hg.keeps)
      have zc0 : wr.cell? ⟨b, off + k * 3, none⟩ = some c0 := by simpa [Nat.add_assoc] using hg.keeps _ _ (hcs 0 _ rfl)
      have zc1 : wr.cell? ⟨b, off + k * 3 + 1, none⟩ = some c1 := by simpa [Nat.add_assoc] using hg.keeps _ _ (hcs 1 _ rfl)
      have zc2 : wr.cell? ⟨b, off + k * 3 + 2, none⟩ = some c2 := by simpa [Nat.add_assoc] using hg.keeps _ _ (hcs 2 _ rfl)
      have zd0 : wr.cell? ⟨b2, off2 + k * 3, none⟩ = some d0 := by simpa [Nat.add_assoc] using hg.keeps _ _ (hcs2 0 _ rfl)
      have zd1 : wr.cell? ⟨b2, off2 + k * 3 + 1, none⟩ = some d1 := by simpa [Nat.add_assoc] using hg.keeps _ _ (hcs2 1 _ rfl)
      have zd2 : wr.cell? ⟨b2, off2 + k * 3 + 2, none⟩ = some d2 := by simpa [Nat.add_assoc] using hg.keeps _ _ (hcs2 2 _ rfl)
      have K0 : ∀ w', Grows wr w' → w'.cell? ⟨b, off + k * 3, none⟩ = some c0 ∧ w'.cell? ⟨b, off + k * 3 + 1, none⟩ = some c1 ∧ w'.cell? ⟨b, off + k * 3 + 2, none⟩ = some c2 ∧ w'.cell? ⟨b2, off2 + k * 3, none⟩ = some d0 ∧ w'.cell? ⟨b2, off2 + k * 3 + 1, none⟩ = some d1 ∧ w'.cell? ⟨b2, off2 + k * 3 + 2, none⟩ = some d2 ∧ Grows wr w' := fun w' G => ⟨G.keeps _ _ zc0, G.keeps _ _ zc1, G.keeps _ _ zc2, G.keeps _ _ zd0, G.keeps _ _ zd1, G.keeps _ _ zd2, G⟩
      have HK := hideIt K0
      have HG := hideIt hg
      have gg : Grows wr wr := Grows.refl _
      clear K0 hcs hcs2 hl1 hl2 hr hr2 hx hg
      go_wp2_with fail
      go_region_held3 (fun w' => w'.cell? ⟨b, off + k * 3, none⟩ = some c0 ∧ w'.cell? ⟨b, off + k * 3 + 1, none⟩ = some c1 ∧ w'.cell? ⟨b, off + k * 3 + 2, none⟩ = some c2 ∧ w'.cell? ⟨b2, off2 + k * 3, none⟩ = some d0 ∧ w'.cell? ⟨b2, off2 + k * 3 + 1, none⟩ = some d1 ∧ w'.cell? ⟨b2, off2 + k * 3 + 2, none⟩ = some d2 ∧ Grows wr w')
        ((refine HK.out _ ?_; (repeat (first | exact gg | refine Grows.drew ?_ | refine Grows.alloc ?_ _ | refine Grows.setCell ?_ (by simp <;> omega) _))))
        (first | (go_at_call 34; refine (eqInst_same _ (HR.out.keep (Grows.keeps (by (repeat (first | exact gg | refine Grows.drew ?_))))) (HR2.out.keep (Grows.keeps (by (repeat (first | exact gg | refine Grows.drew ?_)))))).mono ?_; rintro e wx ⟨rfl, g⟩; replace gg : Grows wr wx := Grows.trans (by (repeat (first | exact gg | refine Grows.drew ?_))) g))
      all_goals go_split_ands
      all_goals go_wp2
      all_goals go_roundw
      all_goals first
        | (case rel => exact ⟨k + 1, by omega, by go_num, HG.out.trans (by repeat (first | exact gg | refine Grows.drew ?_))⟩)
        | (simp [intOf]; omega)
    · have hk2 : k = xs.length := by omega
      subst hk2
      go_wp2
      go_ret
      exact ⟨rfl, hg⟩
set_option maxHeartbeats 2000000 in
theorem szInsts_any {v : Value} {xs : List InstD} (left : Int) (w : World) (h : RInsts w v xs) (h1 : 0 ≤ left) (h2 : left ≤ 1048576) :
    Calls Try.prog 15 #[v, .int .i64 left] w (SzPost (SmInsts xs) w) := by
  have hl := h.len
  obtain ⟨A, c, rfl, hle, hc, hx⟩ := h.form
  have HX := hideIt hx
  clear hx h hle hc
  by_cases hlt : left - xs.length < 0
  · go_enter Try.func15, Try.ntmps15
    go_wp2
    go_ret
    exact ⟨_, rfl, by omega, by omega, fun h => absurd h (by omega), Grows.refl _⟩
  · go_enter Try.func15, Try.ntmps15
    go_wp2
    go_loopw [1, 5] (fun l i wr => ∃ (k : Nat) (r : Int), k ≤ xs.length ∧ l = .int .i64 r ∧ i = .int .i64 (k : Int) ∧ 0 ≤ r ∧ r ≤ 1048576 ∧ Hid (∀ (j : Nat) (x : InstD), j < k → xs[j]? = some x → SmInst x) ∧ Grows w wr) (fun _ i _ => xs.length - (intOf i).toNat)
    case atStart => exact ⟨0, left - xs.length, Nat.zero_le _, rfl, rfl, by omega, by omega, fun j x hj => absurd hj (by omega), Grows.refl _⟩
    case round =>
      obtain ⟨k, r, hk, rfl, rfl, hr0, hr1, hco, hg⟩ := hrel
      by_cases hk1 : k < xs.length
      · obtain ⟨x, hx⟩ : ∃ x, xs[k]? = some x := ⟨_, List.getElem?_eq_getElem hk1⟩
        obtain ⟨b, off, rfl, cs, hl1, hcs, hr⟩ := HX.out k x hx
        obtain ⟨c0, c1, c2, rfl⟩ := list3 hl1
        have HR : Hid (RInst wr [c0, c1, c2] x) := hideIt (hr.keep hg.keeps)
        have hs0 : wr.cell? ⟨b, off + k * 3, none⟩ = some c0 := by simpa [Nat.add_assoc] using hg.keeps _ _ (hcs 0 _ rfl)
        have hs1 : wr.cell? ⟨b, off + k * 3 + 1, none⟩ = some c1 := by simpa [Nat.add_assoc] using hg.keeps _ _ (hcs 1 _ rfl)
        have hs2 : wr.cell? ⟨b, off + k * 3 + 2, none⟩ = some c2 := by simpa [Nat.add_assoc] using hg.keeps _ _ (hcs 2 _ rfl)
        have X1 := hideIt hx
        have HG := hideIt hg
        clear hcs hl1 hx hr hg
        go_wp2_with fail
        refine (szInst_any _ _ HR.out hr0 hr1).mono ?_
        rintro e u ⟨r2, rfl, p1, p2, sm, g⟩
        have SM := hideIt sm
        have GU := hideIt (HG.out.trans g)
        clear sm g HG HR
        by_cases n1 : r2 < 0
        · go_wp2
          go_ret
          exact ⟨-1, rfl, by omega, by omega, fun h => absurd h (by omega), GU.out⟩
        · go_wp2
          go_roundw
          case rel => exact ⟨k + 1, r2, by omega, rfl, by go_num, by omega, by omega, fun j y hj hy => by
            by_cases e : j = k
            · subst e; rw [X1.out] at hy; injection hy with hy; rw [← hy]; exact SM.out (by omega)
            · exact hco.out j y (by omega) hy, GU.out⟩
          case measure => simp [intOf]; omega
      · have hk2 : k = xs.length := by omega
        subst hk2
        have HC := hideIt hco.out
        clear hco
        go_wp2
        go_ret
        exact ⟨_, rfl, by omega, by omega, fun _ => ⟨by unfold SmL; omega, fun x hx => by obtain ⟨i, hi⟩ := List.getElem?_of_mem hx; exact HC.out i x (lt_of_at hi) hi⟩, hg⟩
end Go.Proofs.Ytcaklodecejkhaa
