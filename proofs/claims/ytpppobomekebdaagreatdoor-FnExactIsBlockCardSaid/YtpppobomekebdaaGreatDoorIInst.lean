/-
  Contract of the program's test of an instance.
-/
import Derived.Test.YtpppobomekebdaaGreatDoorINet
namespace Go.Proofs.YtpppobomekebdaaGreatDoor
open Go.RowKit
noncomputable def instB (cs : List CellD) (d : DesignD) (x : InstD) : Bool := pB (InstOk cs d x)
theorem any_notN {d : DesignD} {ns : List Int} : (!(ns.any fun n => !netIn d n)) = ns.all (netIn d) := by
  induction ns with
  | nil => rfl
  | cons a r ih => simp only [List.any_cons, List.all_cons, Bool.not_or, Bool.not_not, ih]
set_option maxHeartbeats 1000000 in
theorem isInst1_any {d : DesignD} {a b c : Value} (n : Int) (g : Nat) (W : World) (h : RDesign W [a, b, c] d) (h0 : W.cell? ⟨g, 0, none⟩ = some a) (h1 : W.cell? ⟨g, 1, none⟩ = some b) (h2 : W.cell? ⟨g, 2, none⟩ = some c) :
    Calls Tryz.prog 139 #[.int .i64 n, .pointer (some ⟨g, 0, none⟩)] W fun e W' => e = .returned (.bool (!netIn d n)) ∧ Grows W W' := by
  have lb := cell_lt h0
  simp at lb
  have H := hideIt h
  clear h
  go_enter Tryz.func139, Tryz.ntmps139
  go_wp2_with fail
  refine (isNet_any n _ H.out).mono ?_
  rintro e w1 ⟨rfl, g1⟩
  have G1 := hideIt g1
  clear g1 h0 h1 h2
  go_wp2
  go_ret
  exact ⟨rfl, G1.out⟩
set_option maxHeartbeats 8000000 in
theorem isInst_any {vl a b c x0 x1 x2 : Value} {cs : List CellD} {d : DesignD} {x : InstD} (w : World) (hl : RCells w vl cs) (hd : RDesign w [a, b, c] d) (hx : RInst w [x0, x1, x2] x) :
    Calls Tryz.prog 92 #[.agg #[a, b, c], .agg #[vl], .agg #[x0, x1, x2]] w fun e w' => e = .returned (.bool (instB cs d x)) ∧ Grows w w' := by
  have cl := RList.len hl
  obtain ⟨C, nc, rfl⟩ : ∃ (D : Option Addr) (nd : Nat), vl = .slice D cs.length nd := by obtain ⟨D, c, e, -⟩ := RList.form hl; exact ⟨D, c, e⟩
  obtain ⟨I, N, O, ni, nn, no, rfl, rfl, rfl⟩ := des_open hd
  obtain ⟨rfl, rfl, hxn, -⟩ := hx.parts
  have xl := RList.len hxn
  obtain ⟨XN, xn, rfl⟩ : ∃ (D : Option Addr) (nd : Nat), x2 = .slice D x.nets.length nd := by obtain ⟨D, c, e, -⟩ := RList.form hxn; exact ⟨D, c, e⟩
  have g0 := (((Grows.refl w).alloc (.cells #[.slice I d.insts.length ni, .slice N d.nets.length nn, .slice O d.ports.length no] 41)).alloc (.cells #[.slice C cs.length nc] 37)).alloc (.cells #[.string x.name, .int .i64 x.cell, .slice XN x.nets.length xn] 123)
  have S1 : Hid (Blk (((w.alloc (.cells #[.slice I d.insts.length ni, .slice N d.nets.length nn, .slice O d.ports.length no] 41)).alloc (.cells #[.slice C cs.length nc] 37)).alloc (.cells #[.string x.name, .int .i64 x.cell, .slice XN x.nets.length xn] 123)) w.heap.size 41 #[.slice I d.insts.length ni, .slice N d.nets.length nn, .slice O d.ports.length no]) := hideIt ((Blk.new w 41 #[.slice I d.insts.length ni, .slice N d.nets.length nn, .slice O d.ports.length no]).grows (((Grows.refl _).alloc (.cells #[.slice C cs.length nc] 37)).alloc (.cells #[.string x.name, .int .i64 x.cell, .slice XN x.nets.length xn] 123)))
  have S2 : Hid (Blk (((w.alloc (.cells #[.slice I d.insts.length ni, .slice N d.nets.length nn, .slice O d.ports.length no] 41)).alloc (.cells #[.slice C cs.length nc] 37)).alloc (.cells #[.string x.name, .int .i64 x.cell, .slice XN x.nets.length xn] 123)) (w.heap.size + 1) 37 #[.slice C cs.length nc]) := by
    have := (Blk.new (w.alloc (.cells #[.slice I d.insts.length ni, .slice N d.nets.length nn, .slice O d.ports.length no] 41)) 37 #[.slice C cs.length nc]).grows ((Grows.refl _).alloc (.cells #[.string x.name, .int .i64 x.cell, .slice XN x.nets.length xn] 123))
    exact hideIt (by simpa using this)
  have S3 : Hid (Blk (((w.alloc (.cells #[.slice I d.insts.length ni, .slice N d.nets.length nn, .slice O d.ports.length no] 41)).alloc (.cells #[.slice C cs.length nc] 37)).alloc (.cells #[.string x.name, .int .i64 x.cell, .slice XN x.nets.length xn] 123)) (w.heap.size + 1 + 1) 123 #[.string x.name, .int .i64 x.cell, .slice XN x.nets.length xn]) := by
    have := Blk.new ((w.alloc (.cells #[.slice I d.insts.length ni, .slice N d.nets.length nn, .slice O d.ports.length no] 41)).alloc (.cells #[.slice C cs.length nc] 37)) 123 #[.string x.name, .int .i64 x.cell, .slice XN x.nets.length xn]
    exact hideIt (by simpa using this)
  have HL := hideIt (RCells.keep hl g0.keeps)
  have HD := hideIt (hd.keep g0.keeps)
  have HXN := hideIt (RInts.keep hxn g0.keeps)
  have G := hideIt g0
  clear hl hd hx hxn g0
  have ew : IntKind.i64.wrap ((cs.length : Int) - 1) = (cs.length : Int) - 1 := IntWalk.i64_in _ (by omega)
  cases qc : inB x.cell 0 ((cs.length : Int) - 1)
  · have EP := hideIt (show instB cs d x = false from pB_false fun h => by have := h.cell; rw [qc] at this; cases this)
    have FC := hideIt qc
    clear qc
    have K0 : ∀ w', Grows (((w.alloc (.cells #[.slice I d.insts.length ni, .slice N d.nets.length nn, .slice O d.ports.length no] 41)).alloc (.cells #[.slice C cs.length nc] 37)).alloc (.cells #[.string x.name, .int .i64 x.cell, .slice XN x.nets.length xn] 123)) w' → w'.cell? ⟨w.heap.size, 0, none⟩ = some (.slice I d.insts.length ni) ∧ w'.cell? ⟨w.heap.size, 1, none⟩ = some (.slice N d.nets.length nn) ∧ w'.cell? ⟨w.heap.size, 2, none⟩ = some (.slice O d.ports.length no) ∧ w'.cell? ⟨w.heap.size + 1, 0, none⟩ = some (.slice C cs.length nc) ∧ w'.cell? ⟨w.heap.size + 1 + 1, 0, none⟩ = some (.string x.name) ∧ w'.cell? ⟨w.heap.size + 1 + 1, 1, none⟩ = some (.int .i64 x.cell) ∧ w'.cell? ⟨w.heap.size + 1 + 1, 2, none⟩ = some (.slice XN x.nets.length xn) ∧ Grows (((w.alloc (.cells #[.slice I d.insts.length ni, .slice N d.nets.length nn, .slice O d.ports.length no] 41)).alloc (.cells #[.slice C cs.length nc] 37)).alloc (.cells #[.string x.name, .int .i64 x.cell, .slice XN x.nets.length xn] 123)) w' := fun w' G => ⟨(G.cells.1 _ _ S1.out.lt).trans (S1.out.cell 0), (G.cells.1 _ _ S1.out.lt).trans (S1.out.cell 1), (G.cells.1 _ _ S1.out.lt).trans (S1.out.cell 2), (G.cells.1 _ _ S2.out.lt).trans (S2.out.cell 0), (G.cells.1 _ _ S3.out.lt).trans (S3.out.cell 0), (G.cells.1 _ _ S3.out.lt).trans (S3.out.cell 1), (G.cells.1 _ _ S3.out.lt).trans (S3.out.cell 2), G⟩
    have HK := hideIt K0
    clear K0
    have gg : Grows (((w.alloc (.cells #[.slice I d.insts.length ni, .slice N d.nets.length nn, .slice O d.ports.length no] 41)).alloc (.cells #[.slice C cs.length nc] 37)).alloc (.cells #[.string x.name, .int .i64 x.cell, .slice XN x.nets.length xn] 123)) (((w.alloc (.cells #[.slice I d.insts.length ni, .slice N d.nets.length nn, .slice O d.ports.length no] 41)).alloc (.cells #[.slice C cs.length nc] 37)).alloc (.cells #[.string x.name, .int .i64 x.cell, .slice XN x.nets.length xn] 123)) := Grows.refl _
    go_enter Tryz.func92, Tryz.ntmps92
    go_wp2
    refine wp_region_held_drew (S := (fun w' => w'.cell? ⟨w.heap.size, 0, none⟩ = some (.slice I d.insts.length ni) ∧ w'.cell? ⟨w.heap.size, 1, none⟩ = some (.slice N d.nets.length nn) ∧ w'.cell? ⟨w.heap.size, 2, none⟩ = some (.slice O d.ports.length no) ∧ w'.cell? ⟨w.heap.size + 1, 0, none⟩ = some (.slice C cs.length nc) ∧ w'.cell? ⟨w.heap.size + 1 + 1, 0, none⟩ = some (.string x.name) ∧ w'.cell? ⟨w.heap.size + 1 + 1, 1, none⟩ = some (.int .i64 x.cell) ∧ w'.cell? ⟨w.heap.size + 1 + 1, 2, none⟩ = some (.slice XN x.nets.length xn) ∧ Grows (((w.alloc (.cells #[.slice I d.insts.length ni, .slice N d.nets.length nn, .slice O d.ports.length no] 41)).alloc (.cells #[.slice C cs.length nc] 37)).alloc (.cells #[.string x.name, .int .i64 x.cell, .slice XN x.nets.length xn] 123)) w')) (by kernel_rfl) ?_ (fun hh0 => ?_)
    · (try dsimp only); refine HK.out _ ?_; (repeat (first | exact gg | refine Grows.drew ?_ | refine Grows.alloc ?_ _ | refine Grows.setCell ?_ (by simp <;> omega) _))
    refine regTake 0 (v := ?_) ?_ hh0 ?_
    rotate_left
    · intro w hw; (try dsimp only at hw); go_simp; (try with_reducible rfl)
    try simp only [Act.put, List.setIfInBounds_toArray, List.set_cons_zero, List.set_cons_succ]
    refine regTake 1 (v := ?_) ?_ hh0 ?_
    rotate_left
    · intro w hw; (try dsimp only at hw); go_simp; (try with_reducible rfl)
    try simp only [Act.put, List.setIfInBounds_toArray, List.set_cons_zero, List.set_cons_succ]
    refine regTake 2 (v := ?_) ?_ hh0 ?_
    rotate_left
    · intro w hw; (try dsimp only at hw); go_simp; (try with_reducible rfl)
    try simp only [Act.put, List.setIfInBounds_toArray, List.set_cons_zero, List.set_cons_succ]
    refine regTake 3 (v := ?_) ?_ hh0 ?_
    rotate_left
    · intro w hw; (try dsimp only at hw); go_simp; (try with_reducible rfl)
    try simp only [Act.put, List.setIfInBounds_toArray, List.set_cons_zero, List.set_cons_succ]
    refine regCall 4 (fun K hK => ?_)
    go_simp
    refine (lenCell_any _ HL.out).mono ?_
    rintro e wx ⟨rfl, g⟩
    replace gg : Grows (((w.alloc (.cells #[.slice I d.insts.length ni, .slice N d.nets.length nn, .slice O d.ports.length no] 41)).alloc (.cells #[.slice C cs.length nc] 37)).alloc (.cells #[.string x.name, .int .i64 x.cell, .slice XN x.nets.length xn] 123)) wx := Grows.trans (by (repeat (first | exact gg | refine Grows.drew ?_ | refine Grows.alloc ?_ _ | refine Grows.setCell ?_ (by simp <;> omega) _))) g
    clear g
    (try go_wp2_with fail)
    refine hK.out _ _ ?_ (fun hh1 => ?_)
    · (try dsimp only); refine HK.out _ ?_; (repeat (first | exact gg | refine Grows.drew ?_ | refine Grows.alloc ?_ _ | refine Grows.setCell ?_ (by simp <;> omega) _))
    clear hK K hh0
    try simp only [Act.put, List.setIfInBounds_toArray, List.set_cons_zero, List.set_cons_succ]
    refine regTake 5 (v := ?_) ?_ hh1 ?_
    rotate_left
    · intro w hw; (try dsimp only at hw); go_simp; (try with_reducible rfl)
    try simp only [Act.put, List.setIfInBounds_toArray, List.set_cons_zero, List.set_cons_succ]
    refine regCall 6 (fun K hK => ?_)
    go_simp
    refine (within_g _ _ _ _).mono ?_
    rintro e wx ⟨rfl, g⟩
    rw [FC.out]
    replace gg : Grows (((w.alloc (.cells #[.slice I d.insts.length ni, .slice N d.nets.length nn, .slice O d.ports.length no] 41)).alloc (.cells #[.slice C cs.length nc] 37)).alloc (.cells #[.string x.name, .int .i64 x.cell, .slice XN x.nets.length xn] 123)) wx := Grows.trans (by (repeat (first | exact gg | refine Grows.drew ?_ | refine Grows.alloc ?_ _ | refine Grows.setCell ?_ (by simp <;> omega) _))) g
    clear g
    (try go_wp2_with fail)
    refine hK.out _ _ ?_ (fun hh2 => ?_)
    · (try dsimp only); refine HK.out _ ?_; (repeat (first | exact gg | refine Grows.drew ?_ | refine Grows.alloc ?_ _ | refine Grows.setCell ?_ (by simp <;> omega) _))
    clear hK K hh1
    try simp only [Act.put, List.setIfInBounds_toArray, List.set_cons_zero, List.set_cons_succ]
    refine regTake 7 (v := ?_) ?_ hh2 ?_
    rotate_left
    · intro w hw; (try dsimp only at hw); go_simp; (try with_reducible rfl)
    try simp only [Act.put, List.setIfInBounds_toArray, List.set_cons_zero, List.set_cons_succ]
    refine regSkip 8 hh2 ?_
    try simp only [Act.put, List.setIfInBounds_toArray, List.set_cons_zero, List.set_cons_succ]
    refine regSkip 9 hh2 ?_
    try simp only [Act.put, List.setIfInBounds_toArray, List.set_cons_zero, List.set_cons_succ]
    refine regSkip 10 hh2 ?_
    try simp only [Act.put, List.setIfInBounds_toArray, List.set_cons_zero, List.set_cons_succ]
    refine regSkip 11 hh2 ?_
    try simp only [Act.put, List.setIfInBounds_toArray, List.set_cons_zero, List.set_cons_succ]
    refine regSkip 12 hh2 ?_
    try simp only [Act.put, List.setIfInBounds_toArray, List.set_cons_zero, List.set_cons_succ]
    refine regSkip 13 hh2 ?_
    try simp only [Act.put, List.setIfInBounds_toArray, List.set_cons_zero, List.set_cons_succ]
    refine regSkip 14 hh2 ?_
    try simp only [Act.put, List.setIfInBounds_toArray, List.set_cons_zero, List.set_cons_succ]
    refine regSkip 15 hh2 ?_
    try simp only [Act.put, List.setIfInBounds_toArray, List.set_cons_zero, List.set_cons_succ]
    refine regSkip 16 hh2 ?_
    try simp only [Act.put, List.setIfInBounds_toArray, List.set_cons_zero, List.set_cons_succ]
    refine regSkip 17 hh2 ?_
    try simp only [Act.put, List.setIfInBounds_toArray, List.set_cons_zero, List.set_cons_succ]
    refine regSkip 18 hh2 ?_
    try simp only [Act.put, List.setIfInBounds_toArray, List.set_cons_zero, List.set_cons_succ]
    refine regSkip 19 hh2 ?_
    try simp only [Act.put, List.setIfInBounds_toArray, List.set_cons_zero, List.set_cons_succ]
    refine regTake 20 (v := ?_) ?_ hh2 ?_
    rotate_left
    · intro w hw; (try dsimp only at hw); go_simp; (try with_reducible rfl)
    try simp only [Act.put, List.setIfInBounds_toArray, List.set_cons_zero, List.set_cons_succ]
    refine regTake 21 (v := ?_) ?_ hh2 ?_
    rotate_left
    · intro w hw; (try dsimp only at hw); go_simp; (try with_reducible rfl)
    try simp only [Act.put, List.setIfInBounds_toArray, List.set_cons_zero, List.set_cons_succ]
    refine regSkip 22 hh2 ?_
    try simp only [Act.put, List.setIfInBounds_toArray, List.set_cons_zero, List.set_cons_succ]
    refine regSkip 23 hh2 ?_
    try simp only [Act.put, List.setIfInBounds_toArray, List.set_cons_zero, List.set_cons_succ]
    refine regSkip 24 hh2 ?_
    try simp only [Act.put, List.setIfInBounds_toArray, List.set_cons_zero, List.set_cons_succ]
    refine regSkip 25 hh2 ?_
    try simp only [Act.put, List.setIfInBounds_toArray, List.set_cons_zero, List.set_cons_succ]
    refine regSkip 26 hh2 ?_
    try simp only [Act.put, List.setIfInBounds_toArray, List.set_cons_zero, List.set_cons_succ]
    refine regTake 27 (v := ?_) ?_ hh2 ?_
    rotate_left
    · intro w hw; (try dsimp only at hw); go_simp; (try with_reducible rfl)
    try simp only [Act.put, List.setIfInBounds_toArray, List.set_cons_zero, List.set_cons_succ]
    refine regTake 28 (v := ?_) ?_ hh2 ?_
    rotate_left
    · intro w hw; (try dsimp only at hw); go_simp; (try with_reducible rfl)
    try simp only [Act.put, List.setIfInBounds_toArray, List.set_cons_zero, List.set_cons_succ]
    refine wpAnyH_done (by kernel_rfl) ?_ _
    go_wp2
    go_ret
    exact ⟨ret_bool EP.out.symm, G.out.trans (by (repeat (first | exact gg | refine Grows.drew ?_ | refine Grows.alloc ?_ _ | refine Grows.setCell ?_ (by simp <;> omega) _)))⟩
  have hb := inB_true qc
  obtain ⟨ci, hci⟩ : ∃ ci : Nat, x.cell = (ci : Int) := ⟨x.cell.toNat, by omega⟩
  have hcl : ci < cs.length := by omega
  obtain ⟨cc, hcc⟩ : ∃ cc, cs[ci]? = some cc := ⟨_, List.getElem?_eq_getElem hcl⟩
  have i0 : (0 : Int) ≤ x.cell := by omega
  have i1 : x.cell < (cs.length : Int) := by omega
  have i2 : x.cell.toNat = ci := by omega
  obtain ⟨bl, ol_, PB, pm, eC, hpc, hpr⟩ := pins_at HL.out hcc
  subst eC
  have PL := RList.len hpr
  have kp := hideIt hpc
  have lbl := hideIt (cell_lt kp.out)
  have CC := hideIt hcc
  have FC := hideIt qc
  clear hpc hpr hcc hb qc hci
  by_cases hpn : x.nets.length = cc.pins.length
  rotate_left
  · have EP := hideIt (show instB cs d x = false from pB_false fun h => hpn (h.pins cc (by rw [i2]; exact CC.out)))
    have hp1 : ((x.nets.length : Int) == (cc.pins.length : Int)) = false := by rw [beq_eq_false_iff_ne]; omega
    clear hpn
    have K0 : ∀ w', Grows (((w.alloc (.cells #[.slice I d.insts.length ni, .slice N d.nets.length nn, .slice O d.ports.length no] 41)).alloc (.cells #[.slice (some ⟨bl, ol_, none⟩) cs.length nc] 37)).alloc (.cells #[.string x.name, .int .i64 x.cell, .slice XN x.nets.length xn] 123)) w' → w'.cell? ⟨w.heap.size, 0, none⟩ = some (.slice I d.insts.length ni) ∧ w'.cell? ⟨w.heap.size, 1, none⟩ = some (.slice N d.nets.length nn) ∧ w'.cell? ⟨w.heap.size, 2, none⟩ = some (.slice O d.ports.length no) ∧ w'.cell? ⟨w.heap.size + 1, 0, none⟩ = some (.slice (some ⟨bl, ol_, none⟩) cs.length nc) ∧ w'.cell? ⟨w.heap.size + 1 + 1, 0, none⟩ = some (.string x.name) ∧ w'.cell? ⟨w.heap.size + 1 + 1, 1, none⟩ = some (.int .i64 x.cell) ∧ w'.cell? ⟨w.heap.size + 1 + 1, 2, none⟩ = some (.slice XN x.nets.length xn) ∧ w'.cell? ⟨bl, ol_ + ci * 7 + 2, none⟩ = some (.slice PB cc.pins.length pm) ∧ Grows (((w.alloc (.cells #[.slice I d.insts.length ni, .slice N d.nets.length nn, .slice O d.ports.length no] 41)).alloc (.cells #[.slice (some ⟨bl, ol_, none⟩) cs.length nc] 37)).alloc (.cells #[.string x.name, .int .i64 x.cell, .slice XN x.nets.length xn] 123)) w' := fun w' G => ⟨(G.cells.1 _ _ S1.out.lt).trans (S1.out.cell 0), (G.cells.1 _ _ S1.out.lt).trans (S1.out.cell 1), (G.cells.1 _ _ S1.out.lt).trans (S1.out.cell 2), (G.cells.1 _ _ S2.out.lt).trans (S2.out.cell 0), (G.cells.1 _ _ S3.out.lt).trans (S3.out.cell 0), (G.cells.1 _ _ S3.out.lt).trans (S3.out.cell 1), (G.cells.1 _ _ S3.out.lt).trans (S3.out.cell 2), (G.cells.1 _ _ (by have := lbl.out; simp at this ⊢; omega)).trans kp.out, G⟩
    have HK := hideIt K0
    clear K0
    have gg : Grows (((w.alloc (.cells #[.slice I d.insts.length ni, .slice N d.nets.length nn, .slice O d.ports.length no] 41)).alloc (.cells #[.slice (some ⟨bl, ol_, none⟩) cs.length nc] 37)).alloc (.cells #[.string x.name, .int .i64 x.cell, .slice XN x.nets.length xn] 123)) (((w.alloc (.cells #[.slice I d.insts.length ni, .slice N d.nets.length nn, .slice O d.ports.length no] 41)).alloc (.cells #[.slice (some ⟨bl, ol_, none⟩) cs.length nc] 37)).alloc (.cells #[.string x.name, .int .i64 x.cell, .slice XN x.nets.length xn] 123)) := Grows.refl _
    go_enter Tryz.func92, Tryz.ntmps92
    go_wp2
    refine wp_region_held_drew (S := (fun w' => w'.cell? ⟨w.heap.size, 0, none⟩ = some (.slice I d.insts.length ni) ∧ w'.cell? ⟨w.heap.size, 1, none⟩ = some (.slice N d.nets.length nn) ∧ w'.cell? ⟨w.heap.size, 2, none⟩ = some (.slice O d.ports.length no) ∧ w'.cell? ⟨w.heap.size + 1, 0, none⟩ = some (.slice (some ⟨bl, ol_, none⟩) cs.length nc) ∧ w'.cell? ⟨w.heap.size + 1 + 1, 0, none⟩ = some (.string x.name) ∧ w'.cell? ⟨w.heap.size + 1 + 1, 1, none⟩ = some (.int .i64 x.cell) ∧ w'.cell? ⟨w.heap.size + 1 + 1, 2, none⟩ = some (.slice XN x.nets.length xn) ∧ w'.cell? ⟨bl, ol_ + ci * 7 + 2, none⟩ = some (.slice PB cc.pins.length pm) ∧ Grows (((w.alloc (.cells #[.slice I d.insts.length ni, .slice N d.nets.length nn, .slice O d.ports.length no] 41)).alloc (.cells #[.slice (some ⟨bl, ol_, none⟩) cs.length nc] 37)).alloc (.cells #[.string x.name, .int .i64 x.cell, .slice XN x.nets.length xn] 123)) w')) (by kernel_rfl) ?_ (fun hh0 => ?_)
    · (try dsimp only); refine HK.out _ ?_; (repeat (first | exact gg | refine Grows.drew ?_ | refine Grows.alloc ?_ _ | refine Grows.setCell ?_ (by simp <;> omega) _))
    refine regTake 0 (v := ?_) ?_ hh0 ?_
    rotate_left
    · intro w hw; (try dsimp only at hw); go_simp; (try with_reducible rfl)
    try simp only [Act.put, List.setIfInBounds_toArray, List.set_cons_zero, List.set_cons_succ]
    refine regTake 1 (v := ?_) ?_ hh0 ?_
    rotate_left
    · intro w hw; (try dsimp only at hw); go_simp; (try with_reducible rfl)
    try simp only [Act.put, List.setIfInBounds_toArray, List.set_cons_zero, List.set_cons_succ]
    refine regTake 2 (v := ?_) ?_ hh0 ?_
    rotate_left
    · intro w hw; (try dsimp only at hw); go_simp; (try with_reducible rfl)
    try simp only [Act.put, List.setIfInBounds_toArray, List.set_cons_zero, List.set_cons_succ]
    refine regTake 3 (v := ?_) ?_ hh0 ?_
    rotate_left
    · intro w hw; (try dsimp only at hw); go_simp; (try with_reducible rfl)
    try simp only [Act.put, List.setIfInBounds_toArray, List.set_cons_zero, List.set_cons_succ]
    refine regCall 4 (fun K hK => ?_)
    go_simp
    refine (lenCell_any _ HL.out).mono ?_
    rintro e wx ⟨rfl, g⟩
    replace gg : Grows (((w.alloc (.cells #[.slice I d.insts.length ni, .slice N d.nets.length nn, .slice O d.ports.length no] 41)).alloc (.cells #[.slice (some ⟨bl, ol_, none⟩) cs.length nc] 37)).alloc (.cells #[.string x.name, .int .i64 x.cell, .slice XN x.nets.length xn] 123)) wx := Grows.trans (by (repeat (first | exact gg | refine Grows.drew ?_ | refine Grows.alloc ?_ _ | refine Grows.setCell ?_ (by simp <;> omega) _))) g
    clear g
    (try go_wp2_with fail)
    refine hK.out _ _ ?_ (fun hh1 => ?_)
    · (try dsimp only); refine HK.out _ ?_; (repeat (first | exact gg | refine Grows.drew ?_ | refine Grows.alloc ?_ _ | refine Grows.setCell ?_ (by simp <;> omega) _))
    clear hK K hh0
    try simp only [Act.put, List.setIfInBounds_toArray, List.set_cons_zero, List.set_cons_succ]
    refine regTake 5 (v := ?_) ?_ hh1 ?_
    rotate_left
    · intro w hw; (try dsimp only at hw); go_simp; (try with_reducible rfl)
    try simp only [Act.put, List.setIfInBounds_toArray, List.set_cons_zero, List.set_cons_succ]
    refine regCall 6 (fun K hK => ?_)
    go_simp
    refine (within_g _ _ _ _).mono ?_
    rintro e wx ⟨rfl, g⟩
    rw [FC.out]
    replace gg : Grows (((w.alloc (.cells #[.slice I d.insts.length ni, .slice N d.nets.length nn, .slice O d.ports.length no] 41)).alloc (.cells #[.slice (some ⟨bl, ol_, none⟩) cs.length nc] 37)).alloc (.cells #[.string x.name, .int .i64 x.cell, .slice XN x.nets.length xn] 123)) wx := Grows.trans (by (repeat (first | exact gg | refine Grows.drew ?_ | refine Grows.alloc ?_ _ | refine Grows.setCell ?_ (by simp <;> omega) _))) g
    clear g
    (try go_wp2_with fail)
    refine hK.out _ _ ?_ (fun hh2 => ?_)
    · (try dsimp only); refine HK.out _ ?_; (repeat (first | exact gg | refine Grows.drew ?_ | refine Grows.alloc ?_ _ | refine Grows.setCell ?_ (by simp <;> omega) _))
    clear hK K hh1
    try simp only [Act.put, List.setIfInBounds_toArray, List.set_cons_zero, List.set_cons_succ]
    refine regTake 7 (v := ?_) ?_ hh2 ?_
    rotate_left
    · intro w hw; (try dsimp only at hw); go_simp; (try with_reducible rfl)
    try simp only [Act.put, List.setIfInBounds_toArray, List.set_cons_zero, List.set_cons_succ]
    refine regTake 8 (v := ?_) ?_ hh2 ?_
    rotate_left
    · intro w hw; (try dsimp only at hw); go_simp; (try with_reducible rfl)
    try simp only [Act.put, List.setIfInBounds_toArray, List.set_cons_zero, List.set_cons_succ]
    refine regTake 9 (v := ?_) ?_ hh2 ?_
    rotate_left
    · intro w hw; (try dsimp only at hw); go_simp; (try with_reducible rfl)
    try simp only [Act.put, List.setIfInBounds_toArray, List.set_cons_zero, List.set_cons_succ]
    refine regTake 10 (v := ?_) ?_ hh2 ?_
    rotate_left
    · intro w hw; (try dsimp only at hw); go_simp; (try with_reducible rfl)
    try simp only [Act.put, List.setIfInBounds_toArray, List.set_cons_zero, List.set_cons_succ]
    refine regTake 11 (v := ?_) ?_ hh2 ?_
    rotate_left
    · intro w hw; (try dsimp only at hw); go_simp; (try with_reducible rfl)
    try simp only [Act.put, List.setIfInBounds_toArray, List.set_cons_zero, List.set_cons_succ]
    refine regTake 12 (v := ?_) ?_ hh2 ?_
    rotate_left
    · intro w hw; (try dsimp only at hw); go_simp; (try with_reducible rfl)
    try simp only [Act.put, List.setIfInBounds_toArray, List.set_cons_zero, List.set_cons_succ]
    refine regTake 13 (v := ?_) ?_ hh2 ?_
    rotate_left
    · intro w hw; (try dsimp only at hw); go_simp; (try with_reducible rfl)
    try simp only [Act.put, List.setIfInBounds_toArray, List.set_cons_zero, List.set_cons_succ]
    refine regTake 14 (v := ?_) ?_ hh2 ?_
    rotate_left
    · intro w hw; (try dsimp only at hw); go_simp; (try with_reducible rfl)
    try simp only [Act.put, List.setIfInBounds_toArray, List.set_cons_zero, List.set_cons_succ]
    refine regTake 15 (v := ?_) ?_ hh2 ?_
    rotate_left
    · intro w hw; (try dsimp only at hw); go_simp; (try with_reducible rfl)
    try simp only [Act.put, List.setIfInBounds_toArray, List.set_cons_zero, List.set_cons_succ]
    refine regTake 16 (v := ?_) ?_ hh2 ?_
    rotate_left
    · intro w hw; (try dsimp only at hw); go_simp; (try with_reducible rfl)
    try simp only [Act.put, List.setIfInBounds_toArray, List.set_cons_zero, List.set_cons_succ]
    refine regTake 17 (v := ?_) ?_ hh2 ?_
    rotate_left
    · intro w hw; (try dsimp only at hw); go_simp; (try with_reducible rfl)
    try simp only [Act.put, List.setIfInBounds_toArray, List.set_cons_zero, List.set_cons_succ]
    refine regTake 18 (v := ?_) ?_ hh2 ?_
    rotate_left
    · intro w hw; (try dsimp only at hw); go_simp; (try with_reducible rfl)
    try simp only [Act.put, List.setIfInBounds_toArray, List.set_cons_zero, List.set_cons_succ]
    refine regTake 19 (v := ?_) ?_ hh2 ?_
    rotate_left
    · intro w hw; (try dsimp only at hw); go_simp; (try with_reducible rfl)
    try simp only [Act.put, List.setIfInBounds_toArray, List.set_cons_zero, List.set_cons_succ]
    refine regTake 20 (v := ?_) ?_ hh2 ?_
    rotate_left
    · intro w hw; (try dsimp only at hw); go_simp; (try with_reducible rfl)
    try simp only [Act.put, List.setIfInBounds_toArray, List.set_cons_zero, List.set_cons_succ]
    refine regTake 21 (v := ?_) ?_ hh2 ?_
    rotate_left
    · intro w hw; (try dsimp only at hw); go_simp; (try with_reducible rfl)
    try simp only [Act.put, List.setIfInBounds_toArray, List.set_cons_zero, List.set_cons_succ]
    refine regSkip 22 hh2 ?_
    try simp only [Act.put, List.setIfInBounds_toArray, List.set_cons_zero, List.set_cons_succ]
    refine regSkip 23 hh2 ?_
    try simp only [Act.put, List.setIfInBounds_toArray, List.set_cons_zero, List.set_cons_succ]
    refine regSkip 24 hh2 ?_
    try simp only [Act.put, List.setIfInBounds_toArray, List.set_cons_zero, List.set_cons_succ]
    refine regSkip 25 hh2 ?_
    try simp only [Act.put, List.setIfInBounds_toArray, List.set_cons_zero, List.set_cons_succ]
    refine regSkip 26 hh2 ?_
    try simp only [Act.put, List.setIfInBounds_toArray, List.set_cons_zero, List.set_cons_succ]
    refine regTake 27 (v := ?_) ?_ hh2 ?_
    rotate_left
    · intro w hw; (try dsimp only at hw); go_simp; (try with_reducible rfl)
    try simp only [Act.put, List.setIfInBounds_toArray, List.set_cons_zero, List.set_cons_succ]
    refine regTake 28 (v := ?_) ?_ hh2 ?_
    rotate_left
    · intro w hw; (try dsimp only at hw); go_simp; (try with_reducible rfl)
    try simp only [Act.put, List.setIfInBounds_toArray, List.set_cons_zero, List.set_cons_succ]
    refine wpAnyH_done (by kernel_rfl) ?_ _
    go_wp2
    go_ret
    exact ⟨ret_bool EP.out.symm, G.out.trans (by (repeat (first | exact gg | refine Grows.drew ?_ | refine Grows.alloc ?_ _ | refine Grows.setCell ?_ (by simp <;> omega) _)))⟩
  have hp1 : ((x.nets.length : Int) == (cc.pins.length : Int)) = true := by rw [beq_iff_eq]; omega
  have HPN := hideIt hpn
  clear hpn
  obtain ⟨q, hq⟩ : ∃ q, (x.nets.any fun n => !netIn d n) = q := ⟨_, rfl⟩
  have EP : Hid (instB cs d x = !q) := hideIt (by
    rw [← hq, any_notN]
    cases hqq : x.nets.all (netIn d)
    · exact pB_false fun h => by have := h.nets; rw [hqq] at this; cases this
    · exact pB_true ⟨FC.out, fun c hc => by rw [i2, CC.out] at hc; injection hc with hc; rw [← hc]; exact HPN.out, hqq⟩)
  have FA := hideIt hq
  clear hq
  have K0 : ∀ w', Grows (((w.alloc (.cells #[.slice I d.insts.length ni, .slice N d.nets.length nn, .slice O d.ports.length no] 41)).alloc (.cells #[.slice (some ⟨bl, ol_, none⟩) cs.length nc] 37)).alloc (.cells #[.string x.name, .int .i64 x.cell, .slice XN x.nets.length xn] 123)) w' → w'.cell? ⟨w.heap.size, 0, none⟩ = some (.slice I d.insts.length ni) ∧ w'.cell? ⟨w.heap.size, 1, none⟩ = some (.slice N d.nets.length nn) ∧ w'.cell? ⟨w.heap.size, 2, none⟩ = some (.slice O d.ports.length no) ∧ w'.cell? ⟨w.heap.size + 1, 0, none⟩ = some (.slice (some ⟨bl, ol_, none⟩) cs.length nc) ∧ w'.cell? ⟨w.heap.size + 1 + 1, 0, none⟩ = some (.string x.name) ∧ w'.cell? ⟨w.heap.size + 1 + 1, 1, none⟩ = some (.int .i64 x.cell) ∧ w'.cell? ⟨w.heap.size + 1 + 1, 2, none⟩ = some (.slice XN x.nets.length xn) ∧ w'.cell? ⟨bl, ol_ + ci * 7 + 2, none⟩ = some (.slice PB cc.pins.length pm) ∧ Grows (((w.alloc (.cells #[.slice I d.insts.length ni, .slice N d.nets.length nn, .slice O d.ports.length no] 41)).alloc (.cells #[.slice (some ⟨bl, ol_, none⟩) cs.length nc] 37)).alloc (.cells #[.string x.name, .int .i64 x.cell, .slice XN x.nets.length xn] 123)) w' := fun w' G => ⟨(G.cells.1 _ _ S1.out.lt).trans (S1.out.cell 0), (G.cells.1 _ _ S1.out.lt).trans (S1.out.cell 1), (G.cells.1 _ _ S1.out.lt).trans (S1.out.cell 2), (G.cells.1 _ _ S2.out.lt).trans (S2.out.cell 0), (G.cells.1 _ _ S3.out.lt).trans (S3.out.cell 0), (G.cells.1 _ _ S3.out.lt).trans (S3.out.cell 1), (G.cells.1 _ _ S3.out.lt).trans (S3.out.cell 2), (G.cells.1 _ _ (by have := lbl.out; simp at this ⊢; omega)).trans kp.out, G⟩
  have HK := hideIt K0
  clear K0
  have gg : Grows (((w.alloc (.cells #[.slice I d.insts.length ni, .slice N d.nets.length nn, .slice O d.ports.length no] 41)).alloc (.cells #[.slice (some ⟨bl, ol_, none⟩) cs.length nc] 37)).alloc (.cells #[.string x.name, .int .i64 x.cell, .slice XN x.nets.length xn] 123)) (((w.alloc (.cells #[.slice I d.insts.length ni, .slice N d.nets.length nn, .slice O d.ports.length no] 41)).alloc (.cells #[.slice (some ⟨bl, ol_, none⟩) cs.length nc] 37)).alloc (.cells #[.string x.name, .int .i64 x.cell, .slice XN x.nets.length xn] 123)) := Grows.refl _
  go_enter Tryz.func92, Tryz.ntmps92
  go_wp2
  refine wp_region_held_drew (S := (fun w' => w'.cell? ⟨w.heap.size, 0, none⟩ = some (.slice I d.insts.length ni) ∧ w'.cell? ⟨w.heap.size, 1, none⟩ = some (.slice N d.nets.length nn) ∧ w'.cell? ⟨w.heap.size, 2, none⟩ = some (.slice O d.ports.length no) ∧ w'.cell? ⟨w.heap.size + 1, 0, none⟩ = some (.slice (some ⟨bl, ol_, none⟩) cs.length nc) ∧ w'.cell? ⟨w.heap.size + 1 + 1, 0, none⟩ = some (.string x.name) ∧ w'.cell? ⟨w.heap.size + 1 + 1, 1, none⟩ = some (.int .i64 x.cell) ∧ w'.cell? ⟨w.heap.size + 1 + 1, 2, none⟩ = some (.slice XN x.nets.length xn) ∧ w'.cell? ⟨bl, ol_ + ci * 7 + 2, none⟩ = some (.slice PB cc.pins.length pm) ∧ Grows (((w.alloc (.cells #[.slice I d.insts.length ni, .slice N d.nets.length nn, .slice O d.ports.length no] 41)).alloc (.cells #[.slice (some ⟨bl, ol_, none⟩) cs.length nc] 37)).alloc (.cells #[.string x.name, .int .i64 x.cell, .slice XN x.nets.length xn] 123)) w')) (by kernel_rfl) ?_ (fun hh0 => ?_)
  · (try dsimp only); refine HK.out _ ?_; (repeat (first | exact gg | refine Grows.drew ?_ | refine Grows.alloc ?_ _ | refine Grows.setCell ?_ (by simp <;> omega) _))
  refine regTake 0 (v := ?_) ?_ hh0 ?_
  rotate_left
  · intro w hw; (try dsimp only at hw); go_simp; (try with_reducible rfl)
  try simp only [Act.put, List.setIfInBounds_toArray, List.set_cons_zero, List.set_cons_succ]
  refine regTake 1 (v := ?_) ?_ hh0 ?_
  rotate_left
  · intro w hw; (try dsimp only at hw); go_simp; (try with_reducible rfl)
  try simp only [Act.put, List.setIfInBounds_toArray, List.set_cons_zero, List.set_cons_succ]
  refine regTake 2 (v := ?_) ?_ hh0 ?_
  rotate_left
  · intro w hw; (try dsimp only at hw); go_simp; (try with_reducible rfl)
  try simp only [Act.put, List.setIfInBounds_toArray, List.set_cons_zero, List.set_cons_succ]
  refine regTake 3 (v := ?_) ?_ hh0 ?_
  rotate_left
  · intro w hw; (try dsimp only at hw); go_simp; (try with_reducible rfl)
  try simp only [Act.put, List.setIfInBounds_toArray, List.set_cons_zero, List.set_cons_succ]
  refine regCall 4 (fun K hK => ?_)
  go_simp
  refine (lenCell_any _ HL.out).mono ?_
  rintro e wx ⟨rfl, g⟩
  replace gg : Grows (((w.alloc (.cells #[.slice I d.insts.length ni, .slice N d.nets.length nn, .slice O d.ports.length no] 41)).alloc (.cells #[.slice (some ⟨bl, ol_, none⟩) cs.length nc] 37)).alloc (.cells #[.string x.name, .int .i64 x.cell, .slice XN x.nets.length xn] 123)) wx := Grows.trans (by (repeat (first | exact gg | refine Grows.drew ?_ | refine Grows.alloc ?_ _ | refine Grows.setCell ?_ (by simp <;> omega) _))) g
  clear g
  (try go_wp2_with fail)
  refine hK.out _ _ ?_ (fun hh1 => ?_)
  · (try dsimp only); refine HK.out _ ?_; (repeat (first | exact gg | refine Grows.drew ?_ | refine Grows.alloc ?_ _ | refine Grows.setCell ?_ (by simp <;> omega) _))
  clear hK K hh0
  try simp only [Act.put, List.setIfInBounds_toArray, List.set_cons_zero, List.set_cons_succ]
  refine regTake 5 (v := ?_) ?_ hh1 ?_
  rotate_left
  · intro w hw; (try dsimp only at hw); go_simp; (try with_reducible rfl)
  try simp only [Act.put, List.setIfInBounds_toArray, List.set_cons_zero, List.set_cons_succ]
  refine regCall 6 (fun K hK => ?_)
  go_simp
  refine (within_g _ _ _ _).mono ?_
  rintro e wx ⟨rfl, g⟩
  rw [FC.out]
  replace gg : Grows (((w.alloc (.cells #[.slice I d.insts.length ni, .slice N d.nets.length nn, .slice O d.ports.length no] 41)).alloc (.cells #[.slice (some ⟨bl, ol_, none⟩) cs.length nc] 37)).alloc (.cells #[.string x.name, .int .i64 x.cell, .slice XN x.nets.length xn] 123)) wx := Grows.trans (by (repeat (first | exact gg | refine Grows.drew ?_ | refine Grows.alloc ?_ _ | refine Grows.setCell ?_ (by simp <;> omega) _))) g
  clear g
  (try go_wp2_with fail)
  refine hK.out _ _ ?_ (fun hh2 => ?_)
  · (try dsimp only); refine HK.out _ ?_; (repeat (first | exact gg | refine Grows.drew ?_ | refine Grows.alloc ?_ _ | refine Grows.setCell ?_ (by simp <;> omega) _))
  clear hK K hh1
  try simp only [Act.put, List.setIfInBounds_toArray, List.set_cons_zero, List.set_cons_succ]
  refine regTake 7 (v := ?_) ?_ hh2 ?_
  rotate_left
  · intro w hw; (try dsimp only at hw); go_simp; (try with_reducible rfl)
  try simp only [Act.put, List.setIfInBounds_toArray, List.set_cons_zero, List.set_cons_succ]
  refine regTake 8 (v := ?_) ?_ hh2 ?_
  rotate_left
  · intro w hw; (try dsimp only at hw); go_simp; (try with_reducible rfl)
  try simp only [Act.put, List.setIfInBounds_toArray, List.set_cons_zero, List.set_cons_succ]
  refine regTake 9 (v := ?_) ?_ hh2 ?_
  rotate_left
  · intro w hw; (try dsimp only at hw); go_simp; (try with_reducible rfl)
  try simp only [Act.put, List.setIfInBounds_toArray, List.set_cons_zero, List.set_cons_succ]
  refine regTake 10 (v := ?_) ?_ hh2 ?_
  rotate_left
  · intro w hw; (try dsimp only at hw); go_simp; (try with_reducible rfl)
  try simp only [Act.put, List.setIfInBounds_toArray, List.set_cons_zero, List.set_cons_succ]
  refine regTake 11 (v := ?_) ?_ hh2 ?_
  rotate_left
  · intro w hw; (try dsimp only at hw); go_simp; (try with_reducible rfl)
  try simp only [Act.put, List.setIfInBounds_toArray, List.set_cons_zero, List.set_cons_succ]
  refine regTake 12 (v := ?_) ?_ hh2 ?_
  rotate_left
  · intro w hw; (try dsimp only at hw); go_simp; (try with_reducible rfl)
  try simp only [Act.put, List.setIfInBounds_toArray, List.set_cons_zero, List.set_cons_succ]
  refine regTake 13 (v := ?_) ?_ hh2 ?_
  rotate_left
  · intro w hw; (try dsimp only at hw); go_simp; (try with_reducible rfl)
  try simp only [Act.put, List.setIfInBounds_toArray, List.set_cons_zero, List.set_cons_succ]
  refine regTake 14 (v := ?_) ?_ hh2 ?_
  rotate_left
  · intro w hw; (try dsimp only at hw); go_simp; (try with_reducible rfl)
  try simp only [Act.put, List.setIfInBounds_toArray, List.set_cons_zero, List.set_cons_succ]
  refine regTake 15 (v := ?_) ?_ hh2 ?_
  rotate_left
  · intro w hw; (try dsimp only at hw); go_simp; (try with_reducible rfl)
  try simp only [Act.put, List.setIfInBounds_toArray, List.set_cons_zero, List.set_cons_succ]
  refine regTake 16 (v := ?_) ?_ hh2 ?_
  rotate_left
  · intro w hw; (try dsimp only at hw); go_simp; (try with_reducible rfl)
  try simp only [Act.put, List.setIfInBounds_toArray, List.set_cons_zero, List.set_cons_succ]
  refine regTake 17 (v := ?_) ?_ hh2 ?_
  rotate_left
  · intro w hw; (try dsimp only at hw); go_simp; (try with_reducible rfl)
  try simp only [Act.put, List.setIfInBounds_toArray, List.set_cons_zero, List.set_cons_succ]
  refine regTake 18 (v := ?_) ?_ hh2 ?_
  rotate_left
  · intro w hw; (try dsimp only at hw); go_simp; (try with_reducible rfl)
  try simp only [Act.put, List.setIfInBounds_toArray, List.set_cons_zero, List.set_cons_succ]
  refine regTake 19 (v := ?_) ?_ hh2 ?_
  rotate_left
  · intro w hw; (try dsimp only at hw); go_simp; (try with_reducible rfl)
  try simp only [Act.put, List.setIfInBounds_toArray, List.set_cons_zero, List.set_cons_succ]
  refine regTake 20 (v := ?_) ?_ hh2 ?_
  rotate_left
  · intro w hw; (try dsimp only at hw); go_simp; (try with_reducible rfl)
  try simp only [Act.put, List.setIfInBounds_toArray, List.set_cons_zero, List.set_cons_succ]
  refine regTake 21 (v := ?_) ?_ hh2 ?_
  rotate_left
  · intro w hw; (try dsimp only at hw); go_simp; (try with_reducible rfl)
  try simp only [Act.put, List.setIfInBounds_toArray, List.set_cons_zero, List.set_cons_succ]
  refine regTake 22 (v := ?_) ?_ hh2 ?_
  rotate_left
  · intro w hw; (try dsimp only at hw); go_simp; (try with_reducible rfl)
  try simp only [Act.put, List.setIfInBounds_toArray, List.set_cons_zero, List.set_cons_succ]
  refine regTake 23 (v := ?_) ?_ hh2 ?_
  rotate_left
  · intro w hw; (try dsimp only at hw); go_simp; (try with_reducible rfl)
  try simp only [Act.put, List.setIfInBounds_toArray, List.set_cons_zero, List.set_cons_succ]
  refine regTake 24 (v := ?_) ?_ hh2 ?_
  rotate_left
  · intro w hw; (try dsimp only at hw); go_simp; (try with_reducible rfl)
  try simp only [Act.put, List.setIfInBounds_toArray, List.set_cons_zero, List.set_cons_succ]
  refine regCall 25 (fun K hK => ?_)
  go_simp
  refine (containsFuncI64_any 139 _ (fun args W => enters_of Tryz.func139 (by kernel_rfl) rfl args W) (fun n => !netIn d n) _ (RInts.keep HXN.out (Grows.keeps (by (repeat (first | exact gg | refine Grows.drew ?_ | refine Grows.alloc ?_ _ | refine Grows.setCell ?_ (by simp <;> omega) _))))) ?_).mono ?_
  · intro y c0 W _ gw hr
    unfold RI at hr
    injection hr with hr
    subst hr
    have gq := Grows.trans (by (repeat (first | exact gg | refine Grows.drew ?_ | refine Grows.alloc ?_ _ | refine Grows.setCell ?_ (by simp <;> omega) _))) gw
    obtain ⟨z0, z1, z2, -⟩ := HK.out _ gq
    exact isInst1_any y _ W (HD.out.keep gq.keeps) z0 z1 z2
  rintro e wx ⟨rfl, g⟩
  rw [FA.out]
  replace gg : Grows (((w.alloc (.cells #[.slice I d.insts.length ni, .slice N d.nets.length nn, .slice O d.ports.length no] 41)).alloc (.cells #[.slice (some ⟨bl, ol_, none⟩) cs.length nc] 37)).alloc (.cells #[.string x.name, .int .i64 x.cell, .slice XN x.nets.length xn] 123)) wx := Grows.trans (by (repeat (first | exact gg | refine Grows.drew ?_ | refine Grows.alloc ?_ _ | refine Grows.setCell ?_ (by simp <;> omega) _))) g
  clear g
  (try go_wp2_with fail)
  refine hK.out _ _ ?_ (fun hh3 => ?_)
  · (try dsimp only); refine HK.out _ ?_; (repeat (first | exact gg | refine Grows.drew ?_ | refine Grows.alloc ?_ _ | refine Grows.setCell ?_ (by simp <;> omega) _))
  clear hK K hh2
  try simp only [Act.put, List.setIfInBounds_toArray, List.set_cons_zero, List.set_cons_succ]
  refine regTake 26 (v := ?_) ?_ hh3 ?_
  rotate_left
  · intro w hw; (try dsimp only at hw); go_simp; (try with_reducible rfl)
  try simp only [Act.put, List.setIfInBounds_toArray, List.set_cons_zero, List.set_cons_succ]
  refine regTake 27 (v := ?_) ?_ hh3 ?_
  rotate_left
  · intro w hw; (try dsimp only at hw); go_simp; (try with_reducible rfl)
  try simp only [Act.put, List.setIfInBounds_toArray, List.set_cons_zero, List.set_cons_succ]
  refine regTake 28 (v := ?_) ?_ hh3 ?_
  rotate_left
  · intro w hw; (try dsimp only at hw); go_simp; (try with_reducible rfl)
  try simp only [Act.put, List.setIfInBounds_toArray, List.set_cons_zero, List.set_cons_succ]
  refine wpAnyH_done (by kernel_rfl) ?_ _
  go_wp2
  go_ret
  exact ⟨ret_bool EP.out.symm, G.out.trans (by (repeat (first | exact gg | refine Grows.drew ?_ | refine Grows.alloc ?_ _ | refine Grows.setCell ?_ (by simp <;> omega) _)))⟩
end Go.Proofs.YtpppobomekebdaaGreatDoor
