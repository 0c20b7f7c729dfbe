/-
  Contracts of small methods of a design: whether a number is a net; lengths.
-/
import Derived.Test.YtocahjbmnkadjaaGreatDoorSParts
import Derived.Test.YtocahjbmnkadjaaGreatDoorGK
import Derived.Test.YtocahjbmnkadjaaGreatDoorSDes
import Derived.Test.YtocahjbmnkadjaaGreatDoorGG
import Derived.Laws.AppendOwn
namespace Go.Proofs.YtocahjbmnkadjaaGreatDoor
open Go.RowKit
theorem lenStr_any {v : Value} {xs : List ByteArray} {w0 : World} (w : World) (h : RStrs w0 v xs) :
    Calls Tryz.prog 103 #[v] w fun e w' => e = .returned (.int .i64 (xs.length : Int)) ∧ Grows w w' := by
  have hl := RList.len h
  obtain ⟨A, c, rfl, -, -, -⟩ := RList.form h
  clear h
  go_enter Tryz.func103, Tryz.ntmps103
  go_wp2
  go_ret
  exact ⟨rfl, Grows.refl _⟩
theorem lenCell_any {v : Value} {xs : List CellD} {w0 : World} (w : World) (h : RCells w0 v xs) :
    Calls Tryz.prog 100 #[v] w fun e w' => e = .returned (.int .i64 (xs.length : Int)) ∧ Grows w w' := by
  have hl := RList.len h
  obtain ⟨A, c, rfl, -, -, -⟩ := RList.form h
  clear h
  go_enter Tryz.func100, Tryz.ntmps100
  go_wp2
  go_ret
  exact ⟨rfl, Grows.refl _⟩
theorem within_g (n lo hi : Int) (w : World) : Calls Tryz.prog 92 #[.int .i64 n, .int .i64 lo, .int .i64 hi] w fun e w' => e = .returned (.bool (inB n lo hi)) ∧ Grows w w' :=
  (within_any n lo hi w).mono fun _ _ ⟨he, hw⟩ => ⟨he, by rw [← hw]; exact Grows.refl _⟩
/-- a design's parts in visible shape -/
theorem des_open {w : World} {a b c : Value} {d : DesignD} (h : RDesign w [a, b, c] d) : ∃ (I N O : Option Addr) (ni nn no : Nat), a = .slice I d.insts.length ni ∧ b = .slice N d.nets.length nn ∧ c = .slice O d.ports.length no := by
  obtain ⟨h1, h2, h3⟩ := h.parts
  obtain ⟨I, ni, e1, -⟩ := RList.form h1
  obtain ⟨N, nn, e2, -⟩ := RList.form h2
  obtain ⟨O, no, e3, -⟩ := RList.form h3
  exact ⟨I, N, O, ni, nn, no, e1, e2, e3⟩
set_option maxHeartbeats 1000000 in
theorem isNet_any {a b c : Value} {d : DesignD} (n : Int) (w : World) (h : RDesign w [a, b, c] d) :
    Calls Tryz.prog 76 #[.agg #[a, b, c], .int .i64 n] w fun e w' => e = .returned (.bool (netIn d n)) ∧ Grows w w' := by
  have nl := RList.len h.parts.2.1
  obtain ⟨I, N, O, ni, nn, no, rfl, rfl, rfl⟩ := des_open h
  have g0 := (Grows.refl w).alloc (.cells #[.slice I d.insts.length ni, .slice N d.nets.length nn, .slice O d.ports.length no] 30)
  have HN := hideIt (RStrs.keep h.parts.2.1 g0.keeps)
  have G := hideIt g0
  clear h g0
  go_enter Tryz.func76, Tryz.ntmps76
  go_wp2_with fail
  refine (lenStr_any _ HN.out).mono ?_
  rintro e w1 ⟨rfl, g1⟩
  have G1 := hideIt (G.out.trans g1)
  clear g1
  go_wp2_with (go_at_call 92; refine (within_any _ _ _ _).mono ?_; rintro e w' ⟨rfl, rfl⟩)
  go_ret
  exact ⟨rfl, G1.out⟩
end Go.Proofs.YtocahjbmnkadjaaGreatDoor
/-
  Contract of the program's test of an instance.
-/
namespace Go.Proofs.YtocahjbmnkadjaaGreatDoor
open Go.RowKit
noncomputable def instB (cs : List CellD) (d : DesignD) (x : InstD) : Bool := pB (InstOk cs d x)
theorem any_notN {d : DesignD} {ns : List Int} : (!(ns.any fun n => !netIn d n)) = ns.all (netIn d) := by
  induction ns with
  | nil => rfl
  | cons a r ih => simp only [List.any_cons, List.all_cons, Bool.not_or, Bool.not_not, ih]
set_option maxHeartbeats 1000000 in
theorem isInst1_any {d : DesignD} {a b c : Value} (n : Int) (g : Nat) (W : World) (h : RDesign W [a, b, c] d) (h0 : W.cell? ⟨g, 0, none⟩ = some a) (h1 : W.cell? ⟨g, 1, none⟩ = some b) (h2 : W.cell? ⟨g, 2, none⟩ = some c) :
    Calls Tryz.prog 102 #[.int .i64 n, .pointer (some ⟨g, 0, none⟩)] W fun e W' => e = .returned (.bool (!netIn d n)) ∧ Grows W W' := by
  have lb := cell_lt h0
  simp at lb
  have H := hideIt h
  clear h
  go_enter Tryz.func102, Tryz.ntmps102
  go_wp2_with fail
  refine (isNet_any n _ H.out).mono ?_
  rintro e w1 ⟨rfl, g1⟩
  have G1 := hideIt g1
  clear g1 h0 h1 h2
  go_wp2
  go_ret
  exact ⟨rfl, G1.out⟩
set_option maxHeartbeats 8000000 in
theorem isInst_any {vl a b c x0 x1 x2 : Value} {cs : List CellD} {d : DesignD} {x : InstD} (w : World) (hl : RCells w vl cs) (hd : RDesign w [a, b, c] d) (hx : RInst w [x0, x1, x2] x) :
    Calls Tryz.prog 75 #[.agg #[a, b, c], .agg #[vl], .agg #[x0, x1, x2]] w fun e w' => e = .returned (.bool (instB cs d x)) ∧ Grows w w' := by
  have cl := RList.len hl
  obtain ⟨C, nc, rfl⟩ : ∃ (D : Option Addr) (nd : Nat), vl = .slice D cs.length nd := by obtain ⟨D, c, e, -⟩ := RList.form hl; exact ⟨D, c, e⟩
  obtain ⟨I, N, O, ni, nn, no, rfl, rfl, rfl⟩ := des_open hd
  obtain ⟨rfl, rfl, hxn, -⟩ := hx.parts
  have xl := RList.len hxn
  obtain ⟨XN, xn, rfl⟩ : ∃ (D : Option Addr) (nd : Nat), x2 = .slice D x.nets.length nd := by obtain ⟨D, c, e, -⟩ := RList.form hxn; exact ⟨D, c, e⟩
  have g0 := (((Grows.refl w).alloc (.cells #[.slice I d.insts.length ni, .slice N d.nets.length nn, .slice O d.ports.length no] 30)).alloc (.cells #[.slice C cs.length nc] 35)).alloc (.cells #[.string x.name, .int .i64 x.cell, .slice XN x.nets.length xn] 77)
  have S1 : Hid (Blk (((w.alloc (.cells #[.slice I d.insts.length ni, .slice N d.nets.length nn, .slice O d.ports.length no] 30)).alloc (.cells #[.slice C cs.length nc] 35)).alloc (.cells #[.string x.name, .int .i64 x.cell, .slice XN x.nets.length xn] 77)) w.heap.size 30 #[.slice I d.insts.length ni, .slice N d.nets.length nn, .slice O d.ports.length no]) := hideIt ((Blk.new w 30 #[.slice I d.insts.length ni, .slice N d.nets.length nn, .slice O d.ports.length no]).grows (((Grows.refl _).alloc (.cells #[.slice C cs.length nc] 35)).alloc (.cells #[.string x.name, .int .i64 x.cell, .slice XN x.nets.length xn] 77)))
  have S2 : Hid (Blk (((w.alloc (.cells #[.slice I d.insts.length ni, .slice N d.nets.length nn, .slice O d.ports.length no] 30)).alloc (.cells #[.slice C cs.length nc] 35)).alloc (.cells #[.string x.name, .int .i64 x.cell, .slice XN x.nets.length xn] 77)) (w.heap.size + 1) 35 #[.slice C cs.length nc]) := by
    have := (Blk.new (w.alloc (.cells #[.slice I d.insts.length ni, .slice N d.nets.length nn, .slice O d.ports.length no] 30)) 35 #[.slice C cs.length nc]).grows ((Grows.refl _).alloc (.cells #[.string x.name, .int .i64 x.cell, .slice XN x.nets.length xn] 77))
    exact hideIt (by simpa using this)
  have S3 : Hid (Blk (((w.alloc (.cells #[.slice I d.insts.length ni, .slice N d.nets.length nn, .slice O d.ports.length no] 30)).alloc (.cells #[.slice C cs.length nc] 35)).alloc (.cells #[.string x.name, .int .i64 x.cell, .slice XN x.nets.length xn] 77)) (w.heap.size + 1 + 1) 77 #[.string x.name, .int .i64 x.cell, .slice XN x.nets.length xn]) := by
    have := Blk.new ((w.alloc (.cells #[.slice I d.insts.length ni, .slice N d.nets.length nn, .slice O d.ports.length no] 30)).alloc (.cells #[.slice C cs.length nc] 35)) 77 #[.string x.name, .int .i64 x.cell, .slice XN x.nets.length xn]
    exact hideIt (by simpa using this)
  have HL := hideIt (RCells.keep hl g0.keeps)
  have HD := hideIt (hd.keep g0.keeps)
  have HXN := hideIt (RInts.keep hxn g0.keeps)
  have G := hideIt g0
  clear hl hd hx hxn g0
  have ew : IntKind.i64.wrap ((cs.length : Int) - 1) = (cs.length : Int) - 1 := IntWalk.i64_in _ (by omega)
  cases qc : inB x.cell 0 ((cs.length : Int) - 1)
  · have EP := hideIt (show instB cs d x = false from pB_false fun h => by have := h.cell; rw [qc] at this; cases this)
    have FC := hideIt qc
    clear qc
    have K0 : ∀ w', Grows (((w.alloc (.cells #[.slice I d.insts.length ni, .slice N d.nets.length nn, .slice O d.ports.length no] 30)).alloc (.cells #[.slice C cs.length nc] 35)).alloc (.cells #[.string x.name, .int .i64 x.cell, .slice XN x.nets.length xn] 77)) w' → w'.cell? ⟨w.heap.size, 0, none⟩ = some (.slice I d.insts.length ni) ∧ w'.cell? ⟨w.heap.size, 1, none⟩ = some (.slice N d.nets.length nn) ∧ w'.cell? ⟨w.heap.size, 2, none⟩ = some (.slice O d.ports.length no) ∧ w'.cell? ⟨w.heap.size + 1, 0, none⟩ = some (.slice C cs.length nc) ∧ w'.cell? ⟨w.heap.size + 1 + 1, 0, none⟩ = some (.string x.name) ∧ w'.cell? ⟨w.heap.size + 1 + 1, 1, none⟩ = some (.int .i64 x.cell) ∧ w'.cell? ⟨w.heap.size + 1 + 1, 2, none⟩ = some (.slice XN x.nets.length xn) ∧ Grows (((w.alloc (.cells #[.slice I d.insts.length ni, .slice N d.nets.length nn, .slice O d.ports.length no] 30)).alloc (.cells #[.slice C cs.length nc] 35)).alloc (.cells #[.string x.name, .int .i64 x.cell, .slice XN x.nets.length xn] 77)) w' := fun w' G => ⟨(G.cells.1 _ _ S1.out.lt).trans (S1.out.cell 0), (G.cells.1 _ _ S1.out.lt).trans (S1.out.cell 1), (G.cells.1 _ _ S1.out.lt).trans (S1.out.cell 2), (G.cells.1 _ _ S2.out.lt).trans (S2.out.cell 0), (G.cells.1 _ _ S3.out.lt).trans (S3.out.cell 0), (G.cells.1 _ _ S3.out.lt).trans (S3.out.cell 1), (G.cells.1 _ _ S3.out.lt).trans (S3.out.cell 2), G⟩
    have HK := hideIt K0
    clear K0
    have gg : Grows (((w.alloc (.cells #[.slice I d.insts.length ni, .slice N d.nets.length nn, .slice O d.ports.length no] 30)).alloc (.cells #[.slice C cs.length nc] 35)).alloc (.cells #[.string x.name, .int .i64 x.cell, .slice XN x.nets.length xn] 77)) (((w.alloc (.cells #[.slice I d.insts.length ni, .slice N d.nets.length nn, .slice O d.ports.length no] 30)).alloc (.cells #[.slice C cs.length nc] 35)).alloc (.cells #[.string x.name, .int .i64 x.cell, .slice XN x.nets.length xn] 77)) := Grows.refl _
    go_enter Tryz.func75, Tryz.ntmps75
    go_wp2
    refine wp_region_held_drew (S := (fun w' => w'.cell? ⟨w.heap.size, 0, none⟩ = some (.slice I d.insts.length ni) ∧ w'.cell? ⟨w.heap.size, 1, none⟩ = some (.slice N d.nets.length nn) ∧ w'.cell? ⟨w.heap.size, 2, none⟩ = some (.slice O d.ports.length no) ∧ w'.cell? ⟨w.heap.size + 1, 0, none⟩ = some (.slice C cs.length nc) ∧ w'.cell? ⟨w.heap.size + 1 + 1, 0, none⟩ = some (.string x.name) ∧ w'.cell? ⟨w.heap.size + 1 + 1, 1, none⟩ = some (.int .i64 x.cell) ∧ w'.cell? ⟨w.heap.size + 1 + 1, 2, none⟩ = some (.slice XN x.nets.length xn) ∧ Grows (((w.alloc (.cells #[.slice I d.insts.length ni, .slice N d.nets.length nn, .slice O d.ports.length no] 30)).alloc (.cells #[.slice C cs.length nc] 35)).alloc (.cells #[.string x.name, .int .i64 x.cell, .slice XN x.nets.length xn] 77)) w')) (by kernel_rfl) ?_ (fun hh0 => ?_)
    · (try dsimp only); exact HK.out _ gk
    refine regTk 0 hh0 ?_
    refine regTk 1 hh0 ?_
    refine regTk 2 hh0 ?_
    refine regTk 3 hh0 ?_
    refine regCall 4 (fun K hK => ?_)
    go_simp
    refine (lenCell_any _ HL.out).mono ?_
    rintro e wx ⟨rfl, g⟩
    replace gg := gg.gt g
    clear g
    (try go_wp2_with fail)
    refine hK.out _ _ ?_ (fun hh1 => ?_)
    · (try dsimp only); exact HK.out _ gk
    clear hK K hh0
    try simp only [Act.put, List.setIfInBounds_toArray, List.set_cons_zero, List.set_cons_succ]
    refine regTk 5 hh1 ?_
    refine regCall 6 (fun K hK => ?_)
    go_simp
    refine (within_g _ _ _ _).mono ?_
    rintro e wx ⟨rfl, g⟩
    rw [FC.out]
    replace gg := gg.gt g
    clear g
    (try go_wp2_with fail)
    refine hK.out _ _ ?_ (fun hh2 => ?_)
    · (try dsimp only); exact HK.out _ gk
    clear hK K hh1
    try simp only [Act.put, List.setIfInBounds_toArray, List.set_cons_zero, List.set_cons_succ]
    refine regTk 7 hh2 ?_
    refine regSk 8 hh2 ?_
    refine regSk 9 hh2 ?_
    refine regSk 10 hh2 ?_
    refine regSk 11 hh2 ?_
    refine regSk 12 hh2 ?_
    refine regSk 13 hh2 ?_
    refine regSk 14 hh2 ?_
    refine regSk 15 hh2 ?_
    refine regSk 16 hh2 ?_
    refine regSk 17 hh2 ?_
    refine regSk 18 hh2 ?_
    refine regSk 19 hh2 ?_
    refine regTk 20 hh2 ?_
    refine regTk 21 hh2 ?_
    refine regSk 22 hh2 ?_
    refine regSk 23 hh2 ?_
    refine regSk 24 hh2 ?_
    refine regSk 25 hh2 ?_
    refine regSk 26 hh2 ?_
    refine regTk 27 hh2 ?_
    refine regTk 28 hh2 ?_
    refine wpAnyH_done (by kernel_rfl) ?_ _
    go_wp2
    go_ret
    exact ⟨ret_bool EP.out.symm, G.out.trans gk⟩
  have hb := inB_true qc
  obtain ⟨ci, hci⟩ : ∃ ci : Nat, x.cell = (ci : Int) := ⟨x.cell.toNat, by omega⟩
  have hcl : ci < cs.length := by omega
  obtain ⟨cc, hcc⟩ : ∃ cc, cs[ci]? = some cc := ⟨_, List.getElem?_eq_getElem hcl⟩
  have i0 : (0 : Int) ≤ x.cell := by omega
  have i1 : x.cell < (cs.length : Int) := by omega
  have i2 : x.cell.toNat = ci := by omega
  obtain ⟨bl, ol_, PB, pm, eC, hpc, hpr⟩ := pins_at HL.out hcc
  subst eC
  have PL := RList.len hpr
  have kp := hideIt hpc
  have lbl := hideIt (cell_lt kp.out)
  have CC := hideIt hcc
  have FC := hideIt qc
  clear hpc hpr hcc hb qc hci
  by_cases hpn : x.nets.length = cc.pins.length
  rotate_left
  · have EP := hideIt (show instB cs d x = false from pB_false fun h => hpn (h.pins cc (by rw [i2]; exact CC.out)))
    have hp1 : ((x.nets.length : Int) == (cc.pins.length : Int)) = false := by rw [beq_eq_false_iff_ne]; omega
    clear hpn
    have K0 : ∀ w', Grows (((w.alloc (.cells #[.slice I d.insts.length ni, .slice N d.nets.length nn, .slice O d.ports.length no] 30)).alloc (.cells #[.slice (some ⟨bl, ol_, none⟩) cs.length nc] 35)).alloc (.cells #[.string x.name, .int .i64 x.cell, .slice XN x.nets.length xn] 77)) w' → w'.cell? ⟨w.heap.size, 0, none⟩ = some (.slice I d.insts.length ni) ∧ w'.cell? ⟨w.heap.size, 1, none⟩ = some (.slice N d.nets.length nn) ∧ w'.cell? ⟨w.heap.size, 2, none⟩ = some (.slice O d.ports.length no) ∧ w'.cell? ⟨w.heap.size + 1, 0, none⟩ = some (.slice (some ⟨bl, ol_, none⟩) cs.length nc) ∧ w'.cell? ⟨w.heap.size + 1 + 1, 0, none⟩ = some (.string x.name) ∧ w'.cell? ⟨w.heap.size + 1 + 1, 1, none⟩ = some (.int .i64 x.cell) ∧ w'.cell? ⟨w.heap.size + 1 + 1, 2, none⟩ = some (.slice XN x.nets.length xn) ∧ w'.cell? ⟨bl, ol_ + ci * 7 + 2, none⟩ = some (.slice PB cc.pins.length pm) ∧ Grows (((w.alloc (.cells #[.slice I d.insts.length ni, .slice N d.nets.length nn, .slice O d.ports.length no] 30)).alloc (.cells #[.slice (some ⟨bl, ol_, none⟩) cs.length nc] 35)).alloc (.cells #[.string x.name, .int .i64 x.cell, .slice XN x.nets.length xn] 77)) w' := fun w' G => ⟨(G.cells.1 _ _ S1.out.lt).trans (S1.out.cell 0), (G.cells.1 _ _ S1.out.lt).trans (S1.out.cell 1), (G.cells.1 _ _ S1.out.lt).trans (S1.out.cell 2), (G.cells.1 _ _ S2.out.lt).trans (S2.out.cell 0), (G.cells.1 _ _ S3.out.lt).trans (S3.out.cell 0), (G.cells.1 _ _ S3.out.lt).trans (S3.out.cell 1), (G.cells.1 _ _ S3.out.lt).trans (S3.out.cell 2), (G.cells.1 _ _ (by have := lbl.out; simp at this ⊢; omega)).trans kp.out, G⟩
    have HK := hideIt K0
    clear K0
    have gg : Grows (((w.alloc (.cells #[.slice I d.insts.length ni, .slice N d.nets.length nn, .slice O d.ports.length no] 30)).alloc (.cells #[.slice (some ⟨bl, ol_, none⟩) cs.length nc] 35)).alloc (.cells #[.string x.name, .int .i64 x.cell, .slice XN x.nets.length xn] 77)) (((w.alloc (.cells #[.slice I d.insts.length ni, .slice N d.nets.length nn, .slice O d.ports.length no] 30)).alloc (.cells #[.slice (some ⟨bl, ol_, none⟩) cs.length nc] 35)).alloc (.cells #[.string x.name, .int .i64 x.cell, .slice XN x.nets.length xn] 77)) := Grows.refl _
    go_enter Tryz.func75, Tryz.ntmps75
    go_wp2
    refine wp_region_held_drew (S := (fun w' => w'.cell? ⟨w.heap.size, 0, none⟩ = some (.slice I d.insts.length ni) ∧ w'.cell? ⟨w.heap.size, 1, none⟩ = some (.slice N d.nets.length nn) ∧ w'.cell? ⟨w.heap.size, 2, none⟩ = some (.slice O d.ports.length no) ∧ w'.cell? ⟨w.heap.size + 1, 0, none⟩ = some (.slice (some ⟨bl, ol_, none⟩) cs.length nc) ∧ w'.cell? ⟨w.heap.size + 1 + 1, 0, none⟩ = some (.string x.name) ∧ w'.cell? ⟨w.heap.size + 1 + 1, 1, none⟩ = some (.int .i64 x.cell) ∧ w'.cell? ⟨w.heap.size + 1 + 1, 2, none⟩ = some (.slice XN x.nets.length xn) ∧ w'.cell? ⟨bl, ol_ + ci * 7 + 2, none⟩ = some (.slice PB cc.pins.length pm) ∧ Grows (((w.alloc (.cells #[.slice I d.insts.length ni, .slice N d.nets.length nn, .slice O d.ports.length no] 30)).alloc (.cells #[.slice (some ⟨bl, ol_, none⟩) cs.length nc] 35)).alloc (.cells #[.string x.name, .int .i64 x.cell, .slice XN x.nets.length xn] 77)) w')) (by kernel_rfl) ?_ (fun hh0 => ?_)
    · (try dsimp only); exact HK.out _ gk
    refine regTk 0 hh0 ?_
    refine regTk 1 hh0 ?_
    refine regTk 2 hh0 ?_
    refine regTk 3 hh0 ?_
    refine regCall 4 (fun K hK => ?_)
    go_simp
    refine (lenCell_any _ HL.out).mono ?_
    rintro e wx ⟨rfl, g⟩
    replace gg := gg.gt g
    clear g
    (try go_wp2_with fail)
    refine hK.out _ _ ?_ (fun hh1 => ?_)
    · (try dsimp only); exact HK.out _ gk
    clear hK K hh0
    try simp only [Act.put, List.setIfInBounds_toArray, List.set_cons_zero, List.set_cons_succ]
    refine regTk 5 hh1 ?_
    refine regCall 6 (fun K hK => ?_)
    go_simp
    refine (within_g _ _ _ _).mono ?_
    rintro e wx ⟨rfl, g⟩
    rw [FC.out]
    replace gg := gg.gt g
    clear g
    (try go_wp2_with fail)
    refine hK.out _ _ ?_ (fun hh2 => ?_)
    · (try dsimp only); exact HK.out _ gk
    clear hK K hh1
    try simp only [Act.put, List.setIfInBounds_toArray, List.set_cons_zero, List.set_cons_succ]
    refine regTk 7 hh2 ?_
    refine regTk 8 hh2 ?_
    refine regTk 9 hh2 ?_
    refine regTk 10 hh2 ?_
    refine regTk 11 hh2 ?_
    refine regTk 12 hh2 ?_
    refine regTk 13 hh2 ?_
    refine regTk 14 hh2 ?_
    refine regTk 15 hh2 ?_
    refine regTk 16 hh2 ?_
    refine regTk 17 hh2 ?_
    refine regTk 18 hh2 ?_
    refine regTk 19 hh2 ?_
    refine regTk 20 hh2 ?_
    refine regTk 21 hh2 ?_
    refine regSk 22 hh2 ?_
    refine regSk 23 hh2 ?_
    refine regSk 24 hh2 ?_
    refine regSk 25 hh2 ?_
    refine regSk 26 hh2 ?_
    refine regTk 27 hh2 ?_
    refine regTk 28 hh2 ?_
    refine wpAnyH_done (by kernel_rfl) ?_ _
    go_wp2
    go_ret
    exact ⟨ret_bool EP.out.symm, G.out.trans gk⟩
  have hp1 : ((x.nets.length : Int) == (cc.pins.length : Int)) = true := by rw [beq_iff_eq]; omega
  have HPN := hideIt hpn
  clear hpn
  obtain ⟨q, hq⟩ : ∃ q, (x.nets.any fun n => !netIn d n) = q := ⟨_, rfl⟩
  have EP : Hid (instB cs d x = !q) := hideIt (by
    rw [← hq, any_notN]
    cases hqq : x.nets.all (netIn d)
    · exact pB_false fun h => by have := h.nets; rw [hqq] at this; cases this
    · exact pB_true ⟨FC.out, fun c hc => by rw [i2, CC.out] at hc; injection hc with hc; rw [← hc]; exact HPN.out, hqq⟩)
  have FA := hideIt hq
  clear hq
  have K0 : ∀ w', Grows (((w.alloc (.cells #[.slice I d.insts.length ni, .slice N d.nets.length nn, .slice O d.ports.length no] 30)).alloc (.cells #[.slice (some ⟨bl, ol_, none⟩) cs.length nc] 35)).alloc (.cells #[.string x.name, .int .i64 x.cell, .slice XN x.nets.length xn] 77)) w' → w'.cell? ⟨w.heap.size, 0, none⟩ = some (.slice I d.insts.length ni) ∧ w'.cell? ⟨w.heap.size, 1, none⟩ = some (.slice N d.nets.length nn) ∧ w'.cell? ⟨w.heap.size, 2, none⟩ = some (.slice O d.ports.length no) ∧ w'.cell? ⟨w.heap.size + 1, 0, none⟩ = some (.slice (some ⟨bl, ol_, none⟩) cs.length nc) ∧ w'.cell? ⟨w.heap.size + 1 + 1, 0, none⟩ = some (.string x.name) ∧ w'.cell? ⟨w.heap.size + 1 + 1, 1, none⟩ = some (.int .i64 x.cell) ∧ w'.cell? ⟨w.heap.size + 1 + 1, 2, none⟩ = some (.slice XN x.nets.length xn) ∧ w'.cell? ⟨bl, ol_ + ci * 7 + 2, none⟩ = some (.slice PB cc.pins.length pm) ∧ Grows (((w.alloc (.cells #[.slice I d.insts.length ni, .slice N d.nets.length nn, .slice O d.ports.length no] 30)).alloc (.cells #[.slice (some ⟨bl, ol_, none⟩) cs.length nc] 35)).alloc (.cells #[.string x.name, .int .i64 x.cell, .slice XN x.nets.length xn] 77)) w' := fun w' G => ⟨(G.cells.1 _ _ S1.out.lt).trans (S1.out.cell 0), (G.cells.1 _ _ S1.out.lt).trans (S1.out.cell 1), (G.cells.1 _ _ S1.out.lt).trans (S1.out.cell 2), (G.cells.1 _ _ S2.out.lt).trans (S2.out.cell 0), (G.cells.1 _ _ S3.out.lt).trans (S3.out.cell 0), (G.cells.1 _ _ S3.out.lt).trans (S3.out.cell 1), (G.cells.1 _ _ S3.out.lt).trans (S3.out.cell 2), (G.cells.1 _ _ (by have := lbl.out; simp at this ⊢; omega)).trans kp.out, G⟩
  have HK := hideIt K0
  clear K0
  have gg : Grows (((w.alloc (.cells #[.slice I d.insts.length ni, .slice N d.nets.length nn, .slice O d.ports.length no] 30)).alloc (.cells #[.slice (some ⟨bl, ol_, none⟩) cs.length nc] 35)).alloc (.cells #[.string x.name, .int .i64 x.cell, .slice XN x.nets.length xn] 77)) (((w.alloc (.cells #[.slice I d.insts.length ni, .slice N d.nets.length nn, .slice O d.ports.length no] 30)).alloc (.cells #[.slice (some ⟨bl, ol_, none⟩) cs.length nc] 35)).alloc (.cells #[.string x.name, .int .i64 x.cell, .slice XN x.nets.length xn] 77)) := Grows.refl _
  go_enter Tryz.func75, Tryz.ntmps75
  go_wp2
  refine wp_region_held_drew (S := (fun w' => w'.cell? ⟨w.heap.size, 0, none⟩ = some (.slice I d.insts.length ni) ∧ w'.cell? ⟨w.heap.size, 1, none⟩ = some (.slice N d.nets.length nn) ∧ w'.cell? ⟨w.heap.size, 2, none⟩ = some (.slice O d.ports.length no) ∧ w'.cell? ⟨w.heap.size + 1, 0, none⟩ = some (.slice (some ⟨bl, ol_, none⟩) cs.length nc) ∧ w'.cell? ⟨w.heap.size + 1 + 1, 0, none⟩ = some (.string x.name) ∧ w'.cell? ⟨w.heap.size + 1 + 1, 1, none⟩ = some (.int .i64 x.cell) ∧ w'.cell? ⟨w.heap.size + 1 + 1, 2, none⟩ = some (.slice XN x.nets.length xn) ∧ w'.cell? ⟨bl, ol_ + ci * 7 + 2, none⟩ = some (.slice PB cc.pins.length pm) ∧ Grows (((w.alloc (.cells #[.slice I d.insts.length ni, .slice N d.nets.length nn, .slice O d.ports.length no] 30)).alloc (.cells #[.slice (some ⟨bl, ol_, none⟩) cs.length nc] 35)).alloc (.cells #[.string x.name, .int .i64 x.cell, .slice XN x.nets.length xn] 77)) w')) (by kernel_rfl) ?_ (fun hh0 => ?_)
  · (try dsimp only); exact HK.out _ gk
  refine regTk 0 hh0 ?_
  refine regTk 1 hh0 ?_
  refine regTk 2 hh0 ?_
  refine regTk 3 hh0 ?_
  refine regCall 4 (fun K hK => ?_)
  go_simp
  refine (lenCell_any _ HL.out).mono ?_
  rintro e wx ⟨rfl, g⟩
  replace gg := gg.gt g
  clear g
  (try go_wp2_with fail)
  refine hK.out _ _ ?_ (fun hh1 => ?_)
  · (try dsimp only); exact HK.out _ gk
  clear hK K hh0
  try simp only [Act.put, List.setIfInBounds_toArray, List.set_cons_zero, List.set_cons_succ]
  refine regTk 5 hh1 ?_
  refine regCall 6 (fun K hK => ?_)
  go_simp
  refine (within_g _ _ _ _).mono ?_
  rintro e wx ⟨rfl, g⟩
  rw [FC.out]
  replace gg := gg.gt g
  clear g
  (try go_wp2_with fail)
  refine hK.out _ _ ?_ (fun hh2 => ?_)
  · (try dsimp only); exact HK.out _ gk
  clear hK K hh1
  try simp only [Act.put, List.setIfInBounds_toArray, List.set_cons_zero, List.set_cons_succ]
  refine regTk 7 hh2 ?_
  refine regTk 8 hh2 ?_
  refine regTk 9 hh2 ?_
  refine regTk 10 hh2 ?_
  refine regTk 11 hh2 ?_
  refine regTk 12 hh2 ?_
  refine regTk 13 hh2 ?_
  refine regTk 14 hh2 ?_
  refine regTk 15 hh2 ?_
  refine regTk 16 hh2 ?_
  refine regTk 17 hh2 ?_
  refine regTk 18 hh2 ?_
  refine regTk 19 hh2 ?_
  refine regTk 20 hh2 ?_
  refine regTk 21 hh2 ?_
  refine regTk 22 hh2 ?_
  refine regTk 23 hh2 ?_
  refine regTk 24 hh2 ?_
  refine regCall 25 (fun K hK => ?_)
  go_simp
  refine (containsFuncI64_any 102 _ (fun args W => enters_of Tryz.func102 (by kernel_rfl) rfl args W) (fun n => !netIn d n) _ (RInts.keep HXN.out (Grows.keeps gk)) ?_).mono ?_
  · intro y c0 W _ gw hr
    unfold RI at hr
    injection hr with hr
    subst hr
    have gq := Grows.trans gk gw
    obtain ⟨z0, z1, z2, -⟩ := HK.out _ gq
    exact isInst1_any y _ W (HD.out.keep gq.keeps) z0 z1 z2
  rintro e wx ⟨rfl, g⟩
  rw [FA.out]
  replace gg := gg.gt g
  clear g
  (try go_wp2_with fail)
  refine hK.out _ _ ?_ (fun hh3 => ?_)
  · (try dsimp only); exact HK.out _ gk
  clear hK K hh2
  try simp only [Act.put, List.setIfInBounds_toArray, List.set_cons_zero, List.set_cons_succ]
  refine regTk 26 hh3 ?_
  refine regTk 27 hh3 ?_
  refine regTk 28 hh3 ?_
  refine wpAnyH_done (by kernel_rfl) ?_ _
  go_wp2
  go_ret
  exact ⟨ret_bool EP.out.symm, G.out.trans gk⟩
end Go.Proofs.YtocahjbmnkadjaaGreatDoor
/-
  Contract of the program's test of the names of a design.
-/
namespace Go.Proofs.YtocahjbmnkadjaaGreatDoor
open Go.RowKit
structure HasP (d : DesignD) : Prop where
  ni : d.insts.length ≤ 14
  nn : d.nets.length ≤ 30
  np : d.ports.length ≤ 8
  iname : NamesP (d.insts.map (·.name))
  nname : NamesP d.nets
  pname : NamesP (d.ports.map (·.name))
set_option maxHeartbeats 8000000 in
set_option maxRecDepth 10000 in
theorem hasNames_any {a b c : Value} {d : DesignD} (w : World) (hd : RDesign w [a, b, c] d) (hs : SmDesign d) :
    Calls Tryz.prog 74 #[.agg #[a, b, c]] w fun e w' => e = .returned (.bool (pB (HasP d))) ∧ Grows w w' := by
  obtain ⟨i0, hi, hz0, hz1, hz2⟩ := info_parts info_str
  have il := RList.len hd.parts.1
  have nl := RList.len hd.parts.2.1
  have ol := RList.len hd.parts.2.2
  have is_ := hs.1.1
  have ns_ := hs.2.1.1
  have os_ := hs.2.2.1
  unfold SmL at is_ ns_ os_
  obtain ⟨I, N, O, ni, nn, no, rfl, rfl, rfl⟩ := des_open hd
  have g0 := (Grows.refl w).alloc (.cells #[.slice I d.insts.length ni, .slice N d.nets.length nn, .slice O d.ports.length no] 30)
  have S := hideIt (Blk.new w 30 #[.slice I d.insts.length ni, .slice N d.nets.length nn, .slice O d.ports.length no])
  have HI := hideIt (RInsts.keep hd.parts.1 g0.keeps)
  have HN := hideIt (RStrs.keep hd.parts.2.1 g0.keeps)
  have HO := hideIt (RPorts.keep hd.parts.2.2 g0.keeps)
  have G := hideIt g0
  clear hd g0 hs
  go_enter Tryz.func74, Tryz.ntmps74
  go_wp2
  go_loopw [3, 6, 12] (fun s _ i wr => ∃ (nv : Value) (k : Nat), nv = s ∧ k ≤ d.insts.length ∧ i = .int .i64 (k : Int) ∧ Hid (wr.ownsRow (w.heap.size + 1) 9 1 nv k (inV d.insts k)) ∧ Grows (w.alloc (.cells #[.slice I d.insts.length ni, .slice N d.nets.length nn, .slice O d.ports.length no] 30)) wr) (fun _ _ i _ => d.insts.length - (intOf i).toNat)
  case atStart => exact ⟨_, 0, rfl, by omega, rfl, World.ownsRow_nil _ _ _ _, Grows.refl _⟩
  case round =>
    obtain ⟨nv, k, rfl, hk, rfl, hown, hg⟩ := hrel
    have HG := hideIt hg
    have GA := hideIt (G.out.trans hg)
    have S2 := hideIt (S.out.grows hg)
    clear hg
    have kd0 : wr.cell? ⟨w.heap.size, 0, none⟩ = some (.slice I d.insts.length ni) := S2.out.cell 0
    have kd1 : wr.cell? ⟨w.heap.size, 1, none⟩ = some (.slice N d.nets.length nn) := S2.out.cell 1
    have kd2 : wr.cell? ⟨w.heap.size, 2, none⟩ = some (.slice O d.ports.length no) := S2.out.cell 2
    have kdz := S2.out.lt
    by_cases hlt : k < d.insts.length
    · obtain ⟨x, hx⟩ : ∃ x, d.insts[k]? = some x := ⟨_, List.getElem?_eq_getElem hlt⟩
      obtain ⟨bi, oi, XN, xn, rfl, q0, q1, q2, -, -⟩ := inst_at (RInsts.keep HI.out HG.out.keeps) hx
      have X1 := hideIt hx
      clear hx
      have own1 := hideIt ((hown.out.alloc (.cells #[.string x.name, .int .i64 x.cell, .slice XN x.nets.length xn] 77)).alloc (.cells #[.string x.name] 9))
      have G3 := hideIt ((HG.out.alloc (.cells #[.string x.name, .int .i64 x.cell, .slice XN x.nets.length xn] 77)).alloc (.cells #[.string x.name] 9))
      have nlt : Hid (∀ q, nv.ownBlock = some q → w.heap.size + 1 ≤ q ∧ q < wr.heap.size) := hideIt hown.out.lt
      go_wp2_with (at_builtin; refine wpList_append_own _ rfl _ _ 27 rfl (w.heap.size + 1) 9 i0 (.string .empty) 1 16 Tryz.underlying27 hi hz0 hz1 hz2 rfl (by decide) nv k (inV d.insts k) rfl own1.out ⟨wr.heap.size + 1, 0, none⟩ 1 1 [.string x.name] rfl ?c1 ?c2 ?c3 ?c4 ?c5 ?c6 ?_)
      case c1 => simp
      case c2 =>
        intro j u hj
        match j, hj with
        | 0, hj => simp at hj; subst hj; simp [Addr.add]
      case c3 => intro u hu; simp at hu; subst hu; rfl
      case c4 => unfold maxLen; omega
      case c5 => omega
      case c6 => have := G3.out.size; simpa using this
      intro v' w3 hown2 hgrow hnil
      have G4 := hideIt (G3.out.grown hgrow (fun q e => by have h1 := (nlt.out q e).1; simpa using h1))
      have OW := hideIt (show w3.ownsRow (w.heap.size + 1) 9 1 v' (k + 1) (inV d.insts (k + 1)) by rw [inV_succ X1.out]; exact hown2)
      have xg : w3.cell? ⟨wr.heap.size, 0, none⟩ = w3.cell? ⟨wr.heap.size, 0, none⟩ := rfl
      clear hown2 hgrow hnil own1 q0 q1 q2 xg
      go_wp2
      go_roundw
      case rel => exact ⟨_, k + 1, rfl, by omega, by go_num, OW.out, G4.out⟩
      case measure => simp [intOf]; omega
    · obtain rfl : k = d.insts.length := by omega
      have RS1 : Hid (RStrs wr nv (d.insts.map (·.name))) := hideIt (own_strs (n := d.insts.length) (base := w.heap.size + 1) (xs := d.insts.map (·.name)) (by simp) (by have := hown.out; unfold inV at this; rw [List.take_length] at this; exact this) (fun s hs => by
        obtain ⟨p, hp, rfl⟩ := List.mem_map.1 hs
        obtain ⟨m, hm⟩ := List.getElem?_of_mem hp
        obtain ⟨_, _, _, _, -, -, -, -, -, hz⟩ := inst_at HI.out hm
        exact hz))
      obtain ⟨w3, ew3⟩ : ∃ w3 : World, w3 = wr := ⟨_, rfl⟩
      subst ew3
      clear hown
      go_wp2
      go_loopw [4, 8, 25] (fun s _ i wr => ∃ (nv : Value) (k : Nat), nv = s ∧ k ≤ d.ports.length ∧ i = .int .i64 (k : Int) ∧ Hid (wr.ownsRow w3.heap.size 9 1 nv k (poV d.ports k)) ∧ Grows w3 wr) (fun _ _ i _ => d.ports.length - (intOf i).toNat)
      case atStart => exact ⟨_, 0, rfl, by omega, rfl, World.ownsRow_nil _ _ _ _, Grows.refl _⟩
      case round =>
        obtain ⟨nw, k, rfl, hk, rfl, hown, hg⟩ := hrel
        have HH := hideIt hg
        have Y2 := hideIt (S2.out.grows hg)
        clear hg kd0 kd1 kd2 kdz
        have kd0 : wr.cell? ⟨w.heap.size, 0, none⟩ = some (.slice I d.insts.length ni) := Y2.out.cell 0
        have kd1 : wr.cell? ⟨w.heap.size, 1, none⟩ = some (.slice N d.nets.length nn) := Y2.out.cell 1
        have kd2 : wr.cell? ⟨w.heap.size, 2, none⟩ = some (.slice O d.ports.length no) := Y2.out.cell 2
        have kdz := Y2.out.lt
        by_cases hlt : k < d.ports.length
        · obtain ⟨x, hx⟩ : ∃ x, d.ports[k]? = some x := ⟨_, List.getElem?_eq_getElem hlt⟩
          obtain ⟨bi, oi, rfl, q0, q1, q2, -⟩ := port_at (RPorts.keep HO.out (HG.out.trans HH.out).keeps) hx
          have X1 := hideIt hx
          clear hx
          have own1 := hideIt ((hown.out.alloc (.cells #[.string x.name, .int .i64 x.dir, .int .i64 x.net] 75)).alloc (.cells #[.string x.name] 9))
          have G3 := hideIt ((HH.out.alloc (.cells #[.string x.name, .int .i64 x.dir, .int .i64 x.net] 75)).alloc (.cells #[.string x.name] 9))
          have nlt : Hid (∀ q, nw.ownBlock = some q → w3.heap.size ≤ q ∧ q < wr.heap.size) := hideIt hown.out.lt
          go_wp2_with (at_builtin; refine wpList_append_own _ rfl _ _ 27 rfl w3.heap.size 9 i0 (.string .empty) 1 16 Tryz.underlying27 hi hz0 hz1 hz2 rfl (by decide) nw k (poV d.ports k) rfl own1.out ⟨wr.heap.size + 1, 0, none⟩ 1 1 [.string x.name] rfl ?c1 ?c2 ?c3 ?c4 ?c5 ?c6 ?_)
          case c1 => simp
          case c2 =>
            intro j u hj
            match j, hj with
            | 0, hj => simp at hj; subst hj; simp [Addr.add]
          case c3 => intro u hu; simp at hu; subst hu; rfl
          case c4 => unfold maxLen; omega
          case c5 => omega
          case c6 => have := G3.out.size; simpa using this
          intro v' w4 hown2 hgrow hnil
          have G4 := hideIt (G3.out.grown hgrow (fun q e => (nlt.out q e).1))
          have OW := hideIt (show w4.ownsRow w3.heap.size 9 1 v' (k + 1) (poV d.ports (k + 1)) by rw [poV_succ X1.out]; exact hown2)
          clear hown2 hgrow hnil own1 q0 q1 q2
          go_wp2
          go_roundw
          case rel => exact ⟨_, k + 1, rfl, by omega, by go_num, OW.out, G4.out⟩
          case measure => simp [intOf]; omega
        · obtain rfl : k = d.ports.length := by omega
          have RS2 : Hid (RStrs wr nw (d.ports.map (·.name))) := hideIt (own_strs (n := d.ports.length) (base := w3.heap.size) (xs := d.ports.map (·.name)) (by simp) (by have := hown.out; unfold poV at this; rw [List.take_length] at this; exact this) (fun s hs => by
            obtain ⟨p, hp, rfl⟩ := List.mem_map.1 hs
            obtain ⟨m, hm⟩ := List.getElem?_of_mem hp
            obtain ⟨_, _, -, -, -, -, hz⟩ := port_at HO.out hm
            exact hz))
          have R1 := hideIt (RStrs.keep RS1.out HH.out.keeps)
          have R3 := hideIt (RStrs.keep HN.out (HG.out.trans HH.out).keeps)
          have GZ := hideIt (GA.out.trans HH.out)
          obtain ⟨v1, n1, e1⟩ : ∃ (A : Option Addr) (n : Nat), nv = .slice A d.insts.length n := by obtain ⟨A, c, e, -⟩ := RList.form R1.out; exact ⟨A, c, by rw [e]; simp⟩
          obtain ⟨v2, n2, e2⟩ : ∃ (A : Option Addr) (n : Nat), nw = .slice A d.ports.length n := by obtain ⟨A, c, e, -⟩ := RList.form RS2.out; exact ⟨A, c, by rw [e]; simp⟩
          subst e1 e2
          clear hown
          by_cases hni : d.insts.length ≤ 14
          rotate_left
          · have EP := hideIt (pB_false (p := HasP d) fun h => hni h.ni)
            have bni : decide ((d.insts.length : Int) ≤ 14) = false := decide_eq_false (by omega)
            clear hni
            go_wp2
            go_ret
            exact ⟨ret_bool EP.out.symm, GZ.out⟩
          have bni : decide ((d.insts.length : Int) ≤ 14) = true := decide_eq_true (by omega)
          by_cases hnn : d.nets.length ≤ 30
          rotate_left
          · have EP := hideIt (pB_false (p := HasP d) fun h => hnn h.nn)
            have bnn : decide ((d.nets.length : Int) ≤ 30) = false := decide_eq_false (by omega)
            clear hnn
            go_wp2
            go_ret
            exact ⟨ret_bool EP.out.symm, GZ.out⟩
          have bnn : decide ((d.nets.length : Int) ≤ 30) = true := decide_eq_true (by omega)
          by_cases hnp : d.ports.length ≤ 8
          rotate_left
          · have EP := hideIt (pB_false (p := HasP d) fun h => hnp h.np)
            have bnp : decide ((d.ports.length : Int) ≤ 8) = false := decide_eq_false (by omega)
            clear hnp
            go_wp2
            go_ret
            exact ⟨ret_bool EP.out.symm, GZ.out⟩
          have bnp : decide ((d.ports.length : Int) ≤ 8) = true := decide_eq_true (by omega)
          go_wp2_with fail
          refine (areNames_any _ R1.out).mono ?_
          rintro e u0 ⟨rfl, gu⟩
          have GU0 := hideIt (GZ.out.trans gu)
          have YU0 := hideIt (Y2.out.grows gu)
          replace R3 := hideIt (RStrs.keep R3.out gu.keeps)
          replace RS2 := hideIt (RStrs.keep RS2.out gu.keeps)
          clear gu kd0 kd1 kd2 kdz
          have kd0 : u0.cell? ⟨w.heap.size, 0, none⟩ = some (.slice I d.insts.length ni) := YU0.out.cell 0
          have kd1 : u0.cell? ⟨w.heap.size, 1, none⟩ = some (.slice N d.nets.length nn) := YU0.out.cell 1
          have kd2 : u0.cell? ⟨w.heap.size, 2, none⟩ = some (.slice O d.ports.length no) := YU0.out.cell 2
          have kdz := YU0.out.lt
          cases e0 : pB (NamesP (d.insts.map (·.name)))
          · have EP := hideIt (pB_false (p := HasP d) fun h => by have := pB_true h.iname; rw [this] at e0; cases e0)
            clear e0
            go_wp2
            go_ret
            exact ⟨ret_bool EP.out.symm, GU0.out⟩
          have N0 := hideIt (pB_iff.1 e0)
          clear e0
          go_wp2_with fail
          refine (areNames_any _ R3.out).mono ?_
          rintro e u1 ⟨rfl, gu⟩
          have GU1 := hideIt (GU0.out.trans gu)
          have YU1 := hideIt (YU0.out.grows gu)
          replace RS2 := hideIt (RStrs.keep RS2.out gu.keeps)
          clear gu kd0 kd1 kd2 kdz
          have kd0 : u1.cell? ⟨w.heap.size, 0, none⟩ = some (.slice I d.insts.length ni) := YU1.out.cell 0
          have kd1 : u1.cell? ⟨w.heap.size, 1, none⟩ = some (.slice N d.nets.length nn) := YU1.out.cell 1
          have kd2 : u1.cell? ⟨w.heap.size, 2, none⟩ = some (.slice O d.ports.length no) := YU1.out.cell 2
          have kdz := YU1.out.lt
          cases e1 : pB (NamesP (d.nets))
          · have EP := hideIt (pB_false (p := HasP d) fun h => by have := pB_true h.nname; rw [this] at e1; cases e1)
            clear e1
            go_wp2
            go_ret
            exact ⟨ret_bool EP.out.symm, GU1.out⟩
          have N1 := hideIt (pB_iff.1 e1)
          clear e1
          go_wp2_with fail
          refine (areNames_any _ RS2.out).mono ?_
          rintro e u2 ⟨rfl, gu⟩
          have GU2 := hideIt (GU1.out.trans gu)
          have YU2 := hideIt (YU1.out.grows gu)
          clear gu kd0 kd1 kd2 kdz
          have kd0 : u2.cell? ⟨w.heap.size, 0, none⟩ = some (.slice I d.insts.length ni) := YU2.out.cell 0
          have kd1 : u2.cell? ⟨w.heap.size, 1, none⟩ = some (.slice N d.nets.length nn) := YU2.out.cell 1
          have kd2 : u2.cell? ⟨w.heap.size, 2, none⟩ = some (.slice O d.ports.length no) := YU2.out.cell 2
          have kdz := YU2.out.lt
          cases e2 : pB (NamesP (d.ports.map (·.name)))
          · have EP := hideIt (pB_false (p := HasP d) fun h => by have := pB_true h.pname; rw [this] at e2; cases e2)
            clear e2
            go_wp2
            go_ret
            exact ⟨ret_bool EP.out.symm, GU2.out⟩
          have N2 := hideIt (pB_iff.1 e2)
          clear e2
          have EP := hideIt (pB_true (p := HasP d) ⟨hni, hnn, hnp, N0.out, N1.out, N2.out⟩)
          go_wp2
          go_ret
          exact ⟨ret_bool EP.out.symm, GU2.out⟩
end Go.Proofs.YtocahjbmnkadjaaGreatDoor
