/-
  Contract of the reference's test of the parts of a design.
-/
import Derived.Test.YtocahjbmnkadjaaGreatDoorGM
import Derived.Test.YtocahjbmnkadjaaGreatDoorGD
import Derived.Test.YtocahjbmnkadjaaGreatDoorGJ
namespace Go.Proofs.YtocahjbmnkadjaaGreatDoor
open Go.RowKit
def PartsP (cs : List CellD) (d : DesignD) : Prop := (∀ (i : Nat) (x : InstD), d.insts[i]? = some x → InstOk cs d x) ∧ ∀ (i : Nat) (p : PortD), d.ports[i]? = some p → PortOk d p
theorem l01In_g (n lo hi : Int) (w : World) : Calls Tryz.prog 60 #[.int .i64 n, .int .i64 lo, .int .i64 hi] w fun e w' => e = .returned (.bool (inB n lo hi)) ∧ Grows w w' :=
  (l01In_any n lo hi w).mono fun _ _ ⟨he, hw⟩ => ⟨he, by rw [← hw]; exact Grows.refl _⟩
/-- a list of integers as the walk meets it -/
theorem ints_at {w : World} {A : Option Addr} {n : Nat} {xs : List Int} (h : RInts w (.slice A xs.length n) xs) {i : Nat} {v : Int} (hi : xs[i]? = some v) : ∃ b off : Nat, A = some ⟨b, off, none⟩ ∧ w.cell? ⟨b, off + i, none⟩ = some (.int .i64 v) := by
  obtain ⟨A', n', e, -, -, hx⟩ := RList.form h
  injection e with e1 e2
  subst e1
  obtain ⟨b, off, rfl, ds, hl1, hcs, hr⟩ := hx i v hi
  unfold RI at hr
  subst hr
  exact ⟨b, off, rfl, by simpa using hcs 0 _ rfl⟩
/-- the pins of a cell of a library as the walk meets them -/
theorem pins_at {w : World} {A : Option Addr} {n : Nat} {cs : List CellD} (h : RCells w (.slice A cs.length n) cs) {i : Nat} {c : CellD} (hi : cs[i]? = some c) : ∃ (b off : Nat) (B : Option Addr) (m : Nat), A = some ⟨b, off, none⟩ ∧ w.cell? ⟨b, off + i * 7 + 2, none⟩ = some (.slice B c.pins.length m) ∧ RPins w (.slice B c.pins.length m) c.pins := by
  obtain ⟨A', n', e, -, -, hx⟩ := RList.form h
  injection e with e1 e2
  subst e1
  obtain ⟨b, off, rfl, ds, hl1, hcs, hr⟩ := hx i c hi
  obtain ⟨d0, d1, d2, d3, d4, d5, d6, rfl⟩ := list7 hl1
  obtain ⟨rfl, rfl, h2, -⟩ := hr.parts
  obtain ⟨B, m, rfl⟩ : ∃ (D : Option Addr) (nd : Nat), d2 = .slice D c.pins.length nd := by obtain ⟨D, c, e, -⟩ := RList.form h2; exact ⟨D, c, e⟩
  exact ⟨b, off, B, m, rfl, by simpa [Nat.add_assoc] using hcs 2 _ rfl, h2⟩
/-- an instance of a design as the walk meets it -/
theorem inst_at {w : World} {A : Option Addr} {n : Nat} {xs : List InstD} (h : RInsts w (.slice A xs.length n) xs) {i : Nat} {x : InstD} (hi : xs[i]? = some x) : ∃ (b off : Nat) (B : Option Addr) (m : Nat), A = some ⟨b, off, none⟩ ∧ w.cell? ⟨b, off + i * 3, none⟩ = some (.string x.name) ∧ w.cell? ⟨b, off + i * 3 + 1, none⟩ = some (.int .i64 x.cell) ∧ w.cell? ⟨b, off + i * 3 + 2, none⟩ = some (.slice B x.nets.length m) ∧ RInts w (.slice B x.nets.length m) x.nets ∧ x.name.size ≤ maxLen := by
  obtain ⟨A', n', e, -, -, hx⟩ := RList.form h
  injection e with e1 e2
  subst e1
  obtain ⟨b, off, rfl, ds, hl1, hcs, hr⟩ := hx i x hi
  obtain ⟨d0, d1, d2, rfl⟩ := list3 hl1
  obtain ⟨rfl, rfl, h2, hz⟩ := hr.parts
  obtain ⟨B, m, rfl⟩ : ∃ (D : Option Addr) (nd : Nat), d2 = .slice D x.nets.length nd := by obtain ⟨D, c, e, -⟩ := RList.form h2; exact ⟨D, c, e⟩
  exact ⟨b, off, B, m, rfl, by simpa using hcs 0 _ rfl, by simpa [Nat.add_assoc] using hcs 1 _ rfl, by simpa [Nat.add_assoc] using hcs 2 _ rfl, h2, hz⟩
theorem port_at {w : World} {A : Option Addr} {n : Nat} {xs : List PortD} (h : RPorts w (.slice A xs.length n) xs) {i : Nat} {x : PortD} (hi : xs[i]? = some x) : ∃ b off : Nat, A = some ⟨b, off, none⟩ ∧ w.cell? ⟨b, off + i * 3, none⟩ = some (.string x.name) ∧ w.cell? ⟨b, off + i * 3 + 1, none⟩ = some (.int .i64 x.dir) ∧ w.cell? ⟨b, off + i * 3 + 2, none⟩ = some (.int .i64 x.net) ∧ x.name.size ≤ maxLen := by
  obtain ⟨A', n', e, -, -, hx⟩ := RList.form h
  injection e with e1 e2
  subst e1
  obtain ⟨b, off, rfl, ds, hl1, hcs, hr⟩ := hx i x hi
  obtain ⟨d0, d1, d2, rfl⟩ := list3 hl1
  obtain ⟨rfl, rfl, rfl, hz⟩ := hr.parts
  exact ⟨b, off, rfl, by simpa using hcs 0 _ rfl, by simpa [Nat.add_assoc] using hcs 1 _ rfl, by simpa [Nat.add_assoc] using hcs 2 _ rfl, hz⟩
set_option maxHeartbeats 8000000 in
theorem l05Parts_any {vl a b c : Value} {cs : List CellD} {d : DesignD} (w : World) (hl : RCells w vl cs) (hd : RDesign w [a, b, c] d) :
    Calls Tryz.prog 37 #[.agg #[vl], .agg #[a, b, c]] w fun e w' => e = .returned (.bool (pB (PartsP cs d))) ∧ Grows w w' := by
  have cl := RList.len hl
  obtain ⟨C, nc, rfl⟩ : ∃ (D : Option Addr) (nd : Nat), vl = .slice D cs.length nd := by obtain ⟨D, c, e, -⟩ := RList.form hl; exact ⟨D, c, e⟩
  obtain ⟨h1, h2, h3⟩ := hd.parts
  have il := RList.len h1
  have nl := RList.len h2
  have ol := RList.len h3
  obtain ⟨⟨I, ni, rfl⟩, ⟨N, nn, rfl⟩, ⟨O, no, rfl⟩⟩ : (∃ (A : Option Addr) (n : Nat), a = .slice A d.insts.length n) ∧ (∃ (A : Option Addr) (n : Nat), b = .slice A d.nets.length n) ∧ (∃ (A : Option Addr) (n : Nat), c = .slice A d.ports.length n) :=
    ⟨(by obtain ⟨A, c, e, -⟩ := RList.form h1; exact ⟨A, c, e⟩), (by obtain ⟨A, c, e, -⟩ := RList.form h2; exact ⟨A, c, e⟩), (by obtain ⟨A, c, e, -⟩ := RList.form h3; exact ⟨A, c, e⟩)⟩
  have g0 := ((Grows.refl w).alloc (.cells #[.slice C cs.length nc] 35)).alloc (.cells #[.slice I d.insts.length ni, .slice N d.nets.length nn, .slice O d.ports.length no] 30)
  have S1 : Hid (Blk ((w.alloc (.cells #[.slice C cs.length nc] 35)).alloc (.cells #[.slice I d.insts.length ni, .slice N d.nets.length nn, .slice O d.ports.length no] 30)) w.heap.size 35 #[.slice C cs.length nc]) := hideIt ((Blk.new w 35 #[.slice C cs.length nc]).grows ((Grows.refl _).alloc (.cells #[.slice I d.insts.length ni, .slice N d.nets.length nn, .slice O d.ports.length no] 30)))
  have S2 : Hid (Blk ((w.alloc (.cells #[.slice C cs.length nc] 35)).alloc (.cells #[.slice I d.insts.length ni, .slice N d.nets.length nn, .slice O d.ports.length no] 30)) (w.heap.size + 1) 30 #[.slice I d.insts.length ni, .slice N d.nets.length nn, .slice O d.ports.length no]) := by
    have := Blk.new (w.alloc (.cells #[.slice C cs.length nc] 35)) 30 #[.slice I d.insts.length ni, .slice N d.nets.length nn, .slice O d.ports.length no]
    exact hideIt (by simpa using this)
  have HL := hideIt (RCells.keep hl g0.keeps)
  have HI := hideIt (RInsts.keep h1 g0.keeps)
  have HO := hideIt (RPorts.keep h3 g0.keeps)
  have HD := hideIt (hd.keep g0.keeps)
  have G := hideIt g0
  clear hl hd h1 h2 h3 g0
  go_enter Tryz.func37, Tryz.ntmps37
  go_wp2
  go_loopw [6, 7, 8] (fun i _ _ wr => ∃ k : Nat, k ≤ d.insts.length ∧ i = .int .i64 (k : Int) ∧ Hid (∀ (j : Nat) (x : InstD), j < k → d.insts[j]? = some x → InstOk cs d x) ∧ Grows ((w.alloc (.cells #[.slice C cs.length nc] 35)).alloc (.cells #[.slice I d.insts.length ni, .slice N d.nets.length nn, .slice O d.ports.length no] 30)) wr) (fun i _ _ _ => d.insts.length - (intOf i).toNat)
  case atStart => exact ⟨0, by omega, rfl, fun j x hj => absurd hj (by omega), Grows.refl _⟩
  case round =>
    obtain ⟨k, hk, rfl, hco, hg⟩ := hrel
    have HG := hideIt hg
    have GA := hideIt (G.out.trans hg)
    have T1 := hideIt (S1.out.grows hg)
    have T2 := hideIt (S2.out.grows hg)
    clear hg
    have kl : wr.cell? ⟨w.heap.size, 0, none⟩ = some (.slice C cs.length nc) := T1.out.cell 0
    have klz := T1.out.lt
    have kd0 : wr.cell? ⟨w.heap.size + 1, 0, none⟩ = some (.slice I d.insts.length ni) := T2.out.cell 0
    have kd1 : wr.cell? ⟨w.heap.size + 1, 1, none⟩ = some (.slice N d.nets.length nn) := T2.out.cell 1
    have kd2 : wr.cell? ⟨w.heap.size + 1, 2, none⟩ = some (.slice O d.ports.length no) := T2.out.cell 2
    have kdz := T2.out.lt
    by_cases hlt : k < d.insts.length
    · obtain ⟨x, hx⟩ : ∃ x, d.insts[k]? = some x := ⟨_, List.getElem?_eq_getElem hlt⟩
      obtain ⟨bi, oi, XN, xn, rfl, q0, q1, q2, hxn⟩ := inst_at (RInsts.keep HI.out HG.out.keeps) hx
      replace hxn := hideIt hxn.1
      have X1 := hideIt hx
      have XL := RList.len hxn.out
      clear hx
      have BX := hideIt (Blk.new wr 77 #[.string x.name, .int .i64 x.cell, .slice XN x.nets.length xn])
      have GX := hideIt ((Grows.refl wr).alloc (.cells #[.string x.name, .int .i64 x.cell, .slice XN x.nets.length xn] 77))
      have ew : IntKind.i64.wrap ((cs.length : Int) - 1) = (cs.length : Int) - 1 := IntWalk.i64_in _ (by omega)
      cases qc : inB x.cell 0 ((cs.length : Int) - 1)
      · have EP := hideIt (pB_false (p := PartsP cs d) fun h => by have := (h.1 k x X1.out).cell; rw [qc] at this; cases this)
        have FC := hideIt qc
        clear qc
        have K0 : ∀ w', Grows (wr.alloc (.cells #[.string x.name, .int .i64 x.cell, .slice XN x.nets.length xn] 77)) w' → w'.cell? ⟨w.heap.size, 0, none⟩ = some (.slice C cs.length nc) ∧ w'.cell? ⟨w.heap.size + 1, 0, none⟩ = some (.slice (some ⟨bi, oi, none⟩) d.insts.length ni) ∧ w'.cell? ⟨w.heap.size + 1, 1, none⟩ = some (.slice N d.nets.length nn) ∧ w'.cell? ⟨w.heap.size + 1, 2, none⟩ = some (.slice O d.ports.length no) ∧ w'.cell? ⟨wr.heap.size, 0, none⟩ = some (.string x.name) ∧ w'.cell? ⟨wr.heap.size, 1, none⟩ = some (.int .i64 x.cell) ∧ w'.cell? ⟨wr.heap.size, 2, none⟩ = some (.slice XN x.nets.length xn) ∧ Grows (wr.alloc (.cells #[.string x.name, .int .i64 x.cell, .slice XN x.nets.length xn] 77)) w' := fun w' G => ⟨(G.cells.1 _ _ (T1.out.grows GX.out).lt).trans ((T1.out.grows GX.out).cell 0), (G.cells.1 _ _ (T2.out.grows GX.out).lt).trans ((T2.out.grows GX.out).cell 0), (G.cells.1 _ _ (T2.out.grows GX.out).lt).trans ((T2.out.grows GX.out).cell 1), (G.cells.1 _ _ (T2.out.grows GX.out).lt).trans ((T2.out.grows GX.out).cell 2), (G.cells.1 _ _ BX.out.lt).trans (BX.out.cell 0), (G.cells.1 _ _ BX.out.lt).trans (BX.out.cell 1), (G.cells.1 _ _ BX.out.lt).trans (BX.out.cell 2), G⟩
        have HK := hideIt K0
        clear K0
        have gg : Grows (wr.alloc (.cells #[.string x.name, .int .i64 x.cell, .slice XN x.nets.length xn] 77)) (wr.alloc (.cells #[.string x.name, .int .i64 x.cell, .slice XN x.nets.length xn] 77)) := Grows.refl _
        go_wp2
        refine wp_region_held_drew (S := (fun w' => w'.cell? ⟨w.heap.size, 0, none⟩ = some (.slice C cs.length nc) ∧ w'.cell? ⟨w.heap.size + 1, 0, none⟩ = some (.slice (some ⟨bi, oi, none⟩) d.insts.length ni) ∧ w'.cell? ⟨w.heap.size + 1, 1, none⟩ = some (.slice N d.nets.length nn) ∧ w'.cell? ⟨w.heap.size + 1, 2, none⟩ = some (.slice O d.ports.length no) ∧ w'.cell? ⟨wr.heap.size, 0, none⟩ = some (.string x.name) ∧ w'.cell? ⟨wr.heap.size, 1, none⟩ = some (.int .i64 x.cell) ∧ w'.cell? ⟨wr.heap.size, 2, none⟩ = some (.slice XN x.nets.length xn) ∧ Grows (wr.alloc (.cells #[.string x.name, .int .i64 x.cell, .slice XN x.nets.length xn] 77)) w')) (by kernel_rfl) ?_ (fun hh0 => ?_)
        · (try dsimp only); exact HK.out _ gk
        refine regTk 0 hh0 ?_
        refine regTk 1 hh0 ?_
        refine regTk 2 hh0 ?_
        refine regTk 3 hh0 ?_
        refine regTk 4 hh0 ?_
        refine regTk 5 hh0 ?_
        refine regCall 6 (fun K hK => ?_)
        go_simp
        refine (l01In_g _ _ _ _).mono ?_
        rintro e wx ⟨rfl, g⟩
        rw [FC.out]
        replace gg := gg.gt g
        clear g
        (try go_wp2_with fail)
        refine hK.out _ _ ?_ (fun hh1 => ?_)
        · (try dsimp only); exact HK.out _ gk
        clear hK K hh0
        try simp only [Act.put, List.setIfInBounds_toArray, List.set_cons_zero, List.set_cons_succ]
        refine regTk 7 hh1 ?_
        refine regTk 8 hh1 ?_
        refine regSk 9 hh1 ?_
        refine regSk 10 hh1 ?_
        refine regSk 11 hh1 ?_
        refine regSk 12 hh1 ?_
        refine regSk 13 hh1 ?_
        refine regSk 14 hh1 ?_
        refine regSk 15 hh1 ?_
        refine regSk 16 hh1 ?_
        refine regSk 17 hh1 ?_
        refine regSk 18 hh1 ?_
        refine regSk 19 hh1 ?_
        refine regSk 20 hh1 ?_
        refine regTk 21 hh1 ?_
        refine wpAnyH_done (by kernel_rfl) ?_ _
        clear hh1
        go_wp2
        go_ret
        exact ⟨ret_bool EP.out.symm, GA.out.trans (GX.out.trans gg)⟩
      have hb := inB_true qc
      obtain ⟨ci, hci⟩ : ∃ ci : Nat, x.cell = (ci : Int) := ⟨x.cell.toNat, by omega⟩
      have hcl : ci < cs.length := by omega
      obtain ⟨cc, hcc⟩ : ∃ cc, cs[ci]? = some cc := ⟨_, List.getElem?_eq_getElem hcl⟩
      have hct : x.cell.toNat = ci := by omega
      obtain ⟨bl, ol_, PB, pm, eC, hpc, hpr⟩ := pins_at HL.out hcc
      subst eC
      have PL := RList.len hpr
      have kp := hideIt (HG.out.keeps _ _ hpc)
      have lbl := hideIt (cell_lt kp.out)
      have CC := hideIt hcc
      have HCI := hideIt hci
      have FC := hideIt qc
      clear hpc hpr hcc hb qc
      have i0 : (0 : Int) ≤ x.cell := by have := HCI.out; omega
      have i1 : x.cell < (cs.length : Int) := by have := HCI.out; omega
      have i2 : x.cell.toNat = ci := hct
      clear hct hci
      by_cases hpn : x.nets.length = cc.pins.length
      rotate_left
      · have EP := hideIt (pB_false (p := PartsP cs d) fun h => hpn ((h.1 k x X1.out).pins cc (by rw [i2]; exact CC.out)))
        have hp1 : ((x.nets.length : Int) != (cc.pins.length : Int)) = true := by rw [bne_iff_ne]; omega
        clear hpn
        have K0 : ∀ w', Grows (wr.alloc (.cells #[.string x.name, .int .i64 x.cell, .slice XN x.nets.length xn] 77)) w' → w'.cell? ⟨w.heap.size, 0, none⟩ = some (.slice (some ⟨bl, ol_, none⟩) cs.length nc) ∧ w'.cell? ⟨w.heap.size + 1, 0, none⟩ = some (.slice (some ⟨bi, oi, none⟩) d.insts.length ni) ∧ w'.cell? ⟨w.heap.size + 1, 1, none⟩ = some (.slice N d.nets.length nn) ∧ w'.cell? ⟨w.heap.size + 1, 2, none⟩ = some (.slice O d.ports.length no) ∧ w'.cell? ⟨wr.heap.size, 0, none⟩ = some (.string x.name) ∧ w'.cell? ⟨wr.heap.size, 1, none⟩ = some (.int .i64 x.cell) ∧ w'.cell? ⟨wr.heap.size, 2, none⟩ = some (.slice XN x.nets.length xn) ∧ w'.cell? ⟨bl, ol_ + ci * 7 + 2, none⟩ = some (.slice PB cc.pins.length pm) ∧ Grows (wr.alloc (.cells #[.string x.name, .int .i64 x.cell, .slice XN x.nets.length xn] 77)) w' := fun w' G => ⟨(G.cells.1 _ _ (T1.out.grows GX.out).lt).trans ((T1.out.grows GX.out).cell 0), (G.cells.1 _ _ (T2.out.grows GX.out).lt).trans ((T2.out.grows GX.out).cell 0), (G.cells.1 _ _ (T2.out.grows GX.out).lt).trans ((T2.out.grows GX.out).cell 1), (G.cells.1 _ _ (T2.out.grows GX.out).lt).trans ((T2.out.grows GX.out).cell 2), (G.cells.1 _ _ BX.out.lt).trans (BX.out.cell 0), (G.cells.1 _ _ BX.out.lt).trans (BX.out.cell 1), (G.cells.1 _ _ BX.out.lt).trans (BX.out.cell 2), (G.cells.1 _ _ (by have := lbl.out; simp at this ⊢; omega)).trans (GX.out.keeps _ _ kp.out), G⟩
        have HK := hideIt K0
        clear K0
        have gg : Grows (wr.alloc (.cells #[.string x.name, .int .i64 x.cell, .slice XN x.nets.length xn] 77)) (wr.alloc (.cells #[.string x.name, .int .i64 x.cell, .slice XN x.nets.length xn] 77)) := Grows.refl _
        go_wp2
        refine wp_region_held_drew (S := (fun w' => w'.cell? ⟨w.heap.size, 0, none⟩ = some (.slice (some ⟨bl, ol_, none⟩) cs.length nc) ∧ w'.cell? ⟨w.heap.size + 1, 0, none⟩ = some (.slice (some ⟨bi, oi, none⟩) d.insts.length ni) ∧ w'.cell? ⟨w.heap.size + 1, 1, none⟩ = some (.slice N d.nets.length nn) ∧ w'.cell? ⟨w.heap.size + 1, 2, none⟩ = some (.slice O d.ports.length no) ∧ w'.cell? ⟨wr.heap.size, 0, none⟩ = some (.string x.name) ∧ w'.cell? ⟨wr.heap.size, 1, none⟩ = some (.int .i64 x.cell) ∧ w'.cell? ⟨wr.heap.size, 2, none⟩ = some (.slice XN x.nets.length xn) ∧ w'.cell? ⟨bl, ol_ + ci * 7 + 2, none⟩ = some (.slice PB cc.pins.length pm) ∧ Grows (wr.alloc (.cells #[.string x.name, .int .i64 x.cell, .slice XN x.nets.length xn] 77)) w')) (by kernel_rfl) ?_ (fun hh0 => ?_)
        · (try dsimp only); exact HK.out _ gk
        refine regTk 0 hh0 ?_
        refine regTk 1 hh0 ?_
        refine regTk 2 hh0 ?_
        refine regTk 3 hh0 ?_
        refine regTk 4 hh0 ?_
        refine regTk 5 hh0 ?_
        refine regCall 6 (fun K hK => ?_)
        go_simp
        refine (l01In_g _ _ _ _).mono ?_
        rintro e wx ⟨rfl, g⟩
        rw [FC.out]
        replace gg := gg.gt g
        clear g
        (try go_wp2_with fail)
        refine hK.out _ _ ?_ (fun hh1 => ?_)
        · (try dsimp only); exact HK.out _ gk
        clear hK K hh0
        try simp only [Act.put, List.setIfInBounds_toArray, List.set_cons_zero, List.set_cons_succ]
        refine regTk 7 hh1 ?_
        refine regTk 8 hh1 ?_
        refine regTk 9 hh1 ?_
        refine regTk 10 hh1 ?_
        refine regTk 11 hh1 ?_
        refine regTk 12 hh1 ?_
        refine regTk 13 hh1 ?_
        refine regTk 14 hh1 ?_
        refine regTk 15 hh1 ?_
        refine regTk 16 hh1 ?_
        refine regTk 17 hh1 ?_
        refine regTk 18 hh1 ?_
        refine regTk 19 hh1 ?_
        refine regTk 20 hh1 ?_
        refine regTk 21 hh1 ?_
        refine wpAnyH_done (by kernel_rfl) ?_ _
        clear hh1
        go_wp2
        go_ret
        exact ⟨ret_bool EP.out.symm, GA.out.trans (GX.out.trans gg)⟩
      have hp1 : ((x.nets.length : Int) != (cc.pins.length : Int)) = false := by rw [bne_eq_false_iff_eq]; omega
      have HPN := hideIt hpn
      clear hpn
      have K0 : ∀ w', Grows (wr.alloc (.cells #[.string x.name, .int .i64 x.cell, .slice XN x.nets.length xn] 77)) w' → w'.cell? ⟨w.heap.size, 0, none⟩ = some (.slice (some ⟨bl, ol_, none⟩) cs.length nc) ∧ w'.cell? ⟨w.heap.size + 1, 0, none⟩ = some (.slice (some ⟨bi, oi, none⟩) d.insts.length ni) ∧ w'.cell? ⟨w.heap.size + 1, 1, none⟩ = some (.slice N d.nets.length nn) ∧ w'.cell? ⟨w.heap.size + 1, 2, none⟩ = some (.slice O d.ports.length no) ∧ w'.cell? ⟨wr.heap.size, 0, none⟩ = some (.string x.name) ∧ w'.cell? ⟨wr.heap.size, 1, none⟩ = some (.int .i64 x.cell) ∧ w'.cell? ⟨wr.heap.size, 2, none⟩ = some (.slice XN x.nets.length xn) ∧ w'.cell? ⟨bl, ol_ + ci * 7 + 2, none⟩ = some (.slice PB cc.pins.length pm) ∧ Grows (wr.alloc (.cells #[.string x.name, .int .i64 x.cell, .slice XN x.nets.length xn] 77)) w' := fun w' G => ⟨(G.cells.1 _ _ (T1.out.grows GX.out).lt).trans ((T1.out.grows GX.out).cell 0), (G.cells.1 _ _ (T2.out.grows GX.out).lt).trans ((T2.out.grows GX.out).cell 0), (G.cells.1 _ _ (T2.out.grows GX.out).lt).trans ((T2.out.grows GX.out).cell 1), (G.cells.1 _ _ (T2.out.grows GX.out).lt).trans ((T2.out.grows GX.out).cell 2), (G.cells.1 _ _ BX.out.lt).trans (BX.out.cell 0), (G.cells.1 _ _ BX.out.lt).trans (BX.out.cell 1), (G.cells.1 _ _ BX.out.lt).trans (BX.out.cell 2), (G.cells.1 _ _ (by have := lbl.out; simp at this ⊢; omega)).trans (GX.out.keeps _ _ kp.out), G⟩
      have HK := hideIt K0
      clear K0
      have gg : Grows (wr.alloc (.cells #[.string x.name, .int .i64 x.cell, .slice XN x.nets.length xn] 77)) (wr.alloc (.cells #[.string x.name, .int .i64 x.cell, .slice XN x.nets.length xn] 77)) := Grows.refl _
      go_wp2
      refine wp_region_held_drew (S := (fun w' => w'.cell? ⟨w.heap.size, 0, none⟩ = some (.slice (some ⟨bl, ol_, none⟩) cs.length nc) ∧ w'.cell? ⟨w.heap.size + 1, 0, none⟩ = some (.slice (some ⟨bi, oi, none⟩) d.insts.length ni) ∧ w'.cell? ⟨w.heap.size + 1, 1, none⟩ = some (.slice N d.nets.length nn) ∧ w'.cell? ⟨w.heap.size + 1, 2, none⟩ = some (.slice O d.ports.length no) ∧ w'.cell? ⟨wr.heap.size, 0, none⟩ = some (.string x.name) ∧ w'.cell? ⟨wr.heap.size, 1, none⟩ = some (.int .i64 x.cell) ∧ w'.cell? ⟨wr.heap.size, 2, none⟩ = some (.slice XN x.nets.length xn) ∧ w'.cell? ⟨bl, ol_ + ci * 7 + 2, none⟩ = some (.slice PB cc.pins.length pm) ∧ Grows (wr.alloc (.cells #[.string x.name, .int .i64 x.cell, .slice XN x.nets.length xn] 77)) w')) (by kernel_rfl) ?_ (fun hh0 => ?_)
      · (try dsimp only); exact HK.out _ gk
      refine regTk 0 hh0 ?_
      refine regTk 1 hh0 ?_
      refine regTk 2 hh0 ?_
      refine regTk 3 hh0 ?_
      refine regTk 4 hh0 ?_
      refine regTk 5 hh0 ?_
      refine regCall 6 (fun K hK => ?_)
      go_simp
      refine (l01In_g _ _ _ _).mono ?_
      rintro e wx ⟨rfl, g⟩
      rw [FC.out]
      replace gg := gg.gt g
      clear g
      (try go_wp2_with fail)
      refine hK.out _ _ ?_ (fun hh1 => ?_)
      · (try dsimp only); exact HK.out _ gk
      clear hK K hh0
      try simp only [Act.put, List.setIfInBounds_toArray, List.set_cons_zero, List.set_cons_succ]
      refine regTk 7 hh1 ?_
      refine regTk 8 hh1 ?_
      refine regTk 9 hh1 ?_
      refine regTk 10 hh1 ?_
      refine regTk 11 hh1 ?_
      refine regTk 12 hh1 ?_
      refine regTk 13 hh1 ?_
      refine regTk 14 hh1 ?_
      refine regTk 15 hh1 ?_
      refine regTk 16 hh1 ?_
      refine regTk 17 hh1 ?_
      refine regTk 18 hh1 ?_
      refine regTk 19 hh1 ?_
      refine regTk 20 hh1 ?_
      refine regTk 21 hh1 ?_
      refine wpAnyH_done (by kernel_rfl) ?_ _
      clear hh1
      have GW := hideIt (GX.out.trans gg)
      have U1 := hideIt (T1.out.grows GW.out)
      have U2 := hideIt (T2.out.grows GW.out)
      have UX := hideIt (BX.out.grows gg)
      clear gg HK kl klz kd0 kd1 kd2 kdz q0 q1 q2
      have nw : IntKind.i64.wrap ((d.nets.length : Int) - 1) = (d.nets.length : Int) - 1 := IntWalk.i64_in _ (by omega)
      have x2 : wx.cell? ⟨wr.heap.size, 2, none⟩ = some (.slice XN x.nets.length xn) := UX.out.cell 2
      have xl := UX.out.lt
      go_wp2
      go_loop [8] (fun i => ∃ q : Nat, q ≤ x.nets.length ∧ i = .int .i64 (q : Int) ∧ Hid (∀ (j : Nat) (v : Int), j < q → x.nets[j]? = some v → netIn d v = true)) (fun i => x.nets.length - (intOf i).toNat)
      case atStart => exact ⟨0, by omega, rfl, fun j v hj => absurd hj (by omega)⟩
      case round =>
        obtain ⟨q, hq, rfl, hne⟩ := hrel
        by_cases hlq : q < x.nets.length
        · obtain ⟨v, hv⟩ : ∃ v, x.nets[q]? = some v := ⟨_, List.getElem?_eq_getElem hlq⟩
          obtain ⟨bn, on, rfl, kv⟩ := ints_at (RInts.keep hxn.out GW.out.keeps) hv
          have V1 := hideIt hv
          clear hv
          cases hn : netIn d v
          · have EP := hideIt (pB_false (p := PartsP cs d) fun h => by have := List.all_eq_true.1 (h.1 k x X1.out).nets v (List.mem_of_getElem? V1.out); rw [hn] at this; cases this)
            unfold netIn at hn
            have HN := hideIt hn
            clear hn
            go_wp2_with (go_at_call 60; refine (l01In_any _ _ _ _).mono ?_; rintro e w' ⟨rfl, rfl⟩; rw [HN.out])
            go_ret
            exact ⟨ret_bool EP.out.symm, GA.out.trans GW.out⟩
          · have HV := hideIt hn
            unfold netIn at hn
            have HN := hideIt hn
            clear hn
            go_wp2_with (go_at_call 60; refine (l01In_any _ _ _ _).mono ?_; rintro e w' ⟨rfl, rfl⟩; rw [HN.out])
            go_round
            case rel => exact ⟨q + 1, by omega, by go_num, fun j u hj hu => by
              by_cases ej : j = q
              · subst ej; rw [V1.out] at hu; injection hu with hu; rw [← hu]; exact HV.out
              · exact hne.out j u (by omega) hu⟩
            case measure => simp [intOf]; omega
        · obtain rfl : q = x.nets.length := by omega
          go_wp2
          go_roundw
          case rel => exact ⟨k + 1, by omega, by go_num, fun j y hj hy => by
            by_cases ej : j = k
            · subst ej
              rw [X1.out] at hy
              injection hy with hy
              subst hy
              exact ⟨FC.out, fun c hc => by rw [i2, CC.out] at hc; injection hc with hc; rw [← hc]; exact HPN.out, List.all_eq_true.2 fun u hu => by
                obtain ⟨m, hm⟩ := List.getElem?_of_mem hu
                exact hne.out m u (List.getElem?_eq_some_iff.1 hm).1 hm⟩
            · exact hco.out j y (by omega) hy, HG.out.trans GW.out⟩
          case measure => simp [intOf]; omega
    · obtain rfl : k = d.insts.length := by omega
      have HIO : Hid (∀ (i : Nat) (x : InstD), d.insts[i]? = some x → InstOk cs d x) := hideIt fun i x hi => hco.out i x (List.getElem?_eq_some_iff.1 hi).1 hi
      clear hco
      have nw : IntKind.i64.wrap ((d.nets.length : Int) - 1) = (d.nets.length : Int) - 1 := IntWalk.i64_in _ (by omega)
      go_wp2
      go_loop [9] (fun i => ∃ q : Nat, q ≤ d.ports.length ∧ i = .int .i64 (q : Int) ∧ Hid (∀ (j : Nat) (p : PortD), j < q → d.ports[j]? = some p → PortOk d p)) (fun i => d.ports.length - (intOf i).toNat)
      case atStart => exact ⟨0, by omega, rfl, fun j v hj => absurd hj (by omega)⟩
      case round =>
        obtain ⟨q, hq, rfl, hne⟩ := hrel
        by_cases hlq : q < d.ports.length
        · obtain ⟨p, hp⟩ : ∃ p, d.ports[q]? = some p := ⟨_, List.getElem?_eq_getElem hlq⟩
          obtain ⟨bn, on, rfl, kq0, kq1, kq2, -⟩ := port_at (RPorts.keep HO.out HG.out.keeps) hp
          have P1 := hideIt hp
          clear hp
          cases hdr : inB p.dir 1 2
          · have EP := hideIt (pB_false (p := PartsP cs d) fun h => by have := (h.2 q p P1.out).dir; rw [hdr] at this; cases this)
            have HDR := hideIt hdr
            clear hdr
            go_wp2_with (go_at_call 60; refine (l01In_any _ _ _ _).mono ?_; rintro e w' ⟨rfl, rfl⟩; rw [HDR.out])
            go_ret
            exact ⟨ret_bool EP.out.symm, GA.out⟩
          have HDR := hideIt hdr
          clear hdr
          cases hn : netIn d p.net
          · have EP := hideIt (pB_false (p := PartsP cs d) fun h => by have := (h.2 q p P1.out).net; rw [hn] at this; cases this)
            unfold netIn at hn
            have HN := hideIt hn
            clear hn
            go_wp2_with (go_at_call 60; refine (l01In_any _ _ _ _).mono ?_; rintro e w' ⟨rfl, rfl⟩; first | rw [HDR.out] | rw [HN.out])
            go_ret
            exact ⟨ret_bool EP.out.symm, GA.out⟩
          · have HV := hideIt hn
            unfold netIn at hn
            have HN := hideIt hn
            clear hn
            go_wp2_with (go_at_call 60; refine (l01In_any _ _ _ _).mono ?_; rintro e w' ⟨rfl, rfl⟩; first | rw [HDR.out] | rw [HN.out])
            go_round
            case rel => exact ⟨q + 1, by omega, by go_num, fun j u hj hu => by
              by_cases ej : j = q
              · subst ej; rw [P1.out] at hu; injection hu with hu; rw [← hu]; exact ⟨HDR.out, HV.out⟩
              · exact hne.out j u (by omega) hu⟩
            case measure => simp [intOf]; omega
        · obtain rfl : q = d.ports.length := by omega
          have EP := hideIt (pB_true (p := PartsP cs d) ⟨HIO.out, fun i p hi => hne.out i p (List.getElem?_eq_some_iff.1 hi).1 hi⟩)
          clear hne
          go_wp2
          go_ret
          exact ⟨ret_bool EP.out.symm, GA.out⟩
end Go.Proofs.YtocahjbmnkadjaaGreatDoor
