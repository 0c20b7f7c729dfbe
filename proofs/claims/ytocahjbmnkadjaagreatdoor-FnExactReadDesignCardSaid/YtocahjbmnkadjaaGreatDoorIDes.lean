/-
  Contract of the program's IsDesign.
-/
import Derived.Test.YtocahjbmnkadjaaGreatDoorGQ
import Derived.Test.YtocahjbmnkadjaaGreatDoorGN
import Derived.Test.YtocahjbmnkadjaaGreatDoorGP
import Derived.Test.YtocahjbmnkadjaaGreatDoorGJ
namespace Go.Proofs.YtocahjbmnkadjaaGreatDoor
open Go.RowKit
theorem info_int : (Tryz.prog.info? 3).map (fun i => (i.zero, i.size, i.bytes)) = some (some (.int .i64 0), 1, 8) := by kernel_rfl
theorem drv_ints {wr : World} {B : Nat} {t : TypeId} {n : Nat} {f : Nat → Nat} (h : Drv wr B t n f) (hn : n ≤ maxLen) : RList 1 RI wr (.slice (some ⟨B, 0, none⟩) n n) ((List.range n).map fun j => (f j : Int)) := by
  refine ⟨some ⟨B, 0, none⟩, n, by simp, by simp, hn, .inr ⟨B, 0, rfl, fun i x hx => ?_⟩⟩
  rw [List.getElem?_map] at hx
  obtain ⟨j, hj, rfl⟩ := Option.map_eq_some_iff.1 hx
  obtain ⟨hlt, e⟩ := List.getElem?_eq_some_iff.1 hj
  simp at hlt e
  subst e
  refine ⟨[.int .i64 (f i : Int)], rfl, fun j u hu => ?_, rfl⟩
  match j, hu with
  | 0, hu => simp at hu; subst hu; simpa using h.cell hlt
theorem drv_any {n : Nat} {f : Nat → Nat} : (((List.range n).map fun j => (f j : Int)).any fun m => m != 1) = !pB (∀ j, j < n → f j = 1) := by
  cases hq : pB (∀ j, j < n → f j = 1)
  · have hn : ¬ ∀ j, j < n → f j = 1 := fun h => by have := pB_true h; rw [hq] at this; cases this
    simp only [Bool.not_false, List.any_eq_true]
    refine Classical.byContradiction fun hc => hn fun j hj => Classical.byContradiction fun h1 => hc ⟨_, List.mem_map.2 ⟨j, List.mem_range.2 hj, rfl⟩, ?_⟩
    rw [bne_iff_ne]
    omega
  · have h := pB_iff.1 hq
    simp only [Bool.not_true, List.any_eq_false]
    intro m hm
    obtain ⟨j, hj, rfl⟩ := List.mem_map.1 hm
    rw [h j (List.mem_range.1 hj)]
    decide
theorem isDes1_any (n : Int) (W : World) : Calls Tryz.prog 78 #[.int .i64 n] W fun e W' => e = .returned (.bool (n != 1)) ∧ Grows W W' := by
  go_enter Tryz.func78, Tryz.ntmps78
  go_wp2
  go_ret
  exact ⟨rfl, Grows.refl _⟩
set_option maxHeartbeats 16000000 in
set_option maxRecDepth 10000 in
theorem iIsDes_any {vl a b c : Value} {cs : List CellD} {d : DesignD} (w : World) (hl : RCells w vl cs) (hd : RDesign w [a, b, c] d) (hsl : SmCells cs) (hsd : SmDesign d) :
    Calls Tryz.prog 45 #[.agg #[vl], .agg #[a, b, c]] w fun e w' => e = .returned (.bool (desB cs d)) ∧ Grows w w' := by
  obtain ⟨j0, hj, hy0, hy1, hy2⟩ := info_parts info_int
  have cl := RList.len hl
  obtain ⟨C, nc, rfl⟩ : ∃ (D : Option Addr) (nd : Nat), vl = .slice D cs.length nd := by obtain ⟨D, c, e, -⟩ := RList.form hl; exact ⟨D, c, e⟩
  obtain ⟨I, N, O, ni, nn, no, rfl, rfl, rfl⟩ := des_open hd
  have h1 := hd.parts.1
  have h3 := hd.parts.2.2
  have il := RList.len hd.parts.1
  have nl := RList.len hd.parts.2.1
  have ol := RList.len hd.parts.2.2
  have g0 := ((Grows.refl w).alloc (.cells #[.slice C cs.length nc] 35)).alloc (.cells #[.slice I d.insts.length ni, .slice N d.nets.length nn, .slice O d.ports.length no] 30)
  have S1 : Hid (Blk ((w.alloc (.cells #[.slice C cs.length nc] 35)).alloc (.cells #[.slice I d.insts.length ni, .slice N d.nets.length nn, .slice O d.ports.length no] 30)) w.heap.size 35 #[.slice C cs.length nc]) := hideIt ((Blk.new w 35 #[.slice C cs.length nc]).grows ((Grows.refl _).alloc (.cells #[.slice I d.insts.length ni, .slice N d.nets.length nn, .slice O d.ports.length no] 30)))
  have S2 : Hid (Blk ((w.alloc (.cells #[.slice C cs.length nc] 35)).alloc (.cells #[.slice I d.insts.length ni, .slice N d.nets.length nn, .slice O d.ports.length no] 30)) (w.heap.size + 1) 30 #[.slice I d.insts.length ni, .slice N d.nets.length nn, .slice O d.ports.length no]) := by
    have := Blk.new (w.alloc (.cells #[.slice C cs.length nc] 35)) 30 #[.slice I d.insts.length ni, .slice N d.nets.length nn, .slice O d.ports.length no]
    exact hideIt (by simpa using this)
  have HL := hideIt (RCells.keep hl g0.keeps)
  have HI := hideIt (RInsts.keep h1 g0.keeps)
  have HO := hideIt (RPorts.keep h3 g0.keeps)
  have HD := hideIt (hd.keep g0.keeps)
  have G := hideIt g0
  clear hl hd h1 h3 g0
  go_enter Tryz.func45, Tryz.ntmps45
  go_wp2_with fail
  refine (iIsLib_any _ HL.out hsl).mono ?_
  rintro e u1 ⟨rfl, g1⟩
  have GA1 := hideIt (G.out.trans g1)
  have T1 := hideIt (S1.out.grows g1)
  have T2 := hideIt (S2.out.grows g1)
  have HD1 := hideIt (HD.out.keep g1.keeps)
  have B1 := hideIt g1
  clear g1
  have kl : u1.cell? ⟨w.heap.size, 0, none⟩ = some (.slice C cs.length nc) := T1.out.cell 0
  have klz := T1.out.lt
  have kd0 : u1.cell? ⟨w.heap.size + 1, 0, none⟩ = some (.slice I d.insts.length ni) := T2.out.cell 0
  have kd1 : u1.cell? ⟨w.heap.size + 1, 1, none⟩ = some (.slice N d.nets.length nn) := T2.out.cell 1
  have kd2 : u1.cell? ⟨w.heap.size + 1, 2, none⟩ = some (.slice O d.ports.length no) := T2.out.cell 2
  have kdz := T2.out.lt
  cases hlb : libB cs
  · have EP := hideIt (show desB cs d = false from pB_false fun h => by have := pB_true h.lib; unfold libB at hlb; rw [this] at hlb; cases hlb)
    clear hlb
    go_wp2
    go_ret
    exact ⟨ret_bool EP.out.symm, GA1.out⟩
  have LP := hideIt (pB_iff.1 hlb)
  clear hlb
  go_wp2_with fail
  refine (hasNames_any _ HD1.out hsd).mono ?_
  rintro e u2 ⟨rfl, g2⟩
  have HB2 := hideIt (B1.out.trans g2)
  have GA2 := hideIt (GA1.out.trans g2)
  have U1 := hideIt (T1.out.grows g2)
  have U2 := hideIt (T2.out.grows g2)
  clear g2 kl klz kd0 kd1 kd2 kdz
  have kl : u2.cell? ⟨w.heap.size, 0, none⟩ = some (.slice C cs.length nc) := U1.out.cell 0
  have klz := U1.out.lt
  have kd0 : u2.cell? ⟨w.heap.size + 1, 0, none⟩ = some (.slice I d.insts.length ni) := U2.out.cell 0
  have kd1 : u2.cell? ⟨w.heap.size + 1, 1, none⟩ = some (.slice N d.nets.length nn) := U2.out.cell 1
  have kd2 : u2.cell? ⟨w.heap.size + 1, 2, none⟩ = some (.slice O d.ports.length no) := U2.out.cell 2
  have kdz := U2.out.lt
  cases hhb : pB (HasP d)
  · have EP := hideIt (show desB cs d = false from pB_false fun h => by have := pB_true (p := HasP d) ⟨h.ni, h.nn, h.np, h.iname, h.nname, h.pname⟩; rw [this] at hhb; cases hhb)
    clear hhb
    go_wp2
    go_ret
    exact ⟨ret_bool EP.out.symm, GA2.out⟩
  have HP_ := hideIt (pB_iff.1 hhb)
  clear hhb
  have hnn := HP_.out.nn
  have hni := HP_.out.ni
  have hnp := HP_.out.np
  have hmk : ∀ u : World, (Instr.makeSlice 114 (.int .i64 (d.nets.length : Int)) (.int .i64 (d.nets.length : Int))).run Tryz.prog u =
      .ok (.slice (some ⟨u.heap.size, 0, none⟩) d.nets.length d.nets.length) (u.alloc (.cells (madeCells #[.int .i64 0] d.nets.length) 3)) := fun u => by
    have h := run_make (P := Tryz.prog) u 114 3 j0 (.int .i64 0) Tryz.underlying114 hj hy0 .i64 .i64 (d.nets.length : Int) (d.nets.length : Int) (by omega) (Int.le_refl _) (by rw [hy2]; omega) (by omega)
    simpa [hy1, Value.cells] using h
  have DR0 := hideIt (Drv.start u2 3 d.nets.length)
  go_wp2
  go_loopw [7, 25] (fun _ i wr => ∃ k : Nat, k ≤ d.insts.length ∧ i = .int .i64 (k : Int) ∧ Hid (Drv wr u2.heap.size 3 d.nets.length (drvF d k 0)) ∧ Hid (∀ (m : Nat) (x : InstD), m < k → d.insts[m]? = some x → InstOk cs d x) ∧ Grows u2 wr) (fun _ i _ => d.insts.length - (intOf i).toNat)
  case atStart => exact ⟨0, by omega, rfl, DR0.out.same fun i _ => by simp [drvF, cntI, cntP], hideIt fun m x hm => absurd hm (by omega), (Grows.refl _).alloc _⟩
  case round =>
    obtain ⟨k, hk, rfl, hdr, hok, hg⟩ := hrel
    have HJ := hideIt hg
    have V1 := hideIt (U1.out.grows hg)
    have V2 := hideIt (U2.out.grows hg)
    clear hg kl klz kd0 kd1 kd2 kdz hmk DR0
    have kl : wr.cell? ⟨w.heap.size, 0, none⟩ = some (.slice C cs.length nc) := V1.out.cell 0
    have klz := V1.out.lt
    have kd0 : wr.cell? ⟨w.heap.size + 1, 0, none⟩ = some (.slice I d.insts.length ni) := V2.out.cell 0
    have kd1 : wr.cell? ⟨w.heap.size + 1, 1, none⟩ = some (.slice N d.nets.length nn) := V2.out.cell 1
    have kd2 : wr.cell? ⟨w.heap.size + 1, 2, none⟩ = some (.slice O d.ports.length no) := V2.out.cell 2
    have kdz := V2.out.lt
    by_cases hlt : k < d.insts.length
    · obtain ⟨x, hx⟩ : ∃ x, d.insts[k]? = some x := ⟨_, List.getElem?_eq_getElem hlt⟩
      obtain ⟨bi, oi, XN, xn, rfl, q0, q1, q2, hxn, hxz⟩ := inst_at (RInsts.keep HI.out (HB2.out.trans HJ.out).keeps) hx
      have X1 := hideIt hx
      have HXN := hideIt hxn
      have gx := (Grows.refl wr).alloc (.cells #[.string x.name, .int .i64 x.cell, .slice XN x.nets.length xn] 77)
      have RX : Hid (RInst (wr.alloc (.cells #[.string x.name, .int .i64 x.cell, .slice XN x.nets.length xn] 77)) [.string x.name, .int .i64 x.cell, .slice XN x.nets.length xn] x) := hideIt ⟨_, rfl, hxz, RInts.keep hxn gx.keeps⟩
      have GXH := hideIt gx
      have BX := hideIt (Blk.new wr 77 #[.string x.name, .int .i64 x.cell, .slice XN x.nets.length xn])
      clear hx hxn gx
      go_wp2_with fail
      refine (isInst_any _ (RCells.keep HL.out ((HB2.out.trans HJ.out).trans GXH.out).keeps) (HD.out.keep ((HB2.out.trans HJ.out).trans GXH.out).keeps) RX.out).mono ?_
      rintro e w3 ⟨rfl, g3⟩
      have HM := hideIt (HJ.out.trans (GXH.out.trans g3))
      have HG := hideIt (GXH.out.trans g3)
      have BY := hideIt (BX.out.grows g3)
      have Z1 := hideIt (V1.out.grows HG.out)
      have Z2 := hideIt (V2.out.grows HG.out)
      have HDR := hideIt (hdr.out.grows HG.out)
      clear g3 kl klz kd0 kd1 kd2 kdz q0 q1 q2
      have kl : w3.cell? ⟨w.heap.size, 0, none⟩ = some (.slice C cs.length nc) := Z1.out.cell 0
      have klz := Z1.out.lt
      have kd0 : w3.cell? ⟨w.heap.size + 1, 0, none⟩ = some (.slice (some ⟨bi, oi, none⟩) d.insts.length ni) := Z2.out.cell 0
      have kd1 : w3.cell? ⟨w.heap.size + 1, 1, none⟩ = some (.slice N d.nets.length nn) := Z2.out.cell 1
      have kd2 : w3.cell? ⟨w.heap.size + 1, 2, none⟩ = some (.slice O d.ports.length no) := Z2.out.cell 2
      have kdz := Z2.out.lt
      have x0 : w3.cell? ⟨wr.heap.size, 0, none⟩ = some (.string x.name) := BY.out.cell 0
      have x1 : w3.cell? ⟨wr.heap.size, 1, none⟩ = some (.int .i64 x.cell) := BY.out.cell 1
      have x2 : w3.cell? ⟨wr.heap.size, 2, none⟩ = some (.slice XN x.nets.length xn) := BY.out.cell 2
      have xz := BY.out.lt
      cases hio : instB cs d x
      · have EP := hideIt (show desB cs d = false from pB_false fun h => by have := pB_true (h.inst k x X1.out); unfold instB at hio; rw [this] at hio; cases hio)
        clear hio
        go_wp2
        go_ret
        exact ⟨ret_bool EP.out.symm, G.out.trans (HB2.out.trans HM.out)⟩
      have OKX : InstOk cs d x := pB_iff.1 hio
      have OKH := hideIt OKX
      clear hio
      have hlast := (DesP.last LP.out OKX).1
      have CS := hideIt (cntI_succ X1.out)
      obtain ⟨m, hm⟩ : ∃ m, x.nets.length = m + 1 := ⟨x.nets.length - 1, by omega⟩
      obtain ⟨v, hv⟩ : ∃ v, x.nets[m]? = some v := ⟨_, List.getElem?_eq_getElem (by omega)⟩
      have hvb := List.all_eq_true.1 OKX.nets v (List.mem_of_getElem? hv)
      unfold netIn at hvb
      have hvb2 := inB_true hvb
      have LN := hideIt (show lastNet x = v from lastNet_of (by rw [hm]; simpa using hv))
      obtain ⟨bn, on, rfl, kv⟩ := ints_at (RInts.keep HXN.out HG.out.keeps) hv
      obtain ⟨j, rfl⟩ : ∃ j : Nat, v = (j : Int) := ⟨v.toNat, by omega⟩
      have hjl : j < d.nets.length := by omega
      have hjl2 : (j : Int) < (d.nets.length : Int) := by omega
      have XL : (x.nets.length : Int) ≤ 9223372036854775807 := RList.len HXN.out
      rw [hm] at x2 XL
      have dj := HDR.out.cell hjl
      have fj := HDR.out.frozen j
      have db := HDR.out.lt
      have cb : drvF d k 0 j ≤ 100 := by unfold drvF; have := cntI_le (d.insts.take k) j; have := cntP_le (d.ports.take 0) j; simp at *; omega
      have ST := hideIt (HDR.out.step hjl (g := drvF d (k + 1) 0) fun i => by unfold drvF; rw [CS.out, LN.out]; omega)
      have NOK : Hid (∀ (m : Nat) (x : InstD), m < k + 1 → d.insts[m]? = some x → InstOk cs d x) := hideIt fun m y hm hy => by
        by_cases e : m = k
        · subst e
          rw [X1.out] at hy
          injection hy with hy
          rw [← hy]
          exact OKH.out
        · exact hok.out m y (by omega) hy
      clear hvb hvb2 hm hv hdr OKX hlast
      generalize drvF d k 0 j = dv at *
      go_wp2
      go_roundw
      case rel => exact ⟨k + 1, by omega, by go_num, ST.out, NOK.out, HM.out.setCell (Nat.le_refl _) _⟩
      case measure => simp [intOf]; omega
    · obtain rfl : k = d.insts.length := by omega
      obtain ⟨w8, ew8⟩ : ∃ w8 : World, w8 = wr := ⟨_, rfl⟩
      subst ew8
      have IOK := hideIt fun (m : Nat) (x : InstD) (hx : d.insts[m]? = some x) => hok.out m x (List.getElem?_eq_some_iff.1 hx).1 hx
      clear hok
      go_wp2
      go_loopw [9, 51] (fun _ i wr => ∃ q : Nat, q ≤ d.ports.length ∧ i = .int .i64 (q : Int) ∧ Hid (Drv wr u2.heap.size 3 d.nets.length (drvF d d.insts.length q)) ∧ Hid (∀ (m : Nat) (p : PortD), m < q → d.ports[m]? = some p → PortOk d p) ∧ Grows u2 wr) (fun _ i _ => d.ports.length - (intOf i).toNat)
      case atStart => exact ⟨0, by omega, rfl, hdr.out, hideIt fun m p hm => absurd hm (by omega), HJ.out⟩
      case round =>
        obtain ⟨q, hq, rfl, hds, hpk, hg⟩ := hrel
        have HM := hideIt hg
        have Z1 := hideIt (U1.out.grows hg)
        have Z2 := hideIt (U2.out.grows hg)
        clear hg kl klz kd0 kd1 kd2 kdz
        have kl : wr.cell? ⟨w.heap.size, 0, none⟩ = some (.slice C cs.length nc) := Z1.out.cell 0
        have klz := Z1.out.lt
        have kd0 : wr.cell? ⟨w.heap.size + 1, 0, none⟩ = some (.slice I d.insts.length ni) := Z2.out.cell 0
        have kd1 : wr.cell? ⟨w.heap.size + 1, 1, none⟩ = some (.slice N d.nets.length nn) := Z2.out.cell 1
        have kd2 : wr.cell? ⟨w.heap.size + 1, 2, none⟩ = some (.slice O d.ports.length no) := Z2.out.cell 2
        have kdz := Z2.out.lt
        by_cases hlq : q < d.ports.length
        · obtain ⟨p, hp⟩ : ∃ p, d.ports[q]? = some p := ⟨_, List.getElem?_eq_getElem hlq⟩
          obtain ⟨bi, oi, rfl, q0, q1, q2, -⟩ := port_at (RPorts.keep HO.out (HB2.out.trans HM.out).keeps) hp
          have X1 := hideIt hp
          have CS := hideIt (cntP_succ hp)
          have GX := hideIt ((Grows.refl wr).alloc (.cells #[.string p.name, .int .i64 p.dir, .int .i64 p.net] 75))
          have BX := hideIt (Blk.new wr 75 #[.string p.name, .int .i64 p.dir, .int .i64 p.net])
          have Y1 := hideIt (Z1.out.grows GX.out)
          have Y2 := hideIt (Z2.out.grows GX.out)
          have HDG := hideIt (HD.out.keep ((HB2.out.trans HM.out).trans GX.out).keeps)
          clear hp
          by_cases hd1 : p.dir = 1
          · have b1 : (p.dir != 1) = false := by rw [bne_eq_false_iff_eq]; exact hd1
            have HDIR := hideIt (show inB p.dir 1 2 = true by rw [hd1]; decide)
            have HE1 := hideIt hd1
            clear hd1
            cases hn : netIn d p.net
            · have EP := hideIt (show desB cs d = false from pB_false fun h => by have := (h.port q p X1.out).net; rw [hn] at this; cases this)
              have FN := hideIt hn
              clear hn
              go_wp2_with fail
              refine (isNet_any p.net _ HDG.out).mono ?_
              rintro e u3 ⟨rfl, g3⟩
              rw [FN.out]
              have HG := hideIt (GX.out.trans g3)
              have HN_ := hideIt (HM.out.trans HG.out)
              have BY := hideIt (BX.out.grows g3)
              have HDS := hideIt (hds.out.grows HG.out)
              clear g3 kl klz kd0 kd1 kd2 kdz q0 q1 q2
              have x1 : u3.cell? ⟨wr.heap.size, 1, none⟩ = some (.int .i64 p.dir) := BY.out.cell 1
              have x2 : u3.cell? ⟨wr.heap.size, 2, none⟩ = some (.int .i64 p.net) := BY.out.cell 2
              have xz := BY.out.lt
              go_wp2
              go_ret
              exact ⟨ret_bool EP.out.symm, G.out.trans (HB2.out.trans HN_.out)⟩
            have FN := hideIt hn
            have hvb2 := inB_true (show inB p.net 0 ((d.nets.length : Int) - 1) = true from hn)
            have OKP := hideIt (show PortOk d p from ⟨HDIR.out, hn⟩)
            clear hn
            have NPK : Hid (∀ (m : Nat) (y : PortD), m < q + 1 → d.ports[m]? = some y → PortOk d y) := hideIt fun m y hm hy => by
              by_cases e : m = q
              · subst e
                rw [X1.out] at hy
                injection hy with hy
                rw [← hy]
                exact OKP.out
              · exact hpk.out m y (by omega) hy
            go_wp2_with fail
            refine (isNet_any p.net _ HDG.out).mono ?_
            rintro e u3 ⟨rfl, g3⟩
            rw [FN.out]
            have HG := hideIt (GX.out.trans g3)
            have HN_ := hideIt (HM.out.trans HG.out)
            have BY := hideIt (BX.out.grows g3)
            have HDS := hideIt (hds.out.grows HG.out)
            clear g3 kl klz kd0 kd1 kd2 kdz q0 q1 q2
            have x1 : u3.cell? ⟨wr.heap.size, 1, none⟩ = some (.int .i64 p.dir) := BY.out.cell 1
            have x2 : u3.cell? ⟨wr.heap.size, 2, none⟩ = some (.int .i64 p.net) := BY.out.cell 2
            have xz := BY.out.lt
            obtain ⟨j, hj⟩ : ∃ j : Nat, p.net = (j : Int) := ⟨p.net.toNat, by omega⟩
            have hjl : j < d.nets.length := by omega
            have hjl2 : (j : Int) < (d.nets.length : Int) := by omega
            rw [hj] at x2
            have hd1' : (p.dir == 1) = true := beq_iff_eq.2 HE1.out
            have dj := HDS.out.cell hjl
            have fj := HDS.out.frozen j
            have db := HDS.out.lt
            have cb : drvF d d.insts.length q j ≤ 100 := by unfold drvF; have := cntI_le (d.insts.take d.insts.length) j; have := cntP_le (d.ports.take q) j; simp at *; omega
            have ST := hideIt (HDS.out.step hjl (g := drvF d d.insts.length (q + 1)) fun i => by unfold drvF; rw [CS.out, hj]; simp only [HE1.out, true_and]; omega)
            clear hds hj hvb2
            generalize drvF d d.insts.length q j = dv at *
            go_wp2
            go_roundw
            case rel => exact ⟨q + 1, by omega, by go_num, ST.out, NPK.out, HN_.out.setCell (Nat.le_refl _) _⟩
            case measure => simp [intOf]; omega
          have b1 : (p.dir != 1) = true := by rw [bne_iff_ne]; exact hd1
          by_cases hd2 : p.dir = 2
          · have b2 : (p.dir != 2) = false := by rw [bne_eq_false_iff_eq]; exact hd2
            have HDIR := hideIt (show inB p.dir 1 2 = true by rw [hd2]; decide)
            have HE1 := hideIt hd1
            clear hd1 hd2
            cases hn : netIn d p.net
            · have EP := hideIt (show desB cs d = false from pB_false fun h => by have := (h.port q p X1.out).net; rw [hn] at this; cases this)
              have FN := hideIt hn
              clear hn
              go_wp2_with fail
              refine (isNet_any p.net _ HDG.out).mono ?_
              rintro e u3 ⟨rfl, g3⟩
              rw [FN.out]
              have HG := hideIt (GX.out.trans g3)
              have HN_ := hideIt (HM.out.trans HG.out)
              have BY := hideIt (BX.out.grows g3)
              have HDS := hideIt (hds.out.grows HG.out)
              clear g3 kl klz kd0 kd1 kd2 kdz q0 q1 q2
              have x1 : u3.cell? ⟨wr.heap.size, 1, none⟩ = some (.int .i64 p.dir) := BY.out.cell 1
              have x2 : u3.cell? ⟨wr.heap.size, 2, none⟩ = some (.int .i64 p.net) := BY.out.cell 2
              have xz := BY.out.lt
              go_wp2
              go_ret
              exact ⟨ret_bool EP.out.symm, G.out.trans (HB2.out.trans HN_.out)⟩
            have FN := hideIt hn
            have hvb2 := inB_true (show inB p.net 0 ((d.nets.length : Int) - 1) = true from hn)
            have OKP := hideIt (show PortOk d p from ⟨HDIR.out, hn⟩)
            clear hn
            have NPK : Hid (∀ (m : Nat) (y : PortD), m < q + 1 → d.ports[m]? = some y → PortOk d y) := hideIt fun m y hm hy => by
              by_cases e : m = q
              · subst e
                rw [X1.out] at hy
                injection hy with hy
                rw [← hy]
                exact OKP.out
              · exact hpk.out m y (by omega) hy
            go_wp2_with fail
            refine (isNet_any p.net _ HDG.out).mono ?_
            rintro e u3 ⟨rfl, g3⟩
            rw [FN.out]
            have HG := hideIt (GX.out.trans g3)
            have HN_ := hideIt (HM.out.trans HG.out)
            have BY := hideIt (BX.out.grows g3)
            have HDS := hideIt (hds.out.grows HG.out)
            clear g3 kl klz kd0 kd1 kd2 kdz q0 q1 q2
            have x1 : u3.cell? ⟨wr.heap.size, 1, none⟩ = some (.int .i64 p.dir) := BY.out.cell 1
            have x2 : u3.cell? ⟨wr.heap.size, 2, none⟩ = some (.int .i64 p.net) := BY.out.cell 2
            have xz := BY.out.lt
            have hd1' : (p.dir == 1) = false := beq_eq_false_iff_ne.2 HE1.out
            have ST := hideIt (HDS.out.same (g := drvF d d.insts.length (q + 1)) fun i _ => by unfold drvF; rw [CS.out]; simp [HE1.out])
            clear hds
            go_wp2
            go_roundw
            case rel => exact ⟨q + 1, by omega, by go_num, ST.out, NPK.out, HN_.out⟩
            case measure => simp [intOf]; omega
          have b2 : (p.dir != 2) = true := by rw [bne_iff_ne]; exact hd2
          have EP := hideIt (show desB cs d = false from pB_false fun h => by have := inB_true (h.port q p X1.out).dir; omega)
          go_wp2
          go_ret
          exact ⟨ret_bool EP.out.symm, G.out.trans ((HB2.out.trans HM.out).trans GX.out)⟩
        · obtain rfl : q = d.ports.length := by omega
          have DF := hideIt (hds.out.same (g := fun j => cntI d.insts j + cntP d.ports j) fun i _ => by unfold drvF; rw [List.take_length, List.take_length])
          have POK := hideIt fun (m : Nat) (p : PortD) (hp : d.ports[m]? = some p) => hpk.out m p (List.getElem?_eq_some_iff.1 hp).1 hp
          have EQ := hideIt (show desB cs d = pB (∀ j, j < d.nets.length → cntI d.insts j + cntP d.ports j = 1) by
            cases hq : pB (∀ j, j < d.nets.length → cntI d.insts j + cntP d.ports j = 1)
            · exact pB_false fun h => by have := pB_true h.drv; rw [hq] at this; cases this
            · exact pB_true ⟨LP.out, hni, hnn, hnp, IOK.out, POK.out, HP_.out.iname, HP_.out.nname, HP_.out.pname, pB_iff.1 hq⟩)
          have GE_ := hideIt (G.out.trans (HB2.out.trans HM.out))
          clear hds hpk
          go_wp2_with fail
          refine (containsFuncIn_any 78 #[] (fun args W => enters_of Tryz.func78 (by kernel_rfl) rfl args W) (fun m => m != 1) _ (drv_ints DF.out (by unfold maxLen; omega)) ?_).mono ?_
          · intro y c0 W _ gw hr
            unfold RI at hr
            injection hr with hr
            subst hr
            exact isDes1_any y W
          rintro e w9 ⟨rfl, g9⟩
          have GN_ := hideIt (GE_.out.trans g9)
          rw [drv_any]
          generalize hzz : pB (∀ j, j < d.nets.length → cntI d.insts j + cntP d.ports j = 1) = z at *
          have EZ := hideIt (EQ.out)
          clear g9
          go_wp2
          go_ret
          exact ⟨ret_bool (by rw [EZ.out]), GN_.out⟩
end Go.Proofs.YtocahjbmnkadjaaGreatDoor
