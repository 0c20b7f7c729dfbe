/-
  Contract of the reference's IsDesign.
-/
import Derived.Test.YtocahjbmnkadjaaGreatDoorSParts
import Derived.Test.YtocahjbmnkadjaaGreatDoorGP
import Derived.Test.YtocahjbmnkadjaaGreatDoorGN
import Derived.Test.YtocahjbmnkadjaaGreatDoorGG
import Derived.Laws.AppendOwn
namespace Go.Proofs.YtocahjbmnkadjaaGreatDoor
open Go.RowKit
/-- an own array of counts -/
def Drv (wr : World) (B : Nat) (t : TypeId) (n : Nat) (f : Nat → Nat) : Prop := ∃ cs : Array Value, Blk wr B t cs ∧ cs.size = n ∧ ∀ j, j < n → cs[j]? = some (.int .i64 (f j : Int))
section
variable {wr : World} {B n : Nat} {t : TypeId} {f : Nat → Nat}
theorem Drv.lt (h : Drv wr B t n f) : B < wr.heap.size := by obtain ⟨cs, hb, -⟩ := h; exact hb.lt
theorem Drv.grows (h : Drv wr B t n f) {w' : World} (g : Grows wr w') : Drv w' B t n f := by
  obtain ⟨cs, hb, hs, hc⟩ := h
  exact ⟨cs, hb.grows g, hs, hc⟩
theorem Drv.cell (h : Drv wr B t n f) {j : Nat} (hj : j < n) : wr.cell? ⟨B, j, none⟩ = some (.int .i64 (f j : Int)) := by
  obtain ⟨cs, hb, hs, hc⟩ := h
  rw [hb.cell]; exact hc j hj
theorem Drv.frozen (h : Drv wr B t n f) (j : Nat) : wr.frozen? ⟨B, j, none⟩ = false := by
  obtain ⟨cs, hb, -⟩ := h
  exact hb.frozen j
theorem Drv.step (h : Drv wr B t n f) {j : Nat} (hj : j < n) {g : Nat → Nat} (hg : ∀ i, g i = f i + if (j : Int) = (i : Int) then 1 else 0) : Drv (wr.setCell ⟨B, j, none⟩ (.int .i64 ((f j : Int) + 1))) B t n g := by
  obtain ⟨cs, hb, hs, hc⟩ := h
  refine ⟨_, hb.set_ j _, by simpa using hs, fun i hi => ?_⟩
  rw [Array.getElem?_setIfInBounds, hg]
  by_cases e : j = i
  · subst e
    rw [if_pos rfl, if_pos (by omega), if_pos rfl]; simp
  · rw [if_neg e, if_neg (by omega)]
    exact hc i hi
theorem Drv.same (h : Drv wr B t n f) {g : Nat → Nat} (hg : ∀ i, i < n → g i = f i) : Drv wr B t n g := by
  obtain ⟨cs, hb, hs, hc⟩ := h
  exact ⟨cs, hb, hs, fun i hi => by rw [hg i hi]; exact hc i hi⟩
end
theorem Drv.start (w : World) (t : TypeId) (n : Nat) : Drv (w.alloc (.cells (madeCells #[.int .i64 0] n) t)) w.heap.size t n (fun _ => 0) := by
  refine ⟨_, Blk.new w t _, by simp [madeCells], fun j hj => ?_⟩
  simp [madeCells, hj, Nat.mod_one]
def inV (xs : List InstD) (k : Nat) : List Value := ((xs.take k).map (·.name)).map (.string ·)
theorem inV_succ {xs : List InstD} {k : Nat} {x : InstD} (h : xs[k]? = some x) : inV xs (k + 1) = inV xs k ++ [.string x.name] := by
  unfold inV
  rw [List.take_add_one, h]
  simp
def poV (xs : List PortD) (k : Nat) : List Value := ((xs.take k).map (·.name)).map (.string ·)
theorem poV_succ {xs : List PortD} {k : Nat} {x : PortD} (h : xs[k]? = some x) : poV xs (k + 1) = poV xs k ++ [.string x.name] := by
  unfold poV
  rw [List.take_add_one, h]
  simp
def drvF (d : DesignD) (k q : Nat) (j : Nat) : Nat := cntI (d.insts.take k) j + cntP (d.ports.take q) j
set_option maxHeartbeats 16000000 in
set_option maxRecDepth 10000 in
theorem sIsDes_any {vl a b c : Value} {cs : List CellD} {d : DesignD} (w : World) (hl : RCells w vl cs) (hd : RDesign w [a, b, c] d) :
    Calls Tryz.prog 16 #[.agg #[vl], .agg #[a, b, c]] w fun e w' => e = .returned (.bool (desB cs d)) ∧ Grows w w' := by
  obtain ⟨i0, hi, hz0, hz1, hz2⟩ := info_parts info_str
  obtain ⟨j0, hj, hy0, hy1, hy2⟩ := info_parts info_i64
  have HN2 := hideIt hd.parts.2.1
  have cl := RList.len hl
  obtain ⟨C, nc, rfl⟩ : ∃ (D : Option Addr) (nd : Nat), vl = .slice D cs.length nd := by obtain ⟨D, c, e, -⟩ := RList.form hl; exact ⟨D, c, e⟩
  obtain ⟨h1, h2, h3⟩ := hd.parts
  have il := RList.len h1
  have nl := RList.len h2
  have ol := RList.len h3
  obtain ⟨⟨I, ni, rfl⟩, ⟨N, nn, rfl⟩, ⟨O, no, rfl⟩⟩ : (∃ (A : Option Addr) (n : Nat), a = .slice A d.insts.length n) ∧ (∃ (A : Option Addr) (n : Nat), b = .slice A d.nets.length n) ∧ (∃ (A : Option Addr) (n : Nat), c = .slice A d.ports.length n) :=
    ⟨(by obtain ⟨A, c, e, -⟩ := RList.form h1; exact ⟨A, c, e⟩), (by obtain ⟨A, c, e, -⟩ := RList.form h2; exact ⟨A, c, e⟩), (by obtain ⟨A, c, e, -⟩ := RList.form h3; exact ⟨A, c, e⟩)⟩
  have g0 := ((Grows.refl w).alloc (.cells #[.slice C cs.length nc] 35)).alloc (.cells #[.slice I d.insts.length ni, .slice N d.nets.length nn, .slice O d.ports.length no] 30)
  have S1 : Hid (Blk ((w.alloc (.cells #[.slice C cs.length nc] 35)).alloc (.cells #[.slice I d.insts.length ni, .slice N d.nets.length nn, .slice O d.ports.length no] 30)) w.heap.size 35 #[.slice C cs.length nc]) := hideIt ((Blk.new w 35 #[.slice C cs.length nc]).grows ((Grows.refl _).alloc (.cells #[.slice I d.insts.length ni, .slice N d.nets.length nn, .slice O d.ports.length no] 30)))
  have S2 : Hid (Blk ((w.alloc (.cells #[.slice C cs.length nc] 35)).alloc (.cells #[.slice I d.insts.length ni, .slice N d.nets.length nn, .slice O d.ports.length no] 30)) (w.heap.size + 1) 30 #[.slice I d.insts.length ni, .slice N d.nets.length nn, .slice O d.ports.length no]) := by
    have := Blk.new (w.alloc (.cells #[.slice C cs.length nc] 35)) 30 #[.slice I d.insts.length ni, .slice N d.nets.length nn, .slice O d.ports.length no]
    exact hideIt (by simpa using this)
  have HL := hideIt (RCells.keep hl g0.keeps)
  have HI := hideIt (RInsts.keep h1 g0.keeps)
  have HO := hideIt (RPorts.keep h3 g0.keeps)
  have HD := hideIt (hd.keep g0.keeps)
  have G := hideIt g0
  clear hl hd h1 h2 h3 g0
  go_enter Tryz.func16, Tryz.ntmps16
  go_wp2_with fail
  refine (sIsLib_any _ HL.out).mono ?_
  rintro e w1 ⟨rfl, g1⟩
  have G1 := hideIt (G.out.trans g1)
  have T1 := hideIt (S1.out.grows g1)
  have T2 := hideIt (S2.out.grows g1)
  have HL1 := hideIt (RCells.keep HL.out g1.keeps)
  have HD1 := hideIt (RDesign.keep HD.out g1.keeps)
  have HB1 := hideIt g1
  clear g1
  have kl : w1.cell? ⟨w.heap.size, 0, none⟩ = some (.slice C cs.length nc) := T1.out.cell 0
  have klz := T1.out.lt
  have kd0 : w1.cell? ⟨w.heap.size + 1, 0, none⟩ = some (.slice I d.insts.length ni) := T2.out.cell 0
  have kd1 : w1.cell? ⟨w.heap.size + 1, 1, none⟩ = some (.slice N d.nets.length nn) := T2.out.cell 1
  have kd2 : w1.cell? ⟨w.heap.size + 1, 2, none⟩ = some (.slice O d.ports.length no) := T2.out.cell 2
  have kdz := T2.out.lt
  cases hlb : libB cs
  · skip
    have EP := hideIt (show desB cs d = false from pB_false fun h => by have := pB_true h.lib; unfold libB at hlb; rw [this] at hlb; cases hlb)
    clear hlb
    go_wp2
    go_ret
    exact ⟨ret_bool EP.out.symm, G1.out⟩
  have LP := hideIt (pB_iff.1 hlb)
  clear hlb
  by_cases hni : d.insts.length ≤ 14
  rotate_left
  · have bni : decide ((14 : Int) < (d.insts.length : Int)) = true := decide_eq_true (by omega)
    have EP := hideIt (show desB cs d = false from pB_false fun h => hni h.ni)
    go_wp2
    go_ret
    exact ⟨ret_bool EP.out.symm, G1.out⟩
  have bni : decide ((14 : Int) < (d.insts.length : Int)) = false := decide_eq_false (by omega)
  by_cases hnn : d.nets.length ≤ 30
  rotate_left
  · have bnn : decide ((30 : Int) < (d.nets.length : Int)) = true := decide_eq_true (by omega)
    have EP := hideIt (show desB cs d = false from pB_false fun h => hnn h.nn)
    go_wp2
    go_ret
    exact ⟨ret_bool EP.out.symm, G1.out⟩
  have bnn : decide ((30 : Int) < (d.nets.length : Int)) = false := decide_eq_false (by omega)
  by_cases hnp : d.ports.length ≤ 8
  rotate_left
  · have bnp : decide ((8 : Int) < (d.ports.length : Int)) = true := decide_eq_true (by omega)
    have EP := hideIt (show desB cs d = false from pB_false fun h => hnp h.np)
    go_wp2
    go_ret
    exact ⟨ret_bool EP.out.symm, G1.out⟩
  have bnp : decide ((8 : Int) < (d.ports.length : Int)) = false := decide_eq_false (by omega)
  go_wp2_with fail
  refine (l05Parts_any _ HL1.out HD1.out).mono ?_
  rintro e w2 ⟨rfl, g2⟩
  have G2 := hideIt (G1.out.trans g2)
  have U1 := hideIt (T1.out.grows g2)
  have U2 := hideIt (T2.out.grows g2)
  have HB2 := hideIt (HB1.out.trans g2)
  clear g2 kl klz kd0 kd1 kd2 kdz
  have kd0 : w2.cell? ⟨w.heap.size + 1, 0, none⟩ = some (.slice I d.insts.length ni) := U2.out.cell 0
  have kd1 : w2.cell? ⟨w.heap.size + 1, 1, none⟩ = some (.slice N d.nets.length nn) := U2.out.cell 1
  have kd2 : w2.cell? ⟨w.heap.size + 1, 2, none⟩ = some (.slice O d.ports.length no) := U2.out.cell 2
  have kdz := U2.out.lt
  cases hpp : pB (PartsP cs d)
  · skip
    have EP := hideIt (show desB cs d = false from pB_false fun h => by have := pB_true (p := PartsP cs d) ⟨h.inst, h.port⟩; rw [this] at hpp; cases hpp)
    clear hpp
    go_wp2
    go_ret
    exact ⟨ret_bool EP.out.symm, G2.out⟩
  have PP := hideIt (pB_iff.1 hpp)
  clear hpp
  have own0 : Hid ((w2.alloc (.cells #[] 9)).ownsRow w2.heap.size 9 1 (.slice (some ⟨w2.heap.size, 0, none⟩) 0 0) 0 []) :=
    hideIt ⟨rfl, .inr ⟨w2.heap.size, 0, #[], rfl, Nat.le_refl _, Blk.new w2 _ _, Nat.le_refl _, Nat.zero_le _, rfl, rfl⟩⟩
  go_wp2
  go_loopw [5, 6] (fun s i wr => ∃ (nv : Value) (k : Nat), nv = s ∧ k ≤ d.insts.length ∧ i = .int .i64 (k : Int) ∧ Hid (wr.ownsRow w2.heap.size 9 1 nv k (inV d.insts k)) ∧ Grows w2 wr) (fun _ i _ => d.insts.length - (intOf i).toNat)
  case atStart => exact ⟨_, 0, rfl, by omega, rfl, own0.out, (Grows.refl _).alloc _⟩
  case round =>
    obtain ⟨nv, k, rfl, hk, rfl, hown, hg⟩ := hrel
    have HG := hideIt hg
    have V2 := hideIt (U2.out.grows hg)
    clear hg kd0 kd1 kd2 kdz
    have kd0 : wr.cell? ⟨w.heap.size + 1, 0, none⟩ = some (.slice I d.insts.length ni) := V2.out.cell 0
    have kd1 : wr.cell? ⟨w.heap.size + 1, 1, none⟩ = some (.slice N d.nets.length nn) := V2.out.cell 1
    have kd2 : wr.cell? ⟨w.heap.size + 1, 2, none⟩ = some (.slice O d.ports.length no) := V2.out.cell 2
    have kdz := V2.out.lt
    by_cases hlt : k < d.insts.length
    · obtain ⟨x, hx⟩ : ∃ x, d.insts[k]? = some x := ⟨_, List.getElem?_eq_getElem hlt⟩
      obtain ⟨bi, oi, XN, xn, rfl, q0, -, -, -, -⟩ := inst_at (RInsts.keep HI.out (HB2.out.trans HG.out).keeps) hx
      have X1 := hideIt hx
      clear hx
      have own1 := hideIt (hown.out.alloc (.cells #[.string x.name] 9))
      have G3 := hideIt (HG.out.alloc (.cells #[.string x.name] 9))
      have nlt : Hid (∀ q, nv.ownBlock = some q → w2.heap.size ≤ q ∧ q < wr.heap.size) := hideIt hown.out.lt
      go_wp2_with (at_builtin; refine wpList_append_own _ rfl _ _ 27 rfl w2.heap.size 9 i0 (.string .empty) 1 16 Tryz.underlying27 hi hz0 hz1 hz2 rfl (by decide) nv k (inV d.insts k) rfl own1.out ⟨wr.heap.size, 0, none⟩ 1 1 [.string x.name] rfl ?c1 ?c2 ?c3 ?c4 ?c5 ?c6 ?_)
      case c1 => simp
      case c2 =>
        intro j u hj
        match j, hj with
        | 0, hj => simp at hj; subst hj; simp [Addr.add]
      case c3 => intro u hu; simp at hu; subst hu; rfl
      case c4 => unfold maxLen; omega
      case c5 => omega
      case c6 => exact G3.out.size
      intro v' w3 hown2 hgrow hnil
      have G4 := hideIt (G3.out.grown hgrow (fun q e => (nlt.out q e).1))
      have OW := hideIt (show w3.ownsRow w2.heap.size 9 1 v' (k + 1) (inV d.insts (k + 1)) by rw [inV_succ X1.out]; exact hown2)
      clear hown2 hgrow hnil own1 q0
      go_wp2
      go_roundw
      case rel => exact ⟨_, k + 1, rfl, by omega, by go_num, OW.out, G4.out⟩
      case measure => simp [intOf]; omega
    · obtain rfl : k = d.insts.length := by omega
      have RS1 : Hid (RStrs wr nv (d.insts.map (·.name))) := hideIt (own_strs (n := d.insts.length) (base := w2.heap.size) (xs := d.insts.map (·.name)) (by simp) (by have := hown.out; unfold inV at this; rw [List.take_length] at this; exact this) (fun s hs => by
        obtain ⟨p, hp, rfl⟩ := List.mem_map.1 hs
        obtain ⟨m, hm⟩ := List.getElem?_of_mem hp
        obtain ⟨_, _, _, _, -, -, -, -, -, hz⟩ := inst_at HI.out hm
        exact hz))
      obtain ⟨w3, ew3⟩ : ∃ w3 : World, w3 = wr := ⟨_, rfl⟩
      subst ew3
      have own2 : Hid ((w3.alloc (.cells #[] 9)).ownsRow w3.heap.size 9 1 (.slice (some ⟨w3.heap.size, 0, none⟩) 0 0) 0 []) :=
        hideIt ⟨rfl, .inr ⟨w3.heap.size, 0, #[], rfl, Nat.le_refl _, Blk.new w3 _ _, Nat.le_refl _, Nat.zero_le _, rfl, rfl⟩⟩
      clear hown own0
      go_wp2
      go_loopw [7, 8] (fun s i wr => ∃ (nv : Value) (k : Nat), nv = s ∧ k ≤ d.ports.length ∧ i = .int .i64 (k : Int) ∧ Hid (wr.ownsRow w3.heap.size 9 1 nv k (poV d.ports k)) ∧ Grows w3 wr) (fun _ i _ => d.ports.length - (intOf i).toNat)
      case atStart => exact ⟨_, 0, rfl, by omega, rfl, own2.out, (Grows.refl _).alloc _⟩
      case round =>
        obtain ⟨nw, k, rfl, hk, rfl, hown, hg⟩ := hrel
        have HH := hideIt hg
        have Y2 := hideIt (V2.out.grows hg)
        clear hg kd0 kd1 kd2 kdz
        have kd0 : wr.cell? ⟨w.heap.size + 1, 0, none⟩ = some (.slice I d.insts.length ni) := Y2.out.cell 0
        have kd1 : wr.cell? ⟨w.heap.size + 1, 1, none⟩ = some (.slice N d.nets.length nn) := Y2.out.cell 1
        have kd2 : wr.cell? ⟨w.heap.size + 1, 2, none⟩ = some (.slice O d.ports.length no) := Y2.out.cell 2
        have kdz := Y2.out.lt
        by_cases hlt : k < d.ports.length
        · obtain ⟨x, hx⟩ : ∃ x, d.ports[k]? = some x := ⟨_, List.getElem?_eq_getElem hlt⟩
          obtain ⟨bi, oi, rfl, q0, -, -, -⟩ := port_at (RPorts.keep HO.out (HB2.out.trans (HG.out.trans HH.out)).keeps) hx
          have X1 := hideIt hx
          clear hx
          have own1 := hideIt (hown.out.alloc (.cells #[.string x.name] 9))
          have G3 := hideIt (HH.out.alloc (.cells #[.string x.name] 9))
          have nlt : Hid (∀ q, nw.ownBlock = some q → w3.heap.size ≤ q ∧ q < wr.heap.size) := hideIt hown.out.lt
          go_wp2_with (at_builtin; refine wpList_append_own _ rfl _ _ 27 rfl w3.heap.size 9 i0 (.string .empty) 1 16 Tryz.underlying27 hi hz0 hz1 hz2 rfl (by decide) nw k (poV d.ports k) rfl own1.out ⟨wr.heap.size, 0, none⟩ 1 1 [.string x.name] rfl ?c1 ?c2 ?c3 ?c4 ?c5 ?c6 ?_)
          case c1 => simp
          case c2 =>
            intro j u hj
            match j, hj with
            | 0, hj => simp at hj; subst hj; simp [Addr.add]
          case c3 => intro u hu; simp at hu; subst hu; rfl
          case c4 => unfold maxLen; omega
          case c5 => omega
          case c6 => exact G3.out.size
          intro v' w4 hown2 hgrow hnil
          have G4 := hideIt (G3.out.grown hgrow (fun q e => (nlt.out q e).1))
          have OW := hideIt (show w4.ownsRow w3.heap.size 9 1 v' (k + 1) (poV d.ports (k + 1)) by rw [poV_succ X1.out]; exact hown2)
          clear hown2 hgrow hnil own1 q0
          go_wp2
          go_roundw
          case rel => exact ⟨_, k + 1, rfl, by omega, by go_num, OW.out, G4.out⟩
          case measure => simp [intOf]; omega
        · obtain rfl : k = d.ports.length := by omega
          have RS2 : Hid (RStrs wr nw (d.ports.map (·.name))) := hideIt (own_strs (n := d.ports.length) (base := w3.heap.size) (xs := d.ports.map (·.name)) (by simp) (by have := hown.out; unfold poV at this; rw [List.take_length] at this; exact this) (fun s hs => by
            obtain ⟨p, hp, rfl⟩ := List.mem_map.1 hs
            obtain ⟨m, hm⟩ := List.getElem?_of_mem hp
            obtain ⟨_, _, -, -, -, -, hz⟩ := port_at HO.out hm
            exact hz))
          have RS1' := hideIt (RStrs.keep RS1.out HH.out.keeps)
          have HBX := hideIt (HB2.out.trans (HG.out.trans HH.out))
          have RS3 := hideIt (RStrs.keep (RStrs.keep HN2.out G.out.keeps) HBX.out.keeps)
          have GZ := hideIt (G.out.trans HBX.out)
          clear hown own2
          go_wp2_with fail
          refine (l05Names_any _ RS1'.out).mono ?_
          rintro e w5 ⟨rfl, g5⟩
          have G5 := hideIt (GZ.out.trans g5)
          have Z2 := hideIt (Y2.out.grows g5)
          have RS2' := hideIt (RStrs.keep RS2.out g5.keeps)
          have RS3' := hideIt (RStrs.keep RS3.out g5.keeps)
          have HB5 := hideIt (HBX.out.trans g5)
          clear g5 kd0 kd1 kd2 kdz
          have kd0 : w5.cell? ⟨w.heap.size + 1, 0, none⟩ = some (.slice I d.insts.length ni) := Z2.out.cell 0
          have kd1 : w5.cell? ⟨w.heap.size + 1, 1, none⟩ = some (.slice N d.nets.length nn) := Z2.out.cell 1
          have kd2 : w5.cell? ⟨w.heap.size + 1, 2, none⟩ = some (.slice O d.ports.length no) := Z2.out.cell 2
          have kdz := Z2.out.lt
          cases e1 : pB (NamesP (d.insts.map (·.name)))
          · skip
            have EP := hideIt (show desB cs d = false from pB_false fun h => by have := pB_true h.iname; rw [this] at e1; cases e1)
            clear e1
            go_wp2
            go_ret
            exact ⟨ret_bool EP.out.symm, G5.out⟩
          have N1 := hideIt (pB_iff.1 e1)
          clear e1
          go_wp2_with fail
          refine (l05Names_any _ RS2'.out).mono ?_
          rintro e w6 ⟨rfl, g6⟩
          have G6 := hideIt (G5.out.trans g6)
          have Z3 := hideIt (Z2.out.grows g6)
          have RS3'' := hideIt (RStrs.keep RS3'.out g6.keeps)
          have HB6 := hideIt (HB5.out.trans g6)
          clear g6 kd0 kd1 kd2 kdz
          have kd0 : w6.cell? ⟨w.heap.size + 1, 0, none⟩ = some (.slice I d.insts.length ni) := Z3.out.cell 0
          have kd1 : w6.cell? ⟨w.heap.size + 1, 1, none⟩ = some (.slice N d.nets.length nn) := Z3.out.cell 1
          have kd2 : w6.cell? ⟨w.heap.size + 1, 2, none⟩ = some (.slice O d.ports.length no) := Z3.out.cell 2
          have kdz := Z3.out.lt
          cases e1 : pB (NamesP (d.ports.map (·.name)))
          · skip
            have EP := hideIt (show desB cs d = false from pB_false fun h => by have := pB_true h.pname; rw [this] at e1; cases e1)
            clear e1
            go_wp2
            go_ret
            exact ⟨ret_bool EP.out.symm, G6.out⟩
          have N2 := hideIt (pB_iff.1 e1)
          clear e1
          go_wp2_with fail
          refine (l05Names_any _ RS3''.out).mono ?_
          rintro e w7 ⟨rfl, g7⟩
          have G7 := hideIt (G6.out.trans g7)
          have Z4 := hideIt (Z3.out.grows g7)
          have HB7 := hideIt (HB6.out.trans g7)
          clear g7 kd0 kd1 kd2 kdz
          have kd0 : w7.cell? ⟨w.heap.size + 1, 0, none⟩ = some (.slice I d.insts.length ni) := Z4.out.cell 0
          have kd1 : w7.cell? ⟨w.heap.size + 1, 1, none⟩ = some (.slice N d.nets.length nn) := Z4.out.cell 1
          have kd2 : w7.cell? ⟨w.heap.size + 1, 2, none⟩ = some (.slice O d.ports.length no) := Z4.out.cell 2
          have kdz := Z4.out.lt
          cases e1 : pB (NamesP d.nets)
          · skip
            have EP := hideIt (show desB cs d = false from pB_false fun h => by have := pB_true h.nname; rw [this] at e1; cases e1)
            clear e1
            go_wp2
            go_ret
            exact ⟨ret_bool EP.out.symm, G7.out⟩
          have N3 := hideIt (pB_iff.1 e1)
          clear e1
          have hmk : ∀ u : World, (Instr.makeSlice 64 (.int .i64 (d.nets.length : Int)) (.int .i64 (d.nets.length : Int))).run Tryz.prog u =
              .ok (.slice (some ⟨u.heap.size, 0, none⟩) d.nets.length d.nets.length) (u.alloc (.cells (madeCells #[.int .i64 0] d.nets.length) 2)) := fun u => by
            have h := run_make (P := Tryz.prog) u 64 2 j0 (.int .i64 0) Tryz.underlying64 hj hy0 .i64 .i64 (d.nets.length : Int) (d.nets.length : Int) (by omega) (Int.le_refl _) (by rw [hy2]; omega) (by omega)
            simpa [hy1, Value.cells] using h
          have DR0 := hideIt (Drv.start w7 2 d.nets.length)
          go_wp2
          go_loopw [10, 11] (fun i _ wr => ∃ k : Nat, k ≤ d.insts.length ∧ i = .int .i64 (k : Int) ∧ Hid (Drv wr w7.heap.size 2 d.nets.length (drvF d k 0)) ∧ Grows w7 wr) (fun i _ _ => d.insts.length - (intOf i).toNat)
          case atStart => exact ⟨0, by omega, rfl, DR0.out.same fun i _ => by simp [drvF, cntI, cntP], (Grows.refl _).alloc _⟩
          case round =>
            obtain ⟨k, hk, rfl, hdr, hg⟩ := hrel
            have HJ := hideIt hg
            have Z5 := hideIt (Z4.out.grows hg)
            clear hg kd0 kd1 kd2 kdz hmk
            have kd0 : wr.cell? ⟨w.heap.size + 1, 0, none⟩ = some (.slice I d.insts.length ni) := Z5.out.cell 0
            have kd1 : wr.cell? ⟨w.heap.size + 1, 1, none⟩ = some (.slice N d.nets.length nn) := Z5.out.cell 1
            have kd2 : wr.cell? ⟨w.heap.size + 1, 2, none⟩ = some (.slice O d.ports.length no) := Z5.out.cell 2
            have kdz := Z5.out.lt
            by_cases hlt : k < d.insts.length
            · obtain ⟨x, hx⟩ : ∃ x, d.insts[k]? = some x := ⟨_, List.getElem?_eq_getElem hlt⟩
              obtain ⟨bi, oi, XN, xn, rfl, -, -, q2, hxn, -⟩ := inst_at (RInsts.keep HI.out (HB7.out.trans HJ.out).keeps) hx
              have OKX := PP.out.1 k x hx
              have hlast := (DesP.last LP.out OKX).1
              have CS := hideIt (cntI_succ hx)
              obtain ⟨m, hm⟩ : ∃ m, x.nets.length = m + 1 := ⟨x.nets.length - 1, by omega⟩
              obtain ⟨v, hv⟩ : ∃ v, x.nets[m]? = some v := ⟨_, List.getElem?_eq_getElem (by omega)⟩
              have hvb := List.all_eq_true.1 OKX.nets v (List.mem_of_getElem? hv)
              unfold netIn at hvb
              have hvb2 := inB_true hvb
              have LN := hideIt (show lastNet x = v from lastNet_of (by rw [hm]; simpa using hv))
              obtain ⟨bn, on, rfl, kv⟩ := ints_at hxn hv
              obtain ⟨j, rfl⟩ : ∃ j : Nat, v = (j : Int) := ⟨v.toNat, by omega⟩
              have hjl : j < d.nets.length := by omega
              have hjl2 : (j : Int) < (d.nets.length : Int) := by omega
              have XL : (x.nets.length : Int) ≤ 9223372036854775807 := RList.len hxn
              rw [hm] at q2 XL
              have dj := hdr.out.cell hjl
              have fj := hdr.out.frozen j
              have db := hdr.out.lt
              have cb : drvF d k 0 j ≤ 100 := by unfold drvF; have := cntI_le (d.insts.take k) j; have := cntP_le (d.ports.take 0) j; simp at *; omega
              have ST := hideIt (hdr.out.step hjl (g := drvF d (k + 1) 0) fun i => by unfold drvF; rw [CS.out, LN.out]; omega)
              clear hvb hvb2 hm hx hv hdr OKX hlast hxn
              generalize drvF d k 0 j = dv at *
              go_wp2
              go_roundw
              case rel => exact ⟨k + 1, by omega, by go_num, ST.out, HJ.out.setCell (Nat.le_refl _) _⟩
              case measure => simp [intOf]; omega
            · obtain rfl : k = d.insts.length := by omega
              obtain ⟨w8, ew8⟩ : ∃ w8 : World, w8 = wr := ⟨_, rfl⟩
              subst ew8
              go_wp2
              go_loopw [12] (fun i wr => ∃ q : Nat, q ≤ d.ports.length ∧ i = .int .i64 (q : Int) ∧ Hid (Drv wr w7.heap.size 2 d.nets.length (drvF d d.insts.length q)) ∧ Grows w7 wr) (fun i _ => d.ports.length - (intOf i).toNat)
              case atStart => exact ⟨0, by omega, rfl, hdr.out, HJ.out⟩
              case round =>
                obtain ⟨q, hq, rfl, hds, hg⟩ := hrel
                have HM := hideIt hg
                have Z6 := hideIt (Z4.out.grows hg)
                clear hg kd0 kd1 kd2 kdz
                have kd0 : wr.cell? ⟨w.heap.size + 1, 0, none⟩ = some (.slice I d.insts.length ni) := Z6.out.cell 0
                have kd1 : wr.cell? ⟨w.heap.size + 1, 1, none⟩ = some (.slice N d.nets.length nn) := Z6.out.cell 1
                have kd2 : wr.cell? ⟨w.heap.size + 1, 2, none⟩ = some (.slice O d.ports.length no) := Z6.out.cell 2
                have kdz := Z6.out.lt
                by_cases hlq : q < d.ports.length
                · obtain ⟨p, hp⟩ : ∃ p, d.ports[q]? = some p := ⟨_, List.getElem?_eq_getElem hlq⟩
                  obtain ⟨bi, oi, rfl, -, q1, q2, -⟩ := port_at (RPorts.keep HO.out (HB7.out.trans HM.out).keeps) hp
                  have OKP := PP.out.2 q p hp
                  have CS := hideIt (cntP_succ hp)
                  have hvb := OKP.net
                  unfold netIn at hvb
                  have hvb2 := inB_true hvb
                  by_cases hd1 : p.dir = 1
                  · obtain ⟨j, hj⟩ : ∃ j : Nat, p.net = (j : Int) := ⟨p.net.toNat, by omega⟩
                    have hjl : j < d.nets.length := by omega
                    have hjl2 : (j : Int) < (d.nets.length : Int) := by omega
                    rw [hj] at q2
                    have hd1' : (p.dir == 1) = true := beq_iff_eq.2 hd1
                    have dj := hds.out.cell hjl
                    have fj := hds.out.frozen j
                    have db := hds.out.lt
                    have cb : drvF d d.insts.length q j ≤ 100 := by unfold drvF; have := cntI_le (d.insts.take d.insts.length) j; have := cntP_le (d.ports.take q) j; simp at *; omega
                    have ST := hideIt (hds.out.step hjl (g := drvF d d.insts.length (q + 1)) fun i => by unfold drvF; rw [CS.out, hj]; simp only [hd1, true_and]; omega)
                    clear hvb hvb2 hp OKP hds hd1 hj
                    generalize drvF d d.insts.length q j = dv at *
                    go_wp2
                    go_roundw
                    case rel => exact ⟨q + 1, by omega, by go_num, ST.out, HM.out.setCell (Nat.le_refl _) _⟩
                    case measure => simp [intOf]; omega
                  · have hd1' : (p.dir == 1) = false := beq_eq_false_iff_ne.2 hd1
                    have ST := hideIt (hds.out.same (g := drvF d d.insts.length (q + 1)) fun i _ => by unfold drvF; rw [CS.out]; simp [hd1])
                    clear hvb hvb2 hp OKP hds hd1
                    go_wp2
                    go_roundw
                    case rel => exact ⟨q + 1, by omega, by go_num, ST.out, HM.out⟩
                    case measure => simp [intOf]; omega
                · obtain rfl : q = d.ports.length := by omega
                  have DF := hideIt (hds.out.same (g := fun j => cntI d.insts j + cntP d.ports j) fun i _ => by unfold drvF; rw [List.take_length, List.take_length])
                  have GE_ := hideIt (G7.out.trans HM.out)
                  clear hds
                  go_wp2
                  clear kd0 kd1 kd2 kdz
                  go_loop [13] (fun i => ∃ j : Nat, j ≤ d.nets.length ∧ i = .int .i64 (j : Int) ∧ Hid (∀ m, m < j → cntI d.insts m + cntP d.ports m = 1)) (fun i => d.nets.length - (intOf i).toNat)
                  case atStart => exact ⟨0, by omega, rfl, fun m hm => absurd hm (by omega)⟩
                  case round =>
                    obtain ⟨j, hj, rfl, hdo⟩ := hrel
                    by_cases hjl : j < d.nets.length
                    · have dj := DF.out.cell hjl
                      obtain ⟨dv, edv⟩ : ∃ dv : Nat, cntI d.insts j + cntP d.ports j = dv := ⟨_, rfl⟩
                      simp only [edv] at dj
                      by_cases h1 : dv = 1
                      · have NX : Hid (∀ m, m < j + 1 → cntI d.insts m + cntP d.ports m = 1) := hideIt fun m hm => by
                          by_cases e : m = j
                          · subst e; rw [edv]; exact h1
                          · exact hdo.out m (by omega)
                        have h1' : ((dv : Int) != 1) = false := by rw [bne_eq_false_iff_eq]; omega
                        clear h1 edv
                        go_wp2
                        go_round
                        case rel => exact ⟨j + 1, by omega, by go_num, NX.out⟩
                        case measure => simp [intOf]; omega
                      · have EP := hideIt (show desB cs d = false from pB_false fun h => h1 (by rw [← edv]; exact h.drv j hjl))
                        have h1' : ((dv : Int) != 1) = true := by rw [bne_iff_ne]; omega
                        clear h1 edv
                        go_wp2
                        go_ret
                        exact ⟨ret_bool EP.out.symm, GE_.out⟩
                    · obtain rfl : j = d.nets.length := by omega
                      have EP := hideIt (show desB cs d = true from pB_true ⟨LP.out, hni, hnn, hnp, PP.out.1, PP.out.2, N1.out, N3.out, N2.out, fun m hm => hdo.out m hm⟩)
                      clear hdo
                      go_wp2
                      go_ret
                      exact ⟨ret_bool EP.out.symm, GE_.out⟩
end Go.Proofs.YtocahjbmnkadjaaGreatDoor
