/-
  Contract of the program's test of the names of a design.
-/
import Derived.Test.YtpppobomekebdaaGreatDoorINet
import Derived.Test.YtpppobomekebdaaGreatDoorSDes
import Derived.Test.YtpppobomekebdaaGreatDoorGG
import Derived.Laws.AppendOwn
namespace Go.Proofs.YtpppobomekebdaaGreatDoor
open Go.RowKit
structure HasP (d : DesignD) : Prop where
  ni : d.insts.length ≤ 14
  nn : d.nets.length ≤ 30
  np : d.ports.length ≤ 8
  iname : NamesP (d.insts.map (·.name))
  nname : NamesP d.nets
  pname : NamesP (d.ports.map (·.name))
set_option maxHeartbeats 8000000 in
set_option maxRecDepth 10000 in
theorem hasNames_any {a b c : Value} {d : DesignD} (w : World) (hd : RDesign w [a, b, c] d) (hs : SmDesign d) :
    Calls Tryz.prog 91 #[.agg #[a, b, c]] w fun e w' => e = .returned (.bool (pB (HasP d))) ∧ Grows w w' := by
  obtain ⟨i0, hi, hz0, hz1, hz2⟩ := info_parts info_str
  have il := RList.len hd.parts.1
  have nl := RList.len hd.parts.2.1
  have ol := RList.len hd.parts.2.2
  have is_ := hs.1.1
  have ns_ := hs.2.1.1
  have os_ := hs.2.2.1
  unfold SmL at is_ ns_ os_
  obtain ⟨I, N, O, ni, nn, no, rfl, rfl, rfl⟩ := des_open hd
  have g0 := (Grows.refl w).alloc (.cells #[.slice I d.insts.length ni, .slice N d.nets.length nn, .slice O d.ports.length no] 41)
  have S := hideIt (Blk.new w 41 #[.slice I d.insts.length ni, .slice N d.nets.length nn, .slice O d.ports.length no])
  have HI := hideIt (RInsts.keep hd.parts.1 g0.keeps)
  have HN := hideIt (RStrs.keep hd.parts.2.1 g0.keeps)
  have HO := hideIt (RPorts.keep hd.parts.2.2 g0.keeps)
  have G := hideIt g0
  clear hd g0 hs
  go_enter Tryz.func91, Tryz.ntmps91
  go_wp2
  go_loopw [3, 6, 12] (fun s _ i wr => ∃ (nv : Value) (k : Nat), nv = s ∧ k ≤ d.insts.length ∧ i = .int .i64 (k : Int) ∧ Hid (wr.ownsRow (w.heap.size + 1) 9 1 nv k (inV d.insts k)) ∧ Grows (w.alloc (.cells #[.slice I d.insts.length ni, .slice N d.nets.length nn, .slice O d.ports.length no] 41)) wr) (fun _ _ i _ => d.insts.length - (intOf i).toNat)
  case atStart => exact ⟨_, 0, rfl, by omega, rfl, World.ownsRow_nil _ _ _ _, Grows.refl _⟩
  case round =>
    obtain ⟨nv, k, rfl, hk, rfl, hown, hg⟩ := hrel
    have HG := hideIt hg
    have GA := hideIt (G.out.trans hg)
    have S2 := hideIt (S.out.grows hg)
    clear hg
    have kd0 : wr.cell? ⟨w.heap.size, 0, none⟩ = some (.slice I d.insts.length ni) := S2.out.cell 0
    have kd1 : wr.cell? ⟨w.heap.size, 1, none⟩ = some (.slice N d.nets.length nn) := S2.out.cell 1
    have kd2 : wr.cell? ⟨w.heap.size, 2, none⟩ = some (.slice O d.ports.length no) := S2.out.cell 2
    have kdz := S2.out.lt
    by_cases hlt : k < d.insts.length
    · obtain ⟨x, hx⟩ : ∃ x, d.insts[k]? = some x := ⟨_, List.getElem?_eq_getElem hlt⟩
      obtain ⟨bi, oi, XN, xn, rfl, q0, q1, q2, -, -⟩ := inst_at (RInsts.keep HI.out HG.out.keeps) hx
      have X1 := hideIt hx
      clear hx
      have own1 := hideIt ((hown.out.alloc (.cells #[.string x.name, .int .i64 x.cell, .slice XN x.nets.length xn] 123)).alloc (.cells #[.string x.name] 9))
      have G3 := hideIt ((HG.out.alloc (.cells #[.string x.name, .int .i64 x.cell, .slice XN x.nets.length xn] 123)).alloc (.cells #[.string x.name] 9))
      have nlt : Hid (∀ q, nv.ownBlock = some q → w.heap.size + 1 ≤ q ∧ q < wr.heap.size) := hideIt hown.out.lt
      go_wp2_with (at_builtin; refine wpList_append_own _ rfl _ _ 26 rfl (w.heap.size + 1) 9 i0 (.string .empty) 1 16 Tryz.underlying26 hi hz0 hz1 hz2 rfl (by decide) nv k (inV d.insts k) rfl own1.out ⟨wr.heap.size + 1, 0, none⟩ 1 1 [.string x.name] rfl ?c1 ?c2 ?c3 ?c4 ?c5 ?c6 ?_)
      case c1 => simp
      case c2 =>
        intro j u hj
        match j, hj with
        | 0, hj => simp at hj; subst hj; simp [Addr.add]
      case c3 => intro u hu; simp at hu; subst hu; rfl
      case c4 => unfold maxLen; omega
      case c5 => omega
      case c6 => have := G3.out.size; simpa using this
      intro v' w3 hown2 hgrow hnil
      have G4 := hideIt (G3.out.grown hgrow (fun q e => by have h1 := (nlt.out q e).1; simpa using h1))
      have OW := hideIt (show w3.ownsRow (w.heap.size + 1) 9 1 v' (k + 1) (inV d.insts (k + 1)) by rw [inV_succ X1.out]; exact hown2)
      have xg : w3.cell? ⟨wr.heap.size, 0, none⟩ = w3.cell? ⟨wr.heap.size, 0, none⟩ := rfl
      clear hown2 hgrow hnil own1 q0 q1 q2 xg
      go_wp2
      go_roundw
      case rel => exact ⟨_, k + 1, rfl, by omega, by go_num, OW.out, G4.out⟩
      case measure => simp [intOf]; omega
    · obtain rfl : k = d.insts.length := by omega
      have RS1 : Hid (RStrs wr nv (d.insts.map (·.name))) := hideIt (own_strs (n := d.insts.length) (base := w.heap.size + 1) (xs := d.insts.map (·.name)) (by simp) (by have := hown.out; unfold inV at this; rw [List.take_length] at this; exact this) (fun s hs => by
        obtain ⟨p, hp, rfl⟩ := List.mem_map.1 hs
        obtain ⟨m, hm⟩ := List.getElem?_of_mem hp
        obtain ⟨_, _, _, _, -, -, -, -, -, hz⟩ := inst_at HI.out hm
        exact hz))
      obtain ⟨w3, ew3⟩ : ∃ w3 : World, w3 = wr := ⟨_, rfl⟩
      subst ew3
      clear hown
      go_wp2
      go_loopw [4, 8, 25] (fun s _ i wr => ∃ (nv : Value) (k : Nat), nv = s ∧ k ≤ d.ports.length ∧ i = .int .i64 (k : Int) ∧ Hid (wr.ownsRow w3.heap.size 9 1 nv k (poV d.ports k)) ∧ Grows w3 wr) (fun _ _ i _ => d.ports.length - (intOf i).toNat)
      case atStart => exact ⟨_, 0, rfl, by omega, rfl, World.ownsRow_nil _ _ _ _, Grows.refl _⟩
      case round =>
        obtain ⟨nw, k, rfl, hk, rfl, hown, hg⟩ := hrel
        have HH := hideIt hg
        have Y2 := hideIt (S2.out.grows hg)
        clear hg kd0 kd1 kd2 kdz
        have kd0 : wr.cell? ⟨w.heap.size, 0, none⟩ = some (.slice I d.insts.length ni) := Y2.out.cell 0
        have kd1 : wr.cell? ⟨w.heap.size, 1, none⟩ = some (.slice N d.nets.length nn) := Y2.out.cell 1
        have kd2 : wr.cell? ⟨w.heap.size, 2, none⟩ = some (.slice O d.ports.length no) := Y2.out.cell 2
        have kdz := Y2.out.lt
        by_cases hlt : k < d.ports.length
        · obtain ⟨x, hx⟩ : ∃ x, d.ports[k]? = some x := ⟨_, List.getElem?_eq_getElem hlt⟩
          obtain ⟨bi, oi, rfl, q0, q1, q2, -⟩ := port_at (RPorts.keep HO.out (HG.out.trans HH.out).keeps) hx
          have X1 := hideIt hx
          clear hx
          have own1 := hideIt ((hown.out.alloc (.cells #[.string x.name, .int .i64 x.dir, .int .i64 x.net] 125)).alloc (.cells #[.string x.name] 9))
          have G3 := hideIt ((HH.out.alloc (.cells #[.string x.name, .int .i64 x.dir, .int .i64 x.net] 125)).alloc (.cells #[.string x.name] 9))
          have nlt : Hid (∀ q, nw.ownBlock = some q → w3.heap.size ≤ q ∧ q < wr.heap.size) := hideIt hown.out.lt
          go_wp2_with (at_builtin; refine wpList_append_own _ rfl _ _ 26 rfl w3.heap.size 9 i0 (.string .empty) 1 16 Tryz.underlying26 hi hz0 hz1 hz2 rfl (by decide) nw k (poV d.ports k) rfl own1.out ⟨wr.heap.size + 1, 0, none⟩ 1 1 [.string x.name] rfl ?c1 ?c2 ?c3 ?c4 ?c5 ?c6 ?_)
          case c1 => simp
          case c2 =>
            intro j u hj
            match j, hj with
            | 0, hj => simp at hj; subst hj; simp [Addr.add]
          case c3 => intro u hu; simp at hu; subst hu; rfl
          case c4 => unfold maxLen; omega
          case c5 => omega
          case c6 => have := G3.out.size; simpa using this
          intro v' w4 hown2 hgrow hnil
          have G4 := hideIt (G3.out.grown hgrow (fun q e => (nlt.out q e).1))
          have OW := hideIt (show w4.ownsRow w3.heap.size 9 1 v' (k + 1) (poV d.ports (k + 1)) by rw [poV_succ X1.out]; exact hown2)
          clear hown2 hgrow hnil own1 q0 q1 q2
          go_wp2
          go_roundw
          case rel => exact ⟨_, k + 1, rfl, by omega, by go_num, OW.out, G4.out⟩
          case measure => simp [intOf]; omega
        · obtain rfl : k = d.ports.length := by omega
          have RS2 : Hid (RStrs wr nw (d.ports.map (·.name))) := hideIt (own_strs (n := d.ports.length) (base := w3.heap.size) (xs := d.ports.map (·.name)) (by simp) (by have := hown.out; unfold poV at this; rw [List.take_length] at this; exact this) (fun s hs => by
            obtain ⟨p, hp, rfl⟩ := List.mem_map.1 hs
            obtain ⟨m, hm⟩ := List.getElem?_of_mem hp
            obtain ⟨_, _, -, -, -, -, hz⟩ := port_at HO.out hm
            exact hz))
          have R1 := hideIt (RStrs.keep RS1.out HH.out.keeps)
          have R3 := hideIt (RStrs.keep HN.out (HG.out.trans HH.out).keeps)
          have GZ := hideIt (GA.out.trans HH.out)
          obtain ⟨v1, n1, e1⟩ : ∃ (A : Option Addr) (n : Nat), nv = .slice A d.insts.length n := by obtain ⟨A, c, e, -⟩ := RList.form R1.out; exact ⟨A, c, by rw [e]; simp⟩
          obtain ⟨v2, n2, e2⟩ : ∃ (A : Option Addr) (n : Nat), nw = .slice A d.ports.length n := by obtain ⟨A, c, e, -⟩ := RList.form RS2.out; exact ⟨A, c, by rw [e]; simp⟩
          subst e1 e2
          clear hown
          by_cases hni : d.insts.length ≤ 14
          rotate_left
          · have EP := hideIt (pB_false (p := HasP d) fun h => hni h.ni)
            have bni : decide ((d.insts.length : Int) ≤ 14) = false := decide_eq_false (by omega)
            clear hni
            go_wp2
            go_ret
            exact ⟨ret_bool EP.out.symm, GZ.out⟩
          have bni : decide ((d.insts.length : Int) ≤ 14) = true := decide_eq_true (by omega)
          by_cases hnn : d.nets.length ≤ 30
          rotate_left
          · have EP := hideIt (pB_false (p := HasP d) fun h => hnn h.nn)
            have bnn : decide ((d.nets.length : Int) ≤ 30) = false := decide_eq_false (by omega)
            clear hnn
            go_wp2
            go_ret
            exact ⟨ret_bool EP.out.symm, GZ.out⟩
          have bnn : decide ((d.nets.length : Int) ≤ 30) = true := decide_eq_true (by omega)
          by_cases hnp : d.ports.length ≤ 8
          rotate_left
          · have EP := hideIt (pB_false (p := HasP d) fun h => hnp h.np)
            have bnp : decide ((d.ports.length : Int) ≤ 8) = false := decide_eq_false (by omega)
            clear hnp
            go_wp2
            go_ret
            exact ⟨ret_bool EP.out.symm, GZ.out⟩
          have bnp : decide ((d.ports.length : Int) ≤ 8) = true := decide_eq_true (by omega)
          go_wp2_with fail
          refine (areNames_any _ R1.out).mono ?_
          rintro e u0 ⟨rfl, gu⟩
          have GU0 := hideIt (GZ.out.trans gu)
          have YU0 := hideIt (Y2.out.grows gu)
          replace R3 := hideIt (RStrs.keep R3.out gu.keeps)
          replace RS2 := hideIt (RStrs.keep RS2.out gu.keeps)
          clear gu kd0 kd1 kd2 kdz
          have kd0 : u0.cell? ⟨w.heap.size, 0, none⟩ = some (.slice I d.insts.length ni) := YU0.out.cell 0
          have kd1 : u0.cell? ⟨w.heap.size, 1, none⟩ = some (.slice N d.nets.length nn) := YU0.out.cell 1
          have kd2 : u0.cell? ⟨w.heap.size, 2, none⟩ = some (.slice O d.ports.length no) := YU0.out.cell 2
          have kdz := YU0.out.lt
          cases e0 : pB (NamesP (d.insts.map (·.name)))
          · have EP := hideIt (pB_false (p := HasP d) fun h => by have := pB_true h.iname; rw [this] at e0; cases e0)
            clear e0
            go_wp2
            go_ret
            exact ⟨ret_bool EP.out.symm, GU0.out⟩
          have N0 := hideIt (pB_iff.1 e0)
          clear e0
          go_wp2_with fail
          refine (areNames_any _ R3.out).mono ?_
          rintro e u1 ⟨rfl, gu⟩
          have GU1 := hideIt (GU0.out.trans gu)
          have YU1 := hideIt (YU0.out.grows gu)
          replace RS2 := hideIt (RStrs.keep RS2.out gu.keeps)
          clear gu kd0 kd1 kd2 kdz
          have kd0 : u1.cell? ⟨w.heap.size, 0, none⟩ = some (.slice I d.insts.length ni) := YU1.out.cell 0
          have kd1 : u1.cell? ⟨w.heap.size, 1, none⟩ = some (.slice N d.nets.length nn) := YU1.out.cell 1
          have kd2 : u1.cell? ⟨w.heap.size, 2, none⟩ = some (.slice O d.ports.length no) := YU1.out.cell 2
          have kdz := YU1.out.lt
          cases e1 : pB (NamesP (d.nets))
          · have EP := hideIt (pB_false (p := HasP d) fun h => by have := pB_true h.nname; rw [this] at e1; cases e1)
            clear e1
            go_wp2
            go_ret
            exact ⟨ret_bool EP.out.symm, GU1.out⟩
          have N1 := hideIt (pB_iff.1 e1)
          clear e1
          go_wp2_with fail
          refine (areNames_any _ RS2.out).mono ?_
          rintro e u2 ⟨rfl, gu⟩
          have GU2 := hideIt (GU1.out.trans gu)
          have YU2 := hideIt (YU1.out.grows gu)
          clear gu kd0 kd1 kd2 kdz
          have kd0 : u2.cell? ⟨w.heap.size, 0, none⟩ = some (.slice I d.insts.length ni) := YU2.out.cell 0
          have kd1 : u2.cell? ⟨w.heap.size, 1, none⟩ = some (.slice N d.nets.length nn) := YU2.out.cell 1
          have kd2 : u2.cell? ⟨w.heap.size, 2, none⟩ = some (.slice O d.ports.length no) := YU2.out.cell 2
          have kdz := YU2.out.lt
          cases e2 : pB (NamesP (d.ports.map (·.name)))
          · have EP := hideIt (pB_false (p := HasP d) fun h => by have := pB_true h.pname; rw [this] at e2; cases e2)
            clear e2
            go_wp2
            go_ret
            exact ⟨ret_bool EP.out.symm, GU2.out⟩
          have N2 := hideIt (pB_iff.1 e2)
          clear e2
          have EP := hideIt (pB_true (p := HasP d) ⟨hni, hnn, hnp, N0.out, N1.out, N2.out⟩)
          go_wp2
          go_ret
          exact ⟨ret_bool EP.out.symm, GU2.out⟩
end Go.Proofs.YtpppobomekebdaaGreatDoor
