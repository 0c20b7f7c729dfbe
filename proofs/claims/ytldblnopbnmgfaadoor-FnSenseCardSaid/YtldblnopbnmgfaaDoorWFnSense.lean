/-
  The walk of FnSense.
-/
import Derived.Test.YtldblnopbnmgfaaDoorSenseL
import Derived.Test.YtldblnopbnmgfaaDoorL3G
import Derived.Test.YtldblnopbnmgfaaDoorIGate
import Derived.Test.YtldblnopbnmgfaaDoorOpenB
namespace Go.Proofs.YtldblnopbnmgfaaDoor
open Go.RowKit
set_option maxHeartbeats 32000000 in
set_option maxRecDepth 10000 in
theorem walk_FnSense {v : Value} {xs : List Int} {w : World} (hx : RBytes w v xs) :
    Calls Tryd.prog 3 #[v] w fun e w' => e = .returned (.bool true) ∧ Below w.heap.size w w' := by
  have HX := hideIt hx
  clear hx
  go_enter Tryd.func3, Tryd.ntmps3
  go_wp2_with fail
  refine (big_any _ HX.out).mono ?_
  rintro e w1 ⟨rfl, rfl⟩
  cases hb : decide ((xs.length : Int) > 4096)
  rotate_left
  · go_wp2
    go_ret
    exact ⟨rfl, Below.refl _ _⟩
  clear hb
  go_wp2_with fail
  refine (drawSenseOf_any HX.out).mono ?_
  rintro e u0 ⟨A1, n1, A2, n2, A3, n3, x, pin, rfl, rc, pl, pb, g⟩
  go_upto_region 4 with fail
  refine at_c (fun u => RCell u [.string x.name, .int .i64 x.kind, .slice A1 x.pins.length n1, .slice A2 x.arcs.length n2, .slice A3 x.truth.length n3, .int .i64 x.leak, .int .i64 x.energy] x ∧ Blk u u0.heap.size 28 #[.string x.name, .int .i64 x.kind, .slice A1 x.pins.length n1, .slice A2 x.arcs.length n2, .slice A3 x.truth.length n3, .int .i64 x.leak, .int .i64 x.energy] ∧ Grows w u) ⟨rc.keep ((Grows.refl _).alloc _).keeps, Blk.new _ _ _, g.alloc _⟩ (fun u1 hu => ?_)
  obtain ⟨r1, b1, g1⟩ := hu
  have RC := hideIt r1
  have KB := hideIt b1
  have G := hideIt g1
  have PL := hideIt pl
  have SMP : Hid (SmL x.pins) := hideIt (by unfold SmL; omega)
  have HSB := hideIt (sens_bd x pin)
  clear rc g r1 b1 g1 HX pl
  have fB := KB.out.frozen
  have lB := KB.out.lt
  have k0 := KB.out.cell 0
  have k1 := KB.out.cell 1
  have k2 := KB.out.cell 2
  have k3 := KB.out.cell 3
  have k4 := KB.out.cell 4
  have k5 := KB.out.cell 5
  have k6 := KB.out.cell 6
  simp at k0 k1 k2 k3 k4 k5 k6
  go_wp2_with fail
  refine (iSenseOf_any pin _ RC.out SMP.out).mono ?_
  rintro e u2 ⟨rfl, g⟩
  replace G := hideIt (G.out.trans g)
  replace KB := hideIt (KB.out.grows g)
  replace RC := hideIt (RC.out.keep g.keeps)
  clear g
  clear fB lB k0 k1 k2 k3 k4 k5 k6
  have fB := KB.out.frozen
  have lB := KB.out.lt
  have k0 := KB.out.cell 0
  have k1 := KB.out.cell 1
  have k2 := KB.out.cell 2
  have k3 := KB.out.cell 3
  have k4 := KB.out.cell 4
  have k5 := KB.out.cell 5
  have k6 := KB.out.cell 6
  simp at k0 k1 k2 k3 k4 k5 k6
  go_wp2_with fail
  refine (sSenseOf_any pin _ RC.out).mono ?_
  rintro e u3 ⟨rfl, g⟩
  replace G := hideIt (G.out.trans g)
  replace KB := hideIt (KB.out.grows g)
  replace RC := hideIt (RC.out.keep g.keeps)
  clear g
  clear fB lB k0 k1 k2 k3 k4 k5 k6
  by_cases hs : sensV x pin = -1
  · rw [hs]
    go_wp2
    go_ret
    exact ⟨rfl, G.out.below⟩
  have hs2 : (sensV x pin == -1) = false := by simpa using hs
  obtain ⟨hc, hk, p, rfl, hp⟩ := sens_no hs
  have HCB := hideIt hc
  have HK1 := hideIt hk
  have PLB := hideIt (gate_truth hc hk).2
  clear hc hk hs
  obtain ⟨sv, hsv⟩ : ∃ z : Int, z = sensV x (p : Int) := ⟨_, rfl⟩
  rw [← hsv] at hs2 ⊢
  have SV := hideIt hsv
  have SVB : -1 ≤ sv ∧ sv ≤ 3 := by rw [hsv]; exact HSB.out
  clear hsv
  obtain ⟨iI, hiI, hzI, hsI, hbI⟩ := info_parts info_i64'
  rcases (by have := PLB.out; omega : x.pins.length = 2 ∨ x.pins.length = 3 ∨ x.pins.length = 4 ∨ x.pins.length = 5) with hl | hl | hl | hl
  · have HL := hideIt hl
    rw [hl] at hp
    replace KB : Hid (Blk u3 u0.heap.size 28 #[.string x.name, .int .i64 x.kind, .slice A1 2 n1, .slice A2 x.arcs.length n2, .slice A3 x.truth.length n3, .int .i64 x.leak, .int .i64 x.energy]) := hideIt (by have h := KB.out; rw [hl] at h; exact h)
    replace RC : Hid (RCell u3 [.string x.name, .int .i64 x.kind, .slice A1 2 n1, .slice A2 x.arcs.length n2, .slice A3 x.truth.length n3, .int .i64 x.leak, .int .i64 x.energy] x) := hideIt (by have h := RC.out; rw [hl] at h; exact h)
    clear hl
    have hpn : p < 1 := by omega
    have hpi : (p : Int) < 1 := by omega
    have SU := hideIt (sens_up HCB.out HK1.out HL.out (by decide) hpn)
    have fB := KB.out.frozen
    have lB := KB.out.lt
    have k0 := KB.out.cell 0
    have k1 := KB.out.cell 1
    have k2 := KB.out.cell 2
    have k3 := KB.out.cell 3
    have k4 := KB.out.cell 4
    have k5 := KB.out.cell 5
    have k6 := KB.out.cell 6
    simp at k0 k1 k2 k3 k4 k5 k6
    go_wp2
    go_loopw [6, 7, 9, 10, 11, 12, 13, 14, 15] (fun up dn kv s10 s11 s12 s13 s14 s15 wr => ∃ (k : Nat), kv = .int .i64 (k : Int) ∧ up = .bool (upB x.truth p k) ∧ dn = .bool (dnB x.truth p k) ∧ k ≤ 2 ∧ Hid (RCell wr [.string x.name, .int .i64 x.kind, .slice A1 2 n1, .slice A2 x.arcs.length n2, .slice A3 x.truth.length n3, .int .i64 x.leak, .int .i64 x.energy] x) ∧ Hid (Blk wr u0.heap.size 28 #[.string x.name, .int .i64 x.kind, .slice A1 2 n1, .slice A2 x.arcs.length n2, .slice A3 x.truth.length n3, .int .i64 x.leak, .int .i64 x.energy]) ∧ Hid (Grows w wr)) (fun _ _ kv _ _ _ _ _ _ _ => 2 - (intOf kv).toNat)
    case atStart => exact ⟨0, rfl, rfl, rfl, Nat.zero_le _, RC, KB, G⟩
    case round =>
      clear RC KB G fB lB k0 k1 k2 k3 k4 k5 k6
      obtain ⟨k, rfl, rfl, rfl, hk, RC, KB, G⟩ := hrel
      obtain ⟨wr0, rfl⟩ : ∃ z : World, z = wr := ⟨_, rfl⟩
      have KBL : Hid (u0.heap.size < wr0.heap.size) := hideIt KB.out.lt
      obtain ⟨ub, hub⟩ : ∃ z, z = upB x.truth p k := ⟨_, rfl⟩
      obtain ⟨db, hdb⟩ : ∃ z, z = dnB x.truth p k := ⟨_, rfl⟩
      rw [← hub, ← hdb]
      have UB := hideIt hub
      have DB := hideIt hdb
      clear hub hdb
      have fB := KB.out.frozen
      have lB := KB.out.lt
      have k0 := KB.out.cell 0
      have k1 := KB.out.cell 1
      have k2 := KB.out.cell 2
      have k3 := KB.out.cell 3
      have k4 := KB.out.cell 4
      have k5 := KB.out.cell 5
      have k6 := KB.out.cell 6
      simp at k0 k1 k2 k3 k4 k5 k6
      by_cases hlt : k < 2
      · have hki : (k : Int) < 2 := by omega
        have own0 : Hid ((wr0.alloc (.cells #[] 2)).ownsRow wr0.heap.size 2 1 (.slice (some ⟨wr0.heap.size, 0, none⟩) 0 0) 0 []) := hideIt ⟨rfl, .inr ⟨_, 0, #[], rfl, Nat.le_refl _, Blk.new wr0 _ _, Nat.le_refl _, Nat.zero_le _, rfl, rfl⟩⟩
        have GW0 : Hid (Grows wr0 (wr0.alloc (.cells #[] 2))) := hideIt ((Grows.refl _).alloc _)
        go_wp2
        go_loopw [10, 11] (fun iv i wq => ∃ (j : Nat) (nv : Value), nv = iv ∧ i = .int .i64 (j : Int) ∧ j ≤ 1 ∧ Hid (wq.ownsRow wr0.heap.size 2 1 nv j ((bitsL k j).map (Value.int .i64))) ∧ Hid (Grows wr0 wq)) (fun _ i _ => 1 - (intOf i).toNat)
        case atStart => exact ⟨0, _, rfl, rfl, Nat.zero_le _, own0, GW0⟩
        case round =>
          clear own0 GW0 fB lB k0 k1 k2 k3 k4 k5 k6
          obtain ⟨j, nv, rfl, rfl, hj, OW, GW⟩ := hrel
          rcases (by omega : j = 0 ∨ j = 1) with rfl | rfl
          · have k16 : k < 16 := by omega
            have zb : bits BinOp.and IntKind.i64 ((k : Int) / 1) 1 = bitZ k 0 := bit_val' ⟨0, by decide⟩ ⟨k, k16⟩
            have zb0 : bits BinOp.and IntKind.i64 (k : Int) 1 = bitZ k 0 := bit_val0 ⟨k, k16⟩
            have own1 := hideIt (OW.out.alloc (.cells #[.int .i64 (bitZ k 0)] 2))
            have nlt : Hid (∀ q, nv.ownBlock = some q → wr0.heap.size ≤ q ∧ q < wr.heap.size) := hideIt OW.out.lt
            have GW1 := hideIt (GW.out.alloc (.cells #[.int .i64 (bitZ k 0)] 2))
            clear OW GW
            go_wp2_with (at_builtin; go_loud (refine wpList_append_own_at _ rfl _ _ 26 rfl wr0.heap.size 2 iI (.int .i64 0) 1 8 Tryd.underlying26 hiI hzI hsI hbI rfl (by decide) nv 0 ((bitsL k 0).map (Value.int .i64)) rfl own1.out ⟨wr.heap.size, 0, none⟩ 1 1 [.int .i64 (bitZ k 0)] rfl ?c1 ?c2 ?c3 ?c4 ?c5 ?c6 ?_))
            case c1 => simp
            case c2 => exact cells_new _ _ _
            case c3 => intro u hu; simp at hu; subst hu; rfl
            case c4 => unfold maxLen; omega
            case c5 => omega
            case c6 => exact Nat.le_trans GW1.out.size (Nat.le_refl _)
            intro v' w4 hrow hgrow hnil hat
            have GW4 : Hid (Grows wr0 w4) := hideIt (GW1.out.grown hgrow (fun q e => (nlt.out q e).1))
            have OW4 : Hid (w4.ownsRow wr0.heap.size 2 1 v' 1 ((bitsL k 1).map (Value.int .i64))) := hideIt (by rw [bitsL_succ, List.map_append]; exact hrow)
            clear hrow hgrow hnil hat own1 GW1 nlt zb
            go_wp2
            go_roundw
            case rel => exact ⟨1, _, rfl, rfl, by omega, OW4, GW4⟩
            case measure => simp [intOf]
          · obtain ⟨gi, ci, ev, -, -, lg, fg, cg⟩ := ownsRow_at OW.out (by decide)
            subst ev
            obtain ⟨_, _, _, ev, OI0, OO⟩ := own_oints (xs := bitsL k 1) (by rw [bitsL_len]; exact OW.out)
            have OIb : OInts wr (.slice (some ⟨gi, 0, none⟩) 1 ci) (bitsL k 1) [gi] := by
              obtain ⟨g9, c9, cs9, e9, eb, -⟩ := OI0.row (by rw [bitsL_len]; decide)
              have : g9 = gi := by injection e9 with q1; injection q1 with q1; injection q1 with q1; exact q1.symm
              rw [← this, ← eb]
              rw [this]
              exact OI0
            have glo : Hid (wr0.heap.size ≤ gi) := hideIt (OW.out.lt gi rfl).1
            have OI := hideIt OIb
            have giu : gi ≠ u0.heap.size := by have := glo.out; have := KBL.out; omega
            have giu2 : u0.heap.size ≠ gi := fun e => giu e.symm
            obtain ⟨a, b', e0, e1, eU, eD⟩ := gate_pair HCB.out HK1.out HL.out (by decide) hpn hlt
            have E0 := hideIt e0
            have E1 := hideIt e1
            have EU := hideIt eU
            have ED := hideIt eD
            have cgp := cg p (.int .i64 (bitZ k p)) (by rw [List.getElem?_map]; unfold bitsL; rw [List.getElem?_map, List.getElem?_range hpn]; rfl)
            have KBw := hideIt (KB.out.grows GW.out)
            clear OW OI0 OO OIb ev e0 e1 eU eD cg
            have fB := KBw.out.frozen
            have lB := KBw.out.lt
            have k0 := KBw.out.cell 0
            have k1 := KBw.out.cell 1
            have k2 := KBw.out.cell 2
            have k3 := KBw.out.cell 3
            have k4 := KBw.out.cell 4
            have k5 := KBw.out.cell 5
            have k6 := KBw.out.cell 6
            simp at k0 k1 k2 k3 k4 k5 k6
            go_wp2_with fail
            refine at_w (fun u => OInts u (.slice (some ⟨gi, 0, none⟩) 1 ci) ((bitsL k 1).set p 0) [gi] ∧ Grows wr0 u) ⟨OI.out.set_ (by rw [bitsL_len]; exact hpn) 0, GW.out.setCell glo.out _⟩ (fun w5 hu => ?_)
            obtain ⟨oi, gg⟩ := hu
            replace OI := hideIt oi
            replace GW := hideIt gg
            clear oi gg fB lB k0 k1 k2 k3 k4 k5 k6 cgp lg fg
            refine (iGate_any _ (RC.out.keep GW.out.keeps) OI.out.reads SMP.out).mono ?_
            rintro e w5b ⟨rfl, g⟩
            rw [E0.out]
            replace OI := hideIt (OI.out.same ((SameOn.refl _ _).grows OI.out.lt g))
            replace GW := hideIt (GW.out.trans g)
            have KBw := hideIt (KB.out.grows GW.out)
            have lg := OI.out.lt gi (by simp)
            have fg := OI.out.fr (by rw [List.length_set, bitsL_len]; decide)
            clear g
            have cgp := OI.out.at (j := p) (x := 0) (by rw [List.getElem?_set_self (by rw [bitsL_len]; exact hpn)])
            have fB := KBw.out.frozen
            have lB := KBw.out.lt
            have k0 := KBw.out.cell 0
            have k1 := KBw.out.cell 1
            have k2 := KBw.out.cell 2
            have k3 := KBw.out.cell 3
            have k4 := KBw.out.cell 4
            have k5 := KBw.out.cell 5
            have k6 := KBw.out.cell 6
            simp at k0 k1 k2 k3 k4 k5 k6
            go_wp2_with fail
            refine at_w (fun u => OInts u (.slice (some ⟨gi, 0, none⟩) 1 ci) ((bitsL k 1).set p 1) [gi] ∧ Grows wr0 u) ⟨by have h := OI.out.set_ (i := p) (by rw [List.length_set, bitsL_len]; exact hpn) 1; rw [List.set_set] at h; exact h, GW.out.setCell glo.out _⟩ (fun w6 hu => ?_)
            obtain ⟨oi, gg⟩ := hu
            replace OI := hideIt oi
            replace GW := hideIt gg
            clear oi gg fB lB k0 k1 k2 k3 k4 k5 k6 cgp lg fg
            refine (iGate_any _ (RC.out.keep GW.out.keeps) OI.out.reads SMP.out).mono ?_
            rintro e w6b ⟨rfl, g⟩
            rw [E1.out]
            replace OI := hideIt (OI.out.same ((SameOn.refl _ _).grows OI.out.lt g))
            replace GW := hideIt (GW.out.trans g)
            have KBw := hideIt (KB.out.grows GW.out)
            have lg := OI.out.lt gi (by simp)
            have fg := OI.out.fr (by rw [List.length_set, bitsL_len]; decide)
            clear g
            have RC9 := hideIt (RC.out.keep GW.out.keeps)
            have KB9 := hideIt (KB.out.grows GW.out)
            have G9 := hideIt (G.out.trans GW.out)
            have EU2 : Hid (upB x.truth p (k + 1) = (ub || decide (a < b'))) := hideIt (by rw [EU.out, ← UB.out])
            have ED2 : Hid (dnB x.truth p (k + 1) = (db || decide (a > b'))) := hideIt (by rw [ED.out, ← DB.out])
            clear EU ED E0 E1 UB DB RC KB G GW OI lg fg KBw
            cases ub <;> cases db
            all_goals
              go_wp2
              go_roundw
              case rel => exact ⟨k + 1, by go_num, by rw [EU2.out]; simp, by rw [ED2.out]; simp, by omega, RC9, KB9, G9⟩
              case measure => simp [intOf]; omega
      · have ke : k = 2 := by omega
        subst ke
        have SVE : Hid (sv = senV ub db) := hideIt (by rw [SV.out, SU.out, UB.out, DB.out])
        clear UB DB SU SV
        cases ub <;> cases db
        all_goals
          have sve := SVE.out
          have sv2 : sv = _ := sve.trans (by unfold senV; rfl)
          clear sve SVE
          simp at sv2
          subst sv2
          go_wp2
          go_ret
          exact ⟨rfl, G.out.below⟩
  · have HL := hideIt hl
    rw [hl] at hp
    replace KB : Hid (Blk u3 u0.heap.size 28 #[.string x.name, .int .i64 x.kind, .slice A1 3 n1, .slice A2 x.arcs.length n2, .slice A3 x.truth.length n3, .int .i64 x.leak, .int .i64 x.energy]) := hideIt (by have h := KB.out; rw [hl] at h; exact h)
    replace RC : Hid (RCell u3 [.string x.name, .int .i64 x.kind, .slice A1 3 n1, .slice A2 x.arcs.length n2, .slice A3 x.truth.length n3, .int .i64 x.leak, .int .i64 x.energy] x) := hideIt (by have h := RC.out; rw [hl] at h; exact h)
    clear hl
    have hpn : p < 2 := by omega
    have hpi : (p : Int) < 2 := by omega
    have SU := hideIt (sens_up HCB.out HK1.out HL.out (by decide) hpn)
    have fB := KB.out.frozen
    have lB := KB.out.lt
    have k0 := KB.out.cell 0
    have k1 := KB.out.cell 1
    have k2 := KB.out.cell 2
    have k3 := KB.out.cell 3
    have k4 := KB.out.cell 4
    have k5 := KB.out.cell 5
    have k6 := KB.out.cell 6
    simp at k0 k1 k2 k3 k4 k5 k6
    go_wp2
    go_loopw [6, 7, 9, 10, 11, 12, 13, 14, 15] (fun up dn kv s10 s11 s12 s13 s14 s15 wr => ∃ (k : Nat), kv = .int .i64 (k : Int) ∧ up = .bool (upB x.truth p k) ∧ dn = .bool (dnB x.truth p k) ∧ k ≤ 4 ∧ Hid (RCell wr [.string x.name, .int .i64 x.kind, .slice A1 3 n1, .slice A2 x.arcs.length n2, .slice A3 x.truth.length n3, .int .i64 x.leak, .int .i64 x.energy] x) ∧ Hid (Blk wr u0.heap.size 28 #[.string x.name, .int .i64 x.kind, .slice A1 3 n1, .slice A2 x.arcs.length n2, .slice A3 x.truth.length n3, .int .i64 x.leak, .int .i64 x.energy]) ∧ Hid (Grows w wr)) (fun _ _ kv _ _ _ _ _ _ _ => 4 - (intOf kv).toNat)
    case atStart => exact ⟨0, rfl, rfl, rfl, Nat.zero_le _, RC, KB, G⟩
    case round =>
      clear RC KB G fB lB k0 k1 k2 k3 k4 k5 k6
      obtain ⟨k, rfl, rfl, rfl, hk, RC, KB, G⟩ := hrel
      obtain ⟨wr0, rfl⟩ : ∃ z : World, z = wr := ⟨_, rfl⟩
      have KBL : Hid (u0.heap.size < wr0.heap.size) := hideIt KB.out.lt
      obtain ⟨ub, hub⟩ : ∃ z, z = upB x.truth p k := ⟨_, rfl⟩
      obtain ⟨db, hdb⟩ : ∃ z, z = dnB x.truth p k := ⟨_, rfl⟩
      rw [← hub, ← hdb]
      have UB := hideIt hub
      have DB := hideIt hdb
      clear hub hdb
      have fB := KB.out.frozen
      have lB := KB.out.lt
      have k0 := KB.out.cell 0
      have k1 := KB.out.cell 1
      have k2 := KB.out.cell 2
      have k3 := KB.out.cell 3
      have k4 := KB.out.cell 4
      have k5 := KB.out.cell 5
      have k6 := KB.out.cell 6
      simp at k0 k1 k2 k3 k4 k5 k6
      by_cases hlt : k < 4
      · have hki : (k : Int) < 4 := by omega
        have own0 : Hid ((wr0.alloc (.cells #[] 2)).ownsRow wr0.heap.size 2 1 (.slice (some ⟨wr0.heap.size, 0, none⟩) 0 0) 0 []) := hideIt ⟨rfl, .inr ⟨_, 0, #[], rfl, Nat.le_refl _, Blk.new wr0 _ _, Nat.le_refl _, Nat.zero_le _, rfl, rfl⟩⟩
        have GW0 : Hid (Grows wr0 (wr0.alloc (.cells #[] 2))) := hideIt ((Grows.refl _).alloc _)
        go_wp2
        go_loopw [10, 11] (fun iv i wq => ∃ (j : Nat) (nv : Value), nv = iv ∧ i = .int .i64 (j : Int) ∧ j ≤ 2 ∧ Hid (wq.ownsRow wr0.heap.size 2 1 nv j ((bitsL k j).map (Value.int .i64))) ∧ Hid (Grows wr0 wq)) (fun _ i _ => 2 - (intOf i).toNat)
        case atStart => exact ⟨0, _, rfl, rfl, Nat.zero_le _, own0, GW0⟩
        case round =>
          clear own0 GW0 fB lB k0 k1 k2 k3 k4 k5 k6
          obtain ⟨j, nv, rfl, rfl, hj, OW, GW⟩ := hrel
          rcases (by omega : j = 0 ∨ j = 1 ∨ j = 2) with rfl | rfl | rfl
          · have k16 : k < 16 := by omega
            have zb : bits BinOp.and IntKind.i64 ((k : Int) / 1) 1 = bitZ k 0 := bit_val' ⟨0, by decide⟩ ⟨k, k16⟩
            have zb0 : bits BinOp.and IntKind.i64 (k : Int) 1 = bitZ k 0 := bit_val0 ⟨k, k16⟩
            have own1 := hideIt (OW.out.alloc (.cells #[.int .i64 (bitZ k 0)] 2))
            have nlt : Hid (∀ q, nv.ownBlock = some q → wr0.heap.size ≤ q ∧ q < wr.heap.size) := hideIt OW.out.lt
            have GW1 := hideIt (GW.out.alloc (.cells #[.int .i64 (bitZ k 0)] 2))
            clear OW GW
            go_wp2_with (at_builtin; go_loud (refine wpList_append_own_at _ rfl _ _ 26 rfl wr0.heap.size 2 iI (.int .i64 0) 1 8 Tryd.underlying26 hiI hzI hsI hbI rfl (by decide) nv 0 ((bitsL k 0).map (Value.int .i64)) rfl own1.out ⟨wr.heap.size, 0, none⟩ 1 1 [.int .i64 (bitZ k 0)] rfl ?c1 ?c2 ?c3 ?c4 ?c5 ?c6 ?_))
            case c1 => simp
            case c2 => exact cells_new _ _ _
            case c3 => intro u hu; simp at hu; subst hu; rfl
            case c4 => unfold maxLen; omega
            case c5 => omega
            case c6 => exact Nat.le_trans GW1.out.size (Nat.le_refl _)
            intro v' w4 hrow hgrow hnil hat
            have GW4 : Hid (Grows wr0 w4) := hideIt (GW1.out.grown hgrow (fun q e => (nlt.out q e).1))
            have OW4 : Hid (w4.ownsRow wr0.heap.size 2 1 v' 1 ((bitsL k 1).map (Value.int .i64))) := hideIt (by rw [bitsL_succ, List.map_append]; exact hrow)
            clear hrow hgrow hnil hat own1 GW1 nlt zb
            go_wp2
            go_roundw
            case rel => exact ⟨1, _, rfl, rfl, by omega, OW4, GW4⟩
            case measure => simp [intOf]
          · have k16 : k < 16 := by omega
            have zb : bits BinOp.and IntKind.i64 ((k : Int) / 2) 1 = bitZ k 1 := bit_val' ⟨1, by decide⟩ ⟨k, k16⟩
            have own1 := hideIt (OW.out.alloc (.cells #[.int .i64 (bitZ k 1)] 2))
            have nlt : Hid (∀ q, nv.ownBlock = some q → wr0.heap.size ≤ q ∧ q < wr.heap.size) := hideIt OW.out.lt
            have GW1 := hideIt (GW.out.alloc (.cells #[.int .i64 (bitZ k 1)] 2))
            clear OW GW
            go_wp2_with (at_builtin; go_loud (refine wpList_append_own_at _ rfl _ _ 26 rfl wr0.heap.size 2 iI (.int .i64 0) 1 8 Tryd.underlying26 hiI hzI hsI hbI rfl (by decide) nv 1 ((bitsL k 1).map (Value.int .i64)) rfl own1.out ⟨wr.heap.size, 0, none⟩ 1 1 [.int .i64 (bitZ k 1)] rfl ?c1 ?c2 ?c3 ?c4 ?c5 ?c6 ?_))
            case c1 => simp
            case c2 => exact cells_new _ _ _
            case c3 => intro u hu; simp at hu; subst hu; rfl
            case c4 => unfold maxLen; omega
            case c5 => omega
            case c6 => exact Nat.le_trans GW1.out.size (Nat.le_refl _)
            intro v' w4 hrow hgrow hnil hat
            have GW4 : Hid (Grows wr0 w4) := hideIt (GW1.out.grown hgrow (fun q e => (nlt.out q e).1))
            have OW4 : Hid (w4.ownsRow wr0.heap.size 2 1 v' 2 ((bitsL k 2).map (Value.int .i64))) := hideIt (by rw [bitsL_succ, List.map_append]; exact hrow)
            clear hrow hgrow hnil hat own1 GW1 nlt zb
            go_wp2
            go_roundw
            case rel => exact ⟨2, _, rfl, rfl, by omega, OW4, GW4⟩
            case measure => simp [intOf]
          · obtain ⟨gi, ci, ev, -, -, lg, fg, cg⟩ := ownsRow_at OW.out (by decide)
            subst ev
            obtain ⟨_, _, _, ev, OI0, OO⟩ := own_oints (xs := bitsL k 2) (by rw [bitsL_len]; exact OW.out)
            have OIb : OInts wr (.slice (some ⟨gi, 0, none⟩) 2 ci) (bitsL k 2) [gi] := by
              obtain ⟨g9, c9, cs9, e9, eb, -⟩ := OI0.row (by rw [bitsL_len]; decide)
              have : g9 = gi := by injection e9 with q1; injection q1 with q1; injection q1 with q1; exact q1.symm
              rw [← this, ← eb]
              rw [this]
              exact OI0
            have glo : Hid (wr0.heap.size ≤ gi) := hideIt (OW.out.lt gi rfl).1
            have OI := hideIt OIb
            have giu : gi ≠ u0.heap.size := by have := glo.out; have := KBL.out; omega
            have giu2 : u0.heap.size ≠ gi := fun e => giu e.symm
            obtain ⟨a, b', e0, e1, eU, eD⟩ := gate_pair HCB.out HK1.out HL.out (by decide) hpn hlt
            have E0 := hideIt e0
            have E1 := hideIt e1
            have EU := hideIt eU
            have ED := hideIt eD
            have cgp := cg p (.int .i64 (bitZ k p)) (by rw [List.getElem?_map]; unfold bitsL; rw [List.getElem?_map, List.getElem?_range hpn]; rfl)
            have KBw := hideIt (KB.out.grows GW.out)
            clear OW OI0 OO OIb ev e0 e1 eU eD cg
            have fB := KBw.out.frozen
            have lB := KBw.out.lt
            have k0 := KBw.out.cell 0
            have k1 := KBw.out.cell 1
            have k2 := KBw.out.cell 2
            have k3 := KBw.out.cell 3
            have k4 := KBw.out.cell 4
            have k5 := KBw.out.cell 5
            have k6 := KBw.out.cell 6
            simp at k0 k1 k2 k3 k4 k5 k6
            go_wp2_with fail
            refine at_w (fun u => OInts u (.slice (some ⟨gi, 0, none⟩) 2 ci) ((bitsL k 2).set p 0) [gi] ∧ Grows wr0 u) ⟨OI.out.set_ (by rw [bitsL_len]; exact hpn) 0, GW.out.setCell glo.out _⟩ (fun w5 hu => ?_)
            obtain ⟨oi, gg⟩ := hu
            replace OI := hideIt oi
            replace GW := hideIt gg
            clear oi gg fB lB k0 k1 k2 k3 k4 k5 k6 cgp lg fg
            refine (iGate_any _ (RC.out.keep GW.out.keeps) OI.out.reads SMP.out).mono ?_
            rintro e w5b ⟨rfl, g⟩
            rw [E0.out]
            replace OI := hideIt (OI.out.same ((SameOn.refl _ _).grows OI.out.lt g))
            replace GW := hideIt (GW.out.trans g)
            have KBw := hideIt (KB.out.grows GW.out)
            have lg := OI.out.lt gi (by simp)
            have fg := OI.out.fr (by rw [List.length_set, bitsL_len]; decide)
            clear g
            have cgp := OI.out.at (j := p) (x := 0) (by rw [List.getElem?_set_self (by rw [bitsL_len]; exact hpn)])
            have fB := KBw.out.frozen
            have lB := KBw.out.lt
            have k0 := KBw.out.cell 0
            have k1 := KBw.out.cell 1
            have k2 := KBw.out.cell 2
            have k3 := KBw.out.cell 3
            have k4 := KBw.out.cell 4
            have k5 := KBw.out.cell 5
            have k6 := KBw.out.cell 6
            simp at k0 k1 k2 k3 k4 k5 k6
            go_wp2_with fail
            refine at_w (fun u => OInts u (.slice (some ⟨gi, 0, none⟩) 2 ci) ((bitsL k 2).set p 1) [gi] ∧ Grows wr0 u) ⟨by have h := OI.out.set_ (i := p) (by rw [List.length_set, bitsL_len]; exact hpn) 1; rw [List.set_set] at h; exact h, GW.out.setCell glo.out _⟩ (fun w6 hu => ?_)
            obtain ⟨oi, gg⟩ := hu
            replace OI := hideIt oi
            replace GW := hideIt gg
            clear oi gg fB lB k0 k1 k2 k3 k4 k5 k6 cgp lg fg
            refine (iGate_any _ (RC.out.keep GW.out.keeps) OI.out.reads SMP.out).mono ?_
            rintro e w6b ⟨rfl, g⟩
            rw [E1.out]
            replace OI := hideIt (OI.out.same ((SameOn.refl _ _).grows OI.out.lt g))
            replace GW := hideIt (GW.out.trans g)
            have KBw := hideIt (KB.out.grows GW.out)
            have lg := OI.out.lt gi (by simp)
            have fg := OI.out.fr (by rw [List.length_set, bitsL_len]; decide)
            clear g
            have RC9 := hideIt (RC.out.keep GW.out.keeps)
            have KB9 := hideIt (KB.out.grows GW.out)
            have G9 := hideIt (G.out.trans GW.out)
            have EU2 : Hid (upB x.truth p (k + 1) = (ub || decide (a < b'))) := hideIt (by rw [EU.out, ← UB.out])
            have ED2 : Hid (dnB x.truth p (k + 1) = (db || decide (a > b'))) := hideIt (by rw [ED.out, ← DB.out])
            clear EU ED E0 E1 UB DB RC KB G GW OI lg fg KBw
            cases ub <;> cases db
            all_goals
              go_wp2
              go_roundw
              case rel => exact ⟨k + 1, by go_num, by rw [EU2.out]; simp, by rw [ED2.out]; simp, by omega, RC9, KB9, G9⟩
              case measure => simp [intOf]; omega
      · have ke : k = 4 := by omega
        subst ke
        have SVE : Hid (sv = senV ub db) := hideIt (by rw [SV.out, SU.out, UB.out, DB.out])
        clear UB DB SU SV
        cases ub <;> cases db
        all_goals
          have sve := SVE.out
          have sv2 : sv = _ := sve.trans (by unfold senV; rfl)
          clear sve SVE
          simp at sv2
          subst sv2
          go_wp2
          go_ret
          exact ⟨rfl, G.out.below⟩
  · have HL := hideIt hl
    rw [hl] at hp
    replace KB : Hid (Blk u3 u0.heap.size 28 #[.string x.name, .int .i64 x.kind, .slice A1 4 n1, .slice A2 x.arcs.length n2, .slice A3 x.truth.length n3, .int .i64 x.leak, .int .i64 x.energy]) := hideIt (by have h := KB.out; rw [hl] at h; exact h)
    replace RC : Hid (RCell u3 [.string x.name, .int .i64 x.kind, .slice A1 4 n1, .slice A2 x.arcs.length n2, .slice A3 x.truth.length n3, .int .i64 x.leak, .int .i64 x.energy] x) := hideIt (by have h := RC.out; rw [hl] at h; exact h)
    clear hl
    have hpn : p < 3 := by omega
    have hpi : (p : Int) < 3 := by omega
    have SU := hideIt (sens_up HCB.out HK1.out HL.out (by decide) hpn)
    have fB := KB.out.frozen
    have lB := KB.out.lt
    have k0 := KB.out.cell 0
    have k1 := KB.out.cell 1
    have k2 := KB.out.cell 2
    have k3 := KB.out.cell 3
    have k4 := KB.out.cell 4
    have k5 := KB.out.cell 5
    have k6 := KB.out.cell 6
    simp at k0 k1 k2 k3 k4 k5 k6
    go_wp2
    go_loopw [6, 7, 9, 10, 11, 12, 13, 14, 15] (fun up dn kv s10 s11 s12 s13 s14 s15 wr => ∃ (k : Nat), kv = .int .i64 (k : Int) ∧ up = .bool (upB x.truth p k) ∧ dn = .bool (dnB x.truth p k) ∧ k ≤ 8 ∧ Hid (RCell wr [.string x.name, .int .i64 x.kind, .slice A1 4 n1, .slice A2 x.arcs.length n2, .slice A3 x.truth.length n3, .int .i64 x.leak, .int .i64 x.energy] x) ∧ Hid (Blk wr u0.heap.size 28 #[.string x.name, .int .i64 x.kind, .slice A1 4 n1, .slice A2 x.arcs.length n2, .slice A3 x.truth.length n3, .int .i64 x.leak, .int .i64 x.energy]) ∧ Hid (Grows w wr)) (fun _ _ kv _ _ _ _ _ _ _ => 8 - (intOf kv).toNat)
    case atStart => exact ⟨0, rfl, rfl, rfl, Nat.zero_le _, RC, KB, G⟩
    case round =>
      clear RC KB G fB lB k0 k1 k2 k3 k4 k5 k6
      obtain ⟨k, rfl, rfl, rfl, hk, RC, KB, G⟩ := hrel
      obtain ⟨wr0, rfl⟩ : ∃ z : World, z = wr := ⟨_, rfl⟩
      have KBL : Hid (u0.heap.size < wr0.heap.size) := hideIt KB.out.lt
      obtain ⟨ub, hub⟩ : ∃ z, z = upB x.truth p k := ⟨_, rfl⟩
      obtain ⟨db, hdb⟩ : ∃ z, z = dnB x.truth p k := ⟨_, rfl⟩
      rw [← hub, ← hdb]
      have UB := hideIt hub
      have DB := hideIt hdb
      clear hub hdb
      have fB := KB.out.frozen
      have lB := KB.out.lt
      have k0 := KB.out.cell 0
      have k1 := KB.out.cell 1
      have k2 := KB.out.cell 2
      have k3 := KB.out.cell 3
      have k4 := KB.out.cell 4
      have k5 := KB.out.cell 5
      have k6 := KB.out.cell 6
      simp at k0 k1 k2 k3 k4 k5 k6
      by_cases hlt : k < 8
      · have hki : (k : Int) < 8 := by omega
        have own0 : Hid ((wr0.alloc (.cells #[] 2)).ownsRow wr0.heap.size 2 1 (.slice (some ⟨wr0.heap.size, 0, none⟩) 0 0) 0 []) := hideIt ⟨rfl, .inr ⟨_, 0, #[], rfl, Nat.le_refl _, Blk.new wr0 _ _, Nat.le_refl _, Nat.zero_le _, rfl, rfl⟩⟩
        have GW0 : Hid (Grows wr0 (wr0.alloc (.cells #[] 2))) := hideIt ((Grows.refl _).alloc _)
        go_wp2
        go_loopw [10, 11] (fun iv i wq => ∃ (j : Nat) (nv : Value), nv = iv ∧ i = .int .i64 (j : Int) ∧ j ≤ 3 ∧ Hid (wq.ownsRow wr0.heap.size 2 1 nv j ((bitsL k j).map (Value.int .i64))) ∧ Hid (Grows wr0 wq)) (fun _ i _ => 3 - (intOf i).toNat)
        case atStart => exact ⟨0, _, rfl, rfl, Nat.zero_le _, own0, GW0⟩
        case round =>
          clear own0 GW0 fB lB k0 k1 k2 k3 k4 k5 k6
          obtain ⟨j, nv, rfl, rfl, hj, OW, GW⟩ := hrel
          rcases (by omega : j = 0 ∨ j = 1 ∨ j = 2 ∨ j = 3) with rfl | rfl | rfl | rfl
          · have k16 : k < 16 := by omega
            have zb : bits BinOp.and IntKind.i64 ((k : Int) / 1) 1 = bitZ k 0 := bit_val' ⟨0, by decide⟩ ⟨k, k16⟩
            have zb0 : bits BinOp.and IntKind.i64 (k : Int) 1 = bitZ k 0 := bit_val0 ⟨k, k16⟩
            have own1 := hideIt (OW.out.alloc (.cells #[.int .i64 (bitZ k 0)] 2))
            have nlt : Hid (∀ q, nv.ownBlock = some q → wr0.heap.size ≤ q ∧ q < wr.heap.size) := hideIt OW.out.lt
            have GW1 := hideIt (GW.out.alloc (.cells #[.int .i64 (bitZ k 0)] 2))
            clear OW GW
            go_wp2_with (at_builtin; go_loud (refine wpList_append_own_at _ rfl _ _ 26 rfl wr0.heap.size 2 iI (.int .i64 0) 1 8 Tryd.underlying26 hiI hzI hsI hbI rfl (by decide) nv 0 ((bitsL k 0).map (Value.int .i64)) rfl own1.out ⟨wr.heap.size, 0, none⟩ 1 1 [.int .i64 (bitZ k 0)] rfl ?c1 ?c2 ?c3 ?c4 ?c5 ?c6 ?_))
            case c1 => simp
            case c2 => exact cells_new _ _ _
            case c3 => intro u hu; simp at hu; subst hu; rfl
            case c4 => unfold maxLen; omega
            case c5 => omega
            case c6 => exact Nat.le_trans GW1.out.size (Nat.le_refl _)
            intro v' w4 hrow hgrow hnil hat
            have GW4 : Hid (Grows wr0 w4) := hideIt (GW1.out.grown hgrow (fun q e => (nlt.out q e).1))
            have OW4 : Hid (w4.ownsRow wr0.heap.size 2 1 v' 1 ((bitsL k 1).map (Value.int .i64))) := hideIt (by rw [bitsL_succ, List.map_append]; exact hrow)
            clear hrow hgrow hnil hat own1 GW1 nlt zb
            go_wp2
            go_roundw
            case rel => exact ⟨1, _, rfl, rfl, by omega, OW4, GW4⟩
            case measure => simp [intOf]
          · have k16 : k < 16 := by omega
            have zb : bits BinOp.and IntKind.i64 ((k : Int) / 2) 1 = bitZ k 1 := bit_val' ⟨1, by decide⟩ ⟨k, k16⟩
            have own1 := hideIt (OW.out.alloc (.cells #[.int .i64 (bitZ k 1)] 2))
            have nlt : Hid (∀ q, nv.ownBlock = some q → wr0.heap.size ≤ q ∧ q < wr.heap.size) := hideIt OW.out.lt
            have GW1 := hideIt (GW.out.alloc (.cells #[.int .i64 (bitZ k 1)] 2))
            clear OW GW
            go_wp2_with (at_builtin; go_loud (refine wpList_append_own_at _ rfl _ _ 26 rfl wr0.heap.size 2 iI (.int .i64 0) 1 8 Tryd.underlying26 hiI hzI hsI hbI rfl (by decide) nv 1 ((bitsL k 1).map (Value.int .i64)) rfl own1.out ⟨wr.heap.size, 0, none⟩ 1 1 [.int .i64 (bitZ k 1)] rfl ?c1 ?c2 ?c3 ?c4 ?c5 ?c6 ?_))
            case c1 => simp
            case c2 => exact cells_new _ _ _
            case c3 => intro u hu; simp at hu; subst hu; rfl
            case c4 => unfold maxLen; omega
            case c5 => omega
            case c6 => exact Nat.le_trans GW1.out.size (Nat.le_refl _)
            intro v' w4 hrow hgrow hnil hat
            have GW4 : Hid (Grows wr0 w4) := hideIt (GW1.out.grown hgrow (fun q e => (nlt.out q e).1))
            have OW4 : Hid (w4.ownsRow wr0.heap.size 2 1 v' 2 ((bitsL k 2).map (Value.int .i64))) := hideIt (by rw [bitsL_succ, List.map_append]; exact hrow)
            clear hrow hgrow hnil hat own1 GW1 nlt zb
            go_wp2
            go_roundw
            case rel => exact ⟨2, _, rfl, rfl, by omega, OW4, GW4⟩
            case measure => simp [intOf]
          · have k16 : k < 16 := by omega
            have zb : bits BinOp.and IntKind.i64 ((k : Int) / 4) 1 = bitZ k 2 := bit_val' ⟨2, by decide⟩ ⟨k, k16⟩
            have own1 := hideIt (OW.out.alloc (.cells #[.int .i64 (bitZ k 2)] 2))
            have nlt : Hid (∀ q, nv.ownBlock = some q → wr0.heap.size ≤ q ∧ q < wr.heap.size) := hideIt OW.out.lt
            have GW1 := hideIt (GW.out.alloc (.cells #[.int .i64 (bitZ k 2)] 2))
            clear OW GW
            go_wp2_with (at_builtin; go_loud (refine wpList_append_own_at _ rfl _ _ 26 rfl wr0.heap.size 2 iI (.int .i64 0) 1 8 Tryd.underlying26 hiI hzI hsI hbI rfl (by decide) nv 2 ((bitsL k 2).map (Value.int .i64)) rfl own1.out ⟨wr.heap.size, 0, none⟩ 1 1 [.int .i64 (bitZ k 2)] rfl ?c1 ?c2 ?c3 ?c4 ?c5 ?c6 ?_))
            case c1 => simp
            case c2 => exact cells_new _ _ _
            case c3 => intro u hu; simp at hu; subst hu; rfl
            case c4 => unfold maxLen; omega
            case c5 => omega
            case c6 => exact Nat.le_trans GW1.out.size (Nat.le_refl _)
            intro v' w4 hrow hgrow hnil hat
            have GW4 : Hid (Grows wr0 w4) := hideIt (GW1.out.grown hgrow (fun q e => (nlt.out q e).1))
            have OW4 : Hid (w4.ownsRow wr0.heap.size 2 1 v' 3 ((bitsL k 3).map (Value.int .i64))) := hideIt (by rw [bitsL_succ, List.map_append]; exact hrow)
            clear hrow hgrow hnil hat own1 GW1 nlt zb
            go_wp2
            go_roundw
            case rel => exact ⟨3, _, rfl, rfl, by omega, OW4, GW4⟩
            case measure => simp [intOf]
          · obtain ⟨gi, ci, ev, -, -, lg, fg, cg⟩ := ownsRow_at OW.out (by decide)
            subst ev
            obtain ⟨_, _, _, ev, OI0, OO⟩ := own_oints (xs := bitsL k 3) (by rw [bitsL_len]; exact OW.out)
            have OIb : OInts wr (.slice (some ⟨gi, 0, none⟩) 3 ci) (bitsL k 3) [gi] := by
              obtain ⟨g9, c9, cs9, e9, eb, -⟩ := OI0.row (by rw [bitsL_len]; decide)
              have : g9 = gi := by injection e9 with q1; injection q1 with q1; injection q1 with q1; exact q1.symm
              rw [← this, ← eb]
              rw [this]
              exact OI0
            have glo : Hid (wr0.heap.size ≤ gi) := hideIt (OW.out.lt gi rfl).1
            have OI := hideIt OIb
            have giu : gi ≠ u0.heap.size := by have := glo.out; have := KBL.out; omega
            have giu2 : u0.heap.size ≠ gi := fun e => giu e.symm
            obtain ⟨a, b', e0, e1, eU, eD⟩ := gate_pair HCB.out HK1.out HL.out (by decide) hpn hlt
            have E0 := hideIt e0
            have E1 := hideIt e1
            have EU := hideIt eU
            have ED := hideIt eD
            have cgp := cg p (.int .i64 (bitZ k p)) (by rw [List.getElem?_map]; unfold bitsL; rw [List.getElem?_map, List.getElem?_range hpn]; rfl)
            have KBw := hideIt (KB.out.grows GW.out)
            clear OW OI0 OO OIb ev e0 e1 eU eD cg
            have fB := KBw.out.frozen
            have lB := KBw.out.lt
            have k0 := KBw.out.cell 0
            have k1 := KBw.out.cell 1
            have k2 := KBw.out.cell 2
            have k3 := KBw.out.cell 3
            have k4 := KBw.out.cell 4
            have k5 := KBw.out.cell 5
            have k6 := KBw.out.cell 6
            simp at k0 k1 k2 k3 k4 k5 k6
            go_wp2_with fail
            refine at_w (fun u => OInts u (.slice (some ⟨gi, 0, none⟩) 3 ci) ((bitsL k 3).set p 0) [gi] ∧ Grows wr0 u) ⟨OI.out.set_ (by rw [bitsL_len]; exact hpn) 0, GW.out.setCell glo.out _⟩ (fun w5 hu => ?_)
            obtain ⟨oi, gg⟩ := hu
            replace OI := hideIt oi
            replace GW := hideIt gg
            clear oi gg fB lB k0 k1 k2 k3 k4 k5 k6 cgp lg fg
            refine (iGate_any _ (RC.out.keep GW.out.keeps) OI.out.reads SMP.out).mono ?_
            rintro e w5b ⟨rfl, g⟩
            rw [E0.out]
            replace OI := hideIt (OI.out.same ((SameOn.refl _ _).grows OI.out.lt g))
            replace GW := hideIt (GW.out.trans g)
            have KBw := hideIt (KB.out.grows GW.out)
            have lg := OI.out.lt gi (by simp)
            have fg := OI.out.fr (by rw [List.length_set, bitsL_len]; decide)
            clear g
            have cgp := OI.out.at (j := p) (x := 0) (by rw [List.getElem?_set_self (by rw [bitsL_len]; exact hpn)])
            have fB := KBw.out.frozen
            have lB := KBw.out.lt
            have k0 := KBw.out.cell 0
            have k1 := KBw.out.cell 1
            have k2 := KBw.out.cell 2
            have k3 := KBw.out.cell 3
            have k4 := KBw.out.cell 4
            have k5 := KBw.out.cell 5
            have k6 := KBw.out.cell 6
            simp at k0 k1 k2 k3 k4 k5 k6
            go_wp2_with fail
            refine at_w (fun u => OInts u (.slice (some ⟨gi, 0, none⟩) 3 ci) ((bitsL k 3).set p 1) [gi] ∧ Grows wr0 u) ⟨by have h := OI.out.set_ (i := p) (by rw [List.length_set, bitsL_len]; exact hpn) 1; rw [List.set_set] at h; exact h, GW.out.setCell glo.out _⟩ (fun w6 hu => ?_)
            obtain ⟨oi, gg⟩ := hu
            replace OI := hideIt oi
            replace GW := hideIt gg
            clear oi gg fB lB k0 k1 k2 k3 k4 k5 k6 cgp lg fg
            refine (iGate_any _ (RC.out.keep GW.out.keeps) OI.out.reads SMP.out).mono ?_
            rintro e w6b ⟨rfl, g⟩
            rw [E1.out]
            replace OI := hideIt (OI.out.same ((SameOn.refl _ _).grows OI.out.lt g))
            replace GW := hideIt (GW.out.trans g)
            have KBw := hideIt (KB.out.grows GW.out)
            have lg := OI.out.lt gi (by simp)
            have fg := OI.out.fr (by rw [List.length_set, bitsL_len]; decide)
            clear g
            have RC9 := hideIt (RC.out.keep GW.out.keeps)
            have KB9 := hideIt (KB.out.grows GW.out)
            have G9 := hideIt (G.out.trans GW.out)
            have EU2 : Hid (upB x.truth p (k + 1) = (ub || decide (a < b'))) := hideIt (by rw [EU.out, ← UB.out])
            have ED2 : Hid (dnB x.truth p (k + 1) = (db || decide (a > b'))) := hideIt (by rw [ED.out, ← DB.out])
            clear EU ED E0 E1 UB DB RC KB G GW OI lg fg KBw
            cases ub <;> cases db
            all_goals
              go_wp2
              go_roundw
              case rel => exact ⟨k + 1, by go_num, by rw [EU2.out]; simp, by rw [ED2.out]; simp, by omega, RC9, KB9, G9⟩
              case measure => simp [intOf]; omega
      · have ke : k = 8 := by omega
        subst ke
        have SVE : Hid (sv = senV ub db) := hideIt (by rw [SV.out, SU.out, UB.out, DB.out])
        clear UB DB SU SV
        cases ub <;> cases db
        all_goals
          have sve := SVE.out
          have sv2 : sv = _ := sve.trans (by unfold senV; rfl)
          clear sve SVE
          simp at sv2
          subst sv2
          go_wp2
          go_ret
          exact ⟨rfl, G.out.below⟩
  · have HL := hideIt hl
    rw [hl] at hp
    replace KB : Hid (Blk u3 u0.heap.size 28 #[.string x.name, .int .i64 x.kind, .slice A1 5 n1, .slice A2 x.arcs.length n2, .slice A3 x.truth.length n3, .int .i64 x.leak, .int .i64 x.energy]) := hideIt (by have h := KB.out; rw [hl] at h; exact h)
    replace RC : Hid (RCell u3 [.string x.name, .int .i64 x.kind, .slice A1 5 n1, .slice A2 x.arcs.length n2, .slice A3 x.truth.length n3, .int .i64 x.leak, .int .i64 x.energy] x) := hideIt (by have h := RC.out; rw [hl] at h; exact h)
    clear hl
    have hpn : p < 4 := by omega
    have hpi : (p : Int) < 4 := by omega
    have SU := hideIt (sens_up HCB.out HK1.out HL.out (by decide) hpn)
    have fB := KB.out.frozen
    have lB := KB.out.lt
    have k0 := KB.out.cell 0
    have k1 := KB.out.cell 1
    have k2 := KB.out.cell 2
    have k3 := KB.out.cell 3
    have k4 := KB.out.cell 4
    have k5 := KB.out.cell 5
    have k6 := KB.out.cell 6
    simp at k0 k1 k2 k3 k4 k5 k6
    go_wp2
    go_loopw [6, 7, 9, 10, 11, 12, 13, 14, 15] (fun up dn kv s10 s11 s12 s13 s14 s15 wr => ∃ (k : Nat), kv = .int .i64 (k : Int) ∧ up = .bool (upB x.truth p k) ∧ dn = .bool (dnB x.truth p k) ∧ k ≤ 16 ∧ Hid (RCell wr [.string x.name, .int .i64 x.kind, .slice A1 5 n1, .slice A2 x.arcs.length n2, .slice A3 x.truth.length n3, .int .i64 x.leak, .int .i64 x.energy] x) ∧ Hid (Blk wr u0.heap.size 28 #[.string x.name, .int .i64 x.kind, .slice A1 5 n1, .slice A2 x.arcs.length n2, .slice A3 x.truth.length n3, .int .i64 x.leak, .int .i64 x.energy]) ∧ Hid (Grows w wr)) (fun _ _ kv _ _ _ _ _ _ _ => 16 - (intOf kv).toNat)
    case atStart => exact ⟨0, rfl, rfl, rfl, Nat.zero_le _, RC, KB, G⟩
    case round =>
      clear RC KB G fB lB k0 k1 k2 k3 k4 k5 k6
      obtain ⟨k, rfl, rfl, rfl, hk, RC, KB, G⟩ := hrel
      obtain ⟨wr0, rfl⟩ : ∃ z : World, z = wr := ⟨_, rfl⟩
      have KBL : Hid (u0.heap.size < wr0.heap.size) := hideIt KB.out.lt
      obtain ⟨ub, hub⟩ : ∃ z, z = upB x.truth p k := ⟨_, rfl⟩
      obtain ⟨db, hdb⟩ : ∃ z, z = dnB x.truth p k := ⟨_, rfl⟩
      rw [← hub, ← hdb]
      have UB := hideIt hub
      have DB := hideIt hdb
      clear hub hdb
      have fB := KB.out.frozen
      have lB := KB.out.lt
      have k0 := KB.out.cell 0
      have k1 := KB.out.cell 1
      have k2 := KB.out.cell 2
      have k3 := KB.out.cell 3
      have k4 := KB.out.cell 4
      have k5 := KB.out.cell 5
      have k6 := KB.out.cell 6
      simp at k0 k1 k2 k3 k4 k5 k6
      by_cases hlt : k < 16
      · have hki : (k : Int) < 16 := by omega
        have own0 : Hid ((wr0.alloc (.cells #[] 2)).ownsRow wr0.heap.size 2 1 (.slice (some ⟨wr0.heap.size, 0, none⟩) 0 0) 0 []) := hideIt ⟨rfl, .inr ⟨_, 0, #[], rfl, Nat.le_refl _, Blk.new wr0 _ _, Nat.le_refl _, Nat.zero_le _, rfl, rfl⟩⟩
        have GW0 : Hid (Grows wr0 (wr0.alloc (.cells #[] 2))) := hideIt ((Grows.refl _).alloc _)
        go_wp2
        go_loopw [10, 11] (fun iv i wq => ∃ (j : Nat) (nv : Value), nv = iv ∧ i = .int .i64 (j : Int) ∧ j ≤ 4 ∧ Hid (wq.ownsRow wr0.heap.size 2 1 nv j ((bitsL k j).map (Value.int .i64))) ∧ Hid (Grows wr0 wq)) (fun _ i _ => 4 - (intOf i).toNat)
        case atStart => exact ⟨0, _, rfl, rfl, Nat.zero_le _, own0, GW0⟩
        case round =>
          clear own0 GW0 fB lB k0 k1 k2 k3 k4 k5 k6
          obtain ⟨j, nv, rfl, rfl, hj, OW, GW⟩ := hrel
          rcases (by omega : j = 0 ∨ j = 1 ∨ j = 2 ∨ j = 3 ∨ j = 4) with rfl | rfl | rfl | rfl | rfl
          · have k16 : k < 16 := by omega
            have zb : bits BinOp.and IntKind.i64 ((k : Int) / 1) 1 = bitZ k 0 := bit_val' ⟨0, by decide⟩ ⟨k, k16⟩
            have zb0 : bits BinOp.and IntKind.i64 (k : Int) 1 = bitZ k 0 := bit_val0 ⟨k, k16⟩
            have own1 := hideIt (OW.out.alloc (.cells #[.int .i64 (bitZ k 0)] 2))
            have nlt : Hid (∀ q, nv.ownBlock = some q → wr0.heap.size ≤ q ∧ q < wr.heap.size) := hideIt OW.out.lt
            have GW1 := hideIt (GW.out.alloc (.cells #[.int .i64 (bitZ k 0)] 2))
            clear OW GW
            go_wp2_with (at_builtin; go_loud (refine wpList_append_own_at _ rfl _ _ 26 rfl wr0.heap.size 2 iI (.int .i64 0) 1 8 Tryd.underlying26 hiI hzI hsI hbI rfl (by decide) nv 0 ((bitsL k 0).map (Value.int .i64)) rfl own1.out ⟨wr.heap.size, 0, none⟩ 1 1 [.int .i64 (bitZ k 0)] rfl ?c1 ?c2 ?c3 ?c4 ?c5 ?c6 ?_))
            case c1 => simp
            case c2 => exact cells_new _ _ _
            case c3 => intro u hu; simp at hu; subst hu; rfl
            case c4 => unfold maxLen; omega
            case c5 => omega
            case c6 => exact Nat.le_trans GW1.out.size (Nat.le_refl _)
            intro v' w4 hrow hgrow hnil hat
            have GW4 : Hid (Grows wr0 w4) := hideIt (GW1.out.grown hgrow (fun q e => (nlt.out q e).1))
            have OW4 : Hid (w4.ownsRow wr0.heap.size 2 1 v' 1 ((bitsL k 1).map (Value.int .i64))) := hideIt (by rw [bitsL_succ, List.map_append]; exact hrow)
            clear hrow hgrow hnil hat own1 GW1 nlt zb
            go_wp2
            go_roundw
            case rel => exact ⟨1, _, rfl, rfl, by omega, OW4, GW4⟩
            case measure => simp [intOf]
          · have k16 : k < 16 := by omega
            have zb : bits BinOp.and IntKind.i64 ((k : Int) / 2) 1 = bitZ k 1 := bit_val' ⟨1, by decide⟩ ⟨k, k16⟩
            have own1 := hideIt (OW.out.alloc (.cells #[.int .i64 (bitZ k 1)] 2))
            have nlt : Hid (∀ q, nv.ownBlock = some q → wr0.heap.size ≤ q ∧ q < wr.heap.size) := hideIt OW.out.lt
            have GW1 := hideIt (GW.out.alloc (.cells #[.int .i64 (bitZ k 1)] 2))
            clear OW GW
            go_wp2_with (at_builtin; go_loud (refine wpList_append_own_at _ rfl _ _ 26 rfl wr0.heap.size 2 iI (.int .i64 0) 1 8 Tryd.underlying26 hiI hzI hsI hbI rfl (by decide) nv 1 ((bitsL k 1).map (Value.int .i64)) rfl own1.out ⟨wr.heap.size, 0, none⟩ 1 1 [.int .i64 (bitZ k 1)] rfl ?c1 ?c2 ?c3 ?c4 ?c5 ?c6 ?_))
            case c1 => simp
            case c2 => exact cells_new _ _ _
            case c3 => intro u hu; simp at hu; subst hu; rfl
            case c4 => unfold maxLen; omega
            case c5 => omega
            case c6 => exact Nat.le_trans GW1.out.size (Nat.le_refl _)
            intro v' w4 hrow hgrow hnil hat
            have GW4 : Hid (Grows wr0 w4) := hideIt (GW1.out.grown hgrow (fun q e => (nlt.out q e).1))
            have OW4 : Hid (w4.ownsRow wr0.heap.size 2 1 v' 2 ((bitsL k 2).map (Value.int .i64))) := hideIt (by rw [bitsL_succ, List.map_append]; exact hrow)
            clear hrow hgrow hnil hat own1 GW1 nlt zb
            go_wp2
            go_roundw
            case rel => exact ⟨2, _, rfl, rfl, by omega, OW4, GW4⟩
            case measure => simp [intOf]
          · have k16 : k < 16 := by omega
            have zb : bits BinOp.and IntKind.i64 ((k : Int) / 4) 1 = bitZ k 2 := bit_val' ⟨2, by decide⟩ ⟨k, k16⟩
            have own1 := hideIt (OW.out.alloc (.cells #[.int .i64 (bitZ k 2)] 2))
            have nlt : Hid (∀ q, nv.ownBlock = some q → wr0.heap.size ≤ q ∧ q < wr.heap.size) := hideIt OW.out.lt
            have GW1 := hideIt (GW.out.alloc (.cells #[.int .i64 (bitZ k 2)] 2))
            clear OW GW
            go_wp2_with (at_builtin; go_loud (refine wpList_append_own_at _ rfl _ _ 26 rfl wr0.heap.size 2 iI (.int .i64 0) 1 8 Tryd.underlying26 hiI hzI hsI hbI rfl (by decide) nv 2 ((bitsL k 2).map (Value.int .i64)) rfl own1.out ⟨wr.heap.size, 0, none⟩ 1 1 [.int .i64 (bitZ k 2)] rfl ?c1 ?c2 ?c3 ?c4 ?c5 ?c6 ?_))
            case c1 => simp
            case c2 => exact cells_new _ _ _
            case c3 => intro u hu; simp at hu; subst hu; rfl
            case c4 => unfold maxLen; omega
            case c5 => omega
            case c6 => exact Nat.le_trans GW1.out.size (Nat.le_refl _)
            intro v' w4 hrow hgrow hnil hat
            have GW4 : Hid (Grows wr0 w4) := hideIt (GW1.out.grown hgrow (fun q e => (nlt.out q e).1))
            have OW4 : Hid (w4.ownsRow wr0.heap.size 2 1 v' 3 ((bitsL k 3).map (Value.int .i64))) := hideIt (by rw [bitsL_succ, List.map_append]; exact hrow)
            clear hrow hgrow hnil hat own1 GW1 nlt zb
            go_wp2
            go_roundw
            case rel => exact ⟨3, _, rfl, rfl, by omega, OW4, GW4⟩
            case measure => simp [intOf]
          · have k16 : k < 16 := by omega
            have zb : bits BinOp.and IntKind.i64 ((k : Int) / 8) 1 = bitZ k 3 := bit_val' ⟨3, by decide⟩ ⟨k, k16⟩
            have own1 := hideIt (OW.out.alloc (.cells #[.int .i64 (bitZ k 3)] 2))
            have nlt : Hid (∀ q, nv.ownBlock = some q → wr0.heap.size ≤ q ∧ q < wr.heap.size) := hideIt OW.out.lt
            have GW1 := hideIt (GW.out.alloc (.cells #[.int .i64 (bitZ k 3)] 2))
            clear OW GW
            go_wp2_with (at_builtin; go_loud (refine wpList_append_own_at _ rfl _ _ 26 rfl wr0.heap.size 2 iI (.int .i64 0) 1 8 Tryd.underlying26 hiI hzI hsI hbI rfl (by decide) nv 3 ((bitsL k 3).map (Value.int .i64)) rfl own1.out ⟨wr.heap.size, 0, none⟩ 1 1 [.int .i64 (bitZ k 3)] rfl ?c1 ?c2 ?c3 ?c4 ?c5 ?c6 ?_))
            case c1 => simp
            case c2 => exact cells_new _ _ _
            case c3 => intro u hu; simp at hu; subst hu; rfl
            case c4 => unfold maxLen; omega
            case c5 => omega
            case c6 => exact Nat.le_trans GW1.out.size (Nat.le_refl _)
            intro v' w4 hrow hgrow hnil hat
            have GW4 : Hid (Grows wr0 w4) := hideIt (GW1.out.grown hgrow (fun q e => (nlt.out q e).1))
            have OW4 : Hid (w4.ownsRow wr0.heap.size 2 1 v' 4 ((bitsL k 4).map (Value.int .i64))) := hideIt (by rw [bitsL_succ, List.map_append]; exact hrow)
            clear hrow hgrow hnil hat own1 GW1 nlt zb
            go_wp2
            go_roundw
            case rel => exact ⟨4, _, rfl, rfl, by omega, OW4, GW4⟩
            case measure => simp [intOf]
          · obtain ⟨gi, ci, ev, -, -, lg, fg, cg⟩ := ownsRow_at OW.out (by decide)
            subst ev
            obtain ⟨_, _, _, ev, OI0, OO⟩ := own_oints (xs := bitsL k 4) (by rw [bitsL_len]; exact OW.out)
            have OIb : OInts wr (.slice (some ⟨gi, 0, none⟩) 4 ci) (bitsL k 4) [gi] := by
              obtain ⟨g9, c9, cs9, e9, eb, -⟩ := OI0.row (by rw [bitsL_len]; decide)
              have : g9 = gi := by injection e9 with q1; injection q1 with q1; injection q1 with q1; exact q1.symm
              rw [← this, ← eb]
              rw [this]
              exact OI0
            have glo : Hid (wr0.heap.size ≤ gi) := hideIt (OW.out.lt gi rfl).1
            have OI := hideIt OIb
            have giu : gi ≠ u0.heap.size := by have := glo.out; have := KBL.out; omega
            have giu2 : u0.heap.size ≠ gi := fun e => giu e.symm
            obtain ⟨a, b', e0, e1, eU, eD⟩ := gate_pair HCB.out HK1.out HL.out (by decide) hpn hlt
            have E0 := hideIt e0
            have E1 := hideIt e1
            have EU := hideIt eU
            have ED := hideIt eD
            have cgp := cg p (.int .i64 (bitZ k p)) (by rw [List.getElem?_map]; unfold bitsL; rw [List.getElem?_map, List.getElem?_range hpn]; rfl)
            have KBw := hideIt (KB.out.grows GW.out)
            clear OW OI0 OO OIb ev e0 e1 eU eD cg
            have fB := KBw.out.frozen
            have lB := KBw.out.lt
            have k0 := KBw.out.cell 0
            have k1 := KBw.out.cell 1
            have k2 := KBw.out.cell 2
            have k3 := KBw.out.cell 3
            have k4 := KBw.out.cell 4
            have k5 := KBw.out.cell 5
            have k6 := KBw.out.cell 6
            simp at k0 k1 k2 k3 k4 k5 k6
            go_wp2_with fail
            refine at_w (fun u => OInts u (.slice (some ⟨gi, 0, none⟩) 4 ci) ((bitsL k 4).set p 0) [gi] ∧ Grows wr0 u) ⟨OI.out.set_ (by rw [bitsL_len]; exact hpn) 0, GW.out.setCell glo.out _⟩ (fun w5 hu => ?_)
            obtain ⟨oi, gg⟩ := hu
            replace OI := hideIt oi
            replace GW := hideIt gg
            clear oi gg fB lB k0 k1 k2 k3 k4 k5 k6 cgp lg fg
            refine (iGate_any _ (RC.out.keep GW.out.keeps) OI.out.reads SMP.out).mono ?_
            rintro e w5b ⟨rfl, g⟩
            rw [E0.out]
            replace OI := hideIt (OI.out.same ((SameOn.refl _ _).grows OI.out.lt g))
            replace GW := hideIt (GW.out.trans g)
            have KBw := hideIt (KB.out.grows GW.out)
            have lg := OI.out.lt gi (by simp)
            have fg := OI.out.fr (by rw [List.length_set, bitsL_len]; decide)
            clear g
            have cgp := OI.out.at (j := p) (x := 0) (by rw [List.getElem?_set_self (by rw [bitsL_len]; exact hpn)])
            have fB := KBw.out.frozen
            have lB := KBw.out.lt
            have k0 := KBw.out.cell 0
            have k1 := KBw.out.cell 1
            have k2 := KBw.out.cell 2
            have k3 := KBw.out.cell 3
            have k4 := KBw.out.cell 4
            have k5 := KBw.out.cell 5
            have k6 := KBw.out.cell 6
            simp at k0 k1 k2 k3 k4 k5 k6
            go_wp2_with fail
            refine at_w (fun u => OInts u (.slice (some ⟨gi, 0, none⟩) 4 ci) ((bitsL k 4).set p 1) [gi] ∧ Grows wr0 u) ⟨by have h := OI.out.set_ (i := p) (by rw [List.length_set, bitsL_len]; exact hpn) 1; rw [List.set_set] at h; exact h, GW.out.setCell glo.out _⟩ (fun w6 hu => ?_)
            obtain ⟨oi, gg⟩ := hu
            replace OI := hideIt oi
            replace GW := hideIt gg
            clear oi gg fB lB k0 k1 k2 k3 k4 k5 k6 cgp lg fg
            refine (iGate_any _ (RC.out.keep GW.out.keeps) OI.out.reads SMP.out).mono ?_
            rintro e w6b ⟨rfl, g⟩
            rw [E1.out]
            replace OI := hideIt (OI.out.same ((SameOn.refl _ _).grows OI.out.lt g))
            replace GW := hideIt (GW.out.trans g)
            have KBw := hideIt (KB.out.grows GW.out)
            have lg := OI.out.lt gi (by simp)
            have fg := OI.out.fr (by rw [List.length_set, bitsL_len]; decide)
            clear g
            have RC9 := hideIt (RC.out.keep GW.out.keeps)
            have KB9 := hideIt (KB.out.grows GW.out)
            have G9 := hideIt (G.out.trans GW.out)
            have EU2 : Hid (upB x.truth p (k + 1) = (ub || decide (a < b'))) := hideIt (by rw [EU.out, ← UB.out])
            have ED2 : Hid (dnB x.truth p (k + 1) = (db || decide (a > b'))) := hideIt (by rw [ED.out, ← DB.out])
            clear EU ED E0 E1 UB DB RC KB G GW OI lg fg KBw
            cases ub <;> cases db
            all_goals
              go_wp2
              go_roundw
              case rel => exact ⟨k + 1, by go_num, by rw [EU2.out]; simp, by rw [ED2.out]; simp, by omega, RC9, KB9, G9⟩
              case measure => simp [intOf]; omega
      · have ke : k = 16 := by omega
        subst ke
        have SVE : Hid (sv = senV ub db) := hideIt (by rw [SV.out, SU.out, UB.out, DB.out])
        clear UB DB SU SV
        cases ub <;> cases db
        all_goals
          have sve := SVE.out
          have sv2 : sv = _ := sve.trans (by unfold senV; rfl)
          clear sve SVE
          simp at sv2
          subst sv2
          go_wp2
          go_ret
          exact ⟨rfl, G.out.below⟩
end Go.Proofs.YtldblnopbnmgfaaDoor
