/-
  ArcsTo, both sides.
-/
import Derived.Test.YtpppobomekebdaaGreatDoorGL
import Derived.Test.YtpppobomekebdaaGreatDoorGK
import Derived.Test.YtpppobomekebdaaGreatDoorOwnI
import Derived.Test.YtpppobomekebdaaGreatDoorGM
import Derived.Test.YtpppobomekebdaaGreatDoorGC
namespace Go.Proofs.YtpppobomekebdaaGreatDoor
open Go.RowKit

def arcAt (p k : Int) (a : ArcD) : Bool := decide (a.dst = p) && decide (a.kind = k)
def arcL (p k : Int) (xs : List ArcD) (n : Nat) : List Int := (List.range n).filterMap fun (i : Nat) => match xs[i]? with | some a => if arcAt p k a = true then some (i : Int) else none | none => none
theorem arcL_succ {p k : Int} {xs : List ArcD} {n : Nat} {a : ArcD} (h : xs[n]? = some a) : arcL p k xs (n + 1) = arcL p k xs n ++ (if arcAt p k a = true then [(n : Int)] else []) := by
  unfold arcL
  rw [List.range_succ, List.filterMap_append]
  congr 1
  by_cases e : arcAt p k a = true <;> simp [h, e]
theorem arcL_len (p k : Int) (xs : List ArcD) (n : Nat) : (arcL p k xs n).length ≤ n := by
  unfold arcL
  have := List.length_filterMap_le (fun (i : Nat) => match xs[i]? with | some a => if arcAt p k a = true then some (i : Int) else none | none => none) (List.range n)
  simpa using this
noncomputable def arcsV (x : CellD) (p k : Int) : List Int := if cellB x = true then arcL p k x.arcs x.arcs.length else []
theorem arcsV_len (x : CellD) (p k : Int) : (arcsV x p k).length ≤ 1048576 := by
  unfold arcsV
  split
  · rename_i h
    have h1 := (pB_iff.1 (show pB (CellP x) = true from h)).few
    have h2 := arcL_len p k x.arcs x.arcs.length
    omega
  · simp
theorem arc_at {w : World} {A : Option Addr} {n : Nat} {xs : List ArcD} (h : RArcs w (.slice A xs.length n) xs) {i : Nat} {x : ArcD} (hi : xs[i]? = some x) : ∃ (b off : Nat) (D S : Option Addr) (p q : Nat), A = some ⟨b, off, none⟩ ∧ w.cell? ⟨b, off + i * 6, none⟩ = some (.int .i64 x.kind) ∧ w.cell? ⟨b, off + i * 6 + 1, none⟩ = some (.int .i64 x.src) ∧ w.cell? ⟨b, off + i * 6 + 2, none⟩ = some (.int .i64 x.dst) ∧ w.cell? ⟨b, off + i * 6 + 3, none⟩ = some (.int .i64 x.sense) ∧ w.cell? ⟨b, off + i * 6 + 4, none⟩ = some (.slice D x.delay.length p) ∧ w.cell? ⟨b, off + i * 6 + 5, none⟩ = some (.slice S x.slew.length q) := by
  obtain ⟨A', n', e, -, -, hx⟩ := RList.form h
  injection e with e1 e2
  subst e1
  obtain ⟨b, off, rfl, ds, hl1, hcs, hr⟩ := hx i x hi
  obtain ⟨d0, d1, d2, d3, d4, d5, rfl⟩ := list6 hl1
  obtain ⟨rfl, rfl, rfl, rfl, h4, h5⟩ := hr.parts
  obtain ⟨D, p, rfl⟩ : ∃ (D : Option Addr) (q : Nat), d4 = .slice D x.delay.length q := by obtain ⟨D, c, e, -⟩ := RList.form h4; exact ⟨D, c, e⟩
  obtain ⟨S, q, rfl⟩ : ∃ (D : Option Addr) (q : Nat), d5 = .slice D x.slew.length q := by obtain ⟨D, c, e, -⟩ := RList.form h5; exact ⟨D, c, e⟩
  exact ⟨b, off, D, S, p, q, rfl, by simpa using hcs 0 _ rfl, by simpa [Nat.add_assoc] using hcs 1 _ rfl, by simpa [Nat.add_assoc] using hcs 2 _ rfl, by simpa [Nat.add_assoc] using hcs 3 _ rfl, by simpa [Nat.add_assoc] using hcs 4 _ rfl, by simpa [Nat.add_assoc] using hcs 5 _ rfl⟩

set_option maxHeartbeats 16000000 in
set_option maxRecDepth 10000 in
theorem sArcsTo_any {v0 v1 v2 v3 v4 v5 v6 : Value} {x : CellD} (p kd : Int) (w : World) (h : RCell w [v0, v1, v2, v3, v4, v5, v6] x) :
    Calls Tryz.prog 27 #[.agg #[v0, v1, v2, v3, v4, v5, v6], .int .i64 p, .int .i64 kd] w fun e w' => ∃ (A : Option Addr) (c : Nat) (bs : List Nat), e = .returned (.slice A (arcsV x p kd).length c) ∧ OInts w' (.slice A (arcsV x p kd).length c) (arcsV x p kd) bs ∧ Own w.heap.size w'.heap.size bs ∧ Grows w w' := by
  obtain ⟨i0, hi, hz0, hz1, hz2⟩ := info_parts info_i64'
  obtain ⟨rfl, rfl, h2, h3, h4, rfl, rfl, -⟩ := h.parts
  have al := RList.len h3
  obtain ⟨A2, m2, rfl⟩ : ∃ (D : Option Addr) (q : Nat), v2 = .slice D x.pins.length q := by obtain ⟨D, c, e, -⟩ := RList.form h2; exact ⟨D, c, e⟩
  obtain ⟨A3, m3, rfl⟩ : ∃ (D : Option Addr) (q : Nat), v3 = .slice D x.arcs.length q := by obtain ⟨D, c, e, -⟩ := RList.form h3; exact ⟨D, c, e⟩
  obtain ⟨A4, m4, rfl⟩ : ∃ (D : Option Addr) (q : Nat), v4 = .slice D x.truth.length q := by obtain ⟨D, c, e, -⟩ := RList.form h4; exact ⟨D, c, e⟩
  clear h2 h3 h4
  have g : Grows w w := Grows.refl w
  have G : Hid (Grows w (w.alloc (.cells #[.string x.name, .int .i64 x.kind, .slice A2 x.pins.length m2, .slice A3 x.arcs.length m3, .slice A4 x.truth.length m4, .int .i64 x.leak, .int .i64 x.energy] 68))) := hideIt ((Grows.refl w).alloc _)
  clear g
  have SC : Hid (Blk (w.alloc (.cells #[.string x.name, .int .i64 x.kind, .slice A2 x.pins.length m2, .slice A3 x.arcs.length m3, .slice A4 x.truth.length m4, .int .i64 x.leak, .int .i64 x.energy] 68)) (w.heap.size) 68 #[.string x.name, .int .i64 x.kind, .slice A2 x.pins.length m2, .slice A3 x.arcs.length m3, .slice A4 x.truth.length m4, .int .i64 x.leak, .int .i64 x.energy]) := by
    have := (Blk.new w 68 #[.string x.name, .int .i64 x.kind, .slice A2 x.pins.length m2, .slice A3 x.arcs.length m3, .slice A4 x.truth.length m4, .int .i64 x.leak, .int .i64 x.energy]).grows (Grows.refl (w.alloc (.cells #[.string x.name, .int .i64 x.kind, .slice A2 x.pins.length m2, .slice A3 x.arcs.length m3, .slice A4 x.truth.length m4, .int .i64 x.leak, .int .i64 x.energy] 68)))
    exact hideIt (by simpa using this)
  replace h := hideIt (h.keep G.out.keeps)
  have own0 : Hid (((w.alloc (.cells #[.string x.name, .int .i64 x.kind, .slice A2 x.pins.length m2, .slice A3 x.arcs.length m3, .slice A4 x.truth.length m4, .int .i64 x.leak, .int .i64 x.energy] 68)).alloc (.cells #[] 2)).ownsRow (w.heap.size + 1) 2 1 (.slice (some ⟨w.heap.size + 1, 0, none⟩) 0 0) 0 []) := by
    have h : ((w.alloc (.cells #[.string x.name, .int .i64 x.kind, .slice A2 x.pins.length m2, .slice A3 x.arcs.length m3, .slice A4 x.truth.length m4, .int .i64 x.leak, .int .i64 x.energy] 68)).alloc (.cells #[] 2)).ownsRow (w.alloc (.cells #[.string x.name, .int .i64 x.kind, .slice A2 x.pins.length m2, .slice A3 x.arcs.length m3, .slice A4 x.truth.length m4, .int .i64 x.leak, .int .i64 x.energy] 68)).heap.size 2 1 (.slice (some ⟨(w.alloc (.cells #[.string x.name, .int .i64 x.kind, .slice A2 x.pins.length m2, .slice A3 x.arcs.length m3, .slice A4 x.truth.length m4, .int .i64 x.leak, .int .i64 x.energy] 68)).heap.size, 0, none⟩) 0 0) 0 [] := ⟨rfl, .inr ⟨(w.alloc (.cells #[.string x.name, .int .i64 x.kind, .slice A2 x.pins.length m2, .slice A3 x.arcs.length m3, .slice A4 x.truth.length m4, .int .i64 x.leak, .int .i64 x.energy] 68)).heap.size, 0, #[], rfl, Nat.le_refl _, Blk.new _ _ _, Nat.le_refl _, Nat.zero_le _, rfl, rfl⟩⟩
    exact hideIt (by simpa using h)
  cases hc : cellB x
  · have HC := hideIt hc
    clear hc
    go_enter Tryz.func27, Tryz.ntmps27
    have EV := hideIt (show arcsV x p kd = [] from if_neg (by rw [HC.out]; decide))
    go_wp2
    go_loopw [7, 8] (fun s z wr => s = .slice (some ⟨w.heap.size + 1, 0, none⟩) 0 0 ∧ z = .int .i64 0 ∧ Hid (wr.ownsRow (w.heap.size + 1) 2 1 (.slice (some ⟨w.heap.size + 1, 0, none⟩) 0 0) 0 []) ∧ Grows (w.alloc (.cells #[.string x.name, .int .i64 x.kind, .slice A2 x.pins.length m2, .slice A3 x.arcs.length m3, .slice A4 x.truth.length m4, .int .i64 x.leak, .int .i64 x.energy] 68)) wr) (fun _ _ _ => 0)
    case atStart => exact ⟨rfl, rfl, own0.out, (Grows.refl _).alloc _⟩
    case round =>
      obtain ⟨rfl, rfl, hown, hg⟩ := hrel
      have HG := hideIt hg
      have TC := hideIt (SC.out.grows hg)
      clear hg
      have k0 : wr.cell? ⟨w.heap.size, 0, none⟩ = some (.string x.name) := TC.out.cell 0
      have k1 : wr.cell? ⟨w.heap.size, 1, none⟩ = some (.int .i64 x.kind) := TC.out.cell 1
      have k2 : wr.cell? ⟨w.heap.size, 2, none⟩ = some (.slice A2 x.pins.length m2) := TC.out.cell 2
      have k3 : wr.cell? ⟨w.heap.size, 3, none⟩ = some (.slice A3 x.arcs.length m3) := TC.out.cell 3
      have k4 : wr.cell? ⟨w.heap.size, 4, none⟩ = some (.slice A4 x.truth.length m4) := TC.out.cell 4
      have k5 : wr.cell? ⟨w.heap.size, 5, none⟩ = some (.int .i64 x.leak) := TC.out.cell 5
      have k6 : wr.cell? ⟨w.heap.size, 6, none⟩ = some (.int .i64 x.energy) := TC.out.cell 6
      have kl := TC.out.lt
      have kf := TC.out.frozen
      by_cases hz : 0 < x.arcs.length
      · go_wp2_with fail
        clear k0 k1 k2 k3 k4 k5 k6 kl kf
        refine (sIsCell_any _ (RCell.keep h.out HG.out.keeps)).mono ?_
        rintro e wx ⟨rfl, g⟩
        rw [HC.out]
        have OG := hideIt (ownsRow_grows hown.out g)
        have GN := hideIt (HG.out.trans g)
        clear g
        obtain ⟨A9, c9, bs, e9, ho, how⟩ := own_oints (xs := []) OG.out
        injection e9 with e1 e2 e3
        subst e1 e3
        clear e2
        have HO := hideIt ho
        have HW := hideIt how
        have GE := hideIt (G.out.trans GN.out)
        clear ho how hown
        go_wp2
        go_ret
        exact ⟨_, _, bs, ret_slice (by rw [EV.out]; rfl), by rw [EV.out]; exact HO.out, HW.out.mono (by omega) (Nat.le_refl _), GE.out⟩
      · obtain ⟨A9, c9, bs, e9, ho, how⟩ := own_oints (xs := []) hown.out
        injection e9 with e1 e2 e3
        subst e1 e3
        clear e2
        have HO := hideIt ho
        have HW := hideIt how
        have GE := hideIt (G.out.trans HG.out)
        have hz0 : x.arcs.length = 0 := by omega
        clear k3
        have k3 : wr.cell? ⟨w.heap.size, 3, none⟩ = some (.slice A3 0 m3) := by simpa only [hz0] using (show wr.cell? ⟨w.heap.size, 3, none⟩ = some (.slice A3 x.arcs.length m3) from TC.out.cell 3)
        clear ho how hown hz hz0
        go_wp2
        go_ret
        exact ⟨_, _, bs, ret_slice (by rw [EV.out]; rfl), by rw [EV.out]; exact HO.out, HW.out.mono (by omega) (Nat.le_refl _), GE.out⟩
  · have HC := hideIt hc
    clear hc
    go_enter Tryz.func27, Tryz.ntmps27
    have EV := hideIt (show arcsV x p kd = arcL p kd x.arcs x.arcs.length from if_pos HC.out)
    have few := (pB_iff.1 (show pB (CellP x) = true from HC.out)).few
    go_wp2
    go_loopw [7, 8] (fun s z wr => ∃ (nv : Value) (k : Nat), nv = s ∧ k ≤ x.arcs.length ∧ z = .int .i64 (k : Int) ∧ Hid (wr.ownsRow (w.heap.size + 1) 2 1 nv (arcL p kd x.arcs k).length ((arcL p kd x.arcs k).map (Value.int .i64))) ∧ Grows (w.alloc (.cells #[.string x.name, .int .i64 x.kind, .slice A2 x.pins.length m2, .slice A3 x.arcs.length m3, .slice A4 x.truth.length m4, .int .i64 x.leak, .int .i64 x.energy] 68)) wr) (fun _ z _ => x.arcs.length - (intOf z).toNat)
    case atStart => exact ⟨_, 0, rfl, Nat.zero_le _, rfl, own0.out, (Grows.refl _).alloc _⟩
    case round =>
      obtain ⟨nv, k, rfl, hk, rfl, hown, hg⟩ := hrel
      have HG := hideIt hg
      have TC := hideIt (SC.out.grows hg)
      have sl := arcL_len p kd x.arcs k
      clear hg
      have k0 : wr.cell? ⟨w.heap.size, 0, none⟩ = some (.string x.name) := TC.out.cell 0
      have k1 : wr.cell? ⟨w.heap.size, 1, none⟩ = some (.int .i64 x.kind) := TC.out.cell 1
      have k2 : wr.cell? ⟨w.heap.size, 2, none⟩ = some (.slice A2 x.pins.length m2) := TC.out.cell 2
      have k3 : wr.cell? ⟨w.heap.size, 3, none⟩ = some (.slice A3 x.arcs.length m3) := TC.out.cell 3
      have k4 : wr.cell? ⟨w.heap.size, 4, none⟩ = some (.slice A4 x.truth.length m4) := TC.out.cell 4
      have k5 : wr.cell? ⟨w.heap.size, 5, none⟩ = some (.int .i64 x.leak) := TC.out.cell 5
      have k6 : wr.cell? ⟨w.heap.size, 6, none⟩ = some (.int .i64 x.energy) := TC.out.cell 6
      have kl := TC.out.lt
      have kf := TC.out.frozen
      by_cases hlt : k < x.arcs.length
      · obtain ⟨a, ha⟩ : ∃ a, x.arcs[k]? = some a := ⟨_, List.getElem?_eq_getElem hlt⟩
        have SS := hideIt (arcL_succ (p := p) (k := kd) ha)
        have l1 : (k : Int) < (x.arcs.length : Int) := by omega
        have l4 : (0 : Int) ≤ (k : Int) := by omega
        go_wp2_with fail
        clear k0 k1 k2 k3 k4 k5 k6 kl kf
        refine (sIsCell_any _ (RCell.keep h.out HG.out.keeps)).mono ?_
        rintro e wx ⟨rfl, g⟩
        rw [HC.out]
        have OG := hideIt (ownsRow_grows hown.out g)
        have GN := hideIt (HG.out.trans g)
        have TC := hideIt (SC.out.grows GN.out)
        clear g hown
        have HXA := hideIt (RCell.keep h.out GN.out.keeps).parts.2.2.2.1
        obtain ⟨bi, oi, D, S, dm, sm, rfl, a0, a1, a2, a3, a4, a5⟩ := arc_at HXA.out ha
        clear ha
        have k0 : wx.cell? ⟨w.heap.size, 0, none⟩ = some (.string x.name) := TC.out.cell 0
        have k1 : wx.cell? ⟨w.heap.size, 1, none⟩ = some (.int .i64 x.kind) := TC.out.cell 1
        have k2 : wx.cell? ⟨w.heap.size, 2, none⟩ = some (.slice A2 x.pins.length m2) := TC.out.cell 2
        have k3 : wx.cell? ⟨w.heap.size, 3, none⟩ = some (.slice (some ⟨bi, oi, none⟩) x.arcs.length m3) := TC.out.cell 3
        have k4 : wx.cell? ⟨w.heap.size, 4, none⟩ = some (.slice A4 x.truth.length m4) := TC.out.cell 4
        have k5 : wx.cell? ⟨w.heap.size, 5, none⟩ = some (.int .i64 x.leak) := TC.out.cell 5
        have k6 : wx.cell? ⟨w.heap.size, 6, none⟩ = some (.int .i64 x.energy) := TC.out.cell 6
        have kl := TC.out.lt
        have kf := TC.out.frozen
        by_cases e1 : a.dst = p
        · have t1 : (a.dst == p) = true := beq_iff_eq.2 e1
          by_cases e2 : a.kind = kd
          · have t2 : (a.kind == kd) = true := beq_iff_eq.2 e2
            have EP := hideIt (show (if arcAt p kd a = true then [(k : Int)] else []) = [(k : Int)] from if_pos (by unfold arcAt; simp [e1, e2]))
            clear e1 e2
            have own1 := hideIt (OG.out.alloc (.cells #[.int .i64 (k : Int)] 2))
            have GA := hideIt (GN.out.alloc (.cells #[.int .i64 (k : Int)] 2))
            have nlt : Hid (∀ q, nv.ownBlock = some q → w.heap.size + 1 ≤ q ∧ q < wx.heap.size) := hideIt OG.out.lt
            go_wp2_with (at_builtin; refine wpList_append_own_at _ rfl _ _ 51 rfl (w.heap.size + 1) 2 i0 (.int .i64 0) 1 8 Tryz.underlying51 hi hz0 hz1 hz2 rfl (by decide) nv (arcL p kd x.arcs k).length ((arcL p kd x.arcs k).map (Value.int .i64)) rfl own1.out ⟨wx.heap.size, 0, none⟩ 1 1 [.int .i64 (k : Int)] rfl ?c1 ?c2 ?c3 ?c4 ?c5 ?c6 ?_)
            case c1 => simp
            case c2 =>
              intro j u hj
              match j, hj with
              | 0, hj => simp at hj; subst hj; simp [Addr.add]
            case c3 => intro u hu; simp at hu; subst hu; rfl
            case c4 => unfold maxLen; omega
            case c5 => omega
            case c6 => have := GA.out.size; simpa using this
            intro v' w4 hown3 hgrow hnil hat
            have G4 := hideIt (GA.out.grown hgrow (fun q e => by have h1 := (nlt.out q e).1; simpa using h1))
            have OW := hideIt (show w4.ownsRow (w.heap.size + 1) 2 1 v' (arcL p kd x.arcs (k + 1)).length ((arcL p kd x.arcs (k + 1)).map (Value.int .i64)) by rw [SS.out, EP.out, List.length_append, List.map_append]; exact hown3)
            clear hown3 hgrow hnil hat own1
            go_wp2
            go_roundw
            case rel => exact ⟨_, k + 1, rfl, by omega, by go_num, OW.out, G4.out⟩
            case measure => simp [intOf]; omega
          · have t2 : (a.kind == kd) = false := beq_eq_false_iff_ne.2 e2
            have EP := hideIt (show (if arcAt p kd a = true then [(k : Int)] else []) = [] from if_neg (by unfold arcAt; simp [e2]))
            clear e1 e2
            have OW := hideIt (show wx.ownsRow (w.heap.size + 1) 2 1 nv (arcL p kd x.arcs (k + 1)).length ((arcL p kd x.arcs (k + 1)).map (Value.int .i64)) by rw [SS.out, EP.out]; simpa using OG.out)
            go_wp2
            go_roundw
            case rel => exact ⟨_, k + 1, rfl, by omega, by go_num, OW.out, GN.out⟩
            case measure => simp [intOf]; omega
        · have t1 : (a.dst == p) = false := beq_eq_false_iff_ne.2 e1
          have EP := hideIt (show (if arcAt p kd a = true then [(k : Int)] else []) = [] from if_neg (by unfold arcAt; simp [e1]))
          clear e1
          have OW := hideIt (show wx.ownsRow (w.heap.size + 1) 2 1 nv (arcL p kd x.arcs (k + 1)).length ((arcL p kd x.arcs (k + 1)).map (Value.int .i64)) by rw [SS.out, EP.out]; simpa using OG.out)
          go_wp2
          go_roundw
          case rel => exact ⟨_, k + 1, rfl, by omega, by go_num, OW.out, GN.out⟩
          case measure => simp [intOf]; omega
      · obtain rfl : k = x.arcs.length := by omega
        obtain ⟨A9, c9, bs, rfl, ho, how⟩ := own_oints (xs := arcL p kd x.arcs x.arcs.length) hown.out
        have HO := hideIt ho
        have HW := hideIt how
        have GE := hideIt (G.out.trans HG.out)
        clear ho how hown
        go_wp2
        go_ret
        exact ⟨_, _, bs, ret_slice (by rw [EV.out]), by rw [EV.out]; exact HO.out, HW.out.mono (by omega) (Nat.le_refl _), GE.out⟩

set_option maxHeartbeats 16000000 in
set_option maxRecDepth 10000 in
theorem iArcsTo_any {v0 v1 v2 v3 v4 v5 v6 : Value} {x : CellD} (p kd : Int) (w : World) (h : RCell w [v0, v1, v2, v3, v4, v5, v6] x) (hsm : SmL x.pins) :
    Calls Tryz.prog 29 #[.agg #[v0, v1, v2, v3, v4, v5, v6], .int .i64 p, .int .i64 kd] w fun e w' => ∃ (A : Option Addr) (c : Nat) (bs : List Nat), e = .returned (.slice A (arcsV x p kd).length c) ∧ OInts w' (.slice A (arcsV x p kd).length c) (arcsV x p kd) bs ∧ Own w.heap.size w'.heap.size bs ∧ Grows w w' := by
  obtain ⟨i0, hi, hz0, hz1, hz2⟩ := info_parts info_i64'
  obtain ⟨rfl, rfl, h2, h3, h4, rfl, rfl, -⟩ := h.parts
  have al := RList.len h3
  obtain ⟨A2, m2, rfl⟩ : ∃ (D : Option Addr) (q : Nat), v2 = .slice D x.pins.length q := by obtain ⟨D, c, e, -⟩ := RList.form h2; exact ⟨D, c, e⟩
  obtain ⟨A3, m3, rfl⟩ : ∃ (D : Option Addr) (q : Nat), v3 = .slice D x.arcs.length q := by obtain ⟨D, c, e, -⟩ := RList.form h3; exact ⟨D, c, e⟩
  obtain ⟨A4, m4, rfl⟩ : ∃ (D : Option Addr) (q : Nat), v4 = .slice D x.truth.length q := by obtain ⟨D, c, e, -⟩ := RList.form h4; exact ⟨D, c, e⟩
  clear h2 h3 h4
  have SP := hideIt hsm
  clear hsm
  have g : Grows w w := Grows.refl w
  have G : Hid (Grows w (w.alloc (.cells #[.string x.name, .int .i64 x.kind, .slice A2 x.pins.length m2, .slice A3 x.arcs.length m3, .slice A4 x.truth.length m4, .int .i64 x.leak, .int .i64 x.energy] 68))) := hideIt ((Grows.refl w).alloc _)
  clear g
  have SC : Hid (Blk (w.alloc (.cells #[.string x.name, .int .i64 x.kind, .slice A2 x.pins.length m2, .slice A3 x.arcs.length m3, .slice A4 x.truth.length m4, .int .i64 x.leak, .int .i64 x.energy] 68)) (w.heap.size) 68 #[.string x.name, .int .i64 x.kind, .slice A2 x.pins.length m2, .slice A3 x.arcs.length m3, .slice A4 x.truth.length m4, .int .i64 x.leak, .int .i64 x.energy]) := by
    have := (Blk.new w 68 #[.string x.name, .int .i64 x.kind, .slice A2 x.pins.length m2, .slice A3 x.arcs.length m3, .slice A4 x.truth.length m4, .int .i64 x.leak, .int .i64 x.energy]).grows (Grows.refl (w.alloc (.cells #[.string x.name, .int .i64 x.kind, .slice A2 x.pins.length m2, .slice A3 x.arcs.length m3, .slice A4 x.truth.length m4, .int .i64 x.leak, .int .i64 x.energy] 68)))
    exact hideIt (by simpa using this)
  replace h := hideIt (h.keep G.out.keeps)
  go_enter Tryz.func29, Tryz.ntmps29
  go_wp2_with fail
  refine (iIsCell_any _ h.out SP.out).mono ?_
  rintro e u1 ⟨rfl, g⟩
  replace G := hideIt (G.out.trans g)
  replace h := hideIt (h.out.keep g.keeps)
  replace SC := hideIt (SC.out.grows g)
  clear g
  have kSC_0 : u1.cell? ⟨w.heap.size, 0, none⟩ = some (.string x.name) := SC.out.cell 0
  have kSC_1 : u1.cell? ⟨w.heap.size, 1, none⟩ = some (.int .i64 x.kind) := SC.out.cell 1
  have kSC_2 : u1.cell? ⟨w.heap.size, 2, none⟩ = some (.slice A2 x.pins.length m2) := SC.out.cell 2
  have kSC_3 : u1.cell? ⟨w.heap.size, 3, none⟩ = some (.slice A3 x.arcs.length m3) := SC.out.cell 3
  have kSC_4 : u1.cell? ⟨w.heap.size, 4, none⟩ = some (.slice A4 x.truth.length m4) := SC.out.cell 4
  have kSC_5 : u1.cell? ⟨w.heap.size, 5, none⟩ = some (.int .i64 x.leak) := SC.out.cell 5
  have kSC_6 : u1.cell? ⟨w.heap.size, 6, none⟩ = some (.int .i64 x.energy) := SC.out.cell 6
  have fSC := SC.out.frozen
  have lSC : w.heap.size < u1.heap.size := SC.out.lt
  cases hc : cellB x
  · have EV := hideIt (show arcsV x p kd = [] from if_neg (by rw [hc]; decide))
    clear hc
    go_wp2
    go_ret
    exact ⟨none, 0, [], ret_slice (by rw [EV.out]; rfl), by rw [EV.out]; exact .inl ⟨rfl, rfl, rfl⟩, Own.nil, G.out⟩
  · have EV := hideIt (show arcsV x p kd = arcL p kd x.arcs x.arcs.length from if_pos hc)
    have few := (pB_iff.1 (show pB (CellP x) = true from hc)).few
    clear hc
    go_wp2
    clear kSC_0 kSC_1 kSC_2 kSC_3 kSC_4 kSC_5 kSC_6 fSC lSC
    go_loopw [7, 8, 9, 16] (fun s _ _ z wr => ∃ (nv : Value) (k : Nat), nv = s ∧ k ≤ x.arcs.length ∧ z = .int .i64 (k : Int) ∧ Hid (wr.ownsRow (u1.heap.size) 2 1 nv (arcL p kd x.arcs k).length ((arcL p kd x.arcs k).map (Value.int .i64))) ∧ Grows u1 wr) (fun _ _ _ z _ => x.arcs.length - (intOf z).toNat)
    case atStart => exact ⟨_, 0, rfl, Nat.zero_le _, rfl, hideIt (by simpa [arcL] using World.ownsRow_nil _ _ _ _), Grows.refl _⟩
    case round =>
      obtain ⟨nv, k, rfl, hk, rfl, hown, hg⟩ := hrel
      have HG := hideIt hg
      have sl := arcL_len p kd x.arcs k
      clear hg
      by_cases hlt : k < x.arcs.length
      · obtain ⟨a, ha⟩ : ∃ a, x.arcs[k]? = some a := ⟨_, List.getElem?_eq_getElem hlt⟩
        have SS := hideIt (arcL_succ (p := p) (k := kd) ha)
        have l1 : (k : Int) < (x.arcs.length : Int) := by omega
        have l4 : (0 : Int) ≤ (k : Int) := by omega
        have HXA := hideIt (RCell.keep h.out HG.out.keeps).parts.2.2.2.1
        obtain ⟨bi, oi, D, S, dm, sm, rfl, a0, a1, a2, a3, a4, a5⟩ := arc_at HXA.out ha
        clear ha
        by_cases e1 : a.dst = p
        · have t1 : (a.dst == p) = true := beq_iff_eq.2 e1
          by_cases e2 : a.kind = kd
          · have t2 : (a.kind == kd) = true := beq_iff_eq.2 e2
            have EP := hideIt (show (if arcAt p kd a = true then [(k : Int)] else []) = [(k : Int)] from if_pos (by unfold arcAt; simp [e1, e2]))
            clear e1 e2
            have own1 := hideIt ((hown.out.alloc (.cells #[.int .i64 a.kind, .int .i64 a.src, .int .i64 a.dst, .int .i64 a.sense, .slice D a.delay.length dm, .slice S a.slew.length sm] 107)).alloc (.cells #[.int .i64 (k : Int)] 2))
            have GA := hideIt ((HG.out.alloc (.cells #[.int .i64 a.kind, .int .i64 a.src, .int .i64 a.dst, .int .i64 a.sense, .slice D a.delay.length dm, .slice S a.slew.length sm] 107)).alloc (.cells #[.int .i64 (k : Int)] 2))
            have nlt : Hid (∀ q, nv.ownBlock = some q → u1.heap.size ≤ q ∧ q < wr.heap.size) := hideIt hown.out.lt
            go_wp2_with (at_builtin; refine wpList_append_own_at _ rfl _ _ 51 rfl (u1.heap.size) 2 i0 (.int .i64 0) 1 8 Tryz.underlying51 hi hz0 hz1 hz2 rfl (by decide) nv (arcL p kd x.arcs k).length ((arcL p kd x.arcs k).map (Value.int .i64)) rfl own1.out ⟨wr.heap.size + 1, 0, none⟩ 1 1 [.int .i64 (k : Int)] rfl ?c1 ?c2 ?c3 ?c4 ?c5 ?c6 ?_)
            case c1 => simp
            case c2 =>
              intro j u hj
              match j, hj with
              | 0, hj => simp at hj; subst hj; simp [Addr.add]
            case c3 => intro u hu; simp at hu; subst hu; rfl
            case c4 => unfold maxLen; omega
            case c5 => omega
            case c6 => have := GA.out.size; simpa using this
            intro v' w4 hown3 hgrow hnil hat
            have G4 := hideIt (GA.out.grown hgrow (fun q e => (nlt.out q e).1))
            have OW := hideIt (show w4.ownsRow (u1.heap.size) 2 1 v' (arcL p kd x.arcs (k + 1)).length ((arcL p kd x.arcs (k + 1)).map (Value.int .i64)) by rw [SS.out, EP.out, List.length_append, List.map_append]; exact hown3)
            clear hown3 hgrow hnil hat own1
            go_wp2
            go_roundw
            case rel => exact ⟨_, k + 1, rfl, by omega, by go_num, OW.out, G4.out⟩
            case measure => simp [intOf]; omega
          · have t2 : (a.kind == kd) = false := beq_eq_false_iff_ne.2 e2
            have EP := hideIt (show (if arcAt p kd a = true then [(k : Int)] else []) = [] from if_neg (by unfold arcAt; simp [e2]))
            clear e1 e2
            have OW := hideIt (show wr.ownsRow (u1.heap.size) 2 1 nv (arcL p kd x.arcs (k + 1)).length ((arcL p kd x.arcs (k + 1)).map (Value.int .i64)) by rw [SS.out, EP.out]; simpa using hown.out)
            go_wp2
            go_roundw
            case rel => exact ⟨_, k + 1, rfl, by omega, by go_num, hideIt (ownsRow_grows OW.out (by repeat (first | exact Grows.refl _ | refine Grows.alloc ?_ _))), by repeat (first | exact HG.out | refine Grows.alloc ?_ _)⟩
            case measure => simp [intOf]; omega
        · have t1 : (a.dst == p) = false := beq_eq_false_iff_ne.2 e1
          have EP := hideIt (show (if arcAt p kd a = true then [(k : Int)] else []) = [] from if_neg (by unfold arcAt; simp [e1]))
          clear e1
          have OW := hideIt (show wr.ownsRow (u1.heap.size) 2 1 nv (arcL p kd x.arcs (k + 1)).length ((arcL p kd x.arcs (k + 1)).map (Value.int .i64)) by rw [SS.out, EP.out]; simpa using hown.out)
          go_wp2
          go_roundw
          case rel => exact ⟨_, k + 1, rfl, by omega, by go_num, hideIt (ownsRow_grows OW.out (by repeat (first | exact Grows.refl _ | refine Grows.alloc ?_ _))), by repeat (first | exact HG.out | refine Grows.alloc ?_ _)⟩
          case measure => simp [intOf]; omega
      · obtain rfl : k = x.arcs.length := by omega
        obtain ⟨A9, c9, bs, rfl, ho, how⟩ := own_oints (xs := arcL p kd x.arcs x.arcs.length) hown.out
        have HO := hideIt ho
        have HW := hideIt how
        have GE := hideIt (G.out.trans HG.out)
        have gsz := G.out.size
        clear ho how hown
        go_wp2
        go_ret
        exact ⟨_, _, bs, ret_slice (by rw [EV.out]), by rw [EV.out]; exact HO.out, HW.out.mono gsz (Nat.le_refl _), GE.out⟩

end Go.Proofs.YtpppobomekebdaaGreatDoor
