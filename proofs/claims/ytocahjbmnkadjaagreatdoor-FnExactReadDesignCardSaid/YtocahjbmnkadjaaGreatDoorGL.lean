/-
  Contract of the reference's IsCell.
-/
import Derived.Test.YtocahjbmnkadjaaGreatDoorGI
namespace Go.Proofs.YtocahjbmnkadjaaGreatDoor
open Go.RowKit
set_option maxRecDepth 100000 in
set_option maxHeartbeats 8000000 in
theorem sIsCell_any {v0 v1 v2 v3 v4 v5 v6 : Value} {x : CellD} (w : World) (h : RCell w [v0, v1, v2, v3, v4, v5, v6] x) :
    Calls Tryz.prog 33 #[.agg #[v0, v1, v2, v3, v4, v5, v6]] w fun e w' => e = .returned (.bool (cellB x)) ∧ Grows w w' := by
  have h0 := h
  have hz : x.name.size ≤ maxLen := by obtain ⟨_, _, _, _, h, _⟩ := h; exact h
  obtain ⟨rfl, rfl, hp, ha, ht, rfl, rfl, -⟩ := h.parts
  obtain ⟨name, kind, pins, arcs, truth, leak, energy⟩ := x
  have pl := RList.len hp
  have al := RList.len ha
  have tl := RList.len ht
  obtain ⟨P, np, rfl⟩ : ∃ (D : Option Addr) (nd : Nat), v2 = .slice D pins.length nd := by obtain ⟨D, c, e, -⟩ := RList.form hp; exact ⟨D, c, e⟩
  obtain ⟨A, na, rfl, -, -, hx⟩ := RList.form ha
  obtain ⟨T, nt, rfl, -, -, ht'⟩ := RList.form ht
  have S := hideIt (Blk.new w 71 #[.string name, .int .i64 kind, .slice P pins.length np, .slice A arcs.length na, .slice T truth.length nt, .int .i64 leak, .int .i64 energy])
  have G := hideIt ((Grows.refl w).alloc (.cells #[.string name, .int .i64 kind, .slice P pins.length np, .slice A arcs.length na, .slice T truth.length nt, .int .i64 leak, .int .i64 energy] 71))
  have HC := hideIt (h0.keep G.out.keeps)
  have HX := hideIt hx
  have HT := hideIt ht'
  have NZ := hideIt hz
  clear hx hp ha ht h h0 ht' hz
  simp only at *
  by_cases hP : PinsP pins
  rotate_left
  · have NP := hideIt (pB_false hP)
    have EP := hideIt (show cellB (⟨name, kind, pins, arcs, truth, leak, energy⟩ : CellD) = false from pB_false fun h => hP h.pins)
    go_enter Tryz.func33, Tryz.ntmps33
    go_wp2_with fail
    refine (l03Pins_any _ HC.out).mono ?_
    rintro e w1 ⟨c, rfl, hc, g1⟩
    rw [NP.out]
    have G1 := hideIt (G.out.trans g1)
    have S1 := hideIt (S.out.grows g1)
    clear hc g1
    have kl := S1.out.lt
    have k0 : w1.cell? ⟨w.heap.size, 0, none⟩ = some (.string name) := S1.out.cell 0
    have k1 : w1.cell? ⟨w.heap.size, 1, none⟩ = some (.int .i64 kind) := S1.out.cell 1
    have k2 : w1.cell? ⟨w.heap.size, 2, none⟩ = some (.slice P pins.length np) := S1.out.cell 2
    have k3 : w1.cell? ⟨w.heap.size, 3, none⟩ = some (.slice A arcs.length na) := S1.out.cell 3
    have k4 : w1.cell? ⟨w.heap.size, 4, none⟩ = some (.slice T truth.length nt) := S1.out.cell 4
    have k5 : w1.cell? ⟨w.heap.size, 5, none⟩ = some (.int .i64 leak) := S1.out.cell 5
    have k6 : w1.cell? ⟨w.heap.size, 6, none⟩ = some (.int .i64 energy) := S1.out.cell 6
    go_wp2
    go_ret
    exact ⟨ret_bool EP.out.symm, G1.out⟩
  cases hN : nameB name
  · have NM := hideIt hN
    clear hN
    have EP := hideIt (show cellB (⟨name, kind, pins, arcs, truth, leak, energy⟩ : CellD) = false from pB_false fun h => by have := h.name; rw [NM.out] at this; cases this)
    go_enter Tryz.func33, Tryz.ntmps33
    go_wp2_with fail
    refine (l03Pins_any _ HC.out).mono ?_
    rintro e w1 ⟨c, rfl, hc, g1⟩
    rw [pB_true hP]
    have G1 := hideIt (G.out.trans g1)
    have S1 := hideIt (S.out.grows g1)
    have HC1 := hideIt (HC.out.keep g1.keeps)
    obtain rfl := hc hP
    clear hc g1
    have kl := S1.out.lt
    have k0 : w1.cell? ⟨w.heap.size, 0, none⟩ = some (.string name) := S1.out.cell 0
    have k1 : w1.cell? ⟨w.heap.size, 1, none⟩ = some (.int .i64 kind) := S1.out.cell 1
    have k2 : w1.cell? ⟨w.heap.size, 2, none⟩ = some (.slice P pins.length np) := S1.out.cell 2
    have k3 : w1.cell? ⟨w.heap.size, 3, none⟩ = some (.slice A arcs.length na) := S1.out.cell 3
    have k4 : w1.cell? ⟨w.heap.size, 4, none⟩ = some (.slice T truth.length nt) := S1.out.cell 4
    have k5 : w1.cell? ⟨w.heap.size, 5, none⟩ = some (.int .i64 leak) := S1.out.cell 5
    have k6 : w1.cell? ⟨w.heap.size, 6, none⟩ = some (.int .i64 energy) := S1.out.cell 6
    go_wp2_with ((go_at_call 59; refine (l03Name_any _ _ NZ.out).mono ?_; rintro e w' ⟨rfl, hw⟩; rw [hw]; clear hw w'; rw [NM.out]))
    go_ret
    exact ⟨ret_bool EP.out.symm, G1.out⟩
  have NM := hideIt hN
  clear hN
  by_cases hL : arcs.length ≤ 8
  rotate_left
  · skip
    have EP := hideIt (show cellB (⟨name, kind, pins, arcs, truth, leak, energy⟩ : CellD) = false from pB_false fun h => hL h.few)
    go_enter Tryz.func33, Tryz.ntmps33
    go_wp2_with fail
    refine (l03Pins_any _ HC.out).mono ?_
    rintro e w1 ⟨c, rfl, hc, g1⟩
    rw [pB_true hP]
    have G1 := hideIt (G.out.trans g1)
    have S1 := hideIt (S.out.grows g1)
    have HC1 := hideIt (HC.out.keep g1.keeps)
    obtain rfl := hc hP
    clear hc g1
    have kl := S1.out.lt
    have k0 : w1.cell? ⟨w.heap.size, 0, none⟩ = some (.string name) := S1.out.cell 0
    have k1 : w1.cell? ⟨w.heap.size, 1, none⟩ = some (.int .i64 kind) := S1.out.cell 1
    have k2 : w1.cell? ⟨w.heap.size, 2, none⟩ = some (.slice P pins.length np) := S1.out.cell 2
    have k3 : w1.cell? ⟨w.heap.size, 3, none⟩ = some (.slice A arcs.length na) := S1.out.cell 3
    have k4 : w1.cell? ⟨w.heap.size, 4, none⟩ = some (.slice T truth.length nt) := S1.out.cell 4
    have k5 : w1.cell? ⟨w.heap.size, 5, none⟩ = some (.int .i64 leak) := S1.out.cell 5
    have k6 : w1.cell? ⟨w.heap.size, 6, none⟩ = some (.int .i64 energy) := S1.out.cell 6
    go_wp2_with ((go_at_call 59; refine (l03Name_any _ _ NZ.out).mono ?_; rintro e w' ⟨rfl, hw⟩; rw [hw]; clear hw w'; rw [NM.out]))
    go_ret
    exact ⟨ret_bool EP.out.symm, G1.out⟩
  cases hk : inB leak 0 100000
  · have LK := hideIt hk
    clear hk
    have EP := hideIt (show cellB (⟨name, kind, pins, arcs, truth, leak, energy⟩ : CellD) = false from pB_false fun h => by have := h.leak; rw [LK.out] at this; cases this)
    go_enter Tryz.func33, Tryz.ntmps33
    go_wp2_with fail
    refine (l03Pins_any _ HC.out).mono ?_
    rintro e w1 ⟨c, rfl, hc, g1⟩
    rw [pB_true hP]
    have G1 := hideIt (G.out.trans g1)
    have S1 := hideIt (S.out.grows g1)
    have HC1 := hideIt (HC.out.keep g1.keeps)
    obtain rfl := hc hP
    clear hc g1
    have kl := S1.out.lt
    have k0 : w1.cell? ⟨w.heap.size, 0, none⟩ = some (.string name) := S1.out.cell 0
    have k1 : w1.cell? ⟨w.heap.size, 1, none⟩ = some (.int .i64 kind) := S1.out.cell 1
    have k2 : w1.cell? ⟨w.heap.size, 2, none⟩ = some (.slice P pins.length np) := S1.out.cell 2
    have k3 : w1.cell? ⟨w.heap.size, 3, none⟩ = some (.slice A arcs.length na) := S1.out.cell 3
    have k4 : w1.cell? ⟨w.heap.size, 4, none⟩ = some (.slice T truth.length nt) := S1.out.cell 4
    have k5 : w1.cell? ⟨w.heap.size, 5, none⟩ = some (.int .i64 leak) := S1.out.cell 5
    have k6 : w1.cell? ⟨w.heap.size, 6, none⟩ = some (.int .i64 energy) := S1.out.cell 6
    go_wp2_with (first | (go_at_call 59; refine (l03Name_any _ _ NZ.out).mono ?_; rintro e w' ⟨rfl, hw⟩; rw [hw]; clear hw w'; rw [NM.out]) | (go_at_call 60; refine (l01In_any _ _ _ _).mono ?_; rintro e w' ⟨rfl, rfl⟩; rw [LK.out]))
    go_ret
    exact ⟨ret_bool EP.out.symm, G1.out⟩
  have LK := hideIt hk
  clear hk
  cases he : inB energy 0 100000
  · have EN := hideIt he
    clear he
    have EP := hideIt (show cellB (⟨name, kind, pins, arcs, truth, leak, energy⟩ : CellD) = false from pB_false fun h => by have := h.energy; rw [EN.out] at this; cases this)
    go_enter Tryz.func33, Tryz.ntmps33
    go_wp2_with fail
    refine (l03Pins_any _ HC.out).mono ?_
    rintro e w1 ⟨c, rfl, hc, g1⟩
    rw [pB_true hP]
    have G1 := hideIt (G.out.trans g1)
    have S1 := hideIt (S.out.grows g1)
    have HC1 := hideIt (HC.out.keep g1.keeps)
    obtain rfl := hc hP
    clear hc g1
    have kl := S1.out.lt
    have k0 : w1.cell? ⟨w.heap.size, 0, none⟩ = some (.string name) := S1.out.cell 0
    have k1 : w1.cell? ⟨w.heap.size, 1, none⟩ = some (.int .i64 kind) := S1.out.cell 1
    have k2 : w1.cell? ⟨w.heap.size, 2, none⟩ = some (.slice P pins.length np) := S1.out.cell 2
    have k3 : w1.cell? ⟨w.heap.size, 3, none⟩ = some (.slice A arcs.length na) := S1.out.cell 3
    have k4 : w1.cell? ⟨w.heap.size, 4, none⟩ = some (.slice T truth.length nt) := S1.out.cell 4
    have k5 : w1.cell? ⟨w.heap.size, 5, none⟩ = some (.int .i64 leak) := S1.out.cell 5
    have k6 : w1.cell? ⟨w.heap.size, 6, none⟩ = some (.int .i64 energy) := S1.out.cell 6
    go_wp2_with (first | (go_at_call 59; refine (l03Name_any _ _ NZ.out).mono ?_; rintro e w' ⟨rfl, hw⟩; rw [hw]; clear hw w'; rw [NM.out]) | (go_at_call 60; refine (l01In_any _ _ _ _).mono ?_; rintro e w' ⟨rfl, rfl⟩; first | rw [LK.out] | rw [EN.out]))
    go_ret
    exact ⟨ret_bool EP.out.symm, G1.out⟩
  have EN := hideIt he
  clear he
  have HP := hideIt hP
  go_enter Tryz.func33, Tryz.ntmps33
  go_wp2_with fail
  refine (l03Pins_any _ HC.out).mono ?_
  rintro e w1 ⟨c, rfl, hc, g1⟩
  rw [pB_true hP]
  have G1 := hideIt (G.out.trans g1)
  have S1 := hideIt (S.out.grows g1)
  have HC1 := hideIt (HC.out.keep g1.keeps)
  obtain rfl := hc hP
  clear hc g1
  have kl := S1.out.lt
  have k0 : w1.cell? ⟨w.heap.size, 0, none⟩ = some (.string name) := S1.out.cell 0
  have k1 : w1.cell? ⟨w.heap.size, 1, none⟩ = some (.int .i64 kind) := S1.out.cell 1
  have k2 : w1.cell? ⟨w.heap.size, 2, none⟩ = some (.slice P pins.length np) := S1.out.cell 2
  have k3 : w1.cell? ⟨w.heap.size, 3, none⟩ = some (.slice A arcs.length na) := S1.out.cell 3
  have k4 : w1.cell? ⟨w.heap.size, 4, none⟩ = some (.slice T truth.length nt) := S1.out.cell 4
  have k5 : w1.cell? ⟨w.heap.size, 5, none⟩ = some (.int .i64 leak) := S1.out.cell 5
  have k6 : w1.cell? ⟨w.heap.size, 6, none⟩ = some (.int .i64 energy) := S1.out.cell 6
  go_wp2_with (first | (go_at_call 59; refine (l03Name_any _ _ NZ.out).mono ?_; rintro e w' ⟨rfl, hw⟩; rw [hw]; clear hw w'; rw [NM.out]) | (go_at_call 60; refine (l01In_any _ _ _ _).mono ?_; rintro e w' ⟨rfl, rfl⟩; first | rw [LK.out] | rw [EN.out]))
  go_loopw [5, 7] (fun i _ wr => ∃ k : Nat, k ≤ arcs.length ∧ i = .int .i64 (k : Int) ∧ Hid (∀ (j : Nat) (a : ArcD), j < k → arcs[j]? = some a → sArcB pins a = true ∧ ∀ (m : Nat) (b : ArcD), m < j → arcs[m]? = some b → ¬ sameArc b a) ∧ Grows w1 wr) (fun i _ _ => arcs.length - (intOf i).toNat)
  case atStart => exact ⟨0, by omega, rfl, fun j a hj => absurd hj (by omega), Grows.refl _⟩
  case round =>
    obtain ⟨k, hk, rfl, hco, hg⟩ := hrel
    have HG := hideIt hg
    have S2 := hideIt (S1.out.grows hg)
    have HC2 := hideIt (HC1.out.keep hg.keeps)
    clear hg k0 k1 k2 k3 k4 k5 k6 kl hP
    have kl := S2.out.lt
    have k0 : wr.cell? ⟨w.heap.size, 0, none⟩ = some (.string name) := S2.out.cell 0
    have k1 : wr.cell? ⟨w.heap.size, 1, none⟩ = some (.int .i64 kind) := S2.out.cell 1
    have k2 : wr.cell? ⟨w.heap.size, 2, none⟩ = some (.slice P pins.length np) := S2.out.cell 2
    have k3 : wr.cell? ⟨w.heap.size, 3, none⟩ = some (.slice A arcs.length na) := S2.out.cell 3
    have k4 : wr.cell? ⟨w.heap.size, 4, none⟩ = some (.slice T truth.length nt) := S2.out.cell 4
    have k5 : wr.cell? ⟨w.heap.size, 5, none⟩ = some (.int .i64 leak) := S2.out.cell 5
    have k6 : wr.cell? ⟨w.heap.size, 6, none⟩ = some (.int .i64 energy) := S2.out.cell 6
    by_cases hlt : k < arcs.length
    · obtain ⟨a, hp⟩ : ∃ a, arcs[k]? = some a := ⟨_, List.getElem?_eq_getElem hlt⟩
      obtain ⟨b, off, rfl, cs, hl1, hcs, hr⟩ := HX.out k a hp
      obtain ⟨d0, d1, d2, d3, d4, d5, rfl⟩ := list6 hl1
      have hra := hr
      obtain ⟨rfl, rfl, rfl, rfl, hdl, hsl⟩ := hr.parts
      obtain ⟨AD, nd, rfl⟩ : ∃ (D : Option Addr) (nd : Nat), d4 = .slice D a.delay.length nd := by obtain ⟨D, c, e, -⟩ := RList.form hdl; exact ⟨D, c, e⟩
      obtain ⟨AE, ne, rfl⟩ : ∃ (D : Option Addr) (nd : Nat), d5 = .slice D a.slew.length nd := by obtain ⟨D, c, e, -⟩ := RList.form hsl; exact ⟨D, c, e⟩
      clear hdl hsl
      have lift := (G1.out.trans HG.out).keeps
      have HA := hideIt ((hra.keep lift).keep (((Grows.refl wr).alloc (.cells #[.int .i64 a.kind, .int .i64 a.src, .int .i64 a.dst, .int .i64 a.sense, .slice AD a.delay.length nd, .slice AE a.slew.length ne] 101)).keeps))
      have HC3 := hideIt (HC2.out.keep (((Grows.refl wr).alloc (.cells #[.int .i64 a.kind, .int .i64 a.src, .int .i64 a.dst, .int .i64 a.sense, .slice AD a.delay.length nd, .slice AE a.slew.length ne] 101)).keeps))
      have q0 : wr.cell? ⟨b, off + k * 6, none⟩ = some (.int .i64 a.kind) := lift _ _ (by simpa using hcs 0 _ rfl)
      have q1 : wr.cell? ⟨b, off + k * 6 + 1, none⟩ = some (.int .i64 a.src) := lift _ _ (by simpa [Nat.add_assoc] using hcs 1 _ rfl)
      have q2 : wr.cell? ⟨b, off + k * 6 + 2, none⟩ = some (.int .i64 a.dst) := lift _ _ (by simpa [Nat.add_assoc] using hcs 2 _ rfl)
      have q3 : wr.cell? ⟨b, off + k * 6 + 3, none⟩ = some (.int .i64 a.sense) := lift _ _ (by simpa [Nat.add_assoc] using hcs 3 _ rfl)
      have q4 : wr.cell? ⟨b, off + k * 6 + 4, none⟩ = some (.slice AD a.delay.length nd) := lift _ _ (by simpa [Nat.add_assoc] using hcs 4 _ rfl)
      have q5 : wr.cell? ⟨b, off + k * 6 + 5, none⟩ = some (.slice AE a.slew.length ne) := lift _ _ (by simpa [Nat.add_assoc] using hcs 5 _ rfl)
      have P1 := hideIt hp
      clear hcs hl1 hr hra hp lift
      have BV := hideIt (Blk.new wr 101 #[.int .i64 a.kind, .int .i64 a.src, .int .i64 a.dst, .int .i64 a.sense, .slice AD a.delay.length nd, .slice AE a.slew.length ne])
      have GW := hideIt ((Grows.refl wr).alloc (.cells #[.int .i64 a.kind, .int .i64 a.src, .int .i64 a.dst, .int .i64 a.sense, .slice AD a.delay.length nd, .slice AE a.slew.length ne] 101))
      obtain ⟨wo, ewo⟩ : ∃ wo : World, wo = wr := ⟨_, rfl⟩
      subst ewo
      have v0 : (wo.alloc (.cells #[.int .i64 a.kind, .int .i64 a.src, .int .i64 a.dst, .int .i64 a.sense, .slice AD a.delay.length nd, .slice AE a.slew.length ne] 101)).cell? ⟨wo.heap.size, 0, none⟩ = some (.int .i64 a.kind) := BV.out.cell 0
      have v1 : (wo.alloc (.cells #[.int .i64 a.kind, .int .i64 a.src, .int .i64 a.dst, .int .i64 a.sense, .slice AD a.delay.length nd, .slice AE a.slew.length ne] 101)).cell? ⟨wo.heap.size, 1, none⟩ = some (.int .i64 a.src) := BV.out.cell 1
      have v2 : (wo.alloc (.cells #[.int .i64 a.kind, .int .i64 a.src, .int .i64 a.dst, .int .i64 a.sense, .slice AD a.delay.length nd, .slice AE a.slew.length ne] 101)).cell? ⟨wo.heap.size, 2, none⟩ = some (.int .i64 a.dst) := BV.out.cell 2
      have v3 : (wo.alloc (.cells #[.int .i64 a.kind, .int .i64 a.src, .int .i64 a.dst, .int .i64 a.sense, .slice AD a.delay.length nd, .slice AE a.slew.length ne] 101)).cell? ⟨wo.heap.size, 3, none⟩ = some (.int .i64 a.sense) := BV.out.cell 3
      have v4 : (wo.alloc (.cells #[.int .i64 a.kind, .int .i64 a.src, .int .i64 a.dst, .int .i64 a.sense, .slice AD a.delay.length nd, .slice AE a.slew.length ne] 101)).cell? ⟨wo.heap.size, 4, none⟩ = some (.slice AD a.delay.length nd) := BV.out.cell 4
      have v5 : (wo.alloc (.cells #[.int .i64 a.kind, .int .i64 a.src, .int .i64 a.dst, .int .i64 a.sense, .slice AD a.delay.length nd, .slice AE a.slew.length ne] 101)).cell? ⟨wo.heap.size, 5, none⟩ = some (.slice AE a.slew.length ne) := BV.out.cell 5
      go_wp2_with fail
      refine (l03Arc_any _ HC3.out HA.out HP.out.1.1 HP.out.1.2).mono ?_
      rintro e w2 ⟨rfl, g2⟩
      clear v0 v1 v2 v3 v4 v5 q0 q1 q2 q3 q4 q5 k0 k1 k2 k3 k4 k5 k6 kl
      have G2 := hideIt (GW.out.trans g2)
      have BV2 := hideIt (BV.out.grows g2)
      have G3 := hideIt ((G1.out.trans HG.out).trans G2.out)
      have S3 := hideIt (S2.out.grows G2.out)
      clear g2
      cases hA : sArcB pins a
      · have NO : Hid (¬ CellP ⟨name, kind, pins, arcs, truth, leak, energy⟩) := hideIt fun h => by have := (h.arcs k a P1.out).1; rw [hA] at this; cases this
        have EP := hideIt (pB_false NO.out)
        go_wp2
        go_ret
        exact ⟨ret_bool EP.out.symm, G3.out⟩
      have HA1 := hideIt hA
      clear hA
      go_wp2
      go_loopw [7] (fun i wr => ∃ q : Nat, q ≤ k ∧ i = .int .i64 (q : Int) ∧ Hid (∀ (j : Nat) (r : ArcD), j < q → arcs[j]? = some r → ¬ sameArc r a) ∧ Grows w2 wr) (fun i _ => k - (intOf i).toNat)
      case atStart => exact ⟨0, by omega, rfl, fun j r hj => absurd hj (by omega), Grows.refl _⟩
      case round =>
        obtain ⟨q, hq, rfl, hne, hg2⟩ := hrel
        have GA := hideIt (G3.out.trans hg2)
        have GB := hideIt (HG.out.trans (G2.out.trans hg2))
        have S4 := hideIt (S3.out.grows hg2)
        have bV := BV2.out.grows hg2
        have v0 : wr.cell? ⟨wo.heap.size, 0, none⟩ = some (.int .i64 a.kind) := bV.cell 0
        have v1 : wr.cell? ⟨wo.heap.size, 1, none⟩ = some (.int .i64 a.src) := bV.cell 1
        have v2 : wr.cell? ⟨wo.heap.size, 2, none⟩ = some (.int .i64 a.dst) := bV.cell 2
        have lV := bV.lt
        have HG2 := hideIt hg2
        clear bV hg2
        have lS := S4.out.lt
        have k3 : wr.cell? ⟨w.heap.size, 3, none⟩ = some (.slice (some ⟨b, off, none⟩) arcs.length na) := S4.out.cell 3
        by_cases hlq : q < k
        · obtain ⟨r, hr⟩ : ∃ r, arcs[q]? = some r := ⟨_, List.getElem?_eq_getElem (by omega)⟩
          obtain ⟨b', off', e, cs, hl1, hcs, hrr⟩ := HX.out q r hr
          injection e with e
          injection e with e1 e2
          subst e1 e2
          obtain ⟨d0, d1, d2, d3, d6, d7, rfl⟩ := list6 hl1
          obtain ⟨rfl, rfl, rfl, rfl, -⟩ := hrr.parts
          have q0 : wr.cell? ⟨b, off + q * 6, none⟩ = some (.int .i64 r.kind) := GA.out.keeps _ _ (by simpa using hcs 0 _ rfl)
          have q1 : wr.cell? ⟨b, off + q * 6 + 1, none⟩ = some (.int .i64 r.src) := GA.out.keeps _ _ (by simpa [Nat.add_assoc] using hcs 1 _ rfl)
          have q2 : wr.cell? ⟨b, off + q * 6 + 2, none⟩ = some (.int .i64 r.dst) := GA.out.keeps _ _ (by simpa [Nat.add_assoc] using hcs 2 _ rfl)
          have Q1 := hideIt hr
          clear hcs hl1 hrr hr
          cases z0 : (r.kind == a.kind)
          · have NE : Hid (¬ sameArc r a) := hideIt fun h => by have := beq_iff_eq.2 (h.1); rw [z0] at this; cases this
            go_wp2
            go_quiet (fail)
            go_wp2
            go_roundw
            case rel => exact ⟨q + 1, by omega, by go_num, fun j s hj hs => by
              by_cases ej : j = q
              · subst ej
                rw [Q1.out] at hs
                injection hs with hs
                rw [← hs]
                exact NE.out
              · exact hne.out j s (by omega) hs, HG2.out.drewN _⟩
            case measure => simp [intOf]; omega
          cases z1 : (r.src == a.src)
          · have NE : Hid (¬ sameArc r a) := hideIt fun h => by have := beq_iff_eq.2 (h.2.1); rw [z1] at this; cases this
            go_wp2
            go_quiet (fail)
            go_wp2
            go_roundw
            case rel => exact ⟨q + 1, by omega, by go_num, fun j s hj hs => by
              by_cases ej : j = q
              · subst ej
                rw [Q1.out] at hs
                injection hs with hs
                rw [← hs]
                exact NE.out
              · exact hne.out j s (by omega) hs, HG2.out.drewN _⟩
            case measure => simp [intOf]; omega
          cases z2 : (r.dst == a.dst)
          · have NE : Hid (¬ sameArc r a) := hideIt fun h => by have := beq_iff_eq.2 (h.2.2); rw [z2] at this; cases this
            go_wp2
            go_quiet (fail)
            go_wp2
            go_roundw
            case rel => exact ⟨q + 1, by omega, by go_num, fun j s hj hs => by
              by_cases ej : j = q
              · subst ej
                rw [Q1.out] at hs
                injection hs with hs
                rw [← hs]
                exact NE.out
              · exact hne.out j s (by omega) hs, HG2.out.drewN _⟩
            case measure => simp [intOf]; omega
          have NO : Hid (¬ CellP ⟨name, kind, pins, arcs, truth, leak, energy⟩) := hideIt fun h => (h.arcs k _ P1.out).2 q _ hlq Q1.out ⟨eq_of_beq z0, eq_of_beq z1, eq_of_beq z2⟩
          have EP := hideIt (pB_false NO.out)
          go_wp2
          go_quiet (fail)
          go_wp2
          go_ret
          exact ⟨ret_bool EP.out.symm, GA.out.drewN _⟩
        · obtain rfl : q = k := by omega
          go_wp2
          go_roundw
          case rel => exact ⟨q + 1, by omega, by go_num, fun j s hj hs => by
            by_cases ej : j = q
            · subst ej
              rw [P1.out] at hs
              injection hs with hs
              subst hs
              exact ⟨HA1.out, fun m r hm hr => hne.out m r hm hr⟩
            · exact hco.out j s (by omega) hs, GB.out⟩
          case measure => simp [intOf]; omega
    · obtain rfl : k = arcs.length := by omega
      have HAR : Hid (ArcsP pins arcs) := hideIt fun j a hj => hco.out j a (List.getElem?_eq_some_iff.1 hj).1 hj
      clear hco
      go_wp2_with fail
      refine (l03Kinds_any _ HC2.out fun j a hj => sArcB_kind (HAR.out j a hj).1).mono ?_
      rintro e w3 ⟨B, rfl, hb, g3⟩
      have G3 := hideIt ((G1.out.trans HG.out).trans g3)
      have S3 := hideIt (S2.out.grows g3)
      have BB := hideIt hb
      clear hb g3 k0 k1 k2 k3 k4 k5 k6 kl
      have kl := S3.out.lt
      have k1 : w3.cell? ⟨w.heap.size, 1, none⟩ = some (.int .i64 kind) := S3.out.cell 1
      have k2 : w3.cell? ⟨w.heap.size, 2, none⟩ = some (.slice P pins.length np) := S3.out.cell 2
      have k4 : w3.cell? ⟨w.heap.size, 4, none⟩ = some (.slice T truth.length nt) := S3.out.cell 4
      obtain ⟨n1, e1, p1, z1⟩ := kN_has arcs 1
      obtain ⟨n2, e2, p2, z2⟩ := kN_has arcs 2
      obtain ⟨n3, e3, p3, z3⟩ := kN_has arcs 3
      have y1 : w3.cell? ⟨B, 1, none⟩ = some (.int .i64 n1) := by rw [← e1]; exact BB.out.cell 1
      have y2 : w3.cell? ⟨B, 2, none⟩ = some (.int .i64 n2) := by rw [← e2]; exact BB.out.cell 2
      have y3 : w3.cell? ⟨B, 3, none⟩ = some (.int .i64 n3) := by rw [← e3]; exact BB.out.cell 3
      have lB := BB.out.lt
      clear e1 e2 e3
      have EB : Hid (cellB ⟨name, kind, pins, arcs, truth, leak, energy⟩ = kindB ⟨name, kind, pins, arcs, truth, leak, energy⟩) := hideIt (by
        cases hkb : kindB ⟨name, kind, pins, arcs, truth, leak, energy⟩
        · exact pB_false fun h => by have := h.ofKind; rw [hkb] at this; cases this
        · exact pB_true ⟨HP.out, NM.out, HAR.out, hL, LK.out, EN.out, hkb⟩)
      generalize hcl : clkN pins pins.length = cl at *
      by_cases kk1 : kind = 1
      · subst kk1
        clear p1 p2 p3 z1 z2 z3 y1 y2 y3
        go_wp2
        go_loop [9] (fun i => ∃ j : Nat, j ≤ truth.length ∧ i = .int .i64 (j : Int) ∧ Hid (∀ (m : Nat) (v : Int), m < j → truth[m]? = some v → inB v 0 1 = true)) (fun i => truth.length - (intOf i).toNat)
        case atStart => exact ⟨0, by omega, rfl, fun m v hm => absurd hm (by omega)⟩
        case round =>
          obtain ⟨j, hj, rfl, hin⟩ := hrel
          by_cases hjt : j < truth.length
          · obtain ⟨v, hv⟩ : ∃ v, truth[j]? = some v := ⟨_, List.getElem?_eq_getElem hjt⟩
            obtain ⟨b, off, rfl, cs, hl1, hcs, hr⟩ := HT.out j v hv
            unfold RI at hr
            subst hr
            have tj : w3.cell? ⟨b, off + j, none⟩ = some (.int .i64 v) := G3.out.keeps _ _ (by simpa using hcs 0 _ rfl)
            have V1 := hideIt hv
            clear hcs hl1 hv
            cases hi : inB v 0 1
            · have EP : Hid (cellB ⟨name, 1, pins, arcs, truth, leak, energy⟩ = false) := hideIt (by
                rw [EB.out]
                have : truth.all (fun v => inB v 0 1) = false := by
                  rw [List.all_eq_false]
                  exact ⟨v, List.mem_of_getElem? V1.out, by rw [hi]; simp⟩
                unfold kindB
                simp [this])
              have HI := hideIt hi
              clear hi
              go_wp2_with (go_at_call 60; refine (l01In_any _ _ _ _).mono ?_; rintro e w' ⟨rfl, rfl⟩; rw [HI.out])
              go_ret
              exact ⟨ret_bool EP.out.symm, G3.out⟩
            · have HI := hideIt hi
              clear hi
              go_wp2_with (go_at_call 60; refine (l01In_any _ _ _ _).mono ?_; rintro e w' ⟨rfl, rfl⟩; rw [HI.out])
              go_round
              case rel => exact ⟨j + 1, by omega, by go_num, fun m u hm hu => by
                by_cases em : m = j
                · subst em
                  rw [V1.out] at hu
                  injection hu with hu
                  rw [← hu]
                  exact HI.out
                · exact hin.out m u (by omega) hu⟩
              case measure => simp [intOf]; omega
          · obtain rfl : j = truth.length := by omega
            have all1 : truth.all (fun v => inB v 0 1) = true := by
              rw [List.all_eq_true]
              intro v hv
              obtain ⟨m, hm⟩ := List.getElem?_of_mem hv
              exact hin.out m v (List.getElem?_eq_some_iff.1 hm).1 hm
            clear hin
            have hp2 := HP.out.1.1
            have hp5 := HP.out.1.2
            by_cases c0 : cl = 0
            rotate_left
            · have EP : Hid (false = cellB ⟨name, 1, pins, arcs, truth, leak, energy⟩) := hideIt (by rw [EB.out]; unfold kindB; simp [hcl, c0])
              have c0' : ((cl : Int) == 0) = false := by simp; omega
              clear hcl all1 c0
              go_wp2
              go_ret
              exact ⟨ret_bool EP.out, G3.out⟩
            subst c0
            have hpl : pins.length = 2 ∨ pins.length = 3 ∨ pins.length = 4 ∨ pins.length = 5 := by omega
            rcases hpl with hpl | hpl | hpl | hpl
            · have EP : Hid (decide ((truth.length : Int) = 2) = cellB ⟨name, 1, pins, arcs, truth, leak, energy⟩) := hideIt (by
                rw [EB.out]
                have e : decide ((truth.length : Int) = 2) = decide (truth.length = 2) := by rw [Bool.eq_iff_iff]; simp; omega
                rw [e]
                unfold kindB
                simp only [hcl, all1]
                simp [hpl])
              clear hcl all1
              rw [hpl] at k2
              clear hpl hp2 hp5
              go_wp2
              go_ret
              exact ⟨ret_bool (by rw [← EP.out]; first | rfl | simp), G3.out⟩
            · have EP : Hid (decide ((truth.length : Int) = 4) = cellB ⟨name, 1, pins, arcs, truth, leak, energy⟩) := hideIt (by
                rw [EB.out]
                have e : decide ((truth.length : Int) = 4) = decide (truth.length = 4) := by rw [Bool.eq_iff_iff]; simp; omega
                rw [e]
                unfold kindB
                simp only [hcl, all1]
                simp [hpl])
              clear hcl all1
              rw [hpl] at k2
              clear hpl hp2 hp5
              go_wp2
              go_ret
              exact ⟨ret_bool (by rw [← EP.out]; first | rfl | simp), G3.out⟩
            · have EP : Hid (decide ((truth.length : Int) = 8) = cellB ⟨name, 1, pins, arcs, truth, leak, energy⟩) := hideIt (by
                rw [EB.out]
                have e : decide ((truth.length : Int) = 8) = decide (truth.length = 8) := by rw [Bool.eq_iff_iff]; simp; omega
                rw [e]
                unfold kindB
                simp only [hcl, all1]
                simp [hpl])
              clear hcl all1
              rw [hpl] at k2
              clear hpl hp2 hp5
              go_wp2
              go_ret
              exact ⟨ret_bool (by rw [← EP.out]; first | rfl | simp), G3.out⟩
            · have EP : Hid (decide ((truth.length : Int) = 16) = cellB ⟨name, 1, pins, arcs, truth, leak, energy⟩) := hideIt (by
                rw [EB.out]
                have e : decide ((truth.length : Int) = 16) = decide (truth.length = 16) := by rw [Bool.eq_iff_iff]; simp; omega
                rw [e]
                unfold kindB
                simp only [hcl, all1]
                simp [hpl])
              clear hcl all1
              rw [hpl] at k2
              clear hpl hp2 hp5
              go_wp2
              go_ret
              exact ⟨ret_bool (by rw [← EP.out]; first | rfl | simp), G3.out⟩
      have kl1 : truth.length = 0 ∨ ¬ truth.length = 0 := Classical.em _
      by_cases kk2 : kind = 2
      · subst kk2
        by_cases c0 : cl = 1
        rotate_left
        · have EP : Hid (false = cellB ⟨name, 2, pins, arcs, truth, leak, energy⟩) := hideIt (by rw [EB.out]; unfold kindB; simp [hcl, c0])
          have c0' : ((cl : Int) == 1) = false := by simp; omega
          clear hcl c0 p1 p2 p3 z1 z2 z3
          go_wp2
          go_quiet (fail)
          go_wp2
          go_ret
          exact ⟨ret_bool EP.out, G3.out.drewN _⟩
        subst c0
        cases h1 : hasB arcs 1
        rotate_left
        · skip
          have w1 := p1 h1
          have x1 : (n1 == 0) = false := by simp; omega
          have o1 : decide (0 < n1) = true := decide_eq_true w1
          have EP : Hid (false = cellB ⟨name, 2, pins, arcs, truth, leak, energy⟩) := hideIt (by rw [EB.out]; unfold kindB; simp [hcl, h1])
          clear hcl p1 p2 p3 z1 z2 z3 h1
          go_wp2
          go_quiet (fail)
          go_wp2
          go_ret
          exact ⟨ret_bool EP.out, G3.out.drewN _⟩
        obtain rfl := z1 h1
        cases h2 : hasB arcs 2
        rotate_left
        · skip
          have w2 := p2 h2
          have x2 : (n2 == 0) = false := by simp; omega
          have o2 : decide (0 < n2) = true := decide_eq_true w2
          cases h3 : hasB arcs 3
          rotate_left
          · skip
            have w3 := p3 h3
            have x3 : (n3 == 0) = false := by simp; omega
            have o3 : decide (0 < n3) = true := decide_eq_true w3
            have EP : Hid (false = cellB ⟨name, 2, pins, arcs, truth, leak, energy⟩) := hideIt (by rw [EB.out]; unfold kindB; simp [hcl, h1, h2, h3])
            clear hcl p1 p2 p3 z1 z2 z3 h1 h2 h3
            go_wp2
            go_quiet (fail)
            go_wp2
            go_ret
            exact ⟨ret_bool EP.out, G3.out.drewN _⟩
          obtain rfl := z3 h3
          rcases kl1 with tz | tz
          rotate_left
          · skip
            have tz' : ((truth.length : Int) == 0) = false := by rw [beq_eq_false_iff_ne]; omega
            have EP : Hid (false = cellB ⟨name, 2, pins, arcs, truth, leak, energy⟩) := hideIt (by rw [EB.out]; unfold kindB; simp [hcl, tz])
            clear hcl p1 p2 p3 z1 z2 z3 h1 h2 h3 tz
            go_wp2
            go_quiet (fail)
            go_wp2
            go_ret
            exact ⟨ret_bool EP.out, G3.out.drewN _⟩
          have tz' : ((truth.length : Int) == 0) = true := by rw [beq_iff_eq]; omega
          have EP : Hid (true = cellB ⟨name, 2, pins, arcs, truth, leak, energy⟩) := hideIt (by rw [EB.out]; unfold kindB; simp [hcl, tz, h1, h2, h3])
          clear hcl p1 p2 p3 z1 z2 z3 h1 h2 h3 tz
          go_wp2
          go_quiet (fail)
          go_wp2
          go_ret
          exact ⟨ret_bool EP.out, G3.out.drewN _⟩
        skip
        obtain rfl := z2 h2
        cases h3 : hasB arcs 3
        rotate_left
        · skip
          have w3 := p3 h3
          have x3 : (n3 == 0) = false := by simp; omega
          have o3 : decide (0 < n3) = true := decide_eq_true w3
          rcases kl1 with tz | tz
          rotate_left
          · skip
            have tz' : ((truth.length : Int) == 0) = false := by rw [beq_eq_false_iff_ne]; omega
            have EP : Hid (false = cellB ⟨name, 2, pins, arcs, truth, leak, energy⟩) := hideIt (by rw [EB.out]; unfold kindB; simp [hcl, tz])
            clear hcl p1 p2 p3 z1 z2 z3 h1 h2 h3 tz
            go_wp2
            go_quiet (fail)
            go_wp2
            go_ret
            exact ⟨ret_bool EP.out, G3.out.drewN _⟩
          have tz' : ((truth.length : Int) == 0) = true := by rw [beq_iff_eq]; omega
          have EP : Hid (true = cellB ⟨name, 2, pins, arcs, truth, leak, energy⟩) := hideIt (by rw [EB.out]; unfold kindB; simp [hcl, tz, h1, h2, h3])
          clear hcl p1 p2 p3 z1 z2 z3 h1 h2 h3 tz
          go_wp2
          go_quiet (fail)
          go_wp2
          go_ret
          exact ⟨ret_bool EP.out, G3.out.drewN _⟩
        obtain rfl := z3 h3
        have EP : Hid (false = cellB ⟨name, 2, pins, arcs, truth, leak, energy⟩) := hideIt (by rw [EB.out]; unfold kindB; simp [hcl, h1, h2, h3])
        clear hcl p1 p2 p3 z1 z2 z3 h1 h2 h3
        go_wp2
        go_quiet (fail)
        go_wp2
        go_ret
        exact ⟨ret_bool EP.out, G3.out.drewN _⟩
      by_cases kk3 : kind = 3
      · subst kk3
        by_cases c0 : cl = 1
        rotate_left
        · have EP : Hid (false = cellB ⟨name, 3, pins, arcs, truth, leak, energy⟩) := hideIt (by rw [EB.out]; unfold kindB; simp [hcl, c0])
          have c0' : ((cl : Int) == 1) = false := by simp; omega
          clear hcl c0 p1 p2 p3 z1 z2 z3
          go_wp2
          go_ret
          exact ⟨ret_bool EP.out, G3.out⟩
        subst c0
        cases h1 : hasB arcs 1
        · skip
          obtain rfl := z1 h1
          have EP : Hid (false = cellB ⟨name, 3, pins, arcs, truth, leak, energy⟩) := hideIt (by rw [EB.out]; unfold kindB; simp [hcl, h1])
          clear hcl p1 p2 p3 z1 z2 z3 h1
          go_wp2
          go_ret
          exact ⟨ret_bool EP.out, G3.out⟩
        have w1 := p1 h1
        have x1 : (n1 == 0) = false := by simp; omega
        have o1 : decide (0 < n1) = true := decide_eq_true w1
        cases h2 : hasB arcs 2
        · skip
          obtain rfl := z2 h2
          have EP : Hid (false = cellB ⟨name, 3, pins, arcs, truth, leak, energy⟩) := hideIt (by rw [EB.out]; unfold kindB; simp [hcl, h2])
          clear hcl p1 p2 p3 z1 z2 z3 h1 h2
          go_wp2
          go_ret
          exact ⟨ret_bool EP.out, G3.out⟩
        have w2 := p2 h2
        have x2 : (n2 == 0) = false := by simp; omega
        have o2 : decide (0 < n2) = true := decide_eq_true w2
        cases h3 : hasB arcs 3
        rotate_left
        · skip
          have w3 := p3 h3
          have x3 : (n3 == 0) = false := by simp; omega
          have o3 : decide (0 < n3) = true := decide_eq_true w3
          have EP : Hid (false = cellB ⟨name, 3, pins, arcs, truth, leak, energy⟩) := hideIt (by rw [EB.out]; unfold kindB; simp [hcl, h3])
          clear hcl p1 p2 p3 z1 z2 z3 h1 h2 h3
          go_wp2
          go_ret
          exact ⟨ret_bool EP.out, G3.out⟩
        obtain rfl := z3 h3
        rcases kl1 with tz | tz
        rotate_left
        · skip
          have tz' : ((truth.length : Int) == 0) = false := by rw [beq_eq_false_iff_ne]; omega
          have EP : Hid (false = cellB ⟨name, 3, pins, arcs, truth, leak, energy⟩) := hideIt (by rw [EB.out]; unfold kindB; simp [hcl, tz])
          clear hcl p1 p2 p3 z1 z2 z3 h1 h2 h3 tz
          go_wp2
          go_ret
          exact ⟨ret_bool EP.out, G3.out⟩
        have tz' : ((truth.length : Int) == 0) = true := by rw [beq_iff_eq]; omega
        have EP : Hid (true = cellB ⟨name, 3, pins, arcs, truth, leak, energy⟩) := hideIt (by rw [EB.out]; unfold kindB; simp [hcl, tz, h1, h2, h3])
        clear hcl p1 p2 p3 z1 z2 z3 h1 h2 h3 tz
        go_wp2
        go_ret
        exact ⟨ret_bool EP.out, G3.out⟩
      have EP : Hid (false = cellB ⟨name, kind, pins, arcs, truth, leak, energy⟩) := hideIt (by rw [EB.out]; unfold kindB; simp [kk1, kk2, kk3])
      clear hcl p1 p2 p3 z1 z2 z3 y1 y2 y3
      go_wp2
      go_ret
      exact ⟨ret_bool EP.out, G3.out⟩
end Go.Proofs.YtocahjbmnkadjaaGreatDoor
