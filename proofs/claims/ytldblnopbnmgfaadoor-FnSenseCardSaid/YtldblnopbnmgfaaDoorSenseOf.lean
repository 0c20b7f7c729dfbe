/-
  Contracts of SenseOf, the reference's and the program's.
-/
import Derived.Test.YtldblnopbnmgfaaDoorSSense
import Derived.Test.YtldblnopbnmgfaaDoorISense
import Derived.Test.YtldblnopbnmgfaaDoorGL
import Derived.Test.YtldblnopbnmgfaaDoorGK
namespace Go.Proofs.YtldblnopbnmgfaaDoor
open Go.RowKit
noncomputable def sensV (x : CellD) (pin : Int) : Int := if cellB x = true ∧ x.kind = 1 ∧ inB pin 0 ((x.pins.length : Int) - 2) = true then senN x.truth pin.toNat else -1
set_option maxHeartbeats 4000000 in
theorem sSenseOf_any {v0 v1 v2 v3 v4 v5 v6 : Value} {x : CellD} (pin : Int) (w : World) (h : RCell w [v0, v1, v2, v3, v4, v5, v6] x) :
    Calls Tryd.prog 7 #[.agg #[v0, v1, v2, v3, v4, v5, v6], .int .i64 pin] w fun e w' => e = .returned (.int .i64 (sensV x pin)) ∧ Grows w w' := by
  have h0 := h
  obtain ⟨-, rfl, hp, ha, ht, -, -, -⟩ := h.parts
  obtain ⟨name, kind, pins, arcs, truth, leak, energy⟩ := x
  have pl := RList.len hp
  have al := RList.len ha
  obtain ⟨A, np, rfl⟩ : ∃ (D : Option Addr) (nd : Nat), v2 = .slice D pins.length nd := by obtain ⟨D, c, e, -⟩ := RList.form hp; exact ⟨D, c, e⟩
  obtain ⟨B, na, rfl, -, -, hx⟩ := RList.form ha
  have g0 := (Grows.refl w).alloc (.cells #[v0, .int .i64 kind, .slice A pins.length np, .slice B arcs.length na, v4, v5, v6] 28)
  have S := hideIt (Blk.new w 28 #[v0, .int .i64 kind, .slice A pins.length np, .slice B arcs.length na, v4, v5, v6])
  have HC := hideIt (h0.keep g0.keeps)
  have HA := hideIt ha
  have HX := hideIt hx
  have G := hideIt g0
  clear h h0 hp ha ht g0 hx
  simp only at *
  go_enter Tryd.func7, Tryd.ntmps7
  go_wp2_with fail
  refine (sIsCell_any _ HC.out).mono ?_
  rintro e w1 ⟨rfl, g1⟩
  have G1 := hideIt (G.out.trans g1)
  have S1 := hideIt (S.out.grows g1)
  have HC1 := hideIt (HC.out.keep g1.keeps)
  clear g1
  have kl := S1.out.lt
  have k0 : w1.cell? ⟨w.heap.size, 0, none⟩ = some (v0) := S1.out.cell 0
  have k1 : w1.cell? ⟨w.heap.size, 1, none⟩ = some (.int .i64 kind) := S1.out.cell 1
  have k2 : w1.cell? ⟨w.heap.size, 2, none⟩ = some (.slice A pins.length np) := S1.out.cell 2
  have k3 : w1.cell? ⟨w.heap.size, 3, none⟩ = some (.slice B arcs.length na) := S1.out.cell 3
  have k4 : w1.cell? ⟨w.heap.size, 4, none⟩ = some (v4) := S1.out.cell 4
  have k5 : w1.cell? ⟨w.heap.size, 5, none⟩ = some (v5) := S1.out.cell 5
  have k6 : w1.cell? ⟨w.heap.size, 6, none⟩ = some (v6) := S1.out.cell 6
  cases hc : cellB ⟨name, kind, pins, arcs, truth, leak, energy⟩
  · skip
    have EV := hideIt (show sensV ⟨name, kind, pins, arcs, truth, leak, energy⟩ pin = -1 from if_neg fun h => by have := h.1; rw [hc] at this; cases this)
    clear hc
    go_wp2
    go_ret
    exact ⟨ret_int EV.out.symm, G1.out⟩
  have HCB := hideIt hc
  clear hc
  by_cases hk : kind = 1
  rotate_left
  · have hk1 : (kind != 1) = true := by simpa using hk
    have EV := hideIt (show sensV ⟨name, kind, pins, arcs, truth, leak, energy⟩ pin = -1 from if_neg fun h => hk h.2.1)
    clear hk
    go_wp2
    go_ret
    exact ⟨ret_int EV.out.symm, G1.out⟩
  have hk1 : (kind != 1) = false := by simpa using hk
  have HK := hideIt hk
  clear hk
  cases hq : inB pin 0 ((pins.length : Int) - 2)
  · have FQ := hideIt hq
    have EV := hideIt (show sensV ⟨name, kind, pins, arcs, truth, leak, energy⟩ pin = -1 from if_neg fun h => by have := h.2.2; simp only at this; rw [hq] at this; cases this)
    clear hq
    go_wp2_with (go_at_call 16; refine (l01In_any _ _ _ _).mono ?_; rintro e w' ⟨rfl, rfl⟩; rw [FQ.out])
    go_wp2
    go_ret
    exact ⟨ret_int EV.out.symm, G1.out⟩
  have FQ := hideIt hq
  have hb := inB_true hq
  have EV := hideIt (show sensV ⟨name, kind, pins, arcs, truth, leak, energy⟩ pin = senN truth pin.toNat from if_pos ⟨HCB.out, HK.out, by simp only; rw [hq]⟩)
  obtain ⟨p, hpp⟩ : ∃ p : Nat, pin = (p : Int) := ⟨pin.toNat, by omega⟩
  have GT := hideIt (GateT.of HCB.out HK.out (p := p) (show p + 1 < pins.length by omega))
  subst hpp
  clear hq hb
  go_wp2_with (go_at_call 16; refine (l01In_any _ _ _ _).mono ?_; rintro e w' ⟨rfl, rfl⟩; rw [FQ.out])
  refine (l03Sense_any _ HC1.out GT.out).mono ?_
  rintro e w3 ⟨rfl, g3⟩
  have G3 := hideIt (G1.out.trans g3)
  clear g3
  go_wp2
  go_ret
  exact ⟨ret_int (by rw [EV.out]; rfl), G3.out⟩
set_option maxHeartbeats 4000000 in
theorem iSenseOf_any {v0 v1 v2 v3 v4 v5 v6 : Value} {x : CellD} (pin : Int) (w : World) (h : RCell w [v0, v1, v2, v3, v4, v5, v6] x) (hsm : SmL x.pins) :
    Calls Tryd.prog 6 #[.agg #[v0, v1, v2, v3, v4, v5, v6], .int .i64 pin] w fun e w' => e = .returned (.int .i64 (sensV x pin)) ∧ Grows w w' := by
  have h0 := h
  obtain ⟨-, rfl, hp, ha, ht, -, -, -⟩ := h.parts
  obtain ⟨name, kind, pins, arcs, truth, leak, energy⟩ := x
  have pl := RList.len hp
  have al := RList.len ha
  obtain ⟨A, np, rfl⟩ : ∃ (D : Option Addr) (nd : Nat), v2 = .slice D pins.length nd := by obtain ⟨D, c, e, -⟩ := RList.form hp; exact ⟨D, c, e⟩
  obtain ⟨B, na, rfl, -, -, hx⟩ := RList.form ha
  have g0 := (Grows.refl w).alloc (.cells #[v0, .int .i64 kind, .slice A pins.length np, .slice B arcs.length na, v4, v5, v6] 28)
  have S := hideIt (Blk.new w 28 #[v0, .int .i64 kind, .slice A pins.length np, .slice B arcs.length na, v4, v5, v6])
  have HC := hideIt (h0.keep g0.keeps)
  have HA := hideIt ha
  have HX := hideIt hx
  have G := hideIt g0
  clear h h0 hp ha ht g0 hx
  simp only at *
  go_enter Tryd.func6, Tryd.ntmps6
  go_wp2_with fail
  refine (iIsCell_any _ HC.out hsm).mono ?_
  rintro e w1 ⟨rfl, g1⟩
  have G1 := hideIt (G.out.trans g1)
  have S1 := hideIt (S.out.grows g1)
  have HC1 := hideIt (HC.out.keep g1.keeps)
  clear g1
  have kl := S1.out.lt
  have k0 : w1.cell? ⟨w.heap.size, 0, none⟩ = some (v0) := S1.out.cell 0
  have k1 : w1.cell? ⟨w.heap.size, 1, none⟩ = some (.int .i64 kind) := S1.out.cell 1
  have k2 : w1.cell? ⟨w.heap.size, 2, none⟩ = some (.slice A pins.length np) := S1.out.cell 2
  have k3 : w1.cell? ⟨w.heap.size, 3, none⟩ = some (.slice B arcs.length na) := S1.out.cell 3
  have k4 : w1.cell? ⟨w.heap.size, 4, none⟩ = some (v4) := S1.out.cell 4
  have k5 : w1.cell? ⟨w.heap.size, 5, none⟩ = some (v5) := S1.out.cell 5
  have k6 : w1.cell? ⟨w.heap.size, 6, none⟩ = some (v6) := S1.out.cell 6
  cases hc : cellB ⟨name, kind, pins, arcs, truth, leak, energy⟩
  · skip
    have EV := hideIt (show sensV ⟨name, kind, pins, arcs, truth, leak, energy⟩ pin = -1 from if_neg fun h => by have := h.1; rw [hc] at this; cases this)
    clear hc
    go_wp2
    go_ret
    exact ⟨ret_int EV.out.symm, G1.out⟩
  have HCB := hideIt hc
  clear hc
  by_cases hk : kind = 1
  rotate_left
  · have hk1 : (kind != 1) = true := by simpa using hk
    have EV := hideIt (show sensV ⟨name, kind, pins, arcs, truth, leak, energy⟩ pin = -1 from if_neg fun h => hk h.2.1)
    clear hk
    go_wp2
    go_ret
    exact ⟨ret_int EV.out.symm, G1.out⟩
  have hk1 : (kind != 1) = false := by simpa using hk
  have HK := hideIt hk
  clear hk
  have e2 : (pins.length : Int) - 1 - 1 = (pins.length : Int) - 2 := by omega
  cases hq : inB pin 0 ((pins.length : Int) - 1 - 1)
  · have FQ := hideIt hq
    have EV := hideIt (show sensV ⟨name, kind, pins, arcs, truth, leak, energy⟩ pin = -1 from if_neg fun h => by have := h.2.2; simp only at this; rw [← e2, hq] at this; cases this)
    clear hq e2
    go_wp2_with fail
    refine (isInput_any _ _ HC1.out).mono ?_
    rintro e w2 ⟨rfl, g2⟩
    rw [FQ.out]
    have G2 := hideIt (G1.out.trans g2)
    have S2 := hideIt (S1.out.grows g2)
    have HC2 := hideIt (HC1.out.keep g2.keeps)
    clear g2 kl k0 k1 k2 k3 k4 k5 k6
    have kl := S2.out.lt
    have k0 : w2.cell? ⟨w.heap.size, 0, none⟩ = some (v0) := S2.out.cell 0
    have k1 : w2.cell? ⟨w.heap.size, 1, none⟩ = some (.int .i64 kind) := S2.out.cell 1
    have k2 : w2.cell? ⟨w.heap.size, 2, none⟩ = some (.slice A pins.length np) := S2.out.cell 2
    have k3 : w2.cell? ⟨w.heap.size, 3, none⟩ = some (.slice B arcs.length na) := S2.out.cell 3
    have k4 : w2.cell? ⟨w.heap.size, 4, none⟩ = some (v4) := S2.out.cell 4
    have k5 : w2.cell? ⟨w.heap.size, 5, none⟩ = some (v5) := S2.out.cell 5
    have k6 : w2.cell? ⟨w.heap.size, 6, none⟩ = some (v6) := S2.out.cell 6
    go_wp2
    go_ret
    exact ⟨ret_int EV.out.symm, G2.out⟩
  have FQ := hideIt hq
  have hb := inB_true hq
  have EV := hideIt (show sensV ⟨name, kind, pins, arcs, truth, leak, energy⟩ pin = senN truth pin.toNat from if_pos ⟨HCB.out, HK.out, by simp only; rw [← e2, hq]⟩)
  obtain ⟨p, hpp⟩ : ∃ p : Nat, pin = (p : Int) := ⟨pin.toNat, by omega⟩
  have GT := hideIt (GateT.of HCB.out HK.out (p := p) (show p + 1 < pins.length by omega))
  subst hpp
  clear hq hb e2
  go_wp2_with fail
  refine (isInput_any _ _ HC1.out).mono ?_
  rintro e w2 ⟨rfl, g2⟩
  rw [FQ.out]
  have G2 := hideIt (G1.out.trans g2)
  have S2 := hideIt (S1.out.grows g2)
  have HC2 := hideIt (HC1.out.keep g2.keeps)
  clear g2 kl k0 k1 k2 k3 k4 k5 k6
  have kl := S2.out.lt
  have k0 : w2.cell? ⟨w.heap.size, 0, none⟩ = some (v0) := S2.out.cell 0
  have k1 : w2.cell? ⟨w.heap.size, 1, none⟩ = some (.int .i64 kind) := S2.out.cell 1
  have k2 : w2.cell? ⟨w.heap.size, 2, none⟩ = some (.slice A pins.length np) := S2.out.cell 2
  have k3 : w2.cell? ⟨w.heap.size, 3, none⟩ = some (.slice B arcs.length na) := S2.out.cell 3
  have k4 : w2.cell? ⟨w.heap.size, 4, none⟩ = some (v4) := S2.out.cell 4
  have k5 : w2.cell? ⟨w.heap.size, 5, none⟩ = some (v5) := S2.out.cell 5
  have k6 : w2.cell? ⟨w.heap.size, 6, none⟩ = some (v6) := S2.out.cell 6
  go_wp2_with fail
  refine (senseOf_any _ HC2.out GT.out).mono ?_
  rintro e w3 ⟨rfl, g3⟩
  have G3 := hideIt (G2.out.trans g3)
  clear g3
  go_wp2
  go_ret
  exact ⟨ret_int (by rw [EV.out]; rfl), G3.out⟩
end Go.Proofs.YtldblnopbnmgfaaDoor
