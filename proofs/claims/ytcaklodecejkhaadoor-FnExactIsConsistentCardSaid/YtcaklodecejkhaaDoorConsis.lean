/-
  Contracts of IsConsistent, the reference's and the program's.
-/
import Derived.Test.YtcaklodecejkhaaDoorSenseOf
namespace Go.Proofs.YtcaklodecejkhaaDoor
open Go.RowKit
def arcOk (p s : Int) (a : ArcD) : Bool := (a.src == p) && ((a.sense == s) || (a.sense == 3))
def okPin (t : List Int) (ar : List ArcD) (p : Nat) : Bool := (senN t p == 0) || ar.any (arcOk (p : Int) (senN t p))
noncomputable def consB (x : CellD) : Bool := cellB x && (!(x.kind == 1) || (List.range (x.pins.length - 1)).all (okPin x.truth x.arcs))
theorem senN_bd (t : List Int) (p : Nat) : 0 ≤ senN t p ∧ senN t p ≤ 3 := senV_bd _ _
set_option maxHeartbeats 4000000 in
theorem sConsis_any {v0 v1 v2 v3 v4 v5 v6 : Value} {x : CellD} (w : World) (h : RCell w [v0, v1, v2, v3, v4, v5, v6] x) :
    Calls Tryd.prog 24 #[.agg #[v0, v1, v2, v3, v4, v5, v6]] w fun e w' => e = .returned (.bool (consB x)) ∧ Grows w w' := by
  have h0 := h
  obtain ⟨-, rfl, hp, ha, ht, -, -, -⟩ := h.parts
  obtain ⟨name, kind, pins, arcs, truth, leak, energy⟩ := x
  have pl := RList.len hp
  have al := RList.len ha
  obtain ⟨A, np, rfl⟩ : ∃ (D : Option Addr) (nd : Nat), v2 = .slice D pins.length nd := by obtain ⟨D, c, e, -⟩ := RList.form hp; exact ⟨D, c, e⟩
  obtain ⟨B, na, rfl, -, -, hx⟩ := RList.form ha
  have g0 := (Grows.refl w).alloc (.cells #[v0, .int .i64 kind, .slice A pins.length np, .slice B arcs.length na, v4, v5, v6] 32)
  have S := hideIt (Blk.new w 32 #[v0, .int .i64 kind, .slice A pins.length np, .slice B arcs.length na, v4, v5, v6])
  have HC := hideIt (h0.keep g0.keeps)
  have HA := hideIt ha
  have HX := hideIt hx
  have G := hideIt g0
  clear h h0 hp ha ht g0 hx
  simp only at *
  go_enter Tryd.func24, Tryd.ntmps24
  go_wp2_with fail
  refine (sIsCell_any _ HC.out).mono ?_
  rintro e w1 ⟨rfl, g1⟩
  have G1 := hideIt (G.out.trans g1)
  have S1 := hideIt (S.out.grows g1)
  have HC1 := hideIt (HC.out.keep g1.keeps)
  clear g1
  have kl := S1.out.lt
  have k0 : w1.cell? ⟨w.heap.size, 0, none⟩ = some (v0) := S1.out.cell 0
  have k1 : w1.cell? ⟨w.heap.size, 1, none⟩ = some (.int .i64 kind) := S1.out.cell 1
  have k2 : w1.cell? ⟨w.heap.size, 2, none⟩ = some (.slice A pins.length np) := S1.out.cell 2
  have k3 : w1.cell? ⟨w.heap.size, 3, none⟩ = some (.slice B arcs.length na) := S1.out.cell 3
  have k4 : w1.cell? ⟨w.heap.size, 4, none⟩ = some (v4) := S1.out.cell 4
  have k5 : w1.cell? ⟨w.heap.size, 5, none⟩ = some (v5) := S1.out.cell 5
  have k6 : w1.cell? ⟨w.heap.size, 6, none⟩ = some (v6) := S1.out.cell 6
  cases hc : cellB ⟨name, kind, pins, arcs, truth, leak, energy⟩
  · have EV := hideIt (show consB ⟨name, kind, pins, arcs, truth, leak, energy⟩ = false by unfold consB; rw [hc]; rfl)
    clear hc
    go_wp2
    go_ret
    exact ⟨ret_bool EV.out.symm, G1.out⟩
  have HCB := hideIt hc
  have hn := (pB_iff.1 hc).pins.1.1
  clear hc
  simp only at hn
  by_cases hk : kind = 1
  rotate_left
  · have EV := hideIt (show consB ⟨name, kind, pins, arcs, truth, leak, energy⟩ = true by unfold consB; rw [HCB.out]; simp [hk])
    have hk1 : (kind == 1) = false := by simpa using hk
    clear hk
    go_wp2
    go_loop [3] (fun i => i = .int .i64 0) (fun _ => 0)
    case atStart => rfl
    case round =>
      obtain rfl := hrel
      have h1 : (0 : Int) < (pins.length : Int) - 1 := by omega
      go_wp2
      go_ret
      exact ⟨ret_bool EV.out.symm, G1.out⟩
  have hk1 : (kind == 1) = true := by simpa using hk
  have HK := hideIt hk
  clear hk
  go_wp2
  go_loopw [3, 4, 5, 6] (fun i _ _ _ wr => ∃ p : Nat, p + 1 ≤ pins.length ∧ i = .int .i64 (p : Int) ∧ Hid (∀ j, j < p → okPin truth arcs j = true) ∧ Grows w1 wr) (fun i _ _ _ _ => pins.length - (intOf i).toNat)
  case atStart => exact ⟨0, by omega, rfl, fun j hj => absurd hj (by omega), Grows.refl _⟩
  case round =>
    obtain ⟨p, hp, rfl, hco, hg⟩ := hrel
    have HG := hideIt hg
    have S2 := hideIt (S1.out.grows hg)
    have HC2 := hideIt (HC1.out.keep hg.keeps)
    clear hg kl k0 k1 k2 k3 k4 k5 k6
    have kl := S2.out.lt
    have k0 : wr.cell? ⟨w.heap.size, 0, none⟩ = some (v0) := S2.out.cell 0
    have k1 : wr.cell? ⟨w.heap.size, 1, none⟩ = some (.int .i64 kind) := S2.out.cell 1
    have k2 : wr.cell? ⟨w.heap.size, 2, none⟩ = some (.slice A pins.length np) := S2.out.cell 2
    have k3 : wr.cell? ⟨w.heap.size, 3, none⟩ = some (.slice B arcs.length na) := S2.out.cell 3
    have k4 : wr.cell? ⟨w.heap.size, 4, none⟩ = some (v4) := S2.out.cell 4
    have k5 : wr.cell? ⟨w.heap.size, 5, none⟩ = some (v5) := S2.out.cell 5
    have k6 : wr.cell? ⟨w.heap.size, 6, none⟩ = some (v6) := S2.out.cell 6
    by_cases hlt : p + 1 < pins.length
    · have GT := hideIt (GateT.of HCB.out HK.out (p := p) (show p + 1 < pins.length from hlt))
      have hlt2 : (p : Int) < (pins.length : Int) - 1 := by omega
      go_wp2_with fail
      refine (l03Sense_any _ HC2.out GT.out).mono ?_
      rintro e w3 ⟨rfl, g3⟩
      have HG3 := hideIt (HG.out.trans g3)
      have S3 := hideIt (S2.out.grows g3)
      clear g3 kl k0 k1 k2 k3 k4 k5 k6
      have OK : Hid (okPin truth arcs p = ((senN truth p == 0) || arcs.any (arcOk (p : Int) (senN truth p)))) := hideIt rfl
      simp only
      generalize senN truth p = s at *
      obtain ⟨f0, hf0⟩ : ∃ f, (s == 0) = f := ⟨_, rfl⟩
      rw [hf0] at OK
      have ml := S3.out.lt
      have m3 : w3.cell? ⟨w.heap.size, 3, none⟩ = some (.slice B arcs.length na) := S3.out.cell 3
      have HS0 := hideIt hf0
      obtain ⟨wo, ewo⟩ : ∃ wo : World, wo = w3 := ⟨_, rfl⟩
      subst ewo
      go_wp2
      go_loopw [5, 6] (fun f i wr => ∃ q : Nat, q ≤ arcs.length ∧ i = .int .i64 (q : Int) ∧ f = .bool (f0 || (arcs.take q).any (arcOk (p : Int) s)) ∧ Grows wo wr) (fun _ i _ => arcs.length - (intOf i).toNat)
      case atStart => exact ⟨0, by omega, rfl, by simp, Grows.refl _⟩
      case round =>
        obtain ⟨q, hq, rfl, rfl, hg4⟩ := hrel
        have HG4 := hideIt hg4
        have S4 := hideIt (S3.out.grows hg4)
        clear hg4 m3 ml
        have kl := S4.out.lt
        have k0 : wr.cell? ⟨w.heap.size, 0, none⟩ = some (v0) := S4.out.cell 0
        have k1 : wr.cell? ⟨w.heap.size, 1, none⟩ = some (.int .i64 kind) := S4.out.cell 1
        have k2 : wr.cell? ⟨w.heap.size, 2, none⟩ = some (.slice A pins.length np) := S4.out.cell 2
        have k3 : wr.cell? ⟨w.heap.size, 3, none⟩ = some (.slice B arcs.length na) := S4.out.cell 3
        have k4 : wr.cell? ⟨w.heap.size, 4, none⟩ = some (v4) := S4.out.cell 4
        have k5 : wr.cell? ⟨w.heap.size, 5, none⟩ = some (v5) := S4.out.cell 5
        have k6 : wr.cell? ⟨w.heap.size, 6, none⟩ = some (v6) := S4.out.cell 6
        by_cases hql : q < arcs.length
        · obtain ⟨a, ha⟩ : ∃ a, arcs[q]? = some a := ⟨_, List.getElem?_eq_getElem hql⟩
          obtain ⟨b, off, rfl, cs, hl1, hcs, hr⟩ := HX.out q a ha
          obtain ⟨d0, d1, d2, d3, d4, d5, rfl⟩ := list6 hl1
          obtain ⟨rfl, rfl, rfl, rfl, -⟩ := hr.parts
          have lift := (G1.out.trans (HG3.out.trans HG4.out)).keeps
          have q1 : wr.cell? ⟨b, off + q * 6 + 1, none⟩ = some (.int .i64 a.src) := lift _ _ (by simpa [Nat.add_assoc] using hcs 1 _ rfl)
          have q3 : wr.cell? ⟨b, off + q * 6 + 3, none⟩ = some (.int .i64 a.sense) := lift _ _ (by simpa [Nat.add_assoc] using hcs 3 _ rfl)
          have TK : Hid ((arcs.take (q + 1)).any (arcOk (p : Int) s) = ((arcs.take q).any (arcOk (p : Int) s) || arcOk (p : Int) s a)) := hideIt (by rw [List.take_add_one, ha, List.any_append]; simp)
          clear hcs hl1 hr ha lift hf0
          generalize (arcs.take q).any (arcOk (p : Int) s) = r at *
          have AO : Hid (arcOk (p : Int) s a = ((a.src == (p : Int)) && ((a.sense == s) || (a.sense == 3)))) := hideIt rfl
          cases hfr : (f0 || r)
          · have FR := hideIt hfr
            cases z0 : (a.src == (p : Int))
            · have T2 := hideIt (show (f0 || ((arcs.take (q + 1)).any (arcOk (p : Int) s))) = false by rw [TK.out, AO.out, z0, ← Bool.or_assoc, hfr]; rfl)
              clear hfr
              go_wp2
              go_roundw
              case rel => exact ⟨q + 1, by omega, by go_num, by rw [T2.out]; try simp [*], by first | exact HG4.out | exact HG4.out.drewN _⟩
              case measure => simp [intOf]; omega
            cases z1 : (a.sense == s)
            · obtain ⟨z, z2⟩ : ∃ z, (a.sense == 3) = z := ⟨_, rfl⟩
              have T2 := hideIt (show (f0 || ((arcs.take (q + 1)).any (arcOk (p : Int) s))) = z by rw [TK.out, AO.out, z0, z1, z2, ← Bool.or_assoc, hfr]; simp)
              clear hfr
              go_wp2
              go_roundw
              case rel => exact ⟨q + 1, by omega, by go_num, by rw [T2.out]; try simp [*], by first | exact HG4.out | exact HG4.out.drewN _⟩
              case measure => simp [intOf]; omega
            · have T2 := hideIt (show (f0 || ((arcs.take (q + 1)).any (arcOk (p : Int) s))) = true by rw [TK.out, AO.out, z0, z1, ← Bool.or_assoc, hfr]; rfl)
              clear hfr
              go_wp2
              go_roundw
              case rel => exact ⟨q + 1, by omega, by go_num, by rw [T2.out]; try simp [*], by first | exact HG4.out | exact HG4.out.drewN _⟩
              case measure => simp [intOf]; omega
          · have T2 := hideIt (show (f0 || ((arcs.take (q + 1)).any (arcOk (p : Int) s))) = true by rw [TK.out, ← Bool.or_assoc, hfr]; rfl)
            clear hfr
            go_wp2
            go_roundw
            case rel => exact ⟨q + 1, by omega, by go_num, by rw [T2.out]; try simp [*], by first | exact HG4.out | exact HG4.out.drewN _⟩
            case measure => simp [intOf]; omega
        · obtain rfl : q = arcs.length := by omega
          have OK2 : Hid (okPin truth arcs p = (f0 || (arcs.take arcs.length).any (arcOk (p : Int) s))) := hideIt (by rw [OK.out, List.take_length])
          clear hf0
          cases hfr : (f0 || (arcs.take arcs.length).any (arcOk (p : Int) s))
          · have EV := hideIt (show consB ⟨name, kind, pins, arcs, truth, leak, energy⟩ = false by
              unfold consB
              have : (List.range (pins.length - 1)).all (okPin truth arcs) = false := by
                rw [List.all_eq_false]
                exact ⟨p, List.mem_range.2 (by omega), by rw [OK2.out, hfr]; simp⟩
              simp only [HK.out, this]
              simp)
            clear hfr
            go_wp2
            go_ret
            exact ⟨ret_bool EV.out.symm, G1.out.trans (HG3.out.trans HG4.out)⟩
          · have OKP := hideIt (OK2.out.trans hfr)
            clear hfr
            go_wp2
            go_roundw
            case rel => exact ⟨p + 1, by omega, by go_num, fun j hj => by
              by_cases e : j = p
              · subst e; exact OKP.out
              · exact hco.out j (by omega), HG3.out.trans HG4.out⟩
            case measure => simp [intOf]; omega
    · have hpe : p + 1 = pins.length := by omega
      have hlt2 : ¬ (p : Int) < (pins.length : Int) - 1 := by omega
      have EV := hideIt (show consB ⟨name, kind, pins, arcs, truth, leak, energy⟩ = true by
        unfold consB
        have : (List.range (pins.length - 1)).all (okPin truth arcs) = true := by
          rw [List.all_eq_true]
          intro j hj
          exact hco.out j (by have := List.mem_range.1 hj; omega)
        simp only [this, HCB.out]
        simp)
      clear hpe
      go_wp2
      go_ret
      exact ⟨ret_bool EV.out.symm, G1.out.trans HG.out⟩
set_option maxHeartbeats 1000000 in
theorem consis1_any (p s : Int) (x : ArcD) (c0 c1 c2 c3 c4 c5 : Value) (g g2 : Nat) (W : World) (hr : RArc W [c0, c1, c2, c3, c4, c5] x) (h1 : W.cell? ⟨g, 0, none⟩ = some (.int .i64 p)) (h2 : W.cell? ⟨g2, 0, none⟩ = some (.int .i64 s)) :
    Calls Tryd.prog 54 #[.agg #[c0, c1, c2, c3, c4, c5], .pointer (some ⟨g, 0, none⟩), .pointer (some ⟨g2, 0, none⟩)] W fun e W' => e = .returned (.bool (arcOk p s x)) ∧ Grows W W' := by
  obtain ⟨rfl, rfl, rfl, rfl, -⟩ := hr.parts
  have lb := cell_lt h1
  have lb2 := cell_lt h2
  simp at lb lb2
  clear hr
  have AO : Hid (arcOk p s x = ((x.src == p) && ((x.sense == s) || (x.sense == 3)))) := hideIt rfl
  cases z0 : (x.src == p)
  · have E := hideIt (show arcOk p s x = false by rw [AO.out, z0]; rfl)
    go_enter Tryd.func54, Tryd.ntmps54
    go_wp2
    go_ret
    exact ⟨ret_bool E.out.symm, (Grows.refl _).alloc _⟩
  cases z1 : (x.sense == s)
  · obtain ⟨z, z2⟩ : ∃ z, (x.sense == 3) = z := ⟨_, rfl⟩
    have E := hideIt (show arcOk p s x = z by rw [AO.out, z0, z1, z2]; simp)
    go_enter Tryd.func54, Tryd.ntmps54
    go_wp2
    go_ret
    exact ⟨ret_bool (by rw [E.out]; try simp [*]), (Grows.refl _).alloc _⟩
  · have E := hideIt (show arcOk p s x = true by rw [AO.out, z0, z1]; rfl)
    go_enter Tryd.func54, Tryd.ntmps54
    go_wp2
    go_ret
    exact ⟨ret_bool E.out.symm, (Grows.refl _).alloc _⟩
set_option maxHeartbeats 4000000 in
theorem iConsis_any {v0 v1 v2 v3 v4 v5 v6 : Value} {x : CellD} (w : World) (h : RCell w [v0, v1, v2, v3, v4, v5, v6] x) (hsm : SmL x.pins) :
    Calls Tryd.prog 25 #[.agg #[v0, v1, v2, v3, v4, v5, v6]] w fun e w' => e = .returned (.bool (consB x)) ∧ Grows w w' := by
  have h0 := h
  obtain ⟨-, rfl, hp, ha, ht, -, -, -⟩ := h.parts
  obtain ⟨name, kind, pins, arcs, truth, leak, energy⟩ := x
  have pl := RList.len hp
  have al := RList.len ha
  obtain ⟨A, np, rfl⟩ : ∃ (D : Option Addr) (nd : Nat), v2 = .slice D pins.length nd := by obtain ⟨D, c, e, -⟩ := RList.form hp; exact ⟨D, c, e⟩
  obtain ⟨B, na, rfl, -, -, hx⟩ := RList.form ha
  have g0 := (Grows.refl w).alloc (.cells #[v0, .int .i64 kind, .slice A pins.length np, .slice B arcs.length na, v4, v5, v6] 32)
  have S := hideIt (Blk.new w 32 #[v0, .int .i64 kind, .slice A pins.length np, .slice B arcs.length na, v4, v5, v6])
  have HC := hideIt (h0.keep g0.keeps)
  have HA := hideIt ha
  have HX := hideIt hx
  have G := hideIt g0
  clear h h0 hp ha ht g0 hx
  simp only at *
  go_enter Tryd.func25, Tryd.ntmps25
  go_wp2_with fail
  refine (iIsCell_any _ HC.out hsm).mono ?_
  rintro e w1 ⟨rfl, g1⟩
  have G1 := hideIt (G.out.trans g1)
  have S1 := hideIt (S.out.grows g1)
  have HC1 := hideIt (HC.out.keep g1.keeps)
  clear g1
  have kl := S1.out.lt
  have k0 : w1.cell? ⟨w.heap.size, 0, none⟩ = some (v0) := S1.out.cell 0
  have k1 : w1.cell? ⟨w.heap.size, 1, none⟩ = some (.int .i64 kind) := S1.out.cell 1
  have k2 : w1.cell? ⟨w.heap.size, 2, none⟩ = some (.slice A pins.length np) := S1.out.cell 2
  have k3 : w1.cell? ⟨w.heap.size, 3, none⟩ = some (.slice B arcs.length na) := S1.out.cell 3
  have k4 : w1.cell? ⟨w.heap.size, 4, none⟩ = some (v4) := S1.out.cell 4
  have k5 : w1.cell? ⟨w.heap.size, 5, none⟩ = some (v5) := S1.out.cell 5
  have k6 : w1.cell? ⟨w.heap.size, 6, none⟩ = some (v6) := S1.out.cell 6
  cases hc : cellB ⟨name, kind, pins, arcs, truth, leak, energy⟩
  · have EV := hideIt (show consB ⟨name, kind, pins, arcs, truth, leak, energy⟩ = false by unfold consB; rw [hc]; rfl)
    clear hc
    go_wp2
    go_ret
    exact ⟨ret_bool EV.out.symm, G1.out⟩
  have HCB := hideIt hc
  have hn := (pB_iff.1 hc).pins.1.1
  clear hc
  simp only at hn
  by_cases hk : kind = 1
  rotate_left
  · have EV := hideIt (show consB ⟨name, kind, pins, arcs, truth, leak, energy⟩ = true by unfold consB; rw [HCB.out]; simp [hk])
    have hk1 : (kind != 1) = true := by simpa using hk
    clear hk
    go_wp2
    go_ret
    exact ⟨ret_bool EV.out.symm, G1.out⟩
  have hk1 : (kind != 1) = false := by simpa using hk
  have HK := hideIt hk
  clear hk
  go_wp2_with fail
  refine (output_any _ HC1.out).mono ?_
  rintro e w2 ⟨rfl, g2⟩
  have G2 := hideIt (G1.out.trans g2)
  have S2 := hideIt (S1.out.grows g2)
  have HC2 := hideIt (HC1.out.keep g2.keeps)
  clear g2 kl k0 k1 k2 k3 k4 k5 k6
  go_wp2
  go_loopw [3, 4, 13] (fun _ _ i wr => ∃ p : Nat, p + 1 ≤ pins.length ∧ i = .int .i64 (p : Int) ∧ Hid (∀ j, j < p → okPin truth arcs j = true) ∧ Grows w2 wr) (fun _ _ i _ => pins.length - (intOf i).toNat)
  case atStart => exact ⟨0, by omega, rfl, fun j hj => absurd hj (by omega), Grows.refl _⟩
  case round =>
    obtain ⟨p, hp, rfl, hco, hg⟩ := hrel
    have HG := hideIt hg
    have S3 := hideIt (S2.out.grows hg)
    have HC3 := hideIt (HC2.out.keep hg.keeps)
    clear hg
    have kl := S3.out.lt
    have k0 : wr.cell? ⟨w.heap.size, 0, none⟩ = some (v0) := S3.out.cell 0
    have k1 : wr.cell? ⟨w.heap.size, 1, none⟩ = some (.int .i64 kind) := S3.out.cell 1
    have k2 : wr.cell? ⟨w.heap.size, 2, none⟩ = some (.slice A pins.length np) := S3.out.cell 2
    have k3 : wr.cell? ⟨w.heap.size, 3, none⟩ = some (.slice B arcs.length na) := S3.out.cell 3
    have k4 : wr.cell? ⟨w.heap.size, 4, none⟩ = some (v4) := S3.out.cell 4
    have k5 : wr.cell? ⟨w.heap.size, 5, none⟩ = some (v5) := S3.out.cell 5
    have k6 : wr.cell? ⟨w.heap.size, 6, none⟩ = some (v6) := S3.out.cell 6
    by_cases hlt : p + 1 < pins.length
    · have GT := hideIt (GateT.of HCB.out HK.out (p := p) (show p + 1 < pins.length from hlt))
      have hlt2 : (p : Int) < (pins.length : Int) - 1 := by omega
      have GA := hideIt ((Grows.refl wr).alloc (.cells #[.int .i64 (p : Int)] 2))
      have BP := hideIt (Blk.new wr 2 #[.int .i64 (p : Int)])
      have HC4 := hideIt (HC3.out.keep GA.out.keeps)
      go_wp2_with fail
      refine (senseOf_any _ HC4.out GT.out).mono ?_
      rintro e w3 ⟨rfl, g3⟩
      have HG3 := hideIt (GA.out.trans g3)
      have S4 := hideIt (S3.out.grows HG3.out)
      have BP3 := hideIt (BP.out.grows g3)
      clear g3 kl k0 k1 k2 k3 k4 k5 k6
      have OK : Hid (okPin truth arcs p = ((senN truth p == 0) || arcs.any (arcOk (p : Int) (senN truth p)))) := hideIt rfl
      simp only
      generalize senN truth p = s at *
      have kp : w3.cell? ⟨wr.heap.size, 0, none⟩ = some (.int .i64 (p : Int)) := BP3.out.cell 0
      have lp := BP3.out.lt
      have kl := S4.out.lt
      have k3 : w3.cell? ⟨w.heap.size, 3, none⟩ = some (.slice B arcs.length na) := S4.out.cell 3
      cases z0 : (s == 0)
      · have z1 : (s != 0) = true := by simpa using z0
        have BS := hideIt (Blk.new w3 2 #[.int .i64 s])
        have GS := hideIt ((Grows.refl w3).alloc (.cells #[.int .i64 s] 2))
        have OK2 := hideIt (show okPin truth arcs p = arcs.any (arcOk (p : Int) s) by rw [OK.out, z0]; rfl)
        clear z0
        have GX := hideIt (G2.out.trans (HG.out.trans (HG3.out.trans GS.out)))
        have HAX := hideIt (RArcs.keep HA.out GX.out.keeps)
        go_wp2_with fail
        refine (containsFuncArc_any 54 _ (fun args W => enters_of Tryd.func54 (by kernel_rfl) rfl args W) (arcOk (p : Int) s) _ HAX.out ?_).mono ?_
        · intro y c0 c1 c2 c3 c4 c5 W _ gw hr
          exact consis1_any (p : Int) s y c0 c1 c2 c3 c4 c5 _ _ W hr (gw.keeps _ _ (GS.out.keeps _ _ (BP3.out.cell 0))) (gw.keeps _ _ (BS.out.cell 0))
        rintro e w5 ⟨rfl, g5⟩
        have GZ := hideIt (HG.out.trans (HG3.out.trans (GS.out.trans g5)))
        clear g5 kp lp kl k3
        cases hfr : arcs.any (arcOk (p : Int) s)
        · have EV := hideIt (show consB ⟨name, kind, pins, arcs, truth, leak, energy⟩ = false by
            unfold consB
            have : (List.range (pins.length - 1)).all (okPin truth arcs) = false := by
              rw [List.all_eq_false]
              exact ⟨p, List.mem_range.2 (by omega), by rw [OK2.out, hfr]; simp⟩
            simp only [HK.out, this]
            simp)
          clear hfr
          go_wp2
          go_ret
          exact ⟨ret_bool EV.out.symm, G2.out.trans GZ.out⟩
        · have OKP := hideIt (OK2.out.trans hfr)
          clear hfr
          go_wp2
          go_roundw
          case rel => exact ⟨p + 1, by omega, by go_num, fun j hj => by
            by_cases e : j = p
            · subst e; exact OKP.out
            · exact hco.out j (by omega), GZ.out⟩
          case measure => simp [intOf]; omega
      · have z1 : (s != 0) = false := by simpa using z0
        have OKP := hideIt (show okPin truth arcs p = true by rw [OK.out, z0]; rfl)
        clear z0
        have GS := hideIt ((HG.out.trans HG3.out).alloc (.cells #[.int .i64 s] 2))
        go_wp2
        go_roundw
        case rel => exact ⟨p + 1, by omega, by go_num, fun j hj => by
          by_cases e : j = p
          · subst e; exact OKP.out
          · exact hco.out j (by omega), GS.out⟩
        case measure => simp [intOf]; omega
    · have hpe : p + 1 = pins.length := by omega
      have hlt2 : ¬ (p : Int) < (pins.length : Int) - 1 := by omega
      have EV := hideIt (show consB ⟨name, kind, pins, arcs, truth, leak, energy⟩ = true by
        unfold consB
        have : (List.range (pins.length - 1)).all (okPin truth arcs) = true := by
          rw [List.all_eq_true]
          intro j hj
          exact hco.out j (by have := List.mem_range.1 hj; omega)
        simp only [this, HCB.out]
        simp)
      clear hpe
      go_wp2
      go_ret
      exact ⟨ret_bool EV.out.symm, G2.out.trans HG.out⟩
end Go.Proofs.YtcaklodecejkhaaDoor
