/-
  Contract of the program's test of an arc.
-/
import Derived.Test.YtocahjbmnkadjaaGreatDoorIArcA
import Derived.Test.YtocahjbmnkadjaaGreatDoorIArcB
import Derived.Test.YtocahjbmnkadjaaGreatDoorIOKind
namespace Go.Proofs.YtocahjbmnkadjaaGreatDoor
open Go.RowKit
theorem isArc_any {v0 v1 v2 v3 v4 v5 v6 u0 u1 u2 u3 u4 u5 : Value} {x : CellD} {a : ArcD} (w : World) (h : RCell w [v0, v1, v2, v3, v4, v5, v6] x) (ha : RArc w [u0, u1, u2, u3, u4, u5] a) :
    Calls Tryz.prog 113 #[.agg #[v0, v1, v2, v3, v4, v5, v6], .agg #[u0, u1, u2, u3, u4, u5]] w fun e w' => e = .returned (.bool (iArcB x.pins a)) ∧ Grows w w' := by
  obtain ⟨rfl, rfl, rfl, rfl, hd, hs⟩ := ha.parts
  obtain ⟨kind, src, dst, sense, delay, slew⟩ := a
  obtain ⟨A, n0, rfl⟩ : ∃ (A : Option Addr) (n0 : Nat), v2 = .slice A x.pins.length n0 := by obtain ⟨D, c, e, -⟩ := RList.form h.parts.2.2.1; exact ⟨D, c, e⟩
  obtain ⟨D, nd, rfl⟩ : ∃ (D : Option Addr) (nd : Nat), u4 = .slice D delay.length nd := by obtain ⟨D, c, e, -⟩ := RList.form hd; exact ⟨D, c, e⟩
  obtain ⟨E, ne, rfl⟩ : ∃ (E : Option Addr) (ne : Nat), u5 = .slice E slew.length ne := by obtain ⟨D, c, e, -⟩ := RList.form hs; exact ⟨D, c, e⟩
  by_cases hk : kind = 4 ∨ kind = 5
  · exact isArc_chk w h hd hs hk
  · exact isArc_oth w h hd hs hk
end Go.Proofs.YtocahjbmnkadjaaGreatDoor
/-
  Contract of the program's test of all arcs of a cell.
-/
namespace Go.Proofs.YtocahjbmnkadjaaGreatDoor
open Go.RowKit

theorem RList.take {α : Type} {sz : Nat} {R : World → List Value → α → Prop} {w : World} {A : Option Addr} {xs : List α} {c k : Nat} (h : RList sz R w (.slice A xs.length c) xs) (hk : k ≤ xs.length) : RList sz R w (.slice A k c) (xs.take k) := by
  obtain ⟨A', c', e, h1, h2, h3⟩ := h
  injection e with e1 e2 e3
  subst e1 e3
  refine ⟨A, c, by rw [take_le hk], by rw [take_le hk]; omega, h2, ?_⟩
  rcases h3 with rfl | ⟨b, off, hA, hc⟩
  · left; simp
  · right
    refine ⟨b, off, hA, fun i x hx => hc i x ?_⟩
    rw [List.getElem?_take] at hx
    split at hx
    · exact hx
    · cases hx
/-- the same kind between the same pins -/
def sameB (o a : ArcD) : Bool := (o.kind == a.kind) && (o.src == a.src) && (o.dst == a.dst)
theorem sameB_iff {o a : ArcD} : sameB o a = true ↔ sameArc o a := by
  unfold sameB sameArc
  simp only [Bool.and_eq_true, beq_iff_eq, and_assoc]
set_option maxHeartbeats 1000000 in
theorem areArcs1_any {a : ArcD} (x : ArcD) (c0 c1 c2 c3 c4 c5 : Value) (g : Nat) (W : World) (hr : RArc W [c0, c1, c2, c3, c4, c5] x) (h0 : W.cell? ⟨g, 0, none⟩ = some (.int .i64 a.kind)) (h1 : W.cell? ⟨g, 1, none⟩ = some (.int .i64 a.src)) (h2 : W.cell? ⟨g, 2, none⟩ = some (.int .i64 a.dst)) :
    Calls Tryz.prog 115 #[.agg #[c0, c1, c2, c3, c4, c5], .pointer (some ⟨g, 0, none⟩)] W fun e W' => e = .returned (.bool (sameB x a)) ∧ Grows W W' := by
  obtain ⟨rfl, rfl, rfl, rfl, -⟩ := hr.parts
  have lb := cell_lt h0
  simp at lb
  clear hr
  cases z0 : (x.kind == a.kind)
  · have E := hideIt (show sameB x a = false by unfold sameB; rw [z0]; rfl)
    go_enter Tryz.func115, Tryz.ntmps115
    go_wp2
    go_ret
    exact ⟨ret_bool E.out.symm, (Grows.refl _).alloc _⟩
  cases z1 : (x.src == a.src)
  · have E := hideIt (show sameB x a = false by unfold sameB; rw [z0, z1]; rfl)
    go_enter Tryz.func115, Tryz.ntmps115
    go_wp2
    go_ret
    exact ⟨ret_bool E.out.symm, (Grows.refl _).alloc _⟩
  cases z2 : (x.dst == a.dst)
  · have E := hideIt (show sameB x a = false by unfold sameB; rw [z0, z1, z2]; rfl)
    go_enter Tryz.func115, Tryz.ntmps115
    go_wp2
    go_ret
    exact ⟨ret_bool E.out.symm, (Grows.refl _).alloc _⟩
  · have E := hideIt (show sameB x a = true by unfold sameB; rw [z0, z1, z2]; rfl)
    go_enter Tryz.func115, Tryz.ntmps115
    go_wp2
    go_ret
    exact ⟨ret_bool E.out.symm, (Grows.refl _).alloc _⟩

set_option maxHeartbeats 4000000 in
theorem areArcs_any {v0 v1 v2 v3 v4 v5 v6 : Value} {x : CellD} (w : World) (h : RCell w [v0, v1, v2, v3, v4, v5, v6] x) :
    Calls Tryz.prog 91 #[.agg #[v0, v1, v2, v3, v4, v5, v6]] w fun e w' => e = .returned (.bool (pB (iArcsP x.pins x.arcs) && decide (x.arcs.length ≤ 8))) ∧ Grows w w' := by
  have ha := h.parts.2.2.2.1
  have hl := RList.len ha
  obtain ⟨A, na, rfl, hle, hcm, hx⟩ := RList.form ha
  have g0 := (Grows.refl w).alloc (.cells #[v0, v1, v2, .slice A x.arcs.length na, v4, v5, v6] 71)
  have S := hideIt (Blk.new w 71 #[v0, v1, v2, .slice A x.arcs.length na, v4, v5, v6])
  have HC := hideIt (h.keep g0.keeps)
  have H := hideIt ha
  have HX := hideIt hx
  have G := hideIt g0
  clear h ha hx g0
  go_enter Tryz.func91, Tryz.ntmps91
  go_wp2
  go_loopw [3, 4, 8] (fun _ _ i wr => ∃ k : Nat, k ≤ x.arcs.length ∧ i = .int .i64 (k : Int) ∧ Hid (∀ (j : Nat) (a : ArcD), j < k → x.arcs[j]? = some a → iArcB x.pins a = true ∧ ∀ (m : Nat) (b : ArcD), m < j → x.arcs[m]? = some b → ¬ sameArc b a) ∧ Grows (w.alloc (.cells #[v0, v1, v2, .slice A x.arcs.length na, v4, v5, v6] 71)) wr) (fun _ _ i _ => x.arcs.length - (intOf i).toNat)
  case atStart => exact ⟨0, by omega, rfl, fun j a hj => absurd hj (by omega), Grows.refl _⟩
  case round =>
    obtain ⟨k, hk, rfl, hco, hg⟩ := hrel
    have HG := hideIt hg
    have GG := hideIt (G.out.trans hg)
    have S2 := hideIt (S.out.grows hg)
    clear hg
    have kl := S2.out.lt
    have k0 : wr.cell? ⟨w.heap.size, 0, none⟩ = some (v0) := S2.out.cell 0
    have k1 : wr.cell? ⟨w.heap.size, 1, none⟩ = some (v1) := S2.out.cell 1
    have k2 : wr.cell? ⟨w.heap.size, 2, none⟩ = some (v2) := S2.out.cell 2
    have k3 : wr.cell? ⟨w.heap.size, 3, none⟩ = some (.slice A x.arcs.length na) := S2.out.cell 3
    have k4 : wr.cell? ⟨w.heap.size, 4, none⟩ = some (v4) := S2.out.cell 4
    have k5 : wr.cell? ⟨w.heap.size, 5, none⟩ = some (v5) := S2.out.cell 5
    have k6 : wr.cell? ⟨w.heap.size, 6, none⟩ = some (v6) := S2.out.cell 6
    by_cases hlt : k < x.arcs.length
    · obtain ⟨a, hp⟩ : ∃ a, x.arcs[k]? = some a := ⟨_, List.getElem?_eq_getElem hlt⟩
      obtain ⟨b, off, rfl, cs, hl1, hcs, hr⟩ := HX.out k a hp
      obtain ⟨d0, d1, d2, d3, d4, d5, rfl⟩ := list6 hl1
      have hra := hr
      obtain ⟨rfl, rfl, rfl, rfl, hdl, hsl⟩ := hr.parts
      obtain ⟨AD, nd, rfl⟩ : ∃ (D : Option Addr) (nd : Nat), d4 = .slice D a.delay.length nd := by obtain ⟨D, c, e, -⟩ := RList.form hdl; exact ⟨D, c, e⟩
      obtain ⟨AE, ne, rfl⟩ : ∃ (D : Option Addr) (nd : Nat), d5 = .slice D a.slew.length nd := by obtain ⟨D, c, e, -⟩ := RList.form hsl; exact ⟨D, c, e⟩
      clear hdl hsl hr
      have lift := GG.out.keeps
      have HA := hideIt ((hra.keep lift).keep (((Grows.refl wr).alloc (.cells #[.int .i64 a.kind, .int .i64 a.src, .int .i64 a.dst, .int .i64 a.sense, .slice AD a.delay.length nd, .slice AE a.slew.length ne] 101)).keeps))
      have HC3 := hideIt (HC.out.keep (HG.out.alloc (.cells #[.int .i64 a.kind, .int .i64 a.src, .int .i64 a.dst, .int .i64 a.sense, .slice AD a.delay.length nd, .slice AE a.slew.length ne] 101)).keeps)
      have q0 : wr.cell? ⟨b, off + k * 6, none⟩ = some (.int .i64 a.kind) := lift _ _ (by simpa using hcs 0 _ rfl)
      have q1 : wr.cell? ⟨b, off + k * 6 + 1, none⟩ = some (.int .i64 a.src) := lift _ _ (by simpa [Nat.add_assoc] using hcs 1 _ rfl)
      have q2 : wr.cell? ⟨b, off + k * 6 + 2, none⟩ = some (.int .i64 a.dst) := lift _ _ (by simpa [Nat.add_assoc] using hcs 2 _ rfl)
      have q3 : wr.cell? ⟨b, off + k * 6 + 3, none⟩ = some (.int .i64 a.sense) := lift _ _ (by simpa [Nat.add_assoc] using hcs 3 _ rfl)
      have q4 : wr.cell? ⟨b, off + k * 6 + 4, none⟩ = some (.slice AD a.delay.length nd) := lift _ _ (by simpa [Nat.add_assoc] using hcs 4 _ rfl)
      have q5 : wr.cell? ⟨b, off + k * 6 + 5, none⟩ = some (.slice AE a.slew.length ne) := lift _ _ (by simpa [Nat.add_assoc] using hcs 5 _ rfl)
      have P1 := hideIt hp
      have kc2 : (k : Int) ≤ (na : Int) := by omega
      have HT := hideIt (RList.take H.out (Nat.le_of_lt hlt))
      clear hcs hl1 hra hp lift
      have BV := hideIt (Blk.new wr 101 #[.int .i64 a.kind, .int .i64 a.src, .int .i64 a.dst, .int .i64 a.sense, .slice AD a.delay.length nd, .slice AE a.slew.length ne])
      have GW := hideIt ((Grows.refl wr).alloc (.cells #[.int .i64 a.kind, .int .i64 a.src, .int .i64 a.dst, .int .i64 a.sense, .slice AD a.delay.length nd, .slice AE a.slew.length ne] 101))
      go_wp2_with fail
      refine (isArc_any _ HC3.out HA.out).mono ?_
      rintro e w2 ⟨rfl, g2⟩
      clear k0 k1 k2 k3 k4 k5 k6 kl q0 q1 q2 q3 q4 q5
      have BV2 := hideIt (BV.out.grows g2)
      have GW2 := hideIt (GW.out.trans g2)
      have G3 := hideIt (GG.out.trans GW2.out)
      have S3 := hideIt (S2.out.grows GW2.out)
      clear g2
      cases hA : iArcB x.pins a
      · have EP := hideIt (show (pB (iArcsP x.pins x.arcs) && decide (x.arcs.length ≤ 8)) = false by rw [pB_false (p := iArcsP x.pins x.arcs) fun h => by have := (h k a P1.out).1; rw [hA] at this; cases this]; rfl)
        go_wp2
        go_ret
        exact ⟨ret_bool EP.out.symm, G3.out⟩
      have HA1 := hideIt hA
      clear hA
      have kl := S3.out.lt
      have k3 : w2.cell? ⟨w.heap.size, 3, none⟩ = some (.slice (some ⟨b, off, none⟩) x.arcs.length na) := S3.out.cell 3
      have al := BV2.out.lt
      have an : x.arcs.length ≤ na := hle
      go_wp2_with fail
      refine (containsFuncArc_any 115 _ (fun args W => enters_of Tryz.func115 (by kernel_rfl) rfl args W) (fun o => sameB o a) _ (HT.out.keep G3.out.keeps fun _ _ h => h.keep G3.out.keeps) ?_).mono ?_
      · intro y c0 c1 c2 c3 c4 c5 W _ gw hr
        exact areArcs1_any y c0 c1 c2 c3 c4 c5 _ W hr (gw.keeps _ _ (BV2.out.cell 0)) (gw.keeps _ _ (BV2.out.cell 1)) (gw.keeps _ _ (BV2.out.cell 2))
      rintro e w4 ⟨rfl, g4⟩
      have G4 := hideIt (G3.out.trans g4)
      have GB := hideIt (HG.out.trans (GW2.out.trans g4))
      clear g4 k3 kl al
      cases hq : (x.arcs.take k).any fun o => sameB o a
      · have NE : Hid (∀ (m : Nat) (r : ArcD), m < k → x.arcs[m]? = some r → ¬ sameArc r a) := hideIt fun m r hm hr hs => by
          rw [List.any_eq_false] at hq
          have hmem : r ∈ x.arcs.take k := List.mem_of_getElem? (i := m) (by rw [List.getElem?_take, if_pos hm]; exact hr)
          exact hq r hmem (sameB_iff.2 hs)
        clear hq
        go_wp2
        go_roundw
        case rel => exact ⟨k + 1, by omega, by go_num, fun j s hj hs => by
          by_cases ej : j = k
          · subst ej
            rw [P1.out] at hs
            injection hs with hs
            subst hs
            exact ⟨HA1.out, fun m r hm hr => NE.out m r hm hr⟩
          · exact hco.out j s (by omega) hs, GB.out⟩
        case measure => simp [intOf]; omega
      · have EP := hideIt (show (pB (iArcsP x.pins x.arcs) && decide (x.arcs.length ≤ 8)) = false by
          rw [pB_false (p := iArcsP x.pins x.arcs) fun h => by
            obtain ⟨s, hm, hs⟩ := List.any_eq_true.1 hq
            obtain ⟨i, hi⟩ := List.getElem?_of_mem hm
            rw [List.getElem?_take] at hi
            split at hi
            · exact (h k a P1.out).2 i s (by assumption) hi (sameB_iff.1 hs)
            · cases hi]; rfl)
        clear hq
        go_wp2
        go_ret
        exact ⟨ret_bool EP.out.symm, G4.out⟩
    · obtain rfl : k = x.arcs.length := by omega
      have EP := hideIt (show (pB (iArcsP x.pins x.arcs) && decide (x.arcs.length ≤ 8)) = decide ((x.arcs.length : Int) ≤ 8) by
        rw [pB_true (p := iArcsP x.pins x.arcs) fun j a hj => hco.out j a (List.getElem?_eq_some_iff.1 hj).1 hj, Bool.true_and, Bool.eq_iff_iff]
        simp only [decide_eq_true_eq]
        omega)
      clear hco
      go_wp2
      go_ret
      exact ⟨ret_bool EP.out.symm, GG.out⟩
end Go.Proofs.YtocahjbmnkadjaaGreatDoor
/-
  Contract of the program's IsCell.
-/
namespace Go.Proofs.YtocahjbmnkadjaaGreatDoor
open Go.RowKit
set_option maxHeartbeats 4000000 in
theorem iIsCell_any {v0 v1 v2 v3 v4 v5 v6 : Value} {x : CellD} (w : World) (h : RCell w [v0, v1, v2, v3, v4, v5, v6] x) (hsm : SmL x.pins) :
    Calls Tryz.prog 66 #[.agg #[v0, v1, v2, v3, v4, v5, v6]] w fun e w' => e = .returned (.bool (cellB x)) ∧ Grows w w' := by
  have h0 := h
  obtain ⟨rfl, rfl, hp, ha, ht, rfl, rfl, hz⟩ := h.parts
  have EC := hideIt (show cellB x = pB (ICellP x) from pB_congr (icell_iff x).symm)
  obtain ⟨name, kind, pins, arcs, truth, leak, energy⟩ := x
  obtain ⟨A, np, rfl⟩ : ∃ (D : Option Addr) (nd : Nat), v2 = .slice D pins.length nd := by obtain ⟨D, c, e, -⟩ := RList.form hp; exact ⟨D, c, e⟩
  obtain ⟨B, na, rfl⟩ : ∃ (D : Option Addr) (nd : Nat), v3 = .slice D arcs.length nd := by obtain ⟨D, c, e, -⟩ := RList.form ha; exact ⟨D, c, e⟩
  obtain ⟨T, nt, rfl⟩ : ∃ (D : Option Addr) (nd : Nat), v4 = .slice D truth.length nd := by obtain ⟨D, c, e, -⟩ := RList.form ht; exact ⟨D, c, e⟩
  simp only at *
  have g0 := (Grows.refl w).alloc (.cells #[.string name, .int .i64 kind, .slice A pins.length np, .slice B arcs.length na, .slice T truth.length nt, .int .i64 leak, .int .i64 energy] 71)
  have S := hideIt (Blk.new w 71 #[.string name, .int .i64 kind, .slice A pins.length np, .slice B arcs.length na, .slice T truth.length nt, .int .i64 leak, .int .i64 energy])
  have HC := hideIt (h0.keep g0.keeps)
  have HP := hideIt (RPins.keep hp g0.keeps)
  have HZ := hideIt hz
  have HS := hideIt hsm
  have gg := g0
  have HK := hideIt (fun w' (g : Grows (w.alloc (.cells #[.string name, .int .i64 kind, .slice A pins.length np, .slice B arcs.length na, .slice T truth.length nt, .int .i64 leak, .int .i64 energy] 71)) w') => (⟨(S.out.grows g).cell 0, (S.out.grows g).cell 1, (S.out.grows g).cell 2, (S.out.grows g).cell 3, (S.out.grows g).cell 4, (S.out.grows g).cell 5, (S.out.grows g).cell 6, (S.out.grows g).lt⟩ : w'.cell? ⟨w.heap.size, 0, none⟩ = some (.string name) ∧ w'.cell? ⟨w.heap.size, 1, none⟩ = some (.int .i64 kind) ∧ w'.cell? ⟨w.heap.size, 2, none⟩ = some (.slice A pins.length np) ∧ w'.cell? ⟨w.heap.size, 3, none⟩ = some (.slice B arcs.length na) ∧ w'.cell? ⟨w.heap.size, 4, none⟩ = some (.slice T truth.length nt) ∧ w'.cell? ⟨w.heap.size, 5, none⟩ = some (.int .i64 leak) ∧ w'.cell? ⟨w.heap.size, 6, none⟩ = some (.int .i64 energy) ∧ w.heap.size < w'.heap.size))
  replace gg : Grows (w.alloc (.cells #[.string name, .int .i64 kind, .slice A pins.length np, .slice B arcs.length na, .slice T truth.length nt, .int .i64 leak, .int .i64 energy] 71)) (w.alloc (.cells #[.string name, .int .i64 kind, .slice A pins.length np, .slice B arcs.length na, .slice T truth.length nt, .int .i64 leak, .int .i64 energy] 71)) := Grows.refl _
  have GW := hideIt g0
  clear h h0 hp ha ht g0 hz hsm
  cases qn : nameB name
  · have FN := hideIt qn
    have EP := hideIt (EC.out.trans (pB_false fun h => by have := h.name; rw [FN.out] at this; cases this))
    clear qn
    go_enter Tryz.func66, Tryz.ntmps66
    go_wp2_with fail
    refine (isName_any _ _ HZ.out).mono ?_
    rintro e w1 ⟨rfl, g⟩
    rw [FN.out]
    replace gg : Grows (w.alloc (.cells #[.string name, .int .i64 kind, .slice A pins.length np, .slice B arcs.length na, .slice T truth.length nt, .int .i64 leak, .int .i64 energy] 71)) w1 := Grows.trans gg g
    clear g
    obtain ⟨y0, y1, y2, y3, y4, y5, y6, yl⟩ := HK.out _ gg
    go_wp2
    go_ret
    exact ⟨ret_bool EP.out.symm, GW.out.trans gg⟩
  have FN := hideIt qn
  clear qn
  cases qp : pB (PinsP pins)
  · have FP := hideIt qp
    have EP := hideIt (EC.out.trans (pB_false fun h => by have := pB_true h.pins; rw [FP.out] at this; cases this))
    clear qp
    go_enter Tryz.func66, Tryz.ntmps66
    go_wp2_with fail
    refine (isName_any _ _ HZ.out).mono ?_
    rintro e w1 ⟨rfl, g⟩
    rw [FN.out]
    replace gg : Grows (w.alloc (.cells #[.string name, .int .i64 kind, .slice A pins.length np, .slice B arcs.length na, .slice T truth.length nt, .int .i64 leak, .int .i64 energy] 71)) w1 := Grows.trans gg g
    clear g
    obtain ⟨y0, y1, y2, y3, y4, y5, y6, yl⟩ := HK.out _ gg
    go_wp2_with fail
    refine (arePins_any _ (HP.out.keep (Grows.keeps gg)) HS.out).mono ?_
    rintro e w2 ⟨rfl, g⟩
    rw [FP.out]
    replace gg : Grows (w.alloc (.cells #[.string name, .int .i64 kind, .slice A pins.length np, .slice B arcs.length na, .slice T truth.length nt, .int .i64 leak, .int .i64 energy] 71)) w2 := Grows.trans gg g
    clear g
    obtain ⟨y0, y1, y2, y3, y4, y5, y6, yl⟩ := HK.out _ gg
    go_wp2
    go_ret
    exact ⟨ret_bool EP.out.symm, GW.out.trans gg⟩
  have FP := hideIt qp
  have PP := hideIt (pB_iff.1 qp)
  clear qp
  have H2 := hideIt PP.out.1.1
  have H5 := hideIt PP.out.1.2
  cases qa : (pB (iArcsP pins arcs) && decide (arcs.length ≤ 8))
  · have FA := hideIt qa
    have EP := hideIt (EC.out.trans (pB_false fun h => by have h1 := pB_true h.arcs; have h2 := decide_eq_true h.few; have := FA.out; simp only at h1 h2; rw [h1, h2] at this; cases this))
    clear qa
    go_enter Tryz.func66, Tryz.ntmps66
    go_wp2_with fail
    refine (isName_any _ _ HZ.out).mono ?_
    rintro e w1 ⟨rfl, g⟩
    rw [FN.out]
    replace gg : Grows (w.alloc (.cells #[.string name, .int .i64 kind, .slice A pins.length np, .slice B arcs.length na, .slice T truth.length nt, .int .i64 leak, .int .i64 energy] 71)) w1 := Grows.trans gg g
    clear g
    obtain ⟨y0, y1, y2, y3, y4, y5, y6, yl⟩ := HK.out _ gg
    go_wp2_with fail
    refine (arePins_any _ (HP.out.keep (Grows.keeps gg)) HS.out).mono ?_
    rintro e w2 ⟨rfl, g⟩
    rw [FP.out]
    replace gg : Grows (w.alloc (.cells #[.string name, .int .i64 kind, .slice A pins.length np, .slice B arcs.length na, .slice T truth.length nt, .int .i64 leak, .int .i64 energy] 71)) w2 := Grows.trans gg g
    clear g
    obtain ⟨y0, y1, y2, y3, y4, y5, y6, yl⟩ := HK.out _ gg
    go_wp2_with fail
    refine (areArcs_any _ (HC.out.keep (Grows.keeps gg))).mono ?_
    rintro e w3 ⟨rfl, g⟩
    rw [FA.out]
    replace gg : Grows (w.alloc (.cells #[.string name, .int .i64 kind, .slice A pins.length np, .slice B arcs.length na, .slice T truth.length nt, .int .i64 leak, .int .i64 energy] 71)) w3 := Grows.trans gg g
    clear g
    obtain ⟨y0, y1, y2, y3, y4, y5, y6, yl⟩ := HK.out _ gg
    go_wp2
    go_ret
    exact ⟨ret_bool EP.out.symm, GW.out.trans gg⟩
  have FA := hideIt qa
  have QA := hideIt ((Bool.and_eq_true _ _).mp qa)
  clear qa
  cases ql : inB leak 0 100000
  · have FL := hideIt ql
    have EP := hideIt (EC.out.trans (pB_false fun h => by have := h.leak; rw [FL.out] at this; cases this))
    clear ql
    go_enter Tryz.func66, Tryz.ntmps66
    go_wp2_with fail
    refine (isName_any _ _ HZ.out).mono ?_
    rintro e w1 ⟨rfl, g⟩
    rw [FN.out]
    replace gg : Grows (w.alloc (.cells #[.string name, .int .i64 kind, .slice A pins.length np, .slice B arcs.length na, .slice T truth.length nt, .int .i64 leak, .int .i64 energy] 71)) w1 := Grows.trans gg g
    clear g
    obtain ⟨y0, y1, y2, y3, y4, y5, y6, yl⟩ := HK.out _ gg
    go_wp2_with fail
    refine (arePins_any _ (HP.out.keep (Grows.keeps gg)) HS.out).mono ?_
    rintro e w2 ⟨rfl, g⟩
    rw [FP.out]
    replace gg : Grows (w.alloc (.cells #[.string name, .int .i64 kind, .slice A pins.length np, .slice B arcs.length na, .slice T truth.length nt, .int .i64 leak, .int .i64 energy] 71)) w2 := Grows.trans gg g
    clear g
    obtain ⟨y0, y1, y2, y3, y4, y5, y6, yl⟩ := HK.out _ gg
    go_wp2_with fail
    refine (areArcs_any _ (HC.out.keep (Grows.keeps gg))).mono ?_
    rintro e w3 ⟨rfl, g⟩
    rw [FA.out]
    replace gg : Grows (w.alloc (.cells #[.string name, .int .i64 kind, .slice A pins.length np, .slice B arcs.length na, .slice T truth.length nt, .int .i64 leak, .int .i64 energy] 71)) w3 := Grows.trans gg g
    clear g
    obtain ⟨y0, y1, y2, y3, y4, y5, y6, yl⟩ := HK.out _ gg
    go_wp2_with (go_at_call 92; refine (within_any _ _ _ _).mono ?_; rintro e w' ⟨rfl, rfl⟩; first | rw [FL.out] | rw [FE.out])
    go_ret
    exact ⟨ret_bool EP.out.symm, GW.out.trans gg⟩
  have FL := hideIt ql
  clear ql
  cases qe : inB energy 0 100000
  · have FE := hideIt qe
    have EP := hideIt (EC.out.trans (pB_false fun h => by have := h.energy; rw [FE.out] at this; cases this))
    clear qe
    go_enter Tryz.func66, Tryz.ntmps66
    go_wp2_with fail
    refine (isName_any _ _ HZ.out).mono ?_
    rintro e w1 ⟨rfl, g⟩
    rw [FN.out]
    replace gg : Grows (w.alloc (.cells #[.string name, .int .i64 kind, .slice A pins.length np, .slice B arcs.length na, .slice T truth.length nt, .int .i64 leak, .int .i64 energy] 71)) w1 := Grows.trans gg g
    clear g
    obtain ⟨y0, y1, y2, y3, y4, y5, y6, yl⟩ := HK.out _ gg
    go_wp2_with fail
    refine (arePins_any _ (HP.out.keep (Grows.keeps gg)) HS.out).mono ?_
    rintro e w2 ⟨rfl, g⟩
    rw [FP.out]
    replace gg : Grows (w.alloc (.cells #[.string name, .int .i64 kind, .slice A pins.length np, .slice B arcs.length na, .slice T truth.length nt, .int .i64 leak, .int .i64 energy] 71)) w2 := Grows.trans gg g
    clear g
    obtain ⟨y0, y1, y2, y3, y4, y5, y6, yl⟩ := HK.out _ gg
    go_wp2_with fail
    refine (areArcs_any _ (HC.out.keep (Grows.keeps gg))).mono ?_
    rintro e w3 ⟨rfl, g⟩
    rw [FA.out]
    replace gg : Grows (w.alloc (.cells #[.string name, .int .i64 kind, .slice A pins.length np, .slice B arcs.length na, .slice T truth.length nt, .int .i64 leak, .int .i64 energy] 71)) w3 := Grows.trans gg g
    clear g
    obtain ⟨y0, y1, y2, y3, y4, y5, y6, yl⟩ := HK.out _ gg
    go_wp2_with (go_at_call 92; refine (within_any _ _ _ _).mono ?_; rintro e w' ⟨rfl, rfl⟩; first | rw [FL.out] | rw [FE.out])
    go_ret
    exact ⟨ret_bool EP.out.symm, GW.out.trans gg⟩
  have FE := hideIt qe
  clear qe
  obtain ⟨q, qk⟩ : ∃ q, kindB (⟨name, kind, pins, arcs, truth, leak, energy⟩ : CellD) = q := ⟨_, rfl⟩
  have FK := hideIt qk
  have EP : Hid (cellB (⟨name, kind, pins, arcs, truth, leak, energy⟩ : CellD) = q) := hideIt (EC.out.trans (by
    cases q
    · exact pB_false fun h => by have := h.ofKind; rw [FK.out] at this; cases this
    · exact pB_true ⟨FN.out, PP.out, pB_iff.1 QA.out.1, of_decide_eq_true QA.out.2, FL.out, FE.out, FK.out⟩))
  clear qk
  go_enter Tryz.func66, Tryz.ntmps66
  go_wp2_with fail
  refine (isName_any _ _ HZ.out).mono ?_
  rintro e w1 ⟨rfl, g⟩
  rw [FN.out]
  replace gg : Grows (w.alloc (.cells #[.string name, .int .i64 kind, .slice A pins.length np, .slice B arcs.length na, .slice T truth.length nt, .int .i64 leak, .int .i64 energy] 71)) w1 := Grows.trans gg g
  clear g
  obtain ⟨y0, y1, y2, y3, y4, y5, y6, yl⟩ := HK.out _ gg
  go_wp2_with fail
  refine (arePins_any _ (HP.out.keep (Grows.keeps gg)) HS.out).mono ?_
  rintro e w2 ⟨rfl, g⟩
  rw [FP.out]
  replace gg : Grows (w.alloc (.cells #[.string name, .int .i64 kind, .slice A pins.length np, .slice B arcs.length na, .slice T truth.length nt, .int .i64 leak, .int .i64 energy] 71)) w2 := Grows.trans gg g
  clear g
  obtain ⟨y0, y1, y2, y3, y4, y5, y6, yl⟩ := HK.out _ gg
  go_wp2_with fail
  refine (areArcs_any _ (HC.out.keep (Grows.keeps gg))).mono ?_
  rintro e w3 ⟨rfl, g⟩
  rw [FA.out]
  replace gg : Grows (w.alloc (.cells #[.string name, .int .i64 kind, .slice A pins.length np, .slice B arcs.length na, .slice T truth.length nt, .int .i64 leak, .int .i64 energy] 71)) w3 := Grows.trans gg g
  clear g
  obtain ⟨y0, y1, y2, y3, y4, y5, y6, yl⟩ := HK.out _ gg
  go_wp2_with (go_at_call 92; refine (within_any _ _ _ _).mono ?_; rintro e w' ⟨rfl, rfl⟩; first | rw [FL.out] | rw [FE.out])
  refine (isOfKind_any _ (HC.out.keep (Grows.keeps gg)) H2.out H5.out).mono ?_
  rintro e w4 ⟨rfl, g⟩
  rw [FK.out]
  replace gg : Grows (w.alloc (.cells #[.string name, .int .i64 kind, .slice A pins.length np, .slice B arcs.length na, .slice T truth.length nt, .int .i64 leak, .int .i64 energy] 71)) w4 := Grows.trans gg g
  clear g
  obtain ⟨y0, y1, y2, y3, y4, y5, y6, yl⟩ := HK.out _ gg
  go_wp2
  go_ret
  exact ⟨ret_bool EP.out.symm, GW.out.trans gg⟩
end Go.Proofs.YtocahjbmnkadjaaGreatDoor
