/-
  Contract of the reference's GateValue.
-/
import Derived.Test.YtcaklodecejkhaaDoorGateM
import Derived.Test.YtcaklodecejkhaaDoorSCell
namespace Go.Proofs.YtcaklodecejkhaaDoor
open Go.RowKit
set_option maxHeartbeats 4000000 in
theorem sGate_any {v0 v1 v2 v3 v4 v5 v6 vi : Value} {x : CellD} {is : List Int} (w : World) (h : RCell w [v0, v1, v2, v3, v4, v5, v6] x) (hi : RInts w vi is) :
    Calls Tryd.prog 18 #[.agg #[v0, v1, v2, v3, v4, v5, v6], vi] w fun e w' => e = .returned (.tuple #[.int .i64 (gateV x is).1, .int .i64 (gateV x is).2]) ∧ Grows w w' := by
  have h0 := h
  obtain ⟨-, rfl, hp, -, ht, -, -, -⟩ := h.parts
  obtain ⟨name, kind, pins, arcs, truth, leak, energy⟩ := x
  have pl := RList.len hp
  have il := RList.len hi
  obtain ⟨A, np, rfl⟩ : ∃ (D : Option Addr) (nd : Nat), v2 = .slice D pins.length nd := by obtain ⟨D, c, e, -⟩ := RList.form hp; exact ⟨D, c, e⟩
  obtain ⟨T, nt, rfl, -, -, hx⟩ := RList.form ht
  obtain ⟨I, ni, rfl, -, -, hy⟩ := RList.form hi
  have g0 := (Grows.refl w).alloc (.cells #[v0, .int .i64 kind, .slice A pins.length np, v3, .slice T truth.length nt, v5, v6] 32)
  have S := hideIt (Blk.new w 32 #[v0, .int .i64 kind, .slice A pins.length np, v3, .slice T truth.length nt, v5, v6])
  have HC := hideIt (h0.keep g0.keeps)
  have HX := hideIt hx
  have HY := hideIt hy
  have HI := hideIt hi
  have G := hideIt g0
  clear h h0 hp ht hi hx hy g0
  simp only at *
  go_enter Tryd.func18, Tryd.ntmps18
  go_wp2_with fail
  refine (sIsCell_any _ HC.out).mono ?_
  rintro e w1 ⟨rfl, g1⟩
  have G1 := hideIt (G.out.trans g1)
  have S1 := hideIt (S.out.grows g1)
  have HC1 := hideIt (HC.out.keep g1.keeps)
  clear g1
  have kl := S1.out.lt
  have k0 : w1.cell? ⟨w.heap.size, 0, none⟩ = some (v0) := S1.out.cell 0
  have k1 : w1.cell? ⟨w.heap.size, 1, none⟩ = some (.int .i64 kind) := S1.out.cell 1
  have k2 : w1.cell? ⟨w.heap.size, 2, none⟩ = some (.slice A pins.length np) := S1.out.cell 2
  have k3 : w1.cell? ⟨w.heap.size, 3, none⟩ = some (v3) := S1.out.cell 3
  have k4 : w1.cell? ⟨w.heap.size, 4, none⟩ = some (.slice T truth.length nt) := S1.out.cell 4
  have k5 : w1.cell? ⟨w.heap.size, 5, none⟩ = some (v5) := S1.out.cell 5
  have k6 : w1.cell? ⟨w.heap.size, 6, none⟩ = some (v6) := S1.out.cell 6
  cases hc : cellB ⟨name, kind, pins, arcs, truth, leak, energy⟩
  · skip
    have EV := hideIt (gateV_1 (is := is) hc)
    clear hc
    go_wp2
    go_ret2
    exact ⟨by rw [EV.out]; rfl, G1.out⟩
  have HCB := hideIt hc
  clear hc
  by_cases hk : kind = 1
  rotate_left
  · have hk1 : (kind != 1) = true := by simpa using hk
    have EV := hideIt (gateV_5 (is := is) HCB.out hk)
    clear hk
    go_wp2
    go_ret2
    exact ⟨by rw [EV.out]; rfl, G1.out⟩
  have hk1 : (kind != 1) = false := by simpa using hk
  have HK := hideIt hk
  clear hk
  have GT := hideIt (gate_truth HCB.out HK.out)
  have hn2 := GT.out.2.1
  have hn5 := GT.out.2.2
  simp only at hn2 hn5
  by_cases hle : is.length + 1 = pins.length
  rotate_left
  · have EV := hideIt (gateV_2 (is := is) HCB.out HK.out fun h => hle h.1)
    have hl1 : ((is.length : Int) != (pins.length : Int) - 1) = true := by rw [bne_iff_ne]; omega
    by_cases hz : is.length = 0
    · have hz1 : ¬ (0 : Nat) < is.length := by omega
      have hz2 : ¬ (0 : Int) < (is.length : Int) := by omega
      clear hle hz
      go_wp2
      go_loop [6, 7] (fun s i => s = .int .i64 0 ∧ i = .int .i64 0) (fun _ _ => 0)
      case atStart => exact ⟨rfl, rfl⟩
      case round =>
        obtain ⟨rfl, rfl⟩ := hrel
        go_wp2
        go_ret2
        exact ⟨by rw [EV.out]; rfl, G1.out⟩
    · have hz1 : (0 : Nat) < is.length := by omega
      have hz2 : (0 : Int) < (is.length : Int) := by omega
      obtain ⟨v, hv⟩ : ∃ v, is[0]? = some v := ⟨_, List.getElem?_eq_getElem hz1⟩
      obtain ⟨b, off, rfl, cs, hl2, hcs, hr⟩ := HY.out 0 v hv
      unfold RI at hr
      subst hr
      have kv : w1.cell? ⟨b, off, none⟩ = some (.int .i64 v) := G1.out.keeps _ _ (by simpa using hcs 0 _ rfl)
      clear hle hz hcs hl2 hv
      go_wp2
      go_loop [6, 7] (fun s i => s = .int .i64 0 ∧ i = .int .i64 0) (fun _ _ => 0)
      case atStart => exact ⟨rfl, rfl⟩
      case round =>
        obtain ⟨rfl, rfl⟩ := hrel
        cases hb : inB v 0 1
        · have HB := hideIt hb
          clear hb
          go_wp2_with (go_at_call 31; refine (l01In_any _ _ _ _).mono ?_; rintro e w' ⟨rfl, rfl⟩; rw [HB.out])
          go_ret2
          exact ⟨by rw [EV.out]; rfl, G1.out⟩
        · have HB := hideIt hb
          clear hb
          go_wp2_with (go_at_call 31; refine (l01In_any _ _ _ _).mono ?_; rintro e w' ⟨rfl, rfl⟩; rw [HB.out])
          go_ret2
          exact ⟨by rw [EV.out]; rfl, G1.out⟩
  have hl1 : ((is.length : Int) != (pins.length : Int) - 1) = false := by rw [bne_eq_false_iff_eq]; omega
  have hl4 : is.length ≤ 4 := by omega
  have HLE := hideIt hle
  clear hle
  go_wp2
  go_loop [6, 7] (fun s i => ∃ k : Nat, k ≤ is.length ∧ i = .int .i64 (k : Int) ∧ s = .int .i64 (gN is k : Int) ∧ Hid (∀ (j : Nat) (v : Int), j < k → is[j]? = some v → inB v 0 1 = true)) (fun _ i => is.length - (intOf i).toNat)
  case atStart => exact ⟨0, by omega, rfl, rfl, fun j v hj => absurd hj (by omega)⟩
  case round =>
    obtain ⟨k, hk, rfl, rfl, hco⟩ := hrel
    have gl := gN_lt' hco.out (Nat.le_refl k) hk
    by_cases hlt : k < is.length
    · obtain ⟨v, hv⟩ : ∃ v, is[k]? = some v := ⟨_, List.getElem?_eq_getElem hlt⟩
      obtain ⟨b, off, rfl, cs, hl2, hcs, hr⟩ := HY.out k v hv
      unfold RI at hr
      subst hr
      have kv : w1.cell? ⟨b, off + k, none⟩ = some (.int .i64 v) := G1.out.keeps _ _ (by simpa using hcs 0 _ rfl)
      have V1 := hideIt hv
      clear hcs hl2 hv
      cases hb : inB v 0 1
      · have EV := hideIt (gateV_2 (is := is) HCB.out HK.out fun h => by
          have := List.all_eq_true.1 h.2 v (List.mem_of_getElem? V1.out)
          rw [hb] at this; cases this)
        have HB := hideIt hb
        clear hb gl
        go_wp2_with (go_at_call 31; refine (l01In_any _ _ _ _).mono ?_; rintro e w' ⟨rfl, rfl⟩; rw [HB.out])
        go_ret2
        exact ⟨by rw [EV.out]; rfl, G1.out⟩
      · have HB := hideIt hb
        have GS := hideIt (gN_succ V1.out)
        have hv01 : v = 0 ∨ v = 1 := by have := inB_true hb; omega
        clear hb
        have HN : Hid (∀ (j : Nat) (u : Int), j < k + 1 → is[j]? = some u → inB u 0 1 = true) := hideIt fun j u hj hu => by
          by_cases e : j = k
          · subst e; rw [V1.out] at hu; injection hu with hu; rw [← hu]; exact HB.out
          · exact hco.out j u (by omega) hu
        have hk4 : k = 0 ∨ k = 1 ∨ k = 2 ∨ k = 3 := by omega
        obtain ⟨g, eg⟩ : ∃ g, gN is k = g := ⟨_, rfl⟩
        rw [eg] at gl GS
        rw [eg]
        have p1 : (2 : Int) ^ k ≤ 8 := by rcases hk4 with rfl | rfl | rfl | rfl <;> decide
        have p0 : (1 : Int) ≤ 2 ^ k := by rcases hk4 with rfl | rfl | rfl | rfl <;> decide
        have p2 : (g : Int) < 2 ^ k := by have := Int.ofNat_lt.2 gl; simpa using this
        have p3 : (0 : Int) ≤ (g : Int) := by omega
        clear gl
        have GS1 := hideIt GS.out
        clear GS eg
        rcases hv01 with rfl | rfl
        all_goals
          go_wp2_with (go_at_call 31; refine (l01In_any _ _ _ _).mono ?_; rintro e w' ⟨rfl, rfl⟩; rw [HB.out])
          go_round
          case rel => exact ⟨_, by omega, by first | rfl | go_num, by rw [GS1.out]; simp, HN.out⟩
          case measure => simp [intOf] <;> omega
    · obtain rfl : k = is.length := by omega
      have WB := hideIt (wiB_mk fun j u hj => hco.out j u (List.getElem?_eq_some_iff.1 hj).1 hj)
      clear hco
      have hgt : gN is is.length < truth.length := by
        have h1 : truth.length = 2 ^ (pins.length - 1) := GT.out.1
        have : pins.length - 1 = is.length := by have := HLE.out; omega
        rw [h1, this]
        exact gl
      obtain ⟨t, hts⟩ : ∃ t, truth[gN is is.length]? = some t := ⟨_, List.getElem?_eq_getElem hgt⟩
      obtain ⟨bt, ot, rfl, cs, hl2, hcs, hr⟩ := HX.out _ t hts
      unfold RI at hr
      subst hr
      have kt : w1.cell? ⟨bt, ot + gN is is.length, none⟩ = some (.int .i64 t) := G1.out.keeps _ _ (by simpa using hcs 0 _ rfl)
      have EV := hideIt (gateV_0 HCB.out HK.out HLE.out WB.out hts)
      have hgt2 : (gN is is.length : Int) < (truth.length : Int) := by omega
      clear hcs hl2 hts gl
      go_wp2
      go_ret2
      exact ⟨by rw [EV.out]; rfl, G1.out⟩
end Go.Proofs.YtcaklodecejkhaaDoor
