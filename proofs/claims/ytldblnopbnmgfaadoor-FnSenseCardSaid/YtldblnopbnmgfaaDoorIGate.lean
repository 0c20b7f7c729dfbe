/-
  Contract of the program's GateValue.
-/
import Derived.Test.YtldblnopbnmgfaaDoorGateM
import Derived.Test.YtldblnopbnmgfaaDoorGK
import Derived.Test.YtldblnopbnmgfaaDoorGJ
namespace Go.Proofs.YtldblnopbnmgfaaDoor
open Go.RowKit
theorem lenIs_any {v : Value} {xs : List Int} {w0 : World} (w : World) (h : RInts w0 v xs) :
    Calls Tryd.prog 18 #[v] w fun e w' => e = .returned (.int .i64 (xs.length : Int)) ∧ w = w' := by
  have hl := RList.len h
  obtain ⟨A, c, rfl, -, -, -⟩ := RList.form h
  clear h
  go_enter Tryd.func18, Tryd.ntmps18
  go_wp2
  go_ret
  exact ⟨rfl, rfl⟩
set_option maxHeartbeats 4000000 in
theorem iGate_any {v0 v1 v2 v3 v4 v5 v6 vi : Value} {x : CellD} {is : List Int} (w : World) (h : RCell w [v0, v1, v2, v3, v4, v5, v6] x) (hi : RInts w vi is) (hsm : SmL x.pins) :
    Calls Tryd.prog 8 #[.agg #[v0, v1, v2, v3, v4, v5, v6], vi] w fun e w' => e = .returned (.tuple #[.int .i64 (gateV x is).1, .int .i64 (gateV x is).2]) ∧ Grows w w' := by
  have h0 := h
  obtain ⟨-, rfl, hp, -, ht, -, -, -⟩ := h.parts
  obtain ⟨name, kind, pins, arcs, truth, leak, energy⟩ := x
  have pl := RList.len hp
  have il := RList.len hi
  obtain ⟨A, np, rfl⟩ : ∃ (D : Option Addr) (nd : Nat), v2 = .slice D pins.length nd := by obtain ⟨D, c, e, -⟩ := RList.form hp; exact ⟨D, c, e⟩
  obtain ⟨T, nt, rfl, -, -, hx⟩ := RList.form ht
  obtain ⟨I, ni, rfl, -, -, hy⟩ := RList.form hi
  have g0 := (Grows.refl w).alloc (.cells #[v0, .int .i64 kind, .slice A pins.length np, v3, .slice T truth.length nt, v5, v6] 28)
  have S := hideIt (Blk.new w 28 #[v0, .int .i64 kind, .slice A pins.length np, v3, .slice T truth.length nt, v5, v6])
  have HC := hideIt (h0.keep g0.keeps)
  have HX := hideIt hx
  have HY := hideIt hy
  have HI := hideIt hi
  have G := hideIt g0
  clear h h0 hp ht hi hx hy g0
  simp only at *
  go_enter Tryd.func8, Tryd.ntmps8
  go_wp2_with fail
  refine (iIsCell_any _ HC.out hsm).mono ?_
  rintro e w1 ⟨rfl, g1⟩
  have G1 := hideIt (G.out.trans g1)
  have S1 := hideIt (S.out.grows g1)
  have HC1 := hideIt (HC.out.keep g1.keeps)
  clear g1
  have kl := S1.out.lt
  have k0 : w1.cell? ⟨w.heap.size, 0, none⟩ = some (v0) := S1.out.cell 0
  have k1 : w1.cell? ⟨w.heap.size, 1, none⟩ = some (.int .i64 kind) := S1.out.cell 1
  have k2 : w1.cell? ⟨w.heap.size, 2, none⟩ = some (.slice A pins.length np) := S1.out.cell 2
  have k3 : w1.cell? ⟨w.heap.size, 3, none⟩ = some (v3) := S1.out.cell 3
  have k4 : w1.cell? ⟨w.heap.size, 4, none⟩ = some (.slice T truth.length nt) := S1.out.cell 4
  have k5 : w1.cell? ⟨w.heap.size, 5, none⟩ = some (v5) := S1.out.cell 5
  have k6 : w1.cell? ⟨w.heap.size, 6, none⟩ = some (v6) := S1.out.cell 6
  cases hc : cellB ⟨name, kind, pins, arcs, truth, leak, energy⟩
  · skip
    have EV := hideIt (gateV_1 (is := is) hc)
    clear hc
    go_wp2
    go_ret2
    exact ⟨by rw [EV.out]; rfl, G1.out⟩
  have HCB := hideIt hc
  clear hc
  by_cases hk : kind = 1
  rotate_left
  · have hk1 : (kind != 1) = true := by simpa using hk
    have EV := hideIt (gateV_5 (is := is) HCB.out hk)
    clear hk
    go_wp2
    go_ret2
    exact ⟨by rw [EV.out]; rfl, G1.out⟩
  have hk1 : (kind != 1) = false := by simpa using hk
  have HK := hideIt hk
  clear hk
  have GT := hideIt (gate_truth HCB.out HK.out)
  have hn2 := GT.out.2.1
  have hn5 := GT.out.2.2
  simp only at hn2 hn5
  have K0 : ∀ w', Grows w1 w' → w'.cell? ⟨w.heap.size, 0, none⟩ = some (v0) ∧ w'.cell? ⟨w.heap.size, 1, none⟩ = some (.int .i64 kind) ∧ w'.cell? ⟨w.heap.size, 2, none⟩ = some (.slice A pins.length np) ∧ w'.cell? ⟨w.heap.size, 3, none⟩ = some (v3) ∧ w'.cell? ⟨w.heap.size, 4, none⟩ = some (.slice T truth.length nt) ∧ w'.cell? ⟨w.heap.size, 5, none⟩ = some (v5) ∧ w'.cell? ⟨w.heap.size, 6, none⟩ = some (v6) ∧ Grows w1 w' := fun w' G => ⟨(G.cells.1 _ _ S1.out.lt).trans (S1.out.cell 0), (G.cells.1 _ _ S1.out.lt).trans (S1.out.cell 1), (G.cells.1 _ _ S1.out.lt).trans (S1.out.cell 2), (G.cells.1 _ _ S1.out.lt).trans (S1.out.cell 3), (G.cells.1 _ _ S1.out.lt).trans (S1.out.cell 4), (G.cells.1 _ _ S1.out.lt).trans (S1.out.cell 5), (G.cells.1 _ _ S1.out.lt).trans (S1.out.cell 6), G⟩
  have HKS := hideIt K0
  clear K0
  have gg : Grows w1 w1 := Grows.refl _
  by_cases hle : is.length + 1 = pins.length
  rotate_left
  · have EV := hideIt (gateV_2 (is := is) HCB.out HK.out fun h => hle h.1)
    have hl1 : ((is.length : Int) != (pins.length : Int) - 1) = true := by rw [bne_iff_ne]; omega
    clear hle
    go_wp2
    refine wp_region_held_drew (S := (fun w' => w'.cell? ⟨w.heap.size, 0, none⟩ = some (v0) ∧ w'.cell? ⟨w.heap.size, 1, none⟩ = some (.int .i64 kind) ∧ w'.cell? ⟨w.heap.size, 2, none⟩ = some (.slice A pins.length np) ∧ w'.cell? ⟨w.heap.size, 3, none⟩ = some (v3) ∧ w'.cell? ⟨w.heap.size, 4, none⟩ = some (.slice T truth.length nt) ∧ w'.cell? ⟨w.heap.size, 5, none⟩ = some (v5) ∧ w'.cell? ⟨w.heap.size, 6, none⟩ = some (v6) ∧ Grows w1 w')) (by kernel_rfl) ?_ (fun hh0 => ?_)
    · (try dsimp only); refine HKS.out _ ?_; (repeat (first | exact gg | refine Grows.drew ?_ | refine Grows.alloc ?_ _ | refine Grows.setCell ?_ (by simp <;> omega) _))
    refine regTk 0 hh0 ?_
    refine regTk 2 hh0 ?_
    refine regCall 1 (fun K hK => ?_)
    go_simp
    refine (lenIs_any _ HI.out).mono ?_
    rintro e wx ⟨rfl, rfl⟩
    (try go_wp2_with fail)
    refine hK.out _ _ ?_ (fun hh1 => ?_)
    · (try dsimp only); refine HKS.out _ ?_; (repeat (first | exact gg | refine Grows.drew ?_ | refine Grows.alloc ?_ _ | refine Grows.setCell ?_ (by simp <;> omega) _))
    clear hK K hh0
    try simp only [Act.put, List.setIfInBounds_toArray, List.set_cons_zero, List.set_cons_succ]
    refine regCall 3 (fun K hK => ?_)
    go_simp
    refine (output_any _ (HC1.out.keep (Grows.keeps gk))).mono ?_
    rintro e wx ⟨rfl, g⟩
    replace gg := gg.gt g
    clear g
    (try go_wp2_with fail)
    refine hK.out _ _ ?_ (fun hh2 => ?_)
    · (try dsimp only); refine HKS.out _ ?_; (repeat (first | exact gg | refine Grows.drew ?_ | refine Grows.alloc ?_ _ | refine Grows.setCell ?_ (by simp <;> omega) _))
    clear hK K hh1
    try simp only [Act.put, List.setIfInBounds_toArray, List.set_cons_zero, List.set_cons_succ]
    refine regTk 4 hh2 ?_
    refine regTk 5 hh2 ?_
    refine regSk 6 hh2 ?_
    refine regSk 7 hh2 ?_
    refine regSk 8 hh2 ?_
    refine regTk 9 hh2 ?_
    refine regTk 10 hh2 ?_
    refine wpAnyH_done (by kernel_rfl) ?_ _
    (try dsimp only at hh2)
    obtain ⟨y_0, y_1, y_2, y_3, y_4, y_5, y_6, -⟩ := hh2
    go_wp2
    go_ret2
    exact ⟨by rw [EV.out]; rfl, G1.out.trans gk⟩
  have hl1 : ((is.length : Int) != (pins.length : Int) - 1) = false := by rw [bne_eq_false_iff_eq]; omega
  have hl4 : is.length ≤ 4 := by omega
  have HLE := hideIt hle
  clear hle
  cases hw : wiB is 0 1
  · have EV := hideIt (gateV_2 (is := is) HCB.out HK.out fun h => by have := h.2; rw [hw] at this; cases this)
    have FW := hideIt hw
    clear hw
    go_wp2
    refine wp_region_held_drew (S := (fun w' => w'.cell? ⟨w.heap.size, 0, none⟩ = some (v0) ∧ w'.cell? ⟨w.heap.size, 1, none⟩ = some (.int .i64 kind) ∧ w'.cell? ⟨w.heap.size, 2, none⟩ = some (.slice A pins.length np) ∧ w'.cell? ⟨w.heap.size, 3, none⟩ = some (v3) ∧ w'.cell? ⟨w.heap.size, 4, none⟩ = some (.slice T truth.length nt) ∧ w'.cell? ⟨w.heap.size, 5, none⟩ = some (v5) ∧ w'.cell? ⟨w.heap.size, 6, none⟩ = some (v6) ∧ Grows w1 w')) (by kernel_rfl) ?_ (fun hh0 => ?_)
    · (try dsimp only); refine HKS.out _ ?_; (repeat (first | exact gg | refine Grows.drew ?_ | refine Grows.alloc ?_ _ | refine Grows.setCell ?_ (by simp <;> omega) _))
    refine regTk 0 hh0 ?_
    refine regTk 2 hh0 ?_
    refine regCall 1 (fun K hK => ?_)
    go_simp
    refine (lenIs_any _ HI.out).mono ?_
    rintro e wx ⟨rfl, rfl⟩
    (try go_wp2_with fail)
    refine hK.out _ _ ?_ (fun hh1 => ?_)
    · (try dsimp only); refine HKS.out _ ?_; (repeat (first | exact gg | refine Grows.drew ?_ | refine Grows.alloc ?_ _ | refine Grows.setCell ?_ (by simp <;> omega) _))
    clear hK K hh0
    try simp only [Act.put, List.setIfInBounds_toArray, List.set_cons_zero, List.set_cons_succ]
    refine regCall 3 (fun K hK => ?_)
    go_simp
    refine (output_any _ (HC1.out.keep (Grows.keeps gk))).mono ?_
    rintro e wx ⟨rfl, g⟩
    replace gg := gg.gt g
    clear g
    (try go_wp2_with fail)
    refine hK.out _ _ ?_ (fun hh2 => ?_)
    · (try dsimp only); refine HKS.out _ ?_; (repeat (first | exact gg | refine Grows.drew ?_ | refine Grows.alloc ?_ _ | refine Grows.setCell ?_ (by simp <;> omega) _))
    clear hK K hh1
    try simp only [Act.put, List.setIfInBounds_toArray, List.set_cons_zero, List.set_cons_succ]
    refine regTk 4 hh2 ?_
    refine regTk 5 hh2 ?_
    refine regTk 6 hh2 ?_
    refine regCall 7 (fun K hK => ?_)
    go_simp
    refine (areWithin_any 0 1 _ (RInts.keep HI.out (Grows.keeps (G1.out.trans gk)))).mono ?_
    rintro e wx ⟨rfl, g⟩
    rw [FW.out]
    replace gg := gg.gt g
    clear g
    (try go_wp2_with fail)
    refine hK.out _ _ ?_ (fun hh3 => ?_)
    · (try dsimp only); refine HKS.out _ ?_; (repeat (first | exact gg | refine Grows.drew ?_ | refine Grows.alloc ?_ _ | refine Grows.setCell ?_ (by simp <;> omega) _))
    clear hK K hh2
    try simp only [Act.put, List.setIfInBounds_toArray, List.set_cons_zero, List.set_cons_succ]
    refine regTk 8 hh3 ?_
    refine regTk 9 hh3 ?_
    refine regTk 10 hh3 ?_
    refine wpAnyH_done (by kernel_rfl) ?_ _
    (try dsimp only at hh3)
    obtain ⟨y_0, y_1, y_2, y_3, y_4, y_5, y_6, -⟩ := hh3
    go_wp2
    go_ret2
    exact ⟨by rw [EV.out]; rfl, G1.out.trans gk⟩
  have FW := hideIt hw
  have WB := hideIt hw
  clear hw
  go_wp2
  refine wp_region_held_drew (S := (fun w' => w'.cell? ⟨w.heap.size, 0, none⟩ = some (v0) ∧ w'.cell? ⟨w.heap.size, 1, none⟩ = some (.int .i64 kind) ∧ w'.cell? ⟨w.heap.size, 2, none⟩ = some (.slice A pins.length np) ∧ w'.cell? ⟨w.heap.size, 3, none⟩ = some (v3) ∧ w'.cell? ⟨w.heap.size, 4, none⟩ = some (.slice T truth.length nt) ∧ w'.cell? ⟨w.heap.size, 5, none⟩ = some (v5) ∧ w'.cell? ⟨w.heap.size, 6, none⟩ = some (v6) ∧ Grows w1 w')) (by kernel_rfl) ?_ (fun hh0 => ?_)
  · (try dsimp only); refine HKS.out _ ?_; (repeat (first | exact gg | refine Grows.drew ?_ | refine Grows.alloc ?_ _ | refine Grows.setCell ?_ (by simp <;> omega) _))
  refine regTk 0 hh0 ?_
  refine regTk 2 hh0 ?_
  refine regCall 1 (fun K hK => ?_)
  go_simp
  refine (lenIs_any _ HI.out).mono ?_
  rintro e wx ⟨rfl, rfl⟩
  (try go_wp2_with fail)
  refine hK.out _ _ ?_ (fun hh1 => ?_)
  · (try dsimp only); refine HKS.out _ ?_; (repeat (first | exact gg | refine Grows.drew ?_ | refine Grows.alloc ?_ _ | refine Grows.setCell ?_ (by simp <;> omega) _))
  clear hK K hh0
  try simp only [Act.put, List.setIfInBounds_toArray, List.set_cons_zero, List.set_cons_succ]
  refine regCall 3 (fun K hK => ?_)
  go_simp
  refine (output_any _ (HC1.out.keep (Grows.keeps gk))).mono ?_
  rintro e wx ⟨rfl, g⟩
  replace gg := gg.gt g
  clear g
  (try go_wp2_with fail)
  refine hK.out _ _ ?_ (fun hh2 => ?_)
  · (try dsimp only); refine HKS.out _ ?_; (repeat (first | exact gg | refine Grows.drew ?_ | refine Grows.alloc ?_ _ | refine Grows.setCell ?_ (by simp <;> omega) _))
  clear hK K hh1
  try simp only [Act.put, List.setIfInBounds_toArray, List.set_cons_zero, List.set_cons_succ]
  refine regTk 4 hh2 ?_
  refine regTk 5 hh2 ?_
  refine regTk 6 hh2 ?_
  refine regCall 7 (fun K hK => ?_)
  go_simp
  refine (areWithin_any 0 1 _ (RInts.keep HI.out (Grows.keeps (G1.out.trans gk)))).mono ?_
  rintro e wx ⟨rfl, g⟩
  rw [FW.out]
  replace gg := gg.gt g
  clear g
  (try go_wp2_with fail)
  refine hK.out _ _ ?_ (fun hh3 => ?_)
  · (try dsimp only); refine HKS.out _ ?_; (repeat (first | exact gg | refine Grows.drew ?_ | refine Grows.alloc ?_ _ | refine Grows.setCell ?_ (by simp <;> omega) _))
  clear hK K hh2
  try simp only [Act.put, List.setIfInBounds_toArray, List.set_cons_zero, List.set_cons_succ]
  refine regTk 8 hh3 ?_
  refine regTk 9 hh3 ?_
  refine regTk 10 hh3 ?_
  refine wpAnyH_done (by kernel_rfl) ?_ _
  (try dsimp only at hh3)
  obtain ⟨y_0, y_1, y_2, y_3, y_4, y_5, y_6, -⟩ := hh3
  have HG3 := hideIt (show Grows w1 wx from gg)
  go_wp2
  go_loop [6, 7, 8, 30] (fun s _ _ i => ∃ k : Nat, k ≤ is.length ∧ i = .int .i64 (k : Int) ∧ s = .int .i64 (gN is k : Int)) (fun _ _ _ i => is.length - (intOf i).toNat)
  case atStart => exact ⟨0, by omega, rfl, rfl⟩
  case round =>
    obtain ⟨k, hk, rfl, rfl⟩ := hrel
    have gl := gN_lt WB.out hk
    by_cases hlt : k < is.length
    · obtain ⟨v, hv⟩ : ∃ v, is[k]? = some v := ⟨_, List.getElem?_eq_getElem hlt⟩
      obtain ⟨b, off, rfl, cs, hl2, hcs, hr⟩ := HY.out k v hv
      unfold RI at hr
      subst hr
      have kv : wx.cell? ⟨b, off + k, none⟩ = some (.int .i64 v) := (G1.out.trans HG3.out).keeps _ _ (by simpa using hcs 0 _ rfl)
      have hb := inB_true (List.all_eq_true.1 WB.out v (List.mem_of_getElem? hv))
      have GS := hideIt (gN_succ hv)
      clear hcs hl2 hv
      have hv01 : v = 0 ∨ v = 1 := by omega
      clear hb
      have hk4 : k = 0 ∨ k = 1 ∨ k = 2 ∨ k = 3 := by omega
      obtain ⟨g, eg⟩ : ∃ g, gN is k = g := ⟨_, rfl⟩
      rw [eg] at gl GS
      rw [eg]
      have p1 : (2 : Int) ^ k ≤ 8 := by rcases hk4 with rfl | rfl | rfl | rfl <;> decide
      have p0 : (1 : Int) ≤ 2 ^ k := by rcases hk4 with rfl | rfl | rfl | rfl <;> decide
      have p2 : (g : Int) < 2 ^ k := by have := Int.ofNat_lt.2 gl; simpa using this
      have p3 : (0 : Int) ≤ (g : Int) := by omega
      clear gl
      have GS1 := hideIt GS.out
      clear GS eg
      rcases hv01 with rfl | rfl
      all_goals
        go_wp2
        go_round
        case rel => exact ⟨k + 1, by omega, by first | rfl | go_num, by rw [GS1.out]; first | (rw [or_zero p2 p1]; simp) | (rw [or_pow (by omega) p2 p1]; simp)⟩
        case measure => simp [intOf] <;> omega
    · obtain rfl : k = is.length := by omega
      have hgt : gN is is.length < truth.length := by
        have h1 : truth.length = 2 ^ (pins.length - 1) := GT.out.1
        have : pins.length - 1 = is.length := by have := HLE.out; omega
        rw [h1, this]
        exact gl
      obtain ⟨t, hts⟩ : ∃ t, truth[gN is is.length]? = some t := ⟨_, List.getElem?_eq_getElem hgt⟩
      obtain ⟨bt, ot, rfl, cs, hl2, hcs, hr⟩ := HX.out _ t hts
      unfold RI at hr
      subst hr
      have kt : wx.cell? ⟨bt, ot + gN is is.length, none⟩ = some (.int .i64 t) := (G1.out.trans HG3.out).keeps _ _ (by simpa using hcs 0 _ rfl)
      have EV := hideIt (gateV_0 HCB.out HK.out HLE.out WB.out hts)
      have hgt2 : (gN is is.length : Int) < (truth.length : Int) := by omega
      clear hcs hl2 hts gl
      go_wp2
      go_ret2
      exact ⟨by rw [EV.out]; rfl, (G1.out.trans HG3.out)⟩
end Go.Proofs.YtldblnopbnmgfaaDoor
