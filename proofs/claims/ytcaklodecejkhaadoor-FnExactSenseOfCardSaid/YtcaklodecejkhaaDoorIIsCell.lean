/-
  Contract of the program's IsCell.
-/
import Derived.Test.YtcaklodecejkhaaDoorIArcs
import Derived.Test.YtcaklodecejkhaaDoorIOKind
namespace Go.Proofs.YtcaklodecejkhaaDoor
open Go.RowKit
set_option maxHeartbeats 4000000 in
theorem iIsCell_any {v0 v1 v2 v3 v4 v5 v6 : Value} {x : CellD} (w : World) (h : RCell w [v0, v1, v2, v3, v4, v5, v6] x) (hsm : SmL x.pins) :
    Calls Tryd.prog 12 #[.agg #[v0, v1, v2, v3, v4, v5, v6]] w fun e w' => e = .returned (.bool (cellB x)) ∧ Grows w w' := by
  have h0 := h
  obtain ⟨rfl, rfl, hp, ha, ht, rfl, rfl, hz⟩ := h.parts
  have EC := hideIt (show cellB x = pB (ICellP x) from pB_congr (icell_iff x).symm)
  obtain ⟨name, kind, pins, arcs, truth, leak, energy⟩ := x
  obtain ⟨A, np, rfl⟩ : ∃ (D : Option Addr) (nd : Nat), v2 = .slice D pins.length nd := by obtain ⟨D, c, e, -⟩ := RList.form hp; exact ⟨D, c, e⟩
  obtain ⟨B, na, rfl⟩ : ∃ (D : Option Addr) (nd : Nat), v3 = .slice D arcs.length nd := by obtain ⟨D, c, e, -⟩ := RList.form ha; exact ⟨D, c, e⟩
  obtain ⟨T, nt, rfl⟩ : ∃ (D : Option Addr) (nd : Nat), v4 = .slice D truth.length nd := by obtain ⟨D, c, e, -⟩ := RList.form ht; exact ⟨D, c, e⟩
  simp only at *
  have g0 := (Grows.refl w).alloc (.cells #[.string name, .int .i64 kind, .slice A pins.length np, .slice B arcs.length na, .slice T truth.length nt, .int .i64 leak, .int .i64 energy] 32)
  have S := hideIt (Blk.new w 32 #[.string name, .int .i64 kind, .slice A pins.length np, .slice B arcs.length na, .slice T truth.length nt, .int .i64 leak, .int .i64 energy])
  have HC := hideIt (h0.keep g0.keeps)
  have HP := hideIt (RPins.keep hp g0.keeps)
  have HZ := hideIt hz
  have HS := hideIt hsm
  have gg := g0
  have HK := hideIt (fun w' (g : Grows (w.alloc (.cells #[.string name, .int .i64 kind, .slice A pins.length np, .slice B arcs.length na, .slice T truth.length nt, .int .i64 leak, .int .i64 energy] 32)) w') => (⟨(S.out.grows g).cell 0, (S.out.grows g).cell 1, (S.out.grows g).cell 2, (S.out.grows g).cell 3, (S.out.grows g).cell 4, (S.out.grows g).cell 5, (S.out.grows g).cell 6, (S.out.grows g).lt⟩ : w'.cell? ⟨w.heap.size, 0, none⟩ = some (.string name) ∧ w'.cell? ⟨w.heap.size, 1, none⟩ = some (.int .i64 kind) ∧ w'.cell? ⟨w.heap.size, 2, none⟩ = some (.slice A pins.length np) ∧ w'.cell? ⟨w.heap.size, 3, none⟩ = some (.slice B arcs.length na) ∧ w'.cell? ⟨w.heap.size, 4, none⟩ = some (.slice T truth.length nt) ∧ w'.cell? ⟨w.heap.size, 5, none⟩ = some (.int .i64 leak) ∧ w'.cell? ⟨w.heap.size, 6, none⟩ = some (.int .i64 energy) ∧ w.heap.size < w'.heap.size))
  replace gg : Grows (w.alloc (.cells #[.string name, .int .i64 kind, .slice A pins.length np, .slice B arcs.length na, .slice T truth.length nt, .int .i64 leak, .int .i64 energy] 32)) (w.alloc (.cells #[.string name, .int .i64 kind, .slice A pins.length np, .slice B arcs.length na, .slice T truth.length nt, .int .i64 leak, .int .i64 energy] 32)) := Grows.refl _
  have GW := hideIt g0
  clear h h0 hp ha ht g0 hz hsm
  cases qn : nameB name
  · have FN := hideIt qn
    have EP := hideIt (EC.out.trans (pB_false fun h => by have := h.name; rw [FN.out] at this; cases this))
    clear qn
    go_enter Tryd.func12, Tryd.ntmps12
    go_wp2_with fail
    refine (isName_any _ _ HZ.out).mono ?_
    rintro e w1 ⟨rfl, g⟩
    rw [FN.out]
    replace gg : Grows (w.alloc (.cells #[.string name, .int .i64 kind, .slice A pins.length np, .slice B arcs.length na, .slice T truth.length nt, .int .i64 leak, .int .i64 energy] 32)) w1 := Grows.trans gg g
    clear g
    obtain ⟨y0, y1, y2, y3, y4, y5, y6, yl⟩ := HK.out _ gg
    go_wp2
    go_ret
    exact ⟨ret_bool EP.out.symm, GW.out.trans gg⟩
  have FN := hideIt qn
  clear qn
  cases qp : pB (PinsP pins)
  · have FP := hideIt qp
    have EP := hideIt (EC.out.trans (pB_false fun h => by have := pB_true h.pins; rw [FP.out] at this; cases this))
    clear qp
    go_enter Tryd.func12, Tryd.ntmps12
    go_wp2_with fail
    refine (isName_any _ _ HZ.out).mono ?_
    rintro e w1 ⟨rfl, g⟩
    rw [FN.out]
    replace gg : Grows (w.alloc (.cells #[.string name, .int .i64 kind, .slice A pins.length np, .slice B arcs.length na, .slice T truth.length nt, .int .i64 leak, .int .i64 energy] 32)) w1 := Grows.trans gg g
    clear g
    obtain ⟨y0, y1, y2, y3, y4, y5, y6, yl⟩ := HK.out _ gg
    go_wp2_with fail
    refine (arePins_any _ (HP.out.keep (Grows.keeps gg)) HS.out).mono ?_
    rintro e w2 ⟨rfl, g⟩
    rw [FP.out]
    replace gg : Grows (w.alloc (.cells #[.string name, .int .i64 kind, .slice A pins.length np, .slice B arcs.length na, .slice T truth.length nt, .int .i64 leak, .int .i64 energy] 32)) w2 := Grows.trans gg g
    clear g
    obtain ⟨y0, y1, y2, y3, y4, y5, y6, yl⟩ := HK.out _ gg
    go_wp2
    go_ret
    exact ⟨ret_bool EP.out.symm, GW.out.trans gg⟩
  have FP := hideIt qp
  have PP := hideIt (pB_iff.1 qp)
  clear qp
  have H2 := hideIt PP.out.1.1
  have H5 := hideIt PP.out.1.2
  cases qa : (pB (iArcsP pins arcs) && decide (arcs.length ≤ 8))
  · have FA := hideIt qa
    have EP := hideIt (EC.out.trans (pB_false fun h => by have h1 := pB_true h.arcs; have h2 := decide_eq_true h.few; have := FA.out; simp only at h1 h2; rw [h1, h2] at this; cases this))
    clear qa
    go_enter Tryd.func12, Tryd.ntmps12
    go_wp2_with fail
    refine (isName_any _ _ HZ.out).mono ?_
    rintro e w1 ⟨rfl, g⟩
    rw [FN.out]
    replace gg : Grows (w.alloc (.cells #[.string name, .int .i64 kind, .slice A pins.length np, .slice B arcs.length na, .slice T truth.length nt, .int .i64 leak, .int .i64 energy] 32)) w1 := Grows.trans gg g
    clear g
    obtain ⟨y0, y1, y2, y3, y4, y5, y6, yl⟩ := HK.out _ gg
    go_wp2_with fail
    refine (arePins_any _ (HP.out.keep (Grows.keeps gg)) HS.out).mono ?_
    rintro e w2 ⟨rfl, g⟩
    rw [FP.out]
    replace gg : Grows (w.alloc (.cells #[.string name, .int .i64 kind, .slice A pins.length np, .slice B arcs.length na, .slice T truth.length nt, .int .i64 leak, .int .i64 energy] 32)) w2 := Grows.trans gg g
    clear g
    obtain ⟨y0, y1, y2, y3, y4, y5, y6, yl⟩ := HK.out _ gg
    go_wp2_with fail
    refine (areArcs_any _ (HC.out.keep (Grows.keeps gg))).mono ?_
    rintro e w3 ⟨rfl, g⟩
    rw [FA.out]
    replace gg : Grows (w.alloc (.cells #[.string name, .int .i64 kind, .slice A pins.length np, .slice B arcs.length na, .slice T truth.length nt, .int .i64 leak, .int .i64 energy] 32)) w3 := Grows.trans gg g
    clear g
    obtain ⟨y0, y1, y2, y3, y4, y5, y6, yl⟩ := HK.out _ gg
    go_wp2
    go_ret
    exact ⟨ret_bool EP.out.symm, GW.out.trans gg⟩
  have FA := hideIt qa
  have QA := hideIt ((Bool.and_eq_true _ _).mp qa)
  clear qa
  cases ql : inB leak 0 100000
  · have FL := hideIt ql
    have EP := hideIt (EC.out.trans (pB_false fun h => by have := h.leak; rw [FL.out] at this; cases this))
    clear ql
    go_enter Tryd.func12, Tryd.ntmps12
    go_wp2_with fail
    refine (isName_any _ _ HZ.out).mono ?_
    rintro e w1 ⟨rfl, g⟩
    rw [FN.out]
    replace gg : Grows (w.alloc (.cells #[.string name, .int .i64 kind, .slice A pins.length np, .slice B arcs.length na, .slice T truth.length nt, .int .i64 leak, .int .i64 energy] 32)) w1 := Grows.trans gg g
    clear g
    obtain ⟨y0, y1, y2, y3, y4, y5, y6, yl⟩ := HK.out _ gg
    go_wp2_with fail
    refine (arePins_any _ (HP.out.keep (Grows.keeps gg)) HS.out).mono ?_
    rintro e w2 ⟨rfl, g⟩
    rw [FP.out]
    replace gg : Grows (w.alloc (.cells #[.string name, .int .i64 kind, .slice A pins.length np, .slice B arcs.length na, .slice T truth.length nt, .int .i64 leak, .int .i64 energy] 32)) w2 := Grows.trans gg g
    clear g
    obtain ⟨y0, y1, y2, y3, y4, y5, y6, yl⟩ := HK.out _ gg
    go_wp2_with fail
    refine (areArcs_any _ (HC.out.keep (Grows.keeps gg))).mono ?_
    rintro e w3 ⟨rfl, g⟩
    rw [FA.out]
    replace gg : Grows (w.alloc (.cells #[.string name, .int .i64 kind, .slice A pins.length np, .slice B arcs.length na, .slice T truth.length nt, .int .i64 leak, .int .i64 energy] 32)) w3 := Grows.trans gg g
    clear g
    obtain ⟨y0, y1, y2, y3, y4, y5, y6, yl⟩ := HK.out _ gg
    go_wp2_with (go_at_call 39; refine (within_any _ _ _ _).mono ?_; rintro e w' ⟨rfl, rfl⟩; first | rw [FL.out] | rw [FE.out])
    go_ret
    exact ⟨ret_bool EP.out.symm, GW.out.trans gg⟩
  have FL := hideIt ql
  clear ql
  cases qe : inB energy 0 100000
  · have FE := hideIt qe
    have EP := hideIt (EC.out.trans (pB_false fun h => by have := h.energy; rw [FE.out] at this; cases this))
    clear qe
    go_enter Tryd.func12, Tryd.ntmps12
    go_wp2_with fail
    refine (isName_any _ _ HZ.out).mono ?_
    rintro e w1 ⟨rfl, g⟩
    rw [FN.out]
    replace gg : Grows (w.alloc (.cells #[.string name, .int .i64 kind, .slice A pins.length np, .slice B arcs.length na, .slice T truth.length nt, .int .i64 leak, .int .i64 energy] 32)) w1 := Grows.trans gg g
    clear g
    obtain ⟨y0, y1, y2, y3, y4, y5, y6, yl⟩ := HK.out _ gg
    go_wp2_with fail
    refine (arePins_any _ (HP.out.keep (Grows.keeps gg)) HS.out).mono ?_
    rintro e w2 ⟨rfl, g⟩
    rw [FP.out]
    replace gg : Grows (w.alloc (.cells #[.string name, .int .i64 kind, .slice A pins.length np, .slice B arcs.length na, .slice T truth.length nt, .int .i64 leak, .int .i64 energy] 32)) w2 := Grows.trans gg g
    clear g
    obtain ⟨y0, y1, y2, y3, y4, y5, y6, yl⟩ := HK.out _ gg
    go_wp2_with fail
    refine (areArcs_any _ (HC.out.keep (Grows.keeps gg))).mono ?_
    rintro e w3 ⟨rfl, g⟩
    rw [FA.out]
    replace gg : Grows (w.alloc (.cells #[.string name, .int .i64 kind, .slice A pins.length np, .slice B arcs.length na, .slice T truth.length nt, .int .i64 leak, .int .i64 energy] 32)) w3 := Grows.trans gg g
    clear g
    obtain ⟨y0, y1, y2, y3, y4, y5, y6, yl⟩ := HK.out _ gg
    go_wp2_with (go_at_call 39; refine (within_any _ _ _ _).mono ?_; rintro e w' ⟨rfl, rfl⟩; first | rw [FL.out] | rw [FE.out])
    go_ret
    exact ⟨ret_bool EP.out.symm, GW.out.trans gg⟩
  have FE := hideIt qe
  clear qe
  obtain ⟨q, qk⟩ : ∃ q, kindB (⟨name, kind, pins, arcs, truth, leak, energy⟩ : CellD) = q := ⟨_, rfl⟩
  have FK := hideIt qk
  have EP : Hid (cellB (⟨name, kind, pins, arcs, truth, leak, energy⟩ : CellD) = q) := hideIt (EC.out.trans (by
    cases q
    · exact pB_false fun h => by have := h.ofKind; rw [FK.out] at this; cases this
    · exact pB_true ⟨FN.out, PP.out, pB_iff.1 QA.out.1, of_decide_eq_true QA.out.2, FL.out, FE.out, FK.out⟩))
  clear qk
  go_enter Tryd.func12, Tryd.ntmps12
  go_wp2_with fail
  refine (isName_any _ _ HZ.out).mono ?_
  rintro e w1 ⟨rfl, g⟩
  rw [FN.out]
  replace gg : Grows (w.alloc (.cells #[.string name, .int .i64 kind, .slice A pins.length np, .slice B arcs.length na, .slice T truth.length nt, .int .i64 leak, .int .i64 energy] 32)) w1 := Grows.trans gg g
  clear g
  obtain ⟨y0, y1, y2, y3, y4, y5, y6, yl⟩ := HK.out _ gg
  go_wp2_with fail
  refine (arePins_any _ (HP.out.keep (Grows.keeps gg)) HS.out).mono ?_
  rintro e w2 ⟨rfl, g⟩
  rw [FP.out]
  replace gg : Grows (w.alloc (.cells #[.string name, .int .i64 kind, .slice A pins.length np, .slice B arcs.length na, .slice T truth.length nt, .int .i64 leak, .int .i64 energy] 32)) w2 := Grows.trans gg g
  clear g
  obtain ⟨y0, y1, y2, y3, y4, y5, y6, yl⟩ := HK.out _ gg
  go_wp2_with fail
  refine (areArcs_any _ (HC.out.keep (Grows.keeps gg))).mono ?_
  rintro e w3 ⟨rfl, g⟩
  rw [FA.out]
  replace gg : Grows (w.alloc (.cells #[.string name, .int .i64 kind, .slice A pins.length np, .slice B arcs.length na, .slice T truth.length nt, .int .i64 leak, .int .i64 energy] 32)) w3 := Grows.trans gg g
  clear g
  obtain ⟨y0, y1, y2, y3, y4, y5, y6, yl⟩ := HK.out _ gg
  go_wp2_with (go_at_call 39; refine (within_any _ _ _ _).mono ?_; rintro e w' ⟨rfl, rfl⟩; first | rw [FL.out] | rw [FE.out])
  refine (isOfKind_any _ (HC.out.keep (Grows.keeps gg)) H2.out H5.out).mono ?_
  rintro e w4 ⟨rfl, g⟩
  rw [FK.out]
  replace gg : Grows (w.alloc (.cells #[.string name, .int .i64 kind, .slice A pins.length np, .slice B arcs.length na, .slice T truth.length nt, .int .i64 leak, .int .i64 energy] 32)) w4 := Grows.trans gg g
  clear g
  obtain ⟨y0, y1, y2, y3, y4, y5, y6, yl⟩ := HK.out _ gg
  go_wp2
  go_ret
  exact ⟨ret_bool EP.out.symm, GW.out.trans gg⟩
end Go.Proofs.YtcaklodecejkhaaDoor
