/-
  Contracts of ClockPin and PinNamed, the reference's and the program's.
-/
import Derived.Test.YtcaklodecejkhaaDoorSCell
import Derived.Test.YtcaklodecejkhaaDoorIIsCell
namespace Go.Proofs.YtcaklodecejkhaaDoor
open Go.RowKit
def pinI (s : ByteArray) (ps : List PinD) : Int := idxF (fun p => decide (p.name = s)) ps
noncomputable def clockV (x : CellD) : Int := if cellB x = true then clkI x.pins else -1
noncomputable def pinV (s : ByteArray) (x : CellD) : Int := if cellB x = true then pinI s x.pins else -1
set_option maxHeartbeats 1000000 in
theorem l03Clock_any {v0 v1 v2 v3 v4 v5 v6 : Value} {x : CellD} (w : World) (h : RCell w [v0, v1, v2, v3, v4, v5, v6] x) :
    Calls Tryd.prog 43 #[.agg #[v0, v1, v2, v3, v4, v5, v6]] w fun e w' => e = .returned (.int .i64 (clkI x.pins)) ∧ Grows w w' := by
  have hp := h.parts.2.2.1
  have hl := RList.len hp
  obtain ⟨A, n0, rfl, -, -, hx⟩ := RList.form hp
  have g0 := (Grows.refl w).alloc (.cells #[v0, v1, .slice A x.pins.length n0, v3, v4, v5, v6] 32)
  have S := hideIt (Blk.new w 32 #[v0, v1, .slice A x.pins.length n0, v3, v4, v5, v6])
  have HX := hideIt hx
  have G := hideIt g0
  clear h hp hx g0
  have k2 : (w.alloc (.cells #[v0, v1, .slice A x.pins.length n0, v3, v4, v5, v6] 32)).cell? ⟨w.heap.size, 2, none⟩ = some (.slice A x.pins.length n0) := S.out.cell 2
  go_enter Tryd.func43, Tryd.ntmps43
  go_wp2
  go_loop [3] (fun i => ∃ k : Nat, k ≤ x.pins.length ∧ i = .int .i64 (k : Int) ∧ Hid (∀ (j : Nat) (p : PinD), j < k → x.pins[j]? = some p → p.clock = false)) (fun i => x.pins.length - (intOf i).toNat)
  case atStart => exact ⟨0, by omega, rfl, fun j p hj => absurd hj (by omega)⟩
  case round =>
    obtain ⟨k, hk, rfl, hco⟩ := hrel
    by_cases hlt : k < x.pins.length
    · obtain ⟨p, hp⟩ : ∃ p, x.pins[k]? = some p := ⟨_, List.getElem?_eq_getElem hlt⟩
      obtain ⟨b, off, rfl, cs, hl1, hcs, hr⟩ := HX.out k p hp
      obtain ⟨d0, d1, d2, d3, rfl⟩ := list4 hl1
      obtain ⟨rfl, rfl, rfl, rfl, -⟩ := hr.parts
      have kp : (w.alloc (.cells #[v0, v1, .slice (some ⟨b, off, none⟩) x.pins.length n0, v3, v4, v5, v6] 32)).cell? ⟨b, off + k * 4 + 3, none⟩ = some (.bool p.clock) := G.out.keeps _ _ (by simpa [Nat.add_assoc] using hcs 3 _ rfl)
      have P1 := hideIt hp
      clear hcs hl1 hr hp
      cases hq : p.clock
      · have hb := hq
        rw [hb] at kp
        have HQ := hideIt hq
        clear hq
        go_wp2
        go_round
        case rel => exact ⟨k + 1, by omega, by go_num, fun j q hj hy => by
          by_cases e : j = k
          · subst e; rw [P1.out] at hy; injection hy with hy; rw [← hy]; exact HQ.out
          · exact hco.out j q (by omega) hy⟩
        case measure => simp [intOf]; omega
      · have EV := hideIt (show clkI x.pins = (k : Int) from idxF_hit P1.out hq hco.out)
        rw [hq] at kp
        clear hq
        go_wp2
        go_ret
        exact ⟨ret_int EV.out.symm, G.out⟩
    · obtain rfl : k = x.pins.length := by omega
      have EV := hideIt (show clkI x.pins = -1 from idxF_miss hco.out)
      clear hco
      go_wp2
      go_ret
      exact ⟨ret_int EV.out.symm, G.out⟩
set_option maxHeartbeats 1000000 in
theorem l03Pin_any {v0 v1 v2 v3 v4 v5 v6 : Value} {x : CellD} (s : ByteArray) (w : World) (h : RCell w [v0, v1, v2, v3, v4, v5, v6] x) :
    Calls Tryd.prog 45 #[.agg #[v0, v1, v2, v3, v4, v5, v6], .string s] w fun e w' => e = .returned (.int .i64 (pinI s x.pins)) ∧ Grows w w' := by
  have hp := h.parts.2.2.1
  have hl := RList.len hp
  obtain ⟨A, n0, rfl, -, -, hx⟩ := RList.form hp
  have g0 := (Grows.refl w).alloc (.cells #[v0, v1, .slice A x.pins.length n0, v3, v4, v5, v6] 32)
  have S := hideIt (Blk.new w 32 #[v0, v1, .slice A x.pins.length n0, v3, v4, v5, v6])
  have HX := hideIt hx
  have G := hideIt g0
  clear h hp hx g0
  have k2 : (w.alloc (.cells #[v0, v1, .slice A x.pins.length n0, v3, v4, v5, v6] 32)).cell? ⟨w.heap.size, 2, none⟩ = some (.slice A x.pins.length n0) := S.out.cell 2
  go_enter Tryd.func45, Tryd.ntmps45
  go_wp2
  go_loop [5] (fun i => ∃ k : Nat, k ≤ x.pins.length ∧ i = .int .i64 (k : Int) ∧ Hid (∀ (j : Nat) (p : PinD), j < k → x.pins[j]? = some p → decide (p.name = s) = false)) (fun i => x.pins.length - (intOf i).toNat)
  case atStart => exact ⟨0, by omega, rfl, fun j p hj => absurd hj (by omega)⟩
  case round =>
    obtain ⟨k, hk, rfl, hco⟩ := hrel
    by_cases hlt : k < x.pins.length
    · obtain ⟨p, hp⟩ : ∃ p, x.pins[k]? = some p := ⟨_, List.getElem?_eq_getElem hlt⟩
      obtain ⟨b, off, rfl, cs, hl1, hcs, hr⟩ := HX.out k p hp
      obtain ⟨d0, d1, d2, d3, rfl⟩ := list4 hl1
      obtain ⟨rfl, rfl, rfl, rfl, -⟩ := hr.parts
      have kp : (w.alloc (.cells #[v0, v1, .slice (some ⟨b, off, none⟩) x.pins.length n0, v3, v4, v5, v6] 32)).cell? ⟨b, off + k * 4, none⟩ = some (.string p.name) := G.out.keeps _ _ (by simpa [Nat.add_assoc] using hcs 0 _ rfl)
      have P1 := hideIt hp
      clear hcs hl1 hr hp
      cases hq : decide (p.name = s)
      · have he1 := strNe (of_decide_eq_false hq)
        have HQ := hideIt hq
        clear hq
        go_wp2
        go_round
        case rel => exact ⟨k + 1, by omega, by go_num, fun j q hj hy => by
          by_cases e : j = k
          · subst e; rw [P1.out] at hy; injection hy with hy; rw [← hy]; exact HQ.out
          · exact hco.out j q (by omega) hy⟩
        case measure => simp [intOf]; omega
      · have EV := hideIt (show pinI s x.pins = (k : Int) from idxF_hit P1.out hq hco.out)
        have he0 := of_decide_eq_true hq
        rw [he0] at kp
        clear he0
        clear hq
        go_wp2
        go_ret
        exact ⟨ret_int EV.out.symm, G.out⟩
    · obtain rfl : k = x.pins.length := by omega
      have EV := hideIt (show pinI s x.pins = -1 from idxF_miss hco.out)
      clear hco
      go_wp2
      go_ret
      exact ⟨ret_int EV.out.symm, G.out⟩
theorem pinNamed1_any (s : ByteArray) (x : PinD) (c0 c1 c2 c3 : Value) (g : Nat) (W : World) (hr : RPin W [c0, c1, c2, c3] x) (hb : W.cell? ⟨g, 0, none⟩ = some (.string s)) :
    Calls Tryd.prog 71 #[.agg #[c0, c1, c2, c3], .pointer (some ⟨g, 0, none⟩)] W fun e W' => e = .returned (.bool (decide (x.name = s))) ∧ Grows W W' := by
  obtain ⟨rfl, rfl, rfl, rfl, -⟩ := hr.parts
  have lb := cell_lt hb
  simp at lb
  clear hr
  by_cases he : x.name = s
  · have E := hideIt (decide_eq_true he)
    rw [he]
    clear he
    go_enter Tryd.func71, Tryd.ntmps71
    go_wp2
    go_ret
    exact ⟨ret_bool (by simp), (Grows.refl _).alloc _⟩
  · have E := hideIt (decide_eq_false he)
    have he1 := strNe he
    go_enter Tryd.func71, Tryd.ntmps71
    go_wp2
    go_ret
    exact ⟨ret_bool E.out.symm, (Grows.refl _).alloc _⟩
set_option maxHeartbeats 400000 in
theorem iPinNamed_any {v0 v1 v2 v3 v4 v5 v6 : Value} {x : CellD} (s : ByteArray) (w : World) (h : RCell w [v0, v1, v2, v3, v4, v5, v6] x) :
    Calls Tryd.prog 46 #[.agg #[v0, v1, v2, v3, v4, v5, v6], .string s] w fun e w' => e = .returned (.int .i64 (pinI s x.pins)) ∧ Grows w w' := by
  have hp := h.parts.2.2.1
  obtain ⟨A, n0, rfl⟩ : ∃ (A : Option Addr) (n0 : Nat), v2 = .slice A x.pins.length n0 := by obtain ⟨D, c, e, -⟩ := RList.form hp; exact ⟨D, c, e⟩
  have g0 := ((Grows.refl w).alloc (.cells #[v0, v1, .slice A x.pins.length n0, v3, v4, v5, v6] 32)).alloc (.cells #[.string s] 9)
  have H := hideIt (RPins.keep hp g0.keeps)
  have G := hideIt g0
  clear hp h g0
  go_enter Tryd.func46, Tryd.ntmps46
  go_wp2_with fail
  refine (indexFuncPin_any 71 _ (fun args W => enters_of Tryd.func71 (by kernel_rfl) rfl args W) (fun p => decide (p.name = s)) _ H.out ?_).mono ?_
  · intro y c0 c1 c2 c3 W _ gw hr
    exact pinNamed1_any s y c0 c1 c2 c3 _ W hr (gw.keeps _ _ (by simp))
  rintro e w1 ⟨rfl, g1⟩
  have G1 := hideIt (G.out.trans g1)
  clear g1
  go_wp2
  go_ret
  exact ⟨ret_int (by rfl), G1.out⟩
set_option maxHeartbeats 1000000 in
theorem sClockPin_any {v0 v1 v2 v3 v4 v5 v6 : Value} {x : CellD} (w : World) (h : RCell w [v0, v1, v2, v3, v4, v5, v6] x) :
    Calls Tryd.prog 14 #[.agg #[v0, v1, v2, v3, v4, v5, v6]] w fun e w' => e = .returned (.int .i64 (clockV x)) ∧ Grows w w' := by
  obtain ⟨A, n0, e2⟩ : ∃ (A : Option Addr) (n0 : Nat), v2 = .slice A x.pins.length n0 := by obtain ⟨D, c, e, -⟩ := RList.form h.parts.2.2.1; exact ⟨D, c, e⟩
  subst e2
  have g0 := (Grows.refl w).alloc (.cells #[v0, v1, .slice A x.pins.length n0, v3, v4, v5, v6] 32)
  have S := hideIt (Blk.new w 32 #[v0, v1, .slice A x.pins.length n0, v3, v4, v5, v6])
  have H := hideIt (h.keep g0.keeps)
  have G := hideIt g0
  have EV : Hid (clockV x = if cellB x = true then clkI x.pins else -1) := hideIt rfl
  clear h g0
  go_enter Tryd.func14, Tryd.ntmps14
  go_wp2_with fail
  refine (sIsCell_any _ H.out).mono ?_
  rintro e w1 ⟨rfl, g1⟩
  have G1 := hideIt (G.out.trans g1)
  have S1 := hideIt (S.out.grows g1)
  have H1 := hideIt (H.out.keep g1.keeps)
  clear g1
  cases hc : cellB x
  · have E2 := hideIt (EV.out.trans (if_neg (by rw [hc]; decide)))
    clear hc
    go_wp2
    go_ret
    exact ⟨ret_int E2.out.symm, G1.out⟩
  · have E2 := hideIt (EV.out.trans (if_pos hc))
    clear hc
    have kl := S1.out.lt
    have k0 : w1.cell? ⟨w.heap.size, 0, none⟩ = some (v0) := S1.out.cell 0
    have k1 : w1.cell? ⟨w.heap.size, 1, none⟩ = some (v1) := S1.out.cell 1
    have k2 : w1.cell? ⟨w.heap.size, 2, none⟩ = some (.slice A x.pins.length n0) := S1.out.cell 2
    have k3 : w1.cell? ⟨w.heap.size, 3, none⟩ = some (v3) := S1.out.cell 3
    have k4 : w1.cell? ⟨w.heap.size, 4, none⟩ = some (v4) := S1.out.cell 4
    have k5 : w1.cell? ⟨w.heap.size, 5, none⟩ = some (v5) := S1.out.cell 5
    have k6 : w1.cell? ⟨w.heap.size, 6, none⟩ = some (v6) := S1.out.cell 6
    go_wp2_with fail
    refine (l03Clock_any _ H1.out).mono ?_
    rintro e w2 ⟨rfl, g2⟩
    have G2 := hideIt (G1.out.trans g2)
    clear g2
    go_wp2
    go_ret
    exact ⟨ret_int E2.out.symm, G2.out⟩
set_option maxHeartbeats 1000000 in
theorem sPinNamed_any {v0 v1 v2 v3 v4 v5 v6 : Value} {x : CellD} (s : ByteArray) (w : World) (h : RCell w [v0, v1, v2, v3, v4, v5, v6] x) :
    Calls Tryd.prog 16 #[.agg #[v0, v1, v2, v3, v4, v5, v6], .string s] w fun e w' => e = .returned (.int .i64 (pinV s x)) ∧ Grows w w' := by
  obtain ⟨A, n0, e2⟩ : ∃ (A : Option Addr) (n0 : Nat), v2 = .slice A x.pins.length n0 := by obtain ⟨D, c, e, -⟩ := RList.form h.parts.2.2.1; exact ⟨D, c, e⟩
  subst e2
  have g0 := (Grows.refl w).alloc (.cells #[v0, v1, .slice A x.pins.length n0, v3, v4, v5, v6] 32)
  have S := hideIt (Blk.new w 32 #[v0, v1, .slice A x.pins.length n0, v3, v4, v5, v6])
  have H := hideIt (h.keep g0.keeps)
  have G := hideIt g0
  have EV : Hid (pinV s x = if cellB x = true then pinI s x.pins else -1) := hideIt rfl
  clear h g0
  go_enter Tryd.func16, Tryd.ntmps16
  go_wp2_with fail
  refine (sIsCell_any _ H.out).mono ?_
  rintro e w1 ⟨rfl, g1⟩
  have G1 := hideIt (G.out.trans g1)
  have S1 := hideIt (S.out.grows g1)
  have H1 := hideIt (H.out.keep g1.keeps)
  clear g1
  cases hc : cellB x
  · have E2 := hideIt (EV.out.trans (if_neg (by rw [hc]; decide)))
    clear hc
    go_wp2
    go_ret
    exact ⟨ret_int E2.out.symm, G1.out⟩
  · have E2 := hideIt (EV.out.trans (if_pos hc))
    clear hc
    have kl := S1.out.lt
    have k0 : w1.cell? ⟨w.heap.size, 0, none⟩ = some (v0) := S1.out.cell 0
    have k1 : w1.cell? ⟨w.heap.size, 1, none⟩ = some (v1) := S1.out.cell 1
    have k2 : w1.cell? ⟨w.heap.size, 2, none⟩ = some (.slice A x.pins.length n0) := S1.out.cell 2
    have k3 : w1.cell? ⟨w.heap.size, 3, none⟩ = some (v3) := S1.out.cell 3
    have k4 : w1.cell? ⟨w.heap.size, 4, none⟩ = some (v4) := S1.out.cell 4
    have k5 : w1.cell? ⟨w.heap.size, 5, none⟩ = some (v5) := S1.out.cell 5
    have k6 : w1.cell? ⟨w.heap.size, 6, none⟩ = some (v6) := S1.out.cell 6
    go_wp2_with fail
    refine (l03Pin_any s _ H1.out).mono ?_
    rintro e w2 ⟨rfl, g2⟩
    have G2 := hideIt (G1.out.trans g2)
    clear g2
    go_wp2
    go_ret
    exact ⟨ret_int E2.out.symm, G2.out⟩
set_option maxHeartbeats 1000000 in
theorem iClockPin_any {v0 v1 v2 v3 v4 v5 v6 : Value} {x : CellD} (w : World) (h : RCell w [v0, v1, v2, v3, v4, v5, v6] x) (hsm : SmL x.pins) :
    Calls Tryd.prog 15 #[.agg #[v0, v1, v2, v3, v4, v5, v6]] w fun e w' => e = .returned (.int .i64 (clockV x)) ∧ Grows w w' := by
  obtain ⟨A, n0, e2⟩ : ∃ (A : Option Addr) (n0 : Nat), v2 = .slice A x.pins.length n0 := by obtain ⟨D, c, e, -⟩ := RList.form h.parts.2.2.1; exact ⟨D, c, e⟩
  subst e2
  have g0 := (Grows.refl w).alloc (.cells #[v0, v1, .slice A x.pins.length n0, v3, v4, v5, v6] 32)
  have S := hideIt (Blk.new w 32 #[v0, v1, .slice A x.pins.length n0, v3, v4, v5, v6])
  have H := hideIt (h.keep g0.keeps)
  have G := hideIt g0
  have EV : Hid (clockV x = if cellB x = true then clkI x.pins else -1) := hideIt rfl
  clear h g0
  go_enter Tryd.func15, Tryd.ntmps15
  go_wp2_with fail
  refine (iIsCell_any _ H.out hsm).mono ?_
  rintro e w1 ⟨rfl, g1⟩
  have G1 := hideIt (G.out.trans g1)
  have S1 := hideIt (S.out.grows g1)
  have H1 := hideIt (H.out.keep g1.keeps)
  clear g1
  cases hc : cellB x
  · have E2 := hideIt (EV.out.trans (if_neg (by rw [hc]; decide)))
    clear hc
    go_wp2
    go_ret
    exact ⟨ret_int E2.out.symm, G1.out⟩
  · have E2 := hideIt (EV.out.trans (if_pos hc))
    clear hc
    have kl := S1.out.lt
    have k0 : w1.cell? ⟨w.heap.size, 0, none⟩ = some (v0) := S1.out.cell 0
    have k1 : w1.cell? ⟨w.heap.size, 1, none⟩ = some (v1) := S1.out.cell 1
    have k2 : w1.cell? ⟨w.heap.size, 2, none⟩ = some (.slice A x.pins.length n0) := S1.out.cell 2
    have k3 : w1.cell? ⟨w.heap.size, 3, none⟩ = some (v3) := S1.out.cell 3
    have k4 : w1.cell? ⟨w.heap.size, 4, none⟩ = some (v4) := S1.out.cell 4
    have k5 : w1.cell? ⟨w.heap.size, 5, none⟩ = some (v5) := S1.out.cell 5
    have k6 : w1.cell? ⟨w.heap.size, 6, none⟩ = some (v6) := S1.out.cell 6
    go_wp2_with fail
    refine (clock_any _ H1.out).mono ?_
    rintro e w2 ⟨rfl, g2⟩
    have G2 := hideIt (G1.out.trans g2)
    clear g2
    go_wp2
    go_ret
    exact ⟨ret_int E2.out.symm, G2.out⟩
set_option maxHeartbeats 1000000 in
theorem iPinNamedT_any {v0 v1 v2 v3 v4 v5 v6 : Value} {x : CellD} (s : ByteArray) (w : World) (h : RCell w [v0, v1, v2, v3, v4, v5, v6] x) (hsm : SmL x.pins) :
    Calls Tryd.prog 17 #[.agg #[v0, v1, v2, v3, v4, v5, v6], .string s] w fun e w' => e = .returned (.int .i64 (pinV s x)) ∧ Grows w w' := by
  obtain ⟨A, n0, e2⟩ : ∃ (A : Option Addr) (n0 : Nat), v2 = .slice A x.pins.length n0 := by obtain ⟨D, c, e, -⟩ := RList.form h.parts.2.2.1; exact ⟨D, c, e⟩
  subst e2
  have g0 := (Grows.refl w).alloc (.cells #[v0, v1, .slice A x.pins.length n0, v3, v4, v5, v6] 32)
  have S := hideIt (Blk.new w 32 #[v0, v1, .slice A x.pins.length n0, v3, v4, v5, v6])
  have H := hideIt (h.keep g0.keeps)
  have G := hideIt g0
  have EV : Hid (pinV s x = if cellB x = true then pinI s x.pins else -1) := hideIt rfl
  clear h g0
  go_enter Tryd.func17, Tryd.ntmps17
  go_wp2_with fail
  refine (iIsCell_any _ H.out hsm).mono ?_
  rintro e w1 ⟨rfl, g1⟩
  have G1 := hideIt (G.out.trans g1)
  have S1 := hideIt (S.out.grows g1)
  have H1 := hideIt (H.out.keep g1.keeps)
  clear g1
  cases hc : cellB x
  · have E2 := hideIt (EV.out.trans (if_neg (by rw [hc]; decide)))
    clear hc
    go_wp2
    go_ret
    exact ⟨ret_int E2.out.symm, G1.out⟩
  · have E2 := hideIt (EV.out.trans (if_pos hc))
    clear hc
    have kl := S1.out.lt
    have k0 : w1.cell? ⟨w.heap.size, 0, none⟩ = some (v0) := S1.out.cell 0
    have k1 : w1.cell? ⟨w.heap.size, 1, none⟩ = some (v1) := S1.out.cell 1
    have k2 : w1.cell? ⟨w.heap.size, 2, none⟩ = some (.slice A x.pins.length n0) := S1.out.cell 2
    have k3 : w1.cell? ⟨w.heap.size, 3, none⟩ = some (v3) := S1.out.cell 3
    have k4 : w1.cell? ⟨w.heap.size, 4, none⟩ = some (v4) := S1.out.cell 4
    have k5 : w1.cell? ⟨w.heap.size, 5, none⟩ = some (v5) := S1.out.cell 5
    have k6 : w1.cell? ⟨w.heap.size, 6, none⟩ = some (v6) := S1.out.cell 6
    go_wp2_with fail
    refine (iPinNamed_any s _ H1.out).mono ?_
    rintro e w2 ⟨rfl, g2⟩
    have G2 := hideIt (G1.out.trans g2)
    clear g2
    go_wp2
    go_ret
    exact ⟨ret_int E2.out.symm, G2.out⟩
end Go.Proofs.YtcaklodecejkhaaDoor
