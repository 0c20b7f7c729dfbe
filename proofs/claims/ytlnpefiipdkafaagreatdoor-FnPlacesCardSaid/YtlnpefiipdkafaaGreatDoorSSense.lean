/-
  Contract of the reference's sense of an input.
-/
import Derived.Test.YtlnpefiipdkafaaGreatDoorSenseM
import Derived.Test.YtlnpefiipdkafaaGreatDoorGC
namespace Go.Proofs.YtlnpefiipdkafaaGreatDoor
open Go.RowKit
set_option maxHeartbeats 4000000 in
theorem l03Sense_0 {v0 v1 v2 v3 v4 v5 v6 : Value} {x : CellD} (w : World) (h : RCell w [v0, v1, v2, v3, v4, v5, v6] x) (hg : GateT x.truth 0) :
    Calls Tryz.prog 118 #[.agg #[v0, v1, v2, v3, v4, v5, v6], .int .i64 0] w fun e w' => e = .returned (.int .i64 (senN x.truth 0)) ∧ Grows w w' := by
  have ht := h.parts.2.2.2.2.1
  have tl := hg.len
  obtain ⟨T, nt, rfl, -, -, hx⟩ := RList.form ht
  have g0 := (Grows.refl w).alloc (.cells #[v0, v1, v2, v3, .slice T x.truth.length nt, v5, v6] 112)
  have S := hideIt (Blk.new w 112 #[v0, v1, v2, v3, .slice T x.truth.length nt, v5, v6])
  have HX := hideIt hx
  have HG := hideIt hg
  have G := hideIt g0
  clear h ht hx g0 hg
  have k4 : (w.alloc (.cells #[v0, v1, v2, v3, .slice T x.truth.length nt, v5, v6] 112)).cell? ⟨w.heap.size, 4, none⟩ = some (.slice T x.truth.length nt) := S.out.cell 4
  have hwb : IntKind.i64.wrap 1 = 1 := by decide
  go_enter Tryz.func118, Tryz.ntmps118
  go_wp2
  go_loopw [5, 6, 8] (fun r l i wr => ∃ k : Nat, k ≤ x.truth.length ∧ i = .int .i64 (k : Int) ∧ r = .bool (rB x.truth 0 k) ∧ l = .bool (lB x.truth 0 k) ∧ Grows (w.alloc (.cells #[v0, v1, v2, v3, .slice T x.truth.length nt, v5, v6] 112)) wr) (fun _ _ i _ => x.truth.length - (intOf i).toNat)
  case atStart => exact ⟨0, by omega, rfl, rfl, rfl, Grows.refl _⟩
  case round =>
    obtain ⟨k, hk, rfl, rfl, rfl, hg⟩ := hrel
    have HGR := hideIt hg
    have kl := (S.out.grows hg).lt
    have k4 : wr.cell? ⟨w.heap.size, 4, none⟩ = some (.slice T x.truth.length nt) := (S.out.grows hg).cell 4
    clear hg
    by_cases hlt : k < x.truth.length
    · obtain ⟨a, ha⟩ : ∃ a, x.truth[k]? = some a := ⟨_, List.getElem?_eq_getElem hlt⟩
      obtain ⟨b, off, rfl, cs, hl1, hcs, hr⟩ := HX.out k a ha
      unfold RI at hr
      subst hr
      have ka : wr.cell? ⟨b, off + k, none⟩ = some (.int .i64 a) := (G.out.trans HGR.out).keeps _ _ (by simpa using hcs 0 _ rfl)
      clear hcs hl1
      have hq0 : (bits BinOp.and IntKind.i64 (k : Int) 1 != 0) = k.testBit 0 := and_bit' ⟨0, by decide⟩ ⟨k, by omega⟩
      cases hb : k.testBit 0
      rotate_left
      · have R1 := hideIt (rB_skip (t := x.truth) hb)
        have R2 := hideIt (lB_skip (t := x.truth) hb)
        rw [hb] at hq0
        have K2 := hideIt hk
        clear hb ha
        generalize rB x.truth 0 k = r at *
        generalize lB x.truth 0 k = l at *
        go_wp2
        go_roundw
        case rel => exact ⟨k + 1, by omega, by go_num, by rw [R1.out], by rw [R2.out], HGR.out⟩
        case measure => simp [intOf]; omega
      · have hup := HG.out.up k hlt hb
        obtain ⟨c, hc⟩ : ∃ c, x.truth[k + 2 ^ 0]? = some c := ⟨_, List.getElem?_eq_getElem hup⟩
        obtain ⟨b', off', e, cs, hl1, hcs, hr⟩ := HX.out _ c hc
        injection e with e
        injection e with e1 e2
        subst e1 e2
        unfold RI at hr
        subst hr
        have kc : wr.cell? ⟨b, off + (k + 1), none⟩ = some (.int .i64 c) := (G.out.trans HGR.out).keeps _ _ (by simpa using hcs 0 _ rfl)
        have hup2 : (k : Int) + 1 < (x.truth.length : Int) := by simp only [Nat.reducePow] at hup; omega
        have R1 := hideIt (rB_at hb ha hc)
        have R2 := hideIt (lB_at hb ha hc)
        have a01 := HG.out.bit _ _ ha
        have c01 := HG.out.bit _ _ hc
        rw [hb] at hq0
        clear hcs hl1 ha hc hup
        have ew : IntKind.i64.wrap ((k : Int) + 1) = (k : Int) + 1 := IntWalk.i64_in _ (by omega)
        have en : ((k : Int) + 1).toNat = k + 1 := by omega
        have nn : (0 : Int) ≤ (k : Int) + 1 := by omega
        clear hb a01 c01
        generalize rB x.truth 0 k = r at *
        generalize lB x.truth 0 k = l at *
        cases r <;> cases l
        all_goals
          go_wp2
          go_quiet (fail)
          go_wp2
          go_quiet (fail)
          go_wp2
          go_roundw
          case rel => exact ⟨k + 1, by omega, by go_num, by rw [R1.out]; simp, by rw [R2.out]; simp, by first | exact HGR.out | exact HGR.out.drewN _ | exact (HGR.out.drewN _).drewN _⟩
          case measure => simp [intOf]; omega
    · obtain rfl : k = x.truth.length := by omega
      have EV : Hid (senN x.truth 0 = senV (rB x.truth 0 x.truth.length) (lB x.truth 0 x.truth.length)) := hideIt rfl
      generalize rB x.truth 0 x.truth.length = r at *
      generalize lB x.truth 0 x.truth.length = l at *
      cases r <;> cases l
      all_goals
        go_wp2
        go_ret
        exact ⟨ret_int (by rw [EV.out]; rfl), G.out.trans HGR.out⟩
set_option maxHeartbeats 4000000 in
theorem l03Sense_1 {v0 v1 v2 v3 v4 v5 v6 : Value} {x : CellD} (w : World) (h : RCell w [v0, v1, v2, v3, v4, v5, v6] x) (hg : GateT x.truth 1) :
    Calls Tryz.prog 118 #[.agg #[v0, v1, v2, v3, v4, v5, v6], .int .i64 1] w fun e w' => e = .returned (.int .i64 (senN x.truth 1)) ∧ Grows w w' := by
  have ht := h.parts.2.2.2.2.1
  have tl := hg.len
  obtain ⟨T, nt, rfl, -, -, hx⟩ := RList.form ht
  have g0 := (Grows.refl w).alloc (.cells #[v0, v1, v2, v3, .slice T x.truth.length nt, v5, v6] 112)
  have S := hideIt (Blk.new w 112 #[v0, v1, v2, v3, .slice T x.truth.length nt, v5, v6])
  have HX := hideIt hx
  have HG := hideIt hg
  have G := hideIt g0
  clear h ht hx g0 hg
  have k4 : (w.alloc (.cells #[v0, v1, v2, v3, .slice T x.truth.length nt, v5, v6] 112)).cell? ⟨w.heap.size, 4, none⟩ = some (.slice T x.truth.length nt) := S.out.cell 4
  have hwb : IntKind.i64.wrap 2 = 2 := by decide
  go_enter Tryz.func118, Tryz.ntmps118
  go_wp2
  go_loopw [5, 6, 8] (fun r l i wr => ∃ k : Nat, k ≤ x.truth.length ∧ i = .int .i64 (k : Int) ∧ r = .bool (rB x.truth 1 k) ∧ l = .bool (lB x.truth 1 k) ∧ Grows (w.alloc (.cells #[v0, v1, v2, v3, .slice T x.truth.length nt, v5, v6] 112)) wr) (fun _ _ i _ => x.truth.length - (intOf i).toNat)
  case atStart => exact ⟨0, by omega, rfl, rfl, rfl, Grows.refl _⟩
  case round =>
    obtain ⟨k, hk, rfl, rfl, rfl, hg⟩ := hrel
    have HGR := hideIt hg
    have kl := (S.out.grows hg).lt
    have k4 : wr.cell? ⟨w.heap.size, 4, none⟩ = some (.slice T x.truth.length nt) := (S.out.grows hg).cell 4
    clear hg
    by_cases hlt : k < x.truth.length
    · obtain ⟨a, ha⟩ : ∃ a, x.truth[k]? = some a := ⟨_, List.getElem?_eq_getElem hlt⟩
      obtain ⟨b, off, rfl, cs, hl1, hcs, hr⟩ := HX.out k a ha
      unfold RI at hr
      subst hr
      have ka : wr.cell? ⟨b, off + k, none⟩ = some (.int .i64 a) := (G.out.trans HGR.out).keeps _ _ (by simpa using hcs 0 _ rfl)
      clear hcs hl1
      have hq0 : (bits BinOp.and IntKind.i64 (k : Int) 2 != 0) = k.testBit 1 := and_bit' ⟨1, by decide⟩ ⟨k, by omega⟩
      cases hb : k.testBit 1
      rotate_left
      · have R1 := hideIt (rB_skip (t := x.truth) hb)
        have R2 := hideIt (lB_skip (t := x.truth) hb)
        rw [hb] at hq0
        have K2 := hideIt hk
        clear hb ha
        generalize rB x.truth 1 k = r at *
        generalize lB x.truth 1 k = l at *
        go_wp2
        go_roundw
        case rel => exact ⟨k + 1, by omega, by go_num, by rw [R1.out], by rw [R2.out], HGR.out⟩
        case measure => simp [intOf]; omega
      · have hup := HG.out.up k hlt hb
        obtain ⟨c, hc⟩ : ∃ c, x.truth[k + 2 ^ 1]? = some c := ⟨_, List.getElem?_eq_getElem hup⟩
        obtain ⟨b', off', e, cs, hl1, hcs, hr⟩ := HX.out _ c hc
        injection e with e
        injection e with e1 e2
        subst e1 e2
        unfold RI at hr
        subst hr
        have kc : wr.cell? ⟨b, off + (k + 2), none⟩ = some (.int .i64 c) := (G.out.trans HGR.out).keeps _ _ (by simpa using hcs 0 _ rfl)
        have hup2 : (k : Int) + 2 < (x.truth.length : Int) := by simp only [Nat.reducePow] at hup; omega
        have R1 := hideIt (rB_at hb ha hc)
        have R2 := hideIt (lB_at hb ha hc)
        have a01 := HG.out.bit _ _ ha
        have c01 := HG.out.bit _ _ hc
        rw [hb] at hq0
        clear hcs hl1 ha hc hup
        have ew : IntKind.i64.wrap ((k : Int) + 2) = (k : Int) + 2 := IntWalk.i64_in _ (by omega)
        have en : ((k : Int) + 2).toNat = k + 2 := by omega
        have nn : (0 : Int) ≤ (k : Int) + 2 := by omega
        clear hb a01 c01
        generalize rB x.truth 1 k = r at *
        generalize lB x.truth 1 k = l at *
        cases r <;> cases l
        all_goals
          go_wp2
          go_quiet (fail)
          go_wp2
          go_quiet (fail)
          go_wp2
          go_roundw
          case rel => exact ⟨k + 1, by omega, by go_num, by rw [R1.out]; simp, by rw [R2.out]; simp, by first | exact HGR.out | exact HGR.out.drewN _ | exact (HGR.out.drewN _).drewN _⟩
          case measure => simp [intOf]; omega
    · obtain rfl : k = x.truth.length := by omega
      have EV : Hid (senN x.truth 1 = senV (rB x.truth 1 x.truth.length) (lB x.truth 1 x.truth.length)) := hideIt rfl
      generalize rB x.truth 1 x.truth.length = r at *
      generalize lB x.truth 1 x.truth.length = l at *
      cases r <;> cases l
      all_goals
        go_wp2
        go_ret
        exact ⟨ret_int (by rw [EV.out]; rfl), G.out.trans HGR.out⟩
set_option maxHeartbeats 4000000 in
theorem l03Sense_2 {v0 v1 v2 v3 v4 v5 v6 : Value} {x : CellD} (w : World) (h : RCell w [v0, v1, v2, v3, v4, v5, v6] x) (hg : GateT x.truth 2) :
    Calls Tryz.prog 118 #[.agg #[v0, v1, v2, v3, v4, v5, v6], .int .i64 2] w fun e w' => e = .returned (.int .i64 (senN x.truth 2)) ∧ Grows w w' := by
  have ht := h.parts.2.2.2.2.1
  have tl := hg.len
  obtain ⟨T, nt, rfl, -, -, hx⟩ := RList.form ht
  have g0 := (Grows.refl w).alloc (.cells #[v0, v1, v2, v3, .slice T x.truth.length nt, v5, v6] 112)
  have S := hideIt (Blk.new w 112 #[v0, v1, v2, v3, .slice T x.truth.length nt, v5, v6])
  have HX := hideIt hx
  have HG := hideIt hg
  have G := hideIt g0
  clear h ht hx g0 hg
  have k4 : (w.alloc (.cells #[v0, v1, v2, v3, .slice T x.truth.length nt, v5, v6] 112)).cell? ⟨w.heap.size, 4, none⟩ = some (.slice T x.truth.length nt) := S.out.cell 4
  have hwb : IntKind.i64.wrap 4 = 4 := by decide
  go_enter Tryz.func118, Tryz.ntmps118
  go_wp2
  go_loopw [5, 6, 8] (fun r l i wr => ∃ k : Nat, k ≤ x.truth.length ∧ i = .int .i64 (k : Int) ∧ r = .bool (rB x.truth 2 k) ∧ l = .bool (lB x.truth 2 k) ∧ Grows (w.alloc (.cells #[v0, v1, v2, v3, .slice T x.truth.length nt, v5, v6] 112)) wr) (fun _ _ i _ => x.truth.length - (intOf i).toNat)
  case atStart => exact ⟨0, by omega, rfl, rfl, rfl, Grows.refl _⟩
  case round =>
    obtain ⟨k, hk, rfl, rfl, rfl, hg⟩ := hrel
    have HGR := hideIt hg
    have kl := (S.out.grows hg).lt
    have k4 : wr.cell? ⟨w.heap.size, 4, none⟩ = some (.slice T x.truth.length nt) := (S.out.grows hg).cell 4
    clear hg
    by_cases hlt : k < x.truth.length
    · obtain ⟨a, ha⟩ : ∃ a, x.truth[k]? = some a := ⟨_, List.getElem?_eq_getElem hlt⟩
      obtain ⟨b, off, rfl, cs, hl1, hcs, hr⟩ := HX.out k a ha
      unfold RI at hr
      subst hr
      have ka : wr.cell? ⟨b, off + k, none⟩ = some (.int .i64 a) := (G.out.trans HGR.out).keeps _ _ (by simpa using hcs 0 _ rfl)
      clear hcs hl1
      have hq0 : (bits BinOp.and IntKind.i64 (k : Int) 4 != 0) = k.testBit 2 := and_bit' ⟨2, by decide⟩ ⟨k, by omega⟩
      cases hb : k.testBit 2
      rotate_left
      · have R1 := hideIt (rB_skip (t := x.truth) hb)
        have R2 := hideIt (lB_skip (t := x.truth) hb)
        rw [hb] at hq0
        have K2 := hideIt hk
        clear hb ha
        generalize rB x.truth 2 k = r at *
        generalize lB x.truth 2 k = l at *
        go_wp2
        go_roundw
        case rel => exact ⟨k + 1, by omega, by go_num, by rw [R1.out], by rw [R2.out], HGR.out⟩
        case measure => simp [intOf]; omega
      · have hup := HG.out.up k hlt hb
        obtain ⟨c, hc⟩ : ∃ c, x.truth[k + 2 ^ 2]? = some c := ⟨_, List.getElem?_eq_getElem hup⟩
        obtain ⟨b', off', e, cs, hl1, hcs, hr⟩ := HX.out _ c hc
        injection e with e
        injection e with e1 e2
        subst e1 e2
        unfold RI at hr
        subst hr
        have kc : wr.cell? ⟨b, off + (k + 4), none⟩ = some (.int .i64 c) := (G.out.trans HGR.out).keeps _ _ (by simpa using hcs 0 _ rfl)
        have hup2 : (k : Int) + 4 < (x.truth.length : Int) := by simp only [Nat.reducePow] at hup; omega
        have R1 := hideIt (rB_at hb ha hc)
        have R2 := hideIt (lB_at hb ha hc)
        have a01 := HG.out.bit _ _ ha
        have c01 := HG.out.bit _ _ hc
        rw [hb] at hq0
        clear hcs hl1 ha hc hup
        have ew : IntKind.i64.wrap ((k : Int) + 4) = (k : Int) + 4 := IntWalk.i64_in _ (by omega)
        have en : ((k : Int) + 4).toNat = k + 4 := by omega
        have nn : (0 : Int) ≤ (k : Int) + 4 := by omega
        clear hb a01 c01
        generalize rB x.truth 2 k = r at *
        generalize lB x.truth 2 k = l at *
        cases r <;> cases l
        all_goals
          go_wp2
          go_quiet (fail)
          go_wp2
          go_quiet (fail)
          go_wp2
          go_roundw
          case rel => exact ⟨k + 1, by omega, by go_num, by rw [R1.out]; simp, by rw [R2.out]; simp, by first | exact HGR.out | exact HGR.out.drewN _ | exact (HGR.out.drewN _).drewN _⟩
          case measure => simp [intOf]; omega
    · obtain rfl : k = x.truth.length := by omega
      have EV : Hid (senN x.truth 2 = senV (rB x.truth 2 x.truth.length) (lB x.truth 2 x.truth.length)) := hideIt rfl
      generalize rB x.truth 2 x.truth.length = r at *
      generalize lB x.truth 2 x.truth.length = l at *
      cases r <;> cases l
      all_goals
        go_wp2
        go_ret
        exact ⟨ret_int (by rw [EV.out]; rfl), G.out.trans HGR.out⟩
set_option maxHeartbeats 4000000 in
theorem l03Sense_3 {v0 v1 v2 v3 v4 v5 v6 : Value} {x : CellD} (w : World) (h : RCell w [v0, v1, v2, v3, v4, v5, v6] x) (hg : GateT x.truth 3) :
    Calls Tryz.prog 118 #[.agg #[v0, v1, v2, v3, v4, v5, v6], .int .i64 3] w fun e w' => e = .returned (.int .i64 (senN x.truth 3)) ∧ Grows w w' := by
  have ht := h.parts.2.2.2.2.1
  have tl := hg.len
  obtain ⟨T, nt, rfl, -, -, hx⟩ := RList.form ht
  have g0 := (Grows.refl w).alloc (.cells #[v0, v1, v2, v3, .slice T x.truth.length nt, v5, v6] 112)
  have S := hideIt (Blk.new w 112 #[v0, v1, v2, v3, .slice T x.truth.length nt, v5, v6])
  have HX := hideIt hx
  have HG := hideIt hg
  have G := hideIt g0
  clear h ht hx g0 hg
  have k4 : (w.alloc (.cells #[v0, v1, v2, v3, .slice T x.truth.length nt, v5, v6] 112)).cell? ⟨w.heap.size, 4, none⟩ = some (.slice T x.truth.length nt) := S.out.cell 4
  have hwb : IntKind.i64.wrap 8 = 8 := by decide
  go_enter Tryz.func118, Tryz.ntmps118
  go_wp2
  go_loopw [5, 6, 8] (fun r l i wr => ∃ k : Nat, k ≤ x.truth.length ∧ i = .int .i64 (k : Int) ∧ r = .bool (rB x.truth 3 k) ∧ l = .bool (lB x.truth 3 k) ∧ Grows (w.alloc (.cells #[v0, v1, v2, v3, .slice T x.truth.length nt, v5, v6] 112)) wr) (fun _ _ i _ => x.truth.length - (intOf i).toNat)
  case atStart => exact ⟨0, by omega, rfl, rfl, rfl, Grows.refl _⟩
  case round =>
    obtain ⟨k, hk, rfl, rfl, rfl, hg⟩ := hrel
    have HGR := hideIt hg
    have kl := (S.out.grows hg).lt
    have k4 : wr.cell? ⟨w.heap.size, 4, none⟩ = some (.slice T x.truth.length nt) := (S.out.grows hg).cell 4
    clear hg
    by_cases hlt : k < x.truth.length
    · obtain ⟨a, ha⟩ : ∃ a, x.truth[k]? = some a := ⟨_, List.getElem?_eq_getElem hlt⟩
      obtain ⟨b, off, rfl, cs, hl1, hcs, hr⟩ := HX.out k a ha
      unfold RI at hr
      subst hr
      have ka : wr.cell? ⟨b, off + k, none⟩ = some (.int .i64 a) := (G.out.trans HGR.out).keeps _ _ (by simpa using hcs 0 _ rfl)
      clear hcs hl1
      have hq0 : (bits BinOp.and IntKind.i64 (k : Int) 8 != 0) = k.testBit 3 := and_bit' ⟨3, by decide⟩ ⟨k, by omega⟩
      cases hb : k.testBit 3
      rotate_left
      · have R1 := hideIt (rB_skip (t := x.truth) hb)
        have R2 := hideIt (lB_skip (t := x.truth) hb)
        rw [hb] at hq0
        have K2 := hideIt hk
        clear hb ha
        generalize rB x.truth 3 k = r at *
        generalize lB x.truth 3 k = l at *
        go_wp2
        go_roundw
        case rel => exact ⟨k + 1, by omega, by go_num, by rw [R1.out], by rw [R2.out], HGR.out⟩
        case measure => simp [intOf]; omega
      · have hup := HG.out.up k hlt hb
        obtain ⟨c, hc⟩ : ∃ c, x.truth[k + 2 ^ 3]? = some c := ⟨_, List.getElem?_eq_getElem hup⟩
        obtain ⟨b', off', e, cs, hl1, hcs, hr⟩ := HX.out _ c hc
        injection e with e
        injection e with e1 e2
        subst e1 e2
        unfold RI at hr
        subst hr
        have kc : wr.cell? ⟨b, off + (k + 8), none⟩ = some (.int .i64 c) := (G.out.trans HGR.out).keeps _ _ (by simpa using hcs 0 _ rfl)
        have hup2 : (k : Int) + 8 < (x.truth.length : Int) := by simp only [Nat.reducePow] at hup; omega
        have R1 := hideIt (rB_at hb ha hc)
        have R2 := hideIt (lB_at hb ha hc)
        have a01 := HG.out.bit _ _ ha
        have c01 := HG.out.bit _ _ hc
        rw [hb] at hq0
        clear hcs hl1 ha hc hup
        have ew : IntKind.i64.wrap ((k : Int) + 8) = (k : Int) + 8 := IntWalk.i64_in _ (by omega)
        have en : ((k : Int) + 8).toNat = k + 8 := by omega
        have nn : (0 : Int) ≤ (k : Int) + 8 := by omega
        clear hb a01 c01
        generalize rB x.truth 3 k = r at *
        generalize lB x.truth 3 k = l at *
        cases r <;> cases l
        all_goals
          go_wp2
          go_quiet (fail)
          go_wp2
          go_quiet (fail)
          go_wp2
          go_roundw
          case rel => exact ⟨k + 1, by omega, by go_num, by rw [R1.out]; simp, by rw [R2.out]; simp, by first | exact HGR.out | exact HGR.out.drewN _ | exact (HGR.out.drewN _).drewN _⟩
          case measure => simp [intOf]; omega
    · obtain rfl : k = x.truth.length := by omega
      have EV : Hid (senN x.truth 3 = senV (rB x.truth 3 x.truth.length) (lB x.truth 3 x.truth.length)) := hideIt rfl
      generalize rB x.truth 3 x.truth.length = r at *
      generalize lB x.truth 3 x.truth.length = l at *
      cases r <;> cases l
      all_goals
        go_wp2
        go_ret
        exact ⟨ret_int (by rw [EV.out]; rfl), G.out.trans HGR.out⟩
theorem l03Sense_any {v0 v1 v2 v3 v4 v5 v6 : Value} {x : CellD} {p : Nat} (w : World) (h : RCell w [v0, v1, v2, v3, v4, v5, v6] x) (hg : GateT x.truth p) :
    Calls Tryz.prog 118 #[.agg #[v0, v1, v2, v3, v4, v5, v6], .int .i64 (p : Int)] w fun e w' => e = .returned (.int .i64 (senN x.truth p)) ∧ Grows w w' := by
  have := hg.pin
  have hp : p = 0 ∨ p = 1 ∨ p = 2 ∨ p = 3 := by omega
  rcases hp with rfl | rfl | rfl | rfl
  · exact l03Sense_0 w h hg
  · exact l03Sense_1 w h hg
  · exact l03Sense_2 w h hg
  · exact l03Sense_3 w h hg
end Go.Proofs.YtlnpefiipdkafaaGreatDoor
