/-
  The contract of the reference's IsWire.
-/
import Derived.Test.YtgglgghlndhfbaaDoorIsWire
namespace Go.Proofs.YtgglgghlndhfbaaDoor
open Go.RowKit
theorem wire_no {x : WireD} {sinks : Int} (h : ¬ (1 ≤ x.parent.length ∧ x.parent.length ≤ 8) ∨ x.res.length ≠ x.parent.length ∨ x.cap.length ≠ x.parent.length ∨ treeB x.parent x.res = false ∨ wiB x.res 0 1000 = false ∨ wiB x.cap 0 500 = false ∨ (x.sink.length : Int) ≠ sinks ∨ wiB x.sink 0 ((x.parent.length : Int) - 1) = false) : wireB x sinks = false := by
  cases hb : wireB x sinks with
  | false => rfl
  | true =>
    simp only [wireB, Bool.and_eq_true, decide_eq_true_eq] at hb
    obtain ⟨⟨⟨⟨⟨⟨⟨h1, h2⟩, h3⟩, h4⟩, h5⟩, h6⟩, h7⟩, h8⟩ := hb
    have := inB_true h1
    rcases h with h | h | h | h | h | h | h | h
    · omega
    · exact absurd h2 h
    · exact absurd h3 h
    · rw [h4] at h; cases h
    · rw [h5] at h; cases h
    · rw [h6] at h; cases h
    · exact absurd h7 h
    · rw [h8] at h; cases h
theorem wire_yes {x : WireD} {sinks : Int} (h1 : 1 ≤ x.parent.length ∧ x.parent.length ≤ 8) (h2 : x.res.length = x.parent.length) (h3 : x.cap.length = x.parent.length) (h4 : treeB x.parent x.res = true) (h5 : wiB x.res 0 1000 = true) (h6 : wiB x.cap 0 500 = true)
    (h7 : (x.sink.length : Int) = sinks) (h8 : wiB x.sink 0 ((x.parent.length : Int) - 1) = true) : wireB x sinks = true := by
  simp only [wireB, Bool.and_eq_true, decide_eq_true_eq]
  exact ⟨⟨⟨⟨⟨⟨⟨inB_mk (by omega) (by omega), h2⟩, h3⟩, h4⟩, h5⟩, h6⟩, h7⟩, h8⟩
set_option maxHeartbeats 4000000 in
theorem sIsWire_any {a b c d : Value} {x : WireD} {sinks : Int} (w : World) (h : RWire w [a, b, c, d] x) :
    Calls Tryd.prog 63 #[.agg #[a, b, c, d], .int .i64 sinks] w fun e w' => e = .returned (.bool (wireB x sinks)) ∧ Grows w w' := by
  obtain ⟨ha, hb, hc, hd⟩ := h.open_
  have l0 := ha.len
  have l1 := hb.len
  have l2 := hc.len
  have l3 := hd.len
  obtain ⟨A0, n0, rfl, -, -, hxa⟩ := ha.form
  obtain ⟨A1, n1, rfl, -, -, hxb⟩ := hb.form
  obtain ⟨A2, n2, rfl, -, -, hxc⟩ := hc.form
  obtain ⟨A3, n3, rfl, -, -, hxd⟩ := hd.form
  have HA := hideIt hxa
  have HB := hideIt hxb
  have HC := hideIt hxc
  have HD := hideIt hxd
  have GA : Hid (∀ (A0 A1 A2 A3 : Option Addr), Grows w (w.alloc (.cells #[.slice A0 x.parent.length n0, .slice A1 x.res.length n1, .slice A2 x.cap.length n2, .slice A3 x.sink.length n3] 39))) := fun _ _ _ _ => (Grows.refl w).alloc _
  clear ha hb hc hd hxa hxb hxc hxd h
  by_cases q1 : (x.parent.length : Int) < 1
  · have Q := hideIt q1
    go_enter Tryd.func63, Tryd.ntmps63
    go_wp2
    go_ret
    exact ⟨ret_bool (wire_no (.inl (by have := Q.out; omega))).symm, GA.out _ _ _ _⟩
  by_cases q2 : (8 : Int) < x.parent.length
  · have Q := hideIt q2
    go_enter Tryd.func63, Tryd.ntmps63
    go_wp2
    go_ret
    exact ⟨ret_bool (wire_no (.inl (by have := Q.out; omega))).symm, GA.out _ _ _ _⟩
  cases e2 : ((x.res.length : Int) != (x.parent.length : Int))
  case true =>
    have Q := hideIt e2
    go_enter Tryd.func63, Tryd.ntmps63
    go_wp2
    go_ret
    exact ⟨ret_bool (wire_no (.inr (.inl (by have := Q.out; simp at this; omega)))).symm, GA.out _ _ _ _⟩
  cases e3 : ((x.cap.length : Int) != (x.parent.length : Int))
  case true =>
    have Q := hideIt e3
    go_enter Tryd.func63, Tryd.ntmps63
    go_wp2
    go_ret
    exact ⟨ret_bool (wire_no (.inr (.inr (.inl (by have := Q.out; simp at this; omega))))).symm, GA.out _ _ _ _⟩
  cases e7 : ((x.sink.length : Int) != sinks)
  case true =>
    have Q := hideIt e7
    go_enter Tryd.func63, Tryd.ntmps63
    go_wp2
    go_ret
    exact ⟨ret_bool (wire_no (.inr (.inr (.inr (.inr (.inr (.inr (.inl (by have := Q.out; simpa using this))))))))).symm, GA.out _ _ _ _⟩
  have L2 : Hid (x.res.length = x.parent.length) := by have := e2; simp at this; exact hideIt (by omega)
  have L3 : Hid (x.cap.length = x.parent.length) := by have := e3; simp at this; exact hideIt (by omega)
  have L7 : Hid ((x.sink.length : Int) = sinks) := by have := e7; simp at this; exact hideIt this
  have m2 : (x.res.length : Int) ≤ x.parent.length ∧ (x.parent.length : Int) ≤ x.res.length := by have := L2.out; omega
  have m3 : (x.cap.length : Int) ≤ x.parent.length ∧ (x.parent.length : Int) ≤ x.cap.length := by have := L3.out; omega
  obtain ⟨m2, m2'⟩ := m2
  obtain ⟨m3, m3'⟩ := m3
  go_enter Tryd.func63, Tryd.ntmps63
  go_wp2
  go_loop [6] (fun i => ∃ k : Nat, k ≤ x.parent.length ∧ i = .int .i64 (k : Int) ∧ Hid (∀ j, j < k → treeOk x.parent x.res j = true ∧ (∀ y, x.res[j]? = some y → inB y 0 1000 = true) ∧ ∀ y, x.cap[j]? = some y → inB y 0 500 = true)) (fun i => x.parent.length - (intOf i).toNat)
  case atStart => exact ⟨0, Nat.zero_le _, rfl, fun j hj => absurd hj (by omega)⟩
  case round =>
    obtain ⟨k, hk, rfl, hco⟩ := hrel
    by_cases hlt : k < x.parent.length
    · have hlt2 : (k : Int) < x.parent.length := by omega
      obtain ⟨yc, hxyc⟩ : ∃ y, x.cap[k]? = some y := ⟨_, List.getElem?_eq_getElem (by omega)⟩
      obtain ⟨byc, oyc, rfl, csyc, hlyc, hcsyc, hryc⟩ := HC.out (k) yc hxyc
      unfold RI at hryc
      subst hryc
      have hkyc : w.cell? ⟨byc, oyc + (k), none⟩ = some (.int .i64 yc) := by simpa using hcsyc 0 _ rfl
      have hbyc : byc < w.heap.size := cell_lt hkyc
      have Vyc := hideIt hxyc
      clear hcsyc hlyc hxyc
      obtain ⟨yb, hxyb⟩ : ∃ y, x.res[k]? = some y := ⟨_, List.getElem?_eq_getElem (by omega)⟩
      obtain ⟨byb, oyb, rfl, csyb, hlyb, hcsyb, hryb⟩ := HB.out (k) yb hxyb
      unfold RI at hryb
      subst hryb
      have hkyb : w.cell? ⟨byb, oyb + (k), none⟩ = some (.int .i64 yb) := by simpa using hcsyb 0 _ rfl
      have hbyb : byb < w.heap.size := cell_lt hkyb
      have Vyb := hideIt hxyb
      clear hcsyb hlyb hxyb
      obtain ⟨ya, hxya⟩ : ∃ y, x.parent[k]? = some y := ⟨_, List.getElem?_eq_getElem (by omega)⟩
      obtain ⟨bya, oya, rfl, csya, hlya, hcsya, hrya⟩ := HA.out (k) ya hxya
      unfold RI at hrya
      subst hrya
      have hkya : w.cell? ⟨bya, oya + (k), none⟩ = some (.int .i64 ya) := by simpa using hcsya 0 _ rfl
      have hbya : bya < w.heap.size := cell_lt hkya
      have Vya := hideIt hxya
      clear hcsya hlya hxya
      cases h1 : inB yc 0 500
      · have E1 := hideIt h1
        go_wp2_with (go_at_call 25; refine (l01In_any _ _ _ _).mono ?_; rintro e w' ⟨rfl, rfl⟩; first | rw [E1.out])
        go_ret
        exact ⟨ret_bool (wire_no (.inr (.inr (.inr (.inr (.inr (.inl (wiB_no Vyc.out E1.out)))))))).symm, GA.out _ _ _ _⟩
      have E1 := hideIt h1
      cases h2 : inB yb 0 1000
      · have E2 := hideIt h2
        clear h1
        go_wp2_with (go_at_call 25; refine (l01In_any _ _ _ _).mono ?_; rintro e w' ⟨rfl, rfl⟩; first | rw [E1.out] | rw [E2.out])
        go_ret
        exact ⟨ret_bool (wire_no (.inr (.inr (.inr (.inr (.inl (wiB_no Vyb.out E2.out))))))).symm, GA.out _ _ _ _⟩
      have E2 := hideIt h2
      clear h1 h2
      rcases k with _ | m
      · simp only [Nat.add_zero] at hkya hkyb hkyc
        have T := hideIt (treeOk_0 Vya.out Vyb.out)
        cases g1 : (ya != -1) <;> cases g2 : (yb != 0)
        all_goals have F1 := hideIt g1
        all_goals have F2 := hideIt g2
        · go_wp2_with (go_at_call 25; refine (l01In_any _ _ _ _).mono ?_; rintro e w' ⟨rfl, rfl⟩; first | rw [E1.out] | rw [E2.out])
          go_round
          case rel => exact ⟨1, by omega, by go_num, fun j hj => by
            obtain rfl : j = 0 := by omega
            refine ⟨by rw [T.out]; have := F1.out; have := F2.out; simp_all, fun y hy => ?_, fun y hy => ?_⟩
            · rw [Vyb.out] at hy; injection hy with hy; rw [← hy]; exact E2.out
            · rw [Vyc.out] at hy; injection hy with hy; rw [← hy]; exact E1.out⟩
          case measure => simp [intOf]; omega
        all_goals
          go_wp2_with (go_at_call 25; refine (l01In_any _ _ _ _).mono ?_; rintro e w' ⟨rfl, rfl⟩; first | rw [E1.out] | rw [E2.out])
          go_ret
          exact ⟨ret_bool (wire_no (.inr (.inr (.inr (.inl (treeB_no hlt (by rw [T.out]; have := F1.out; have := F2.out; simp_all))))))).symm, GA.out _ _ _ _⟩
      · have T := hideIt (treeOk_s (res := x.res) Vya.out)
        have hz : (((m : Int) + 1) == 0) = false := by rw [beq_eq_false_iff_ne]; omega
        cases g1 : inB ya 0 (m : Int)
        · have F1 := hideIt g1
          clear g1
          go_wp2_with (go_at_call 25; refine (l01In_any _ _ _ _).mono ?_; rintro e w' ⟨rfl, rfl⟩; first | rw [E1.out] | rw [E2.out] | rw [F1.out])
          go_ret
          exact ⟨ret_bool (wire_no (.inr (.inr (.inr (.inl (treeB_no hlt (by rw [T.out]; exact F1.out))))))).symm, GA.out _ _ _ _⟩
        · have F1 := hideIt g1
          clear g1
          go_wp2_with (go_at_call 25; refine (l01In_any _ _ _ _).mono ?_; rintro e w' ⟨rfl, rfl⟩; first | rw [E1.out] | rw [E2.out] | rw [F1.out])
          go_round
          case rel => exact ⟨m + 1 + 1, by omega, by go_num, fun j hj => by
            by_cases e : j = m + 1
            · subst e
              refine ⟨by rw [T.out]; exact F1.out, fun y hy => ?_, fun y hy => ?_⟩
              · rw [Vyb.out] at hy; injection hy with hy; rw [← hy]; exact E2.out
              · rw [Vyc.out] at hy; injection hy with hy; rw [← hy]; exact E1.out
            · exact hco.out j (by omega)⟩
          case measure => simp [intOf]; omega
    · have hk2 : k = x.parent.length := by omega
      subst hk2
      have T4 : Hid (treeB x.parent x.res = true) := treeB_mk fun i hi => (hco.out i hi).1
      have T5 : Hid (wiB x.res 0 1000 = true) := wiB_mk fun j y hy => (hco.out j (by have := (List.getElem?_eq_some_iff.1 hy).1; omega)).2.1 y hy
      have T6 : Hid (wiB x.cap 0 500 = true) := wiB_mk fun j y hy => (hco.out j (by have := (List.getElem?_eq_some_iff.1 hy).1; omega)).2.2 y hy
      clear hco
      go_wp2
      go_loop [7] (fun i => ∃ k : Nat, k ≤ x.sink.length ∧ i = .int .i64 (k : Int) ∧ Hid (∀ j y, j < k → x.sink[j]? = some y → inB y 0 ((x.parent.length : Int) - 1) = true)) (fun i => x.sink.length - (intOf i).toNat)
      case atStart => exact ⟨0, Nat.zero_le _, rfl, fun j y hj => absurd hj (by omega)⟩
      case round =>
        obtain ⟨k, hk, rfl, hco⟩ := hrel
        by_cases hlt : k < x.sink.length
        · obtain ⟨yd, hxyd⟩ : ∃ y, x.sink[k]? = some y := ⟨_, List.getElem?_eq_getElem (by omega)⟩
          obtain ⟨byd, oyd, rfl, csyd, hlyd, hcsyd, hryd⟩ := HD.out (k) yd hxyd
          unfold RI at hryd
          subst hryd
          have hkyd : w.cell? ⟨byd, oyd + (k), none⟩ = some (.int .i64 yd) := by simpa using hcsyd 0 _ rfl
          have hbyd : byd < w.heap.size := cell_lt hkyd
          have Vyd := hideIt hxyd
          clear hcsyd hlyd hxyd
          cases g1 : inB yd 0 ((x.parent.length : Int) - 1)
          · have F1 := hideIt g1
            clear g1
            go_wp2_with (go_at_call 25; refine (l01In_any _ _ _ _).mono ?_; rintro e w' ⟨rfl, rfl⟩; first | rw [F1.out])
            go_ret
            exact ⟨ret_bool (wire_no (.inr (.inr (.inr (.inr (.inr (.inr (.inr (wiB_no Vyd.out F1.out))))))))).symm, GA.out _ _ _ _⟩
          · have F1 := hideIt g1
            clear g1
            go_wp2_with (go_at_call 25; refine (l01In_any _ _ _ _).mono ?_; rintro e w' ⟨rfl, rfl⟩; first | rw [F1.out])
            go_round
            case rel => exact ⟨k + 1, by omega, by go_num, fun j y hj hy => by
              by_cases e : j = k
              · subst e; rw [Vyd.out] at hy; injection hy with hy; rw [← hy]; exact F1.out
              · exact hco.out j y (by omega) hy⟩
            case measure => simp [intOf]; omega
        · have hk2 : k = x.sink.length := by omega
          subst hk2
          go_wp2
          go_ret
          exact ⟨ret_bool (wire_yes (by omega) L2.out L3.out T4.out T5.out T6.out L7.out (wiB_mk fun j y hy => hco.out j y (List.getElem?_eq_some_iff.1 hy).1 hy)).symm, GA.out _ _ _ _⟩
end Go.Proofs.YtgglgghlndhfbaaDoor
