/-
  Contracts of IsMonotone, the reference's and the program's.
-/
import Derived.Test.YtgglgghlndhfbaaTab
namespace Go.Proofs.Ytgglgghlndhfbaa
open Go.RowKit

def monOk (n : Nat) (vs : List Int) (i : Nat) : Bool := (decide (i % n = 0) || decide (vs.getD (i - 1) 0 ≤ vs.getD i 0)) && (decide (i < n) || decide (vs.getD (i - n) 0 ≤ vs.getD i 0))
def monB (t : TableD) : Bool := tabB t && (List.range t.values.length).all (monOk t.loads.length t.values)
theorem monB_no {t : TableD} {k : Nat} (hk : k < t.values.length) (h : monOk t.loads.length t.values k = false) : monB t = false := by
  unfold monB
  rw [Bool.and_eq_false_iff]
  right
  rw [List.all_eq_false]
  exact ⟨k, List.mem_range.2 hk, by simp [h]⟩
theorem monB_mk {t : TableD} (ht : tabB t = true) (h : ∀ k, k < t.values.length → monOk t.loads.length t.values k = true) : monB t = true := by
  unfold monB
  rw [ht, Bool.true_and, List.all_eq_true]
  exact fun k hk => h k (List.mem_range.1 hk)
theorem monOk_no1 {n : Nat} {vs : List Int} {k : Nat} {x y : Int} (hm : (0 : Int) < (k : Int) % (n : Int)) (hx : vs[k]? = some x) (hy : vs[k - 1]? = some y) (h : x < y) : monOk n vs k = false := by
  have : ¬ k % n = 0 := by intro e; have e2 : ((k % n : Nat) : Int) = 0 := by rw [e]; rfl
                           rw [Int.natCast_emod] at e2; omega
  simp [monOk, List.getD, hx, hy, this]
  omega
theorem monOk_no2 {n : Nat} {vs : List Int} {k : Nat} {x y : Int} (hm : n ≤ k) (hx : vs[k]? = some x) (hy : vs[k - n]? = some y) (h : x < y) : monOk n vs k = false := by
  simp [monOk, List.getD, hx, hy]
  omega
theorem monOk_yes {n : Nat} {vs : List Int} {k : Nat} {x : Int} (hx : vs[k]? = some x) (h1 : ¬ (0 : Int) < (k : Int) % (n : Int) ∨ ∃ y, vs[k - 1]? = some y ∧ y ≤ x) (h2 : k < n ∨ ∃ y, vs[k - n]? = some y ∧ y ≤ x) : monOk n vs k = true := by
  have g1 : k % n = 0 ∨ vs.getD (k - 1) 0 ≤ vs.getD k 0 := by
    rcases h1 with h1 | ⟨y, hy, h⟩
    · left
      have : (0 : Int) ≤ (k : Int) % (n : Int) := by rw [← Int.natCast_emod]; omega
      have e : ((k % n : Nat) : Int) = 0 := by rw [Int.natCast_emod]; omega
      omega
    · right; simpa [List.getD, hx, hy] using h
  have g2 : k < n ∨ vs.getD (k - n) 0 ≤ vs.getD k 0 := by
    rcases h2 with h2 | ⟨y, hy, h⟩
    · exact .inl h2
    · right; simpa [List.getD, hx, hy] using h
  simp only [monOk, Bool.and_eq_true, Bool.or_eq_true, decide_eq_true_eq]
  exact ⟨g1, g2⟩
set_option maxHeartbeats 4000000 in
theorem sIsMono_any {a b c : Value} {t : TableD} (w : World) (h : RTable w [a, b, c] t) :
    Calls Try.prog 16 #[.agg #[a, b, c]] w fun e w' => e = .returned (.bool (monB t)) ∧ Grows w w' := by
  obtain ⟨ha, hb, hc⟩ := h.open_
  have g0 := (Grows.refl w).alloc (.cells #[a, b, c] 26)
  have HR := hideIt (h.keep g0.keeps)
  have G0 := hideIt g0
  clear g0 h
  cases h1 : tabB t
  · have E : Hid (monB t = false) := by unfold Hid monB; rw [h1]; rfl
    clear ha hb hc
    go_enter Try.func16, Try.ntmps16
    go_wp2_with (go_at_call 19; refine (sIsTable_any _ HR.out).mono ?_; rintro e w1 ⟨rfl, g1⟩; rw [h1])
    go_ret
    exact ⟨ret_bool E.out.symm, G0.out.trans (by assumption)⟩
  · obtain ⟨q1, q2, q3, q4⟩ := tabB_parts h1
    have l2 := axB_len q2
    have l1 := axB_len q1
    have l3 := hc.len
    obtain ⟨A2, n2, rfl, -, -, -⟩ := hb.form
    obtain ⟨A3, n3, rfl, -, -, hx⟩ := hc.form
    have HX := hideIt hx
    have nz : ((t.loads.length : Int) == 0) = false := by rw [beq_eq_false_iff_ne]; omega
    have T1 := hideIt h1
    clear ha hb hc hx q1 q2 q3 q4
    obtain ⟨l2, l2'⟩ := l2
    go_enter Try.func16, Try.ntmps16
    go_wp2_with fail
    refine (sIsTable_any _ HR.out).mono ?_
    rintro e w1 ⟨rfl, g1⟩
    rw [h1]
    clear h1
    obtain ⟨c1, f1⟩ := g1.cells
    have gw : Grows w w1 := G0.out.trans g1
    have k2 : w1.cell? ⟨w.heap.size, 2, none⟩ = some (.slice A3 t.values.length n3) := (c1 _ _ (by simp)).trans (by simp)
    have k1 : w1.cell? ⟨w.heap.size, 1, none⟩ = some (.slice A2 t.loads.length n2) := (c1 _ _ (by simp)).trans (by simp)
    have k0 : w1.cell? ⟨w.heap.size, 0, none⟩ = some a := (c1 _ _ (by simp)).trans (by simp)
    have GW := hideIt gw
    clear c1 f1 g1 gw
    go_wp2_with fail
    go_loopw [4] (fun i wr => ∃ k q : Nat, k ≤ t.values.length ∧ i = .int .i64 (k : Int) ∧ Hid (∀ j, j < k → monOk t.loads.length t.values j = true) ∧ wr = w1.drewN q) (fun i _ => t.values.length - (intOf i).toNat)
    case atStart => exact ⟨0, 0, Nat.zero_le _, rfl, fun j hj => absurd hj (by omega), rfl⟩
    case round =>
      obtain ⟨k, q, hk, rfl, hco, rfl⟩ := hrel
      by_cases hlt : k < t.values.length
      · obtain ⟨x, hx⟩ : ∃ x, t.values[k]? = some x := ⟨_, List.getElem?_eq_getElem hlt⟩
        obtain ⟨b, off, rfl, cs, hl1, hcs, hr⟩ := HX.out k x hx
        unfold RI at hr
        subst hr
        have hs : w1.cell? ⟨b, off + k, none⟩ = some (.int .i64 x) := by simpa using GW.out.keeps _ _ (hcs 0 _ rfl)
        have X1 := hideIt hx
        clear hcs hl1 hx
        by_cases hm : (0 : Int) < (k : Int) % (t.loads.length : Int)
        · have hk1 : 1 ≤ k := by
            rcases Nat.eq_zero_or_pos k with e | e
            · subst e; simp at hm
            · exact e
          have HM := hideIt hm
          have hmd : decide ((0 : Int) < (k : Int) % (t.loads.length : Int)) = true := by simpa using hm
          clear hm
          obtain ⟨y, hy⟩ : ∃ y, t.values[k - 1]? = some y := ⟨_, List.getElem?_eq_getElem (by omega)⟩
          have Y1 := hideIt hy
          clear hy
          obtain ⟨b1, o1, he1, cs1, hl1, hcs1, hr1⟩ := HX.out (k - 1) y Y1.out
          injection he1 with he1
          injection he1 with he11 he21
          subst he11 he21
          unfold RI at hr1
          subst hr1
          have hs1 : w1.cell? ⟨b, off + (k - 1), none⟩ = some (.int .i64 y) := by simpa using GW.out.keeps _ _ (hcs1 0 _ rfl)
          clear hcs1 hl1
          by_cases hxy : x < y
          · have XY := hideIt hxy
            have hxyd : decide (x < y) = true := by simpa using hxy
            go_wp2
            go_quiet (fail)
            go_wp2
            go_ret
            exact ⟨ret_bool (monB_no hlt (monOk_no1 HM.out X1.out Y1.out XY.out)).symm, by first | exact GW.out.drewN _ | exact (GW.out.drewN _).drewN _⟩
          · have hxy2 : y ≤ x := by omega
            have XY := hideIt hxy2
            have hxyd : decide (x < y) = false := by simpa using hxy
            by_cases hn : t.loads.length ≤ k
            · have hnd : decide (t.loads.length ≤ k) = true := by simpa using hn
              obtain ⟨z, hz⟩ : ∃ z, t.values[k - t.loads.length]? = some z := ⟨_, List.getElem?_eq_getElem (by omega)⟩
              have Y2 := hideIt hz
              clear hz
              obtain ⟨b2, o2, he2, cs2, hl2, hcs2, hr2⟩ := HX.out (k - t.loads.length) z Y2.out
              injection he2 with he2
              injection he2 with he12 he22
              subst he12 he22
              unfold RI at hr2
              subst hr2
              have hs2 : w1.cell? ⟨b, off + (k - t.loads.length), none⟩ = some (.int .i64 z) := by simpa using GW.out.keeps _ _ (hcs2 0 _ rfl)
              clear hcs2 hl2
              by_cases hxz : x < z
              · have XZ := hideIt hxz
                have hxzd : decide (x < z) = true := by simpa using hxz
                have HN := hideIt hn
                go_wp2
                go_quiet (fail)
                go_wp2
                go_ret
                exact ⟨ret_bool (monB_no hlt (monOk_no2 HN.out X1.out Y2.out XZ.out)).symm, by first | exact GW.out.drewN _ | exact (GW.out.drewN _).drewN _⟩
              · have hxz2 : z ≤ x := by omega
                have XZ := hideIt hxz2
                have hxzd : decide (x < z) = false := by simpa using hxz
                go_wp2
                go_quiet (fail)
                go_wp2
                go_roundw
                case rel => exact ⟨k + 1, _, by omega, by go_num, fun j hj => by
                  by_cases e : j = k
                  · subst e; exact monOk_yes X1.out (.inr ⟨_, Y1.out, XY.out⟩) (.inr ⟨_, Y2.out, XZ.out⟩)
                  · exact hco.out j (by omega), rfl⟩
                case measure => simp [intOf]; omega
            · have hn2 : k < t.loads.length := by omega
              have HN := hideIt hn2
              have hnd : decide (t.loads.length ≤ k) = false := by simpa using hn
              go_wp2
              go_quiet (fail)
              go_wp2
              go_roundw
              case rel => exact ⟨k + 1, _, by omega, by go_num, fun j hj => by
                by_cases e : j = k
                · subst e; exact monOk_yes X1.out (.inr ⟨_, Y1.out, XY.out⟩) (.inl HN.out)
                · exact hco.out j (by omega), rfl⟩
              case measure => simp [intOf]; omega
        · have HM := hideIt hm
          have hmd : decide ((0 : Int) < (k : Int) % (t.loads.length : Int)) = false := by simpa using hm
          clear hm
          by_cases hn : t.loads.length ≤ k
          · have hnd : decide (t.loads.length ≤ k) = true := by simpa using hn
            obtain ⟨z, hz⟩ : ∃ z, t.values[k - t.loads.length]? = some z := ⟨_, List.getElem?_eq_getElem (by omega)⟩
            have Y2 := hideIt hz
            clear hz
            obtain ⟨b2, o2, he2, cs2, hl2, hcs2, hr2⟩ := HX.out (k - t.loads.length) z Y2.out
            injection he2 with he2
            injection he2 with he12 he22
            subst he12 he22
            unfold RI at hr2
            subst hr2
            have hs2 : w1.cell? ⟨b, off + (k - t.loads.length), none⟩ = some (.int .i64 z) := by simpa using GW.out.keeps _ _ (hcs2 0 _ rfl)
            clear hcs2 hl2
            by_cases hxz : x < z
            · have XZ := hideIt hxz
              have hxzd : decide (x < z) = true := by simpa using hxz
              have HN := hideIt hn
              go_wp2
              go_quiet (fail)
              go_wp2
              go_ret
              exact ⟨ret_bool (monB_no hlt (monOk_no2 HN.out X1.out Y2.out XZ.out)).symm, by first | exact GW.out.drewN _ | exact (GW.out.drewN _).drewN _⟩
            · have hxz2 : z ≤ x := by omega
              have XZ := hideIt hxz2
              have hxzd : decide (x < z) = false := by simpa using hxz
              go_wp2
              go_quiet (fail)
              go_wp2
              go_roundw
              case rel => exact ⟨k + 1, _, by omega, by go_num, fun j hj => by
                by_cases e : j = k
                · subst e; exact monOk_yes X1.out (.inl (by have := HM.out; omega)) (.inr ⟨_, Y2.out, XZ.out⟩)
                · exact hco.out j (by omega), rfl⟩
              case measure => simp [intOf]; omega
          · have hn2 : k < t.loads.length := by omega
            have HN := hideIt hn2
            have hnd : decide (t.loads.length ≤ k) = false := by simpa using hn
            go_wp2
            go_quiet (fail)
            go_wp2
            go_roundw
            case rel => exact ⟨k + 1, _, by omega, by go_num, fun j hj => by
              by_cases e : j = k
              · subst e; exact monOk_yes X1.out (.inl (by have := HM.out; omega)) (.inl HN.out)
              · exact hco.out j (by omega), rfl⟩
            case measure => simp [intOf]; omega
      · have hk2 : k = t.values.length := by omega
        subst hk2
        go_wp2
        go_ret
        exact ⟨ret_bool (monB_mk T1.out hco.out).symm, by first | exact GW.out.drewN _ | exact (GW.out.drewN _).drewN _⟩
set_option maxHeartbeats 4000000 in
theorem iIsMono_any {a b c : Value} {t : TableD} (w : World) (h : RTable w [a, b, c] t) :
    Calls Try.prog 18 #[.agg #[a, b, c]] w fun e w' => e = .returned (.bool (monB t)) ∧ Grows w w' := by
  obtain ⟨ha, hb, hc⟩ := h.open_
  have g0 := (Grows.refl w).alloc (.cells #[a, b, c] 26)
  have HR := hideIt (h.keep g0.keeps)
  have G0 := hideIt g0
  clear g0 h
  cases h1 : tabB t
  · have E : Hid (monB t = false) := by unfold Hid monB; rw [h1]; rfl
    clear ha hb hc
    go_enter Try.func18, Try.ntmps18
    go_wp2_with (go_at_call 29; refine (iIsTable_any _ HR.out).mono ?_; rintro e w1 ⟨rfl, g1⟩; rw [h1])
    go_ret
    exact ⟨ret_bool E.out.symm, G0.out.trans (by assumption)⟩
  · obtain ⟨q1, q2, q3, q4⟩ := tabB_parts h1
    have l2 := axB_len q2
    have l1 := axB_len q1
    have l3 := hc.len
    obtain ⟨A2, n2, rfl, -, -, -⟩ := hb.form
    obtain ⟨A3, n3, rfl, -, -, hx⟩ := hc.form
    have HX := hideIt hx
    have nz : ((t.loads.length : Int) == 0) = false := by rw [beq_eq_false_iff_ne]; omega
    have T1 := hideIt h1
    clear ha hb hc hx q1 q2 q3 q4
    obtain ⟨l2, l2'⟩ := l2
    go_enter Try.func18, Try.ntmps18
    go_wp2_with fail
    refine (iIsTable_any _ HR.out).mono ?_
    rintro e w1 ⟨rfl, g1⟩
    rw [h1]
    clear h1
    obtain ⟨c1, f1⟩ := g1.cells
    have gw : Grows w w1 := G0.out.trans g1
    have k2 : w1.cell? ⟨w.heap.size, 2, none⟩ = some (.slice A3 t.values.length n3) := (c1 _ _ (by simp)).trans (by simp)
    have k1 : w1.cell? ⟨w.heap.size, 1, none⟩ = some (.slice A2 t.loads.length n2) := (c1 _ _ (by simp)).trans (by simp)
    have k0 : w1.cell? ⟨w.heap.size, 0, none⟩ = some a := (c1 _ _ (by simp)).trans (by simp)
    have GW := hideIt gw
    clear c1 f1 g1 gw
    go_wp2_with fail
    go_loopw [4, 5, 15] (fun _ _ i wr => ∃ k q : Nat, k ≤ t.values.length ∧ i = .int .i64 (k : Int) ∧ Hid (∀ j, j < k → monOk t.loads.length t.values j = true) ∧ wr = w1.drewN q) (fun _ _ i _ => t.values.length - (intOf i).toNat)
    case atStart => exact ⟨0, 0, Nat.zero_le _, rfl, fun j hj => absurd hj (by omega), rfl⟩
    case round =>
      obtain ⟨k, q, hk, rfl, hco, rfl⟩ := hrel
      by_cases hlt : k < t.values.length
      · obtain ⟨x, hx⟩ : ∃ x, t.values[k]? = some x := ⟨_, List.getElem?_eq_getElem hlt⟩
        obtain ⟨b, off, rfl, cs, hl1, hcs, hr⟩ := HX.out k x hx
        unfold RI at hr
        subst hr
        have hs : w1.cell? ⟨b, off + k, none⟩ = some (.int .i64 x) := by simpa using GW.out.keeps _ _ (hcs 0 _ rfl)
        have X1 := hideIt hx
        clear hcs hl1 hx
        by_cases hm : (0 : Int) < (k : Int) % (t.loads.length : Int)
        · have hk1 : 1 ≤ k := by
            rcases Nat.eq_zero_or_pos k with e | e
            · subst e; simp at hm
            · exact e
          have HM := hideIt hm
          have hmd : decide ((0 : Int) < (k : Int) % (t.loads.length : Int)) = true := by simpa using hm
          clear hm
          obtain ⟨y, hy⟩ : ∃ y, t.values[k - 1]? = some y := ⟨_, List.getElem?_eq_getElem (by omega)⟩
          have Y1 := hideIt hy
          clear hy
          obtain ⟨b1, o1, he1, cs1, hl1, hcs1, hr1⟩ := HX.out (k - 1) y Y1.out
          injection he1 with he1
          injection he1 with he11 he21
          subst he11 he21
          unfold RI at hr1
          subst hr1
          have hs1 : w1.cell? ⟨b, off + (k - 1), none⟩ = some (.int .i64 y) := by simpa using GW.out.keeps _ _ (hcs1 0 _ rfl)
          clear hcs1 hl1
          by_cases hxy : x < y
          · have XY := hideIt hxy
            have hxyd : decide (x < y) = true := by simpa using hxy
            go_wp2
            go_ret
            exact ⟨ret_bool (monB_no hlt (monOk_no1 HM.out X1.out Y1.out XY.out)).symm, by first | exact GW.out.drewN _ | exact (GW.out.drewN _).drewN _⟩
          · have hxy2 : y ≤ x := by omega
            have XY := hideIt hxy2
            have hxyd : decide (x < y) = false := by simpa using hxy
            by_cases hn : t.loads.length ≤ k
            · have hnd : decide (t.loads.length ≤ k) = true := by simpa using hn
              obtain ⟨z, hz⟩ : ∃ z, t.values[k - t.loads.length]? = some z := ⟨_, List.getElem?_eq_getElem (by omega)⟩
              have Y2 := hideIt hz
              clear hz
              obtain ⟨b2, o2, he2, cs2, hl2, hcs2, hr2⟩ := HX.out (k - t.loads.length) z Y2.out
              injection he2 with he2
              injection he2 with he12 he22
              subst he12 he22
              unfold RI at hr2
              subst hr2
              have hs2 : w1.cell? ⟨b, off + (k - t.loads.length), none⟩ = some (.int .i64 z) := by simpa using GW.out.keeps _ _ (hcs2 0 _ rfl)
              clear hcs2 hl2
              by_cases hxz : x < z
              · have XZ := hideIt hxz
                have hxzd : decide (x < z) = true := by simpa using hxz
                have HN := hideIt hn
                go_wp2
                go_ret
                exact ⟨ret_bool (monB_no hlt (monOk_no2 HN.out X1.out Y2.out XZ.out)).symm, by first | exact GW.out.drewN _ | exact (GW.out.drewN _).drewN _⟩
              · have hxz2 : z ≤ x := by omega
                have XZ := hideIt hxz2
                have hxzd : decide (x < z) = false := by simpa using hxz
                go_wp2
                go_roundw
                case rel => exact ⟨k + 1, _, by omega, by go_num, fun j hj => by
                  by_cases e : j = k
                  · subst e; exact monOk_yes X1.out (.inr ⟨_, Y1.out, XY.out⟩) (.inr ⟨_, Y2.out, XZ.out⟩)
                  · exact hco.out j (by omega), rfl⟩
                case measure => simp [intOf]; omega
            · have hn2 : k < t.loads.length := by omega
              have HN := hideIt hn2
              have hnd : decide (t.loads.length ≤ k) = false := by simpa using hn
              go_wp2
              go_roundw
              case rel => exact ⟨k + 1, _, by omega, by go_num, fun j hj => by
                by_cases e : j = k
                · subst e; exact monOk_yes X1.out (.inr ⟨_, Y1.out, XY.out⟩) (.inl HN.out)
                · exact hco.out j (by omega), rfl⟩
              case measure => simp [intOf]; omega
        · have HM := hideIt hm
          have hmd : decide ((0 : Int) < (k : Int) % (t.loads.length : Int)) = false := by simpa using hm
          clear hm
          by_cases hn : t.loads.length ≤ k
          · have hnd : decide (t.loads.length ≤ k) = true := by simpa using hn
            obtain ⟨z, hz⟩ : ∃ z, t.values[k - t.loads.length]? = some z := ⟨_, List.getElem?_eq_getElem (by omega)⟩
            have Y2 := hideIt hz
            clear hz
            obtain ⟨b2, o2, he2, cs2, hl2, hcs2, hr2⟩ := HX.out (k - t.loads.length) z Y2.out
            injection he2 with he2
            injection he2 with he12 he22
            subst he12 he22
            unfold RI at hr2
            subst hr2
            have hs2 : w1.cell? ⟨b, off + (k - t.loads.length), none⟩ = some (.int .i64 z) := by simpa using GW.out.keeps _ _ (hcs2 0 _ rfl)
            clear hcs2 hl2
            by_cases hxz : x < z
            · have XZ := hideIt hxz
              have hxzd : decide (x < z) = true := by simpa using hxz
              have HN := hideIt hn
              go_wp2
              go_ret
              exact ⟨ret_bool (monB_no hlt (monOk_no2 HN.out X1.out Y2.out XZ.out)).symm, by first | exact GW.out.drewN _ | exact (GW.out.drewN _).drewN _⟩
            · have hxz2 : z ≤ x := by omega
              have XZ := hideIt hxz2
              have hxzd : decide (x < z) = false := by simpa using hxz
              go_wp2
              go_roundw
              case rel => exact ⟨k + 1, _, by omega, by go_num, fun j hj => by
                by_cases e : j = k
                · subst e; exact monOk_yes X1.out (.inl (by have := HM.out; omega)) (.inr ⟨_, Y2.out, XZ.out⟩)
                · exact hco.out j (by omega), rfl⟩
              case measure => simp [intOf]; omega
          · have hn2 : k < t.loads.length := by omega
            have HN := hideIt hn2
            have hnd : decide (t.loads.length ≤ k) = false := by simpa using hn
            go_wp2
            go_roundw
            case rel => exact ⟨k + 1, _, by omega, by go_num, fun j hj => by
              by_cases e : j = k
              · subst e; exact monOk_yes X1.out (.inl (by have := HM.out; omega)) (.inl HN.out)
              · exact hco.out j (by omega), rfl⟩
            case measure => simp [intOf]; omega
      · have hk2 : k = t.values.length := by omega
        subst hk2
        go_wp2
        go_ret
        exact ⟨ret_bool (monB_mk T1.out hco.out).symm, by first | exact GW.out.drewN _ | exact (GW.out.drewN _).drewN _⟩
end Go.Proofs.Ytgglgghlndhfbaa
