/-
  The bracket of a number on an axis: the program; looking up a table.
-/
import Derived.Test.YtgglgghlndhfbaaLookI
namespace Go.Proofs.Ytgglgghlndhfbaa
open Go.RowKit

def RWt (_ : World) (cs : List Value) (p : Nat × Int) : Prop := cs = [.int .i64 (p.1 : Int), .int .i64 p.2]
def wl (i : Nat) (a b : Int) : List (Nat × Int) := if b = 0 then [(i, a)] else [(i, a), (i + 1, b)]
theorem wrow1 (W : World) (i : Nat) (a : Int) (t : TypeId) : RList 2 RWt (W.alloc (.cells #[.int .i64 (i : Int), .int .i64 a] t)) (.slice (some ⟨W.heap.size, 0, none⟩) 1 1) [(i, a)] := by
  have B := Blk.new W t #[.int .i64 (i : Int), .int .i64 a]
  refine ⟨_, 1, rfl, Nat.le_refl _, by unfold maxLen; omega, .inr ⟨W.heap.size, 0, rfl, fun j x hx => ?_⟩⟩
  match j, hx with
  | 0, hx =>
    simp at hx
    subst hx
    refine ⟨[.int .i64 (i : Int), .int .i64 a], rfl, fun q u hu => ?_, rfl⟩
    match q, hu with
    | 0, hu => simp at hu; subst hu; exact B.cell 0
    | 1, hu => simp at hu; subst hu; exact B.cell 1
theorem wrow2 (W : World) (i k : Nat) (a b : Int) (t : TypeId) : RList 2 RWt (W.alloc (.cells #[.int .i64 (i : Int), .int .i64 a, .int .i64 (k : Int), .int .i64 b] t)) (.slice (some ⟨W.heap.size, 0, none⟩) 2 2) [(i, a), (k, b)] := by
  have B := Blk.new W t #[.int .i64 (i : Int), .int .i64 a, .int .i64 (k : Int), .int .i64 b]
  refine ⟨_, 2, rfl, Nat.le_refl _, by unfold maxLen; omega, .inr ⟨W.heap.size, 0, rfl, fun j x hx => ?_⟩⟩
  match j, hx with
  | 0, hx =>
    simp at hx
    subst hx
    refine ⟨[.int .i64 (i : Int), .int .i64 a], rfl, fun q u hu => ?_, rfl⟩
    match q, hu with
    | 0, hu => simp at hu; subst hu; exact B.cell 0
    | 1, hu => simp at hu; subst hu; exact B.cell 1
  | 1, hx =>
    simp at hx
    subst hx
    refine ⟨[.int .i64 (k : Int), .int .i64 b], rfl, fun q u hu => ?_, rfl⟩
    match q, hu with
    | 0, hu => simp at hu; subst hu; exact B.cell 2
    | 1, hu => simp at hu; subst hu; exact B.cell 3
set_option maxHeartbeats 2000000 in
theorem weights_any {v : Value} {xs : List Int} (x : Int) (w : World) (h : RInts w v xs) (ha : axB xs = true) :
    Calls Try.prog 51 #[v, .int .i64 x] w fun e w' => ∃ (vs : Value) (i : Nat) (a b : Int), e = .returned (.tuple #[vs, .int .i64 (a + b)]) ∧ Wt xs (clampL xs x) i a b ∧ RList 2 RWt w' vs (wl i a b) ∧ Grows w w' := by
  have AX := hideIt ha
  have H := hideIt h
  obtain ⟨⟨n1, n4⟩, hw, hi⟩ := axB_parts ha
  obtain ⟨A, c, rfl, -, -, hx⟩ := RList.form h
  have hat : ∀ (j : Nat) (z : Int), xs[j]? = some z → ∃ b off : Nat, A = some ⟨b, off, none⟩ ∧ w.cell? ⟨b, off + j, none⟩ = some (.int .i64 z) := fun j z hj => by
    obtain ⟨b, off, e, cs, hl1, hcs, hr⟩ := hx j z hj
    refine ⟨b, off, e, ?_⟩
    have hr : cs = [.int .i64 z] := hr
    subst hr
    simpa using hcs 0 _ rfl
  obtain ⟨lo, hlo⟩ : ∃ z, xs[0]? = some z := ⟨_, List.getElem?_eq_getElem (by omega)⟩
  obtain ⟨hi', hhi⟩ : ∃ z, xs[xs.length - 1]? = some z := ⟨_, List.getElem?_eq_getElem (by omega)⟩
  have elo := getD_of hlo
  have ehi := getD_of hhi
  have blo := wiB_at hw hlo
  have bhi := wiB_at hw hhi
  obtain ⟨b, off, rfl, klo⟩ := hat 0 lo hlo
  have khi : w.cell? ⟨b, off + (xs.length - 1), none⟩ = some (.int .i64 hi') := by
    obtain ⟨b', off', e, k⟩ := hat _ _ hhi
    injection e with e
    injection e with e1 e2
    subst e1 e2
    exact k
  have HAT : Hid (∀ (j : Nat) (z : Int), xs[j]? = some z → w.cell? ⟨b, off + j, none⟩ = some (.int .i64 z)) := hideIt fun j z hj => by
    obtain ⟨b', off', e, k⟩ := hat _ _ hj
    injection e with e
    injection e with e1 e2
    subst e1 e2
    exact k
  have lh : lo ≤ hi' := by
    have := clampL_bd ha lo
    rw [elo, ehi] at this
    omega
  have lb := cell_lt klo
  simp at klo lb
  have HLO := hideIt hlo
  have HHI := hideIt hhi
  have HI := hideIt hi
  have HW := hideIt hw
  clear hat hx h ha hi hw hlo hhi
  by_cases c1 : x < lo
  · have CL : Hid (clampL xs x = lo) := by
      unfold clampL
      rw [elo, ehi]
      simp only [if_pos c1]
      rw [if_neg (by omega)]
      exact hideIt rfl
    have b1 : lo ≤ lo := by omega
    have b2 : lo ≤ hi' := by omega
    clear elo ehi
    go_enter Try.func51, Try.ntmps51
    go_wp2_with fail
    go_quiet (fail)
    go_wp2_with fail
    refine (bsearch_any lo _ (H.out.keep (by first | exact Keeps.refl _ | exact ((Grows.refl w).drewN _).keeps)) n4 HI.out).mono ?_
    rintro e u ⟨i, rfl, PL, g⟩
    have G : Hid (Grows w u) := hideIt (((Grows.refl w).drewN _).trans g)
    have HP := hideIt PL
    clear g PL
    by_cases hf : xs[i]? = some lo
    · have hd : decide (xs[i]? = some lo) = true := decide_eq_true hf
      rw [hd]
      have HF := hideIt hf
      clear hf hd
      go_wp2
      go_ret2
      refine ⟨_, i, 1, 0, rfl, .inl ⟨by rw [CL.out]; exact HF.out, rfl, rfl⟩, ?_, ?_⟩
      · exact (wrow1 u i 1 _).keep (Keeps.refl _) fun _ _ h => h
      · exact G.out.alloc _
    · have hd : decide (xs[i]? = some lo) = false := decide_eq_false hf
      rw [hd]
      have i1 : 1 ≤ i := by
        rcases Nat.eq_zero_or_pos i with h0 | h0
        · subst h0
          have := HP.out.2.2 0 lo (Nat.le_refl _) HLO.out
          have e : lo = lo := by omega
          exact absurd (show xs[0]? = some lo by rw [e]; exact HLO.out) hf
        · exact h0
      have i2 : i < xs.length := by
        rcases Nat.lt_or_ge i xs.length with h0 | h0
        · exact h0
        · have := HP.out.2.1 (xs.length - 1) hi' (by omega) HHI.out
          omega
      obtain ⟨p, hp⟩ : ∃ p, xs[i - 1]? = some p := ⟨_, List.getElem?_eq_getElem (by omega)⟩
      obtain ⟨q, hq⟩ : ∃ q, xs[i]? = some q := ⟨_, List.getElem?_eq_getElem (by omega)⟩
      have lp := HP.out.2.1 _ p (by omega) hp
      have lq := HP.out.2.2 _ q (by omega) hq
      have lq2 : lo < q := by
        rcases Int.lt_or_le lo q with h | h
        · exact h
        · have e : lo = q := by omega
          exact absurd (show xs[i]? = some lo by rw [e]; exact hq) hf
      have bp := wiB_at HW.out hp
      have bq := wiB_at HW.out hq
      have kp : u.cell? ⟨b, off + (i - 1), none⟩ = some (.int .i64 p) := G.out.keeps _ _ (HAT.out _ _ hp)
      have kq : u.cell? ⟨b, off + i, none⟩ = some (.int .i64 q) := G.out.keeps _ _ (HAT.out _ _ hq)
      have lbu : b < u.heap.size := Nat.lt_of_lt_of_le lb G.out.size
      have HPP := hideIt hp
      have HQ := hideIt hq
      clear hf hd hp hq
      go_wp2
      go_region
      all_goals go_wp2
      go_ret2
      have ei : (i : Int) - 1 = ((i - 1 : Nat) : Int) := by omega
      have ei2 : (i : Int) = ((i - 1 + 1 : Nat) : Int) := by omega
      have ew : wl (i - 1) (q - lo) (lo - p) = [(i - 1, q - lo), (i - 1 + 1, lo - p)] := by unfold wl; rw [if_neg (by omega)]
      refine ⟨.slice (some ⟨u.heap.size, 0, none⟩) 2 2, i - 1, q - lo, lo - p, ?_, .inr ⟨p, q, HPP.out, by rw [show i - 1 + 1 = i by omega]; exact HQ.out, by rw [CL.out]; omega, by rw [CL.out]; omega, by rw [CL.out], by rw [CL.out]⟩, ?_, ?_⟩
      · rw [show q - lo + (lo - p) = q - p by omega]
        rfl
      · rw [ew, ei]
        have := wrow2 u (i - 1) (i - 1 + 1) (q - lo) (lo - p) 73
        rw [← ei2] at this
        exact this.keep (((Grows.refl _).drew).keeps) fun _ _ h => h
      · exact (G.out.alloc _).drew
  by_cases c2 : hi' < x
  · have CL : Hid (clampL xs x = hi') := by
      unfold clampL
      rw [elo, ehi]
      simp only [if_neg c1]
      rw [if_pos c2]
      exact hideIt rfl
    have b1 : lo ≤ hi' := by omega
    have b2 : hi' ≤ hi' := by omega
    clear elo ehi
    go_enter Try.func51, Try.ntmps51
    go_wp2_with fail
    go_quiet (fail)
    go_wp2_with fail
    refine (bsearch_any hi' _ (H.out.keep (by first | exact Keeps.refl _ | exact ((Grows.refl w).drewN _).keeps)) n4 HI.out).mono ?_
    rintro e u ⟨i, rfl, PL, g⟩
    have G : Hid (Grows w u) := hideIt (((Grows.refl w).drewN _).trans g)
    have HP := hideIt PL
    clear g PL
    by_cases hf : xs[i]? = some hi'
    · have hd : decide (xs[i]? = some hi') = true := decide_eq_true hf
      rw [hd]
      have HF := hideIt hf
      clear hf hd
      go_wp2
      go_ret2
      refine ⟨_, i, 1, 0, rfl, .inl ⟨by rw [CL.out]; exact HF.out, rfl, rfl⟩, ?_, ?_⟩
      · exact (wrow1 u i 1 _).keep (Keeps.refl _) fun _ _ h => h
      · exact G.out.alloc _
    · have hd : decide (xs[i]? = some hi') = false := decide_eq_false hf
      rw [hd]
      have i1 : 1 ≤ i := by
        rcases Nat.eq_zero_or_pos i with h0 | h0
        · subst h0
          have := HP.out.2.2 0 lo (Nat.le_refl _) HLO.out
          have e : hi' = lo := by omega
          exact absurd (show xs[0]? = some hi' by rw [e]; exact HLO.out) hf
        · exact h0
      have i2 : i < xs.length := by
        rcases Nat.lt_or_ge i xs.length with h0 | h0
        · exact h0
        · have := HP.out.2.1 (xs.length - 1) hi' (by omega) HHI.out
          omega
      obtain ⟨p, hp⟩ : ∃ p, xs[i - 1]? = some p := ⟨_, List.getElem?_eq_getElem (by omega)⟩
      obtain ⟨q, hq⟩ : ∃ q, xs[i]? = some q := ⟨_, List.getElem?_eq_getElem (by omega)⟩
      have lp := HP.out.2.1 _ p (by omega) hp
      have lq := HP.out.2.2 _ q (by omega) hq
      have lq2 : hi' < q := by
        rcases Int.lt_or_le hi' q with h | h
        · exact h
        · have e : hi' = q := by omega
          exact absurd (show xs[i]? = some hi' by rw [e]; exact hq) hf
      have bp := wiB_at HW.out hp
      have bq := wiB_at HW.out hq
      have kp : u.cell? ⟨b, off + (i - 1), none⟩ = some (.int .i64 p) := G.out.keeps _ _ (HAT.out _ _ hp)
      have kq : u.cell? ⟨b, off + i, none⟩ = some (.int .i64 q) := G.out.keeps _ _ (HAT.out _ _ hq)
      have lbu : b < u.heap.size := Nat.lt_of_lt_of_le lb G.out.size
      have HPP := hideIt hp
      have HQ := hideIt hq
      clear hf hd hp hq
      go_wp2
      go_region
      all_goals go_wp2
      go_ret2
      have ei : (i : Int) - 1 = ((i - 1 : Nat) : Int) := by omega
      have ei2 : (i : Int) = ((i - 1 + 1 : Nat) : Int) := by omega
      have ew : wl (i - 1) (q - hi') (hi' - p) = [(i - 1, q - hi'), (i - 1 + 1, hi' - p)] := by unfold wl; rw [if_neg (by omega)]
      refine ⟨.slice (some ⟨u.heap.size, 0, none⟩) 2 2, i - 1, q - hi', hi' - p, ?_, .inr ⟨p, q, HPP.out, by rw [show i - 1 + 1 = i by omega]; exact HQ.out, by rw [CL.out]; omega, by rw [CL.out]; omega, by rw [CL.out], by rw [CL.out]⟩, ?_, ?_⟩
      · rw [show q - hi' + (hi' - p) = q - p by omega]
        rfl
      · rw [ew, ei]
        have := wrow2 u (i - 1) (i - 1 + 1) (q - hi') (hi' - p) 73
        rw [← ei2] at this
        exact this.keep (((Grows.refl _).drew).keeps) fun _ _ h => h
      · exact (G.out.alloc _).drew
  · have CL : Hid (clampL xs x = x) := by
      unfold clampL
      rw [elo, ehi]
      simp only [if_neg c1]
      rw [if_neg c2]
      exact hideIt rfl
    have b1 : lo ≤ x := by omega
    have b2 : x ≤ hi' := by omega
    clear elo ehi
    go_enter Try.func51, Try.ntmps51
    go_wp2_with fail
    go_quiet (fail)
    go_wp2_with fail
    refine (bsearch_any x _ (H.out.keep (by first | exact Keeps.refl _ | exact ((Grows.refl w).drewN _).keeps)) n4 HI.out).mono ?_
    rintro e u ⟨i, rfl, PL, g⟩
    have G : Hid (Grows w u) := hideIt (((Grows.refl w).drewN _).trans g)
    have HP := hideIt PL
    clear g PL
    by_cases hf : xs[i]? = some x
    · have hd : decide (xs[i]? = some x) = true := decide_eq_true hf
      rw [hd]
      have HF := hideIt hf
      clear hf hd
      go_wp2
      go_ret2
      refine ⟨_, i, 1, 0, rfl, .inl ⟨by rw [CL.out]; exact HF.out, rfl, rfl⟩, ?_, ?_⟩
      · exact (wrow1 u i 1 _).keep (Keeps.refl _) fun _ _ h => h
      · exact G.out.alloc _
    · have hd : decide (xs[i]? = some x) = false := decide_eq_false hf
      rw [hd]
      have i1 : 1 ≤ i := by
        rcases Nat.eq_zero_or_pos i with h0 | h0
        · subst h0
          have := HP.out.2.2 0 lo (Nat.le_refl _) HLO.out
          have e : x = lo := by omega
          exact absurd (show xs[0]? = some x by rw [e]; exact HLO.out) hf
        · exact h0
      have i2 : i < xs.length := by
        rcases Nat.lt_or_ge i xs.length with h0 | h0
        · exact h0
        · have := HP.out.2.1 (xs.length - 1) hi' (by omega) HHI.out
          omega
      obtain ⟨p, hp⟩ : ∃ p, xs[i - 1]? = some p := ⟨_, List.getElem?_eq_getElem (by omega)⟩
      obtain ⟨q, hq⟩ : ∃ q, xs[i]? = some q := ⟨_, List.getElem?_eq_getElem (by omega)⟩
      have lp := HP.out.2.1 _ p (by omega) hp
      have lq := HP.out.2.2 _ q (by omega) hq
      have lq2 : x < q := by
        rcases Int.lt_or_le x q with h | h
        · exact h
        · have e : x = q := by omega
          exact absurd (show xs[i]? = some x by rw [e]; exact hq) hf
      have bp := wiB_at HW.out hp
      have bq := wiB_at HW.out hq
      have kp : u.cell? ⟨b, off + (i - 1), none⟩ = some (.int .i64 p) := G.out.keeps _ _ (HAT.out _ _ hp)
      have kq : u.cell? ⟨b, off + i, none⟩ = some (.int .i64 q) := G.out.keeps _ _ (HAT.out _ _ hq)
      have lbu : b < u.heap.size := Nat.lt_of_lt_of_le lb G.out.size
      have HPP := hideIt hp
      have HQ := hideIt hq
      clear hf hd hp hq
      go_wp2
      go_region
      all_goals go_wp2
      go_ret2
      have ei : (i : Int) - 1 = ((i - 1 : Nat) : Int) := by omega
      have ei2 : (i : Int) = ((i - 1 + 1 : Nat) : Int) := by omega
      have ew : wl (i - 1) (q - x) (x - p) = [(i - 1, q - x), (i - 1 + 1, x - p)] := by unfold wl; rw [if_neg (by omega)]
      refine ⟨.slice (some ⟨u.heap.size, 0, none⟩) 2 2, i - 1, q - x, x - p, ?_, .inr ⟨p, q, HPP.out, by rw [show i - 1 + 1 = i by omega]; exact HQ.out, by rw [CL.out]; omega, by rw [CL.out]; omega, by rw [CL.out], by rw [CL.out]⟩, ?_, ?_⟩
      · rw [show q - x + (x - p) = q - p by omega]
        rfl
      · rw [ew, ei]
        have := wrow2 u (i - 1) (i - 1 + 1) (q - x) (x - p) 73
        rw [← ei2] at this
        exact this.keep (((Grows.refl _).drew).keeps) fun _ _ h => h
      · exact (G.out.alloc _).drew
end Go.Proofs.Ytgglgghlndhfbaa
