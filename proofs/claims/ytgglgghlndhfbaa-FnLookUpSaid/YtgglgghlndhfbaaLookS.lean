/-
  The bracket of a number on an axis: the reference.
-/
import Derived.Test.YtgglgghlndhfbaaLookM
namespace Go.Proofs.Ytgglgghlndhfbaa
open Go.RowKit
set_option maxHeartbeats 2000000 in
theorem l02Weights_any {v : Value} {xs : List Int} (x : Int) (w : World) (h : RInts w v xs) (ha : axB xs = true) :
    Calls Try.prog 52 #[v, .int .i64 x] w fun e w' => ∃ (i : Nat) (a b : Int), e = .returned (.tuple #[.int .i64 (i : Int), .int .i64 a, .int .i64 b]) ∧ Wt xs (clampL xs x) i a b ∧ Grows w w' := by
  have AX := hideIt ha
  obtain ⟨⟨n1, n4⟩, hw, hi⟩ := axB_parts ha
  obtain ⟨A, c, rfl, -, -, hx⟩ := RList.form h
  have hat : ∀ (j : Nat) (z : Int), xs[j]? = some z → ∃ b off : Nat, A = some ⟨b, off, none⟩ ∧ w.cell? ⟨b, off + j, none⟩ = some (.int .i64 z) := fun j z hj => by
    obtain ⟨b, off, e, cs, hl1, hcs, hr⟩ := hx j z hj
    refine ⟨b, off, e, ?_⟩
    have hr : cs = [.int .i64 z] := hr
    subst hr
    simpa using hcs 0 _ rfl
  obtain ⟨lo, hlo⟩ : ∃ z, xs[0]? = some z := ⟨_, List.getElem?_eq_getElem (by omega)⟩
  obtain ⟨hi', hhi⟩ : ∃ z, xs[xs.length - 1]? = some z := ⟨_, List.getElem?_eq_getElem (by omega)⟩
  have elo := getD_of hlo
  have ehi := getD_of hhi
  have blo := wiB_at hw hlo
  have bhi := wiB_at hw hhi
  obtain ⟨b, off, rfl, klo⟩ := hat 0 lo hlo
  have khi : w.cell? ⟨b, off + (xs.length - 1), none⟩ = some (.int .i64 hi') := by
    obtain ⟨b', off', e, k⟩ := hat _ _ hhi
    injection e with e
    injection e with e1 e2
    subst e1 e2
    exact k
  have HAT : Hid (∀ (j : Nat) (z : Int), xs[j]? = some z → w.cell? ⟨b, off + j, none⟩ = some (.int .i64 z)) := hideIt fun j z hj => by
    obtain ⟨b', off', e, k⟩ := hat _ _ hj
    injection e with e
    injection e with e1 e2
    subst e1 e2
    exact k
  have lh : lo ≤ hi' := by
    have := clampL_bd ha lo
    rw [elo, ehi] at this
    omega
  have lb := cell_lt klo
  simp at klo lb
  have HLO := hideIt hlo
  have HHI := hideIt hhi
  have HI := hideIt hi
  have HW := hideIt hw
  clear hat hx h ha hi hw hlo hhi
  by_cases c1 : x < lo
  · have CL : Hid (clampL xs x = lo) := by
      unfold clampL
      rw [elo, ehi]
      simp only [if_pos c1]
      rw [if_neg (by omega)]
      exact hideIt rfl
    have b1 : lo ≤ lo := by omega
    have b2 : lo ≤ hi' := by omega
    clear elo ehi
    go_enter Try.func52, Try.ntmps52
    go_wp2
    go_loopw [8] (fun i wr => ∃ k : Nat, k < xs.length ∧ i = .int .i64 (k : Int) ∧ Hid (∀ (j : Nat) (z : Int), k < j → xs[j]? = some z → lo < z) ∧ Grows w wr) (fun i _ => (intOf i).toNat)
    case atStart => exact ⟨xs.length - 1, by omega, by go_num, fun j z hj hz => by have := (List.getElem?_eq_some_iff.1 hz).1; omega, Grows.refl _⟩
    case round =>
      obtain ⟨k, hk, rfl, hab, hg⟩ := hrel
      obtain ⟨z, hz⟩ : ∃ z, xs[k]? = some z := ⟨_, List.getElem?_eq_getElem hk⟩
      have bz := wiB_at HW.out hz
      have kz := HAT.out k z hz
      have kz0 : wr.cell? ⟨b, off + k, none⟩ = some (.int .i64 z) := hg.keeps _ _ kz
      have HZ := hideIt hz
      have HG := hideIt hg
      clear hz hg kz
      rcases Int.lt_trichotomy lo z with hc | hc | hc
      · have e1 : (lo == z) = false := by simp; omega
        have k1 : 1 ≤ k := by
          rcases Nat.eq_zero_or_pos k with h0 | h0
          · subst h0
            have := HZ.out.symm.trans HLO.out
            injection this with e
            omega
          · exact h0
        go_wp2
        go_roundw
        case rel => exact ⟨k - 1, by omega, by go_num, fun j y hj hy => by
          by_cases e : j = k
          · subst e; rw [HZ.out] at hy; injection hy with hy; omega
          · exact hab.out j y (by omega) hy, HG.out⟩
        case measure => simp [intOf]; omega
      · subst hc
        have e1 : (lo == lo) = true := by simp
        go_wp2
        refine bodyPost_ret (by simp [*, results, Try.results52, go_sem]; try rfl) rfl ?_
        exact ⟨_, _, _, rfl, .inl ⟨by rw [CL.out]; exact HZ.out, rfl, rfl⟩, HG.out⟩
      · have e1 : (lo == z) = false := by simp; omega
        have k1 : k + 1 < xs.length := by
          rcases Nat.lt_or_ge (k + 1) xs.length with h1 | h1
          · exact h1
          · obtain rfl : k = xs.length - 1 := by omega
            have := HZ.out.symm.trans HHI.out
            injection this with e
            omega
        obtain ⟨q, hq⟩ : ∃ q, xs[k + 1]? = some q := ⟨_, List.getElem?_eq_getElem k1⟩
        have bq := wiB_at HW.out hq
        have lq := hab.out (k + 1) q (by omega) hq
        have kq0 : wr.cell? ⟨b, off + (k + 1), none⟩ = some (.int .i64 q) := HG.out.keeps _ _ (HAT.out _ _ hq)
        have HQ := hideIt hq
        clear hq
        go_wp2
        go_quiet (fail)
        go_wp2
        refine bodyPost_ret (by simp [*, results, Try.results52, go_sem]; try rfl) rfl ?_
        exact ⟨_, _, _, rfl, .inr ⟨z, q, HZ.out, HQ.out, by rw [CL.out]; omega, by rw [CL.out]; omega, by rw [CL.out], by rw [CL.out]⟩, HG.out.drewN _⟩
  by_cases c2 : hi' < x
  · have CL : Hid (clampL xs x = hi') := by
      unfold clampL
      rw [elo, ehi]
      simp only [if_neg c1]
      rw [if_pos c2]
      exact hideIt rfl
    have b1 : lo ≤ hi' := by omega
    have b2 : hi' ≤ hi' := by omega
    clear elo ehi
    go_enter Try.func52, Try.ntmps52
    go_wp2
    go_loopw [8] (fun i wr => ∃ k : Nat, k < xs.length ∧ i = .int .i64 (k : Int) ∧ Hid (∀ (j : Nat) (z : Int), k < j → xs[j]? = some z → hi' < z) ∧ Grows w wr) (fun i _ => (intOf i).toNat)
    case atStart => exact ⟨xs.length - 1, by omega, by go_num, fun j z hj hz => by have := (List.getElem?_eq_some_iff.1 hz).1; omega, Grows.refl _⟩
    case round =>
      obtain ⟨k, hk, rfl, hab, hg⟩ := hrel
      obtain ⟨z, hz⟩ : ∃ z, xs[k]? = some z := ⟨_, List.getElem?_eq_getElem hk⟩
      have bz := wiB_at HW.out hz
      have kz := HAT.out k z hz
      have kz0 : wr.cell? ⟨b, off + k, none⟩ = some (.int .i64 z) := hg.keeps _ _ kz
      have HZ := hideIt hz
      have HG := hideIt hg
      clear hz hg kz
      rcases Int.lt_trichotomy hi' z with hc | hc | hc
      · have e1 : (hi' == z) = false := by simp; omega
        have k1 : 1 ≤ k := by
          rcases Nat.eq_zero_or_pos k with h0 | h0
          · subst h0
            have := HZ.out.symm.trans HLO.out
            injection this with e
            omega
          · exact h0
        go_wp2
        go_roundw
        case rel => exact ⟨k - 1, by omega, by go_num, fun j y hj hy => by
          by_cases e : j = k
          · subst e; rw [HZ.out] at hy; injection hy with hy; omega
          · exact hab.out j y (by omega) hy, HG.out⟩
        case measure => simp [intOf]; omega
      · subst hc
        have e1 : (hi' == hi') = true := by simp
        go_wp2
        refine bodyPost_ret (by simp [*, results, Try.results52, go_sem]; try rfl) rfl ?_
        exact ⟨_, _, _, rfl, .inl ⟨by rw [CL.out]; exact HZ.out, rfl, rfl⟩, HG.out⟩
      · have e1 : (hi' == z) = false := by simp; omega
        have k1 : k + 1 < xs.length := by
          rcases Nat.lt_or_ge (k + 1) xs.length with h1 | h1
          · exact h1
          · obtain rfl : k = xs.length - 1 := by omega
            have := HZ.out.symm.trans HHI.out
            injection this with e
            omega
        obtain ⟨q, hq⟩ : ∃ q, xs[k + 1]? = some q := ⟨_, List.getElem?_eq_getElem k1⟩
        have bq := wiB_at HW.out hq
        have lq := hab.out (k + 1) q (by omega) hq
        have kq0 : wr.cell? ⟨b, off + (k + 1), none⟩ = some (.int .i64 q) := HG.out.keeps _ _ (HAT.out _ _ hq)
        have HQ := hideIt hq
        clear hq
        go_wp2
        go_quiet (fail)
        go_wp2
        refine bodyPost_ret (by simp [*, results, Try.results52, go_sem]; try rfl) rfl ?_
        exact ⟨_, _, _, rfl, .inr ⟨z, q, HZ.out, HQ.out, by rw [CL.out]; omega, by rw [CL.out]; omega, by rw [CL.out], by rw [CL.out]⟩, HG.out.drewN _⟩
  · have CL : Hid (clampL xs x = x) := by
      unfold clampL
      rw [elo, ehi]
      simp only [if_neg c1]
      rw [if_neg c2]
      exact hideIt rfl
    have b1 : lo ≤ x := by omega
    have b2 : x ≤ hi' := by omega
    clear elo ehi
    go_enter Try.func52, Try.ntmps52
    go_wp2
    go_loopw [8] (fun i wr => ∃ k : Nat, k < xs.length ∧ i = .int .i64 (k : Int) ∧ Hid (∀ (j : Nat) (z : Int), k < j → xs[j]? = some z → x < z) ∧ Grows w wr) (fun i _ => (intOf i).toNat)
    case atStart => exact ⟨xs.length - 1, by omega, by go_num, fun j z hj hz => by have := (List.getElem?_eq_some_iff.1 hz).1; omega, Grows.refl _⟩
    case round =>
      obtain ⟨k, hk, rfl, hab, hg⟩ := hrel
      obtain ⟨z, hz⟩ : ∃ z, xs[k]? = some z := ⟨_, List.getElem?_eq_getElem hk⟩
      have bz := wiB_at HW.out hz
      have kz := HAT.out k z hz
      have kz0 : wr.cell? ⟨b, off + k, none⟩ = some (.int .i64 z) := hg.keeps _ _ kz
      have HZ := hideIt hz
      have HG := hideIt hg
      clear hz hg kz
      rcases Int.lt_trichotomy x z with hc | hc | hc
      · have e1 : (x == z) = false := by simp; omega
        have k1 : 1 ≤ k := by
          rcases Nat.eq_zero_or_pos k with h0 | h0
          · subst h0
            have := HZ.out.symm.trans HLO.out
            injection this with e
            omega
          · exact h0
        go_wp2
        go_roundw
        case rel => exact ⟨k - 1, by omega, by go_num, fun j y hj hy => by
          by_cases e : j = k
          · subst e; rw [HZ.out] at hy; injection hy with hy; omega
          · exact hab.out j y (by omega) hy, HG.out⟩
        case measure => simp [intOf]; omega
      · subst hc
        have e1 : (x == x) = true := by simp
        go_wp2
        refine bodyPost_ret (by simp [*, results, Try.results52, go_sem]; try rfl) rfl ?_
        exact ⟨_, _, _, rfl, .inl ⟨by rw [CL.out]; exact HZ.out, rfl, rfl⟩, HG.out⟩
      · have e1 : (x == z) = false := by simp; omega
        have k1 : k + 1 < xs.length := by
          rcases Nat.lt_or_ge (k + 1) xs.length with h1 | h1
          · exact h1
          · obtain rfl : k = xs.length - 1 := by omega
            have := HZ.out.symm.trans HHI.out
            injection this with e
            omega
        obtain ⟨q, hq⟩ : ∃ q, xs[k + 1]? = some q := ⟨_, List.getElem?_eq_getElem k1⟩
        have bq := wiB_at HW.out hq
        have lq := hab.out (k + 1) q (by omega) hq
        have kq0 : wr.cell? ⟨b, off + (k + 1), none⟩ = some (.int .i64 q) := HG.out.keeps _ _ (HAT.out _ _ hq)
        have HQ := hideIt hq
        clear hq
        go_wp2
        go_quiet (fail)
        go_wp2
        refine bodyPost_ret (by simp [*, results, Try.results52, go_sem]; try rfl) rfl ?_
        exact ⟨_, _, _, rfl, .inr ⟨z, q, HZ.out, HQ.out, by rw [CL.out]; omega, by rw [CL.out]; omega, by rw [CL.out], by rw [CL.out]⟩, HG.out.drewN _⟩
end Go.Proofs.Ytgglgghlndhfbaa
