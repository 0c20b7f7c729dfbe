/-
  The bracket of a number on an axis: the program, over the library's binary search.
-/
import Derived.Test.YtgglgghlndhfbaaLookM
namespace Go.Proofs.Ytgglgghlndhfbaa
open Go.RowKit

theorem isNaNc_any (x : Int) (w : World) : Calls Try.prog 62 #[.int .i64 x] w fun e w' => e = .returned (.bool false) ∧ w = w' := by
  have e1 : (x == x) = true := by simp
  go_enter Try.func62, Try.ntmps62
  go_wp2
  go_ret
  exact ⟨by simp, rfl⟩
theorem isNaNs_any (x : Int) (w : World) : Calls Try.prog 61 #[.int .i64 x] w fun e w' => e = .returned (.bool false) ∧ w = w' := by
  have e1 : (x == x) = true := by simp
  go_enter Try.func61, Try.ntmps61
  go_wp2
  go_ret
  exact ⟨by simp, rfl⟩
set_option maxHeartbeats 400000 in
theorem less_any (x y : Int) (w : World) : Calls Try.prog 60 #[.int .i64 x, .int .i64 y] w fun e w' => e = .returned (.bool (decide (x < y))) ∧ w = w' := by
  go_enter Try.func60, Try.ntmps60
  go_wp2_with (go_at_call 62; refine (isNaNc_any _ _).mono ?_; rintro e w' ⟨rfl, rfl⟩)
  go_ret
  exact ⟨rfl, rfl⟩
/-- the place of x in an increasing list -/
def Place (xs : List Int) (x : Int) (i : Nat) : Prop := i ≤ xs.length ∧ (∀ (j : Nat) (z : Int), j < i → xs[j]? = some z → z < x) ∧ (∀ (j : Nat) (z : Int), i ≤ j → xs[j]? = some z → x ≤ z)
set_option maxHeartbeats 2000000 in
theorem bsearch_any {v : Value} {xs : List Int} (x : Int) (w : World) (h : RInts w v xs) (hn : xs.length ≤ 4) (hi : incB xs = true) :
    Calls Try.prog 58 #[v, .int .i64 x] w fun e w' => ∃ i : Nat, e = .returned (.tuple #[.int .i64 (i : Int), .bool (decide (xs[i]? = some x))]) ∧ Place xs x i ∧ Grows w w' := by
  obtain ⟨A, c, rfl, -, -, hx⟩ := RList.form h
  have HI := hideIt hi
  have HX := hideIt hx
  clear hx h hi
  go_enter Try.func58, Try.ntmps58
  go_wp2
  go_loopw [7, 8] (fun l h wr => ∃ lo hi : Nat, l = .int .i64 (lo : Int) ∧ h = .int .i64 (hi : Int) ∧ lo ≤ hi ∧ hi ≤ xs.length ∧ Hid ((∀ (j : Nat) (z : Int), j < lo → xs[j]? = some z → z < x) ∧ ∀ (j : Nat) (z : Int), hi ≤ j → xs[j]? = some z → x ≤ z) ∧ Grows w wr) (fun l h _ => (intOf h - intOf l).toNat)
  case atStart => exact ⟨0, xs.length, rfl, rfl, by omega, by omega, hideIt ⟨fun j z hj => by omega, fun j z hj hz => by have := (List.getElem?_eq_some_iff.1 hz).1; omega⟩, Grows.refl _⟩
  case round =>
    obtain ⟨lo, hi, rfl, rfl, hlh, hhn, P, hg⟩ := hrel
    have HG := hideIt hg
    by_cases hlt : lo < hi
    · obtain ⟨z, hz⟩ : ∃ z, xs[(lo + hi) / 2]? = some z := ⟨_, List.getElem?_eq_getElem (by omega)⟩
      obtain ⟨b, off, rfl, cs, hl1, hcs, hr⟩ := HX.out _ z hz
      have hr : cs = [.int .i64 z] := hr
      subst hr
      have kz : wr.cell? ⟨b, off + (lo + hi) / 2, none⟩ = some (.int .i64 z) := hg.keeps _ _ (by simpa using hcs 0 _ rfl)
      have Z := hideIt hz
      clear hcs hl1 hz hg
      by_cases hc : z < x
      · have hc1 : decide (z < x) = true := decide_eq_true hc
        go_wp2_with (go_at_call 60; refine (less_any _ _ _).mono ?_; rintro e w' ⟨rfl, rfl⟩; rw [hc1])
        go_roundw
        case rel =>
          refine ⟨(lo + hi) / 2 + 1, hi, by go_num, rfl, by omega, hhn, hideIt ⟨fun j y hj hy => ?_, P.out.2⟩, HG.out⟩
          rcases Nat.lt_or_ge j ((lo + hi) / 2) with h1 | h1
          · have := inc_lt' HI.out hy Z.out h1
            omega
          · obtain rfl : j = (lo + hi) / 2 := by omega
            rw [Z.out] at hy; injection hy with hy; omega
        case measure => simp [intOf]; omega
      · have hc1 : decide (z < x) = false := decide_eq_false hc
        go_wp2_with (go_at_call 60; refine (less_any _ _ _).mono ?_; rintro e w' ⟨rfl, rfl⟩; rw [hc1])
        go_roundw
        case rel =>
          refine ⟨lo, (lo + hi) / 2, rfl, by go_num, by omega, by omega, hideIt ⟨P.out.1, fun j y hj hy => ?_⟩, HG.out⟩
          rcases Nat.lt_or_ge ((lo + hi) / 2) j with h1 | h1
          · have := inc_lt' HI.out Z.out hy h1
            omega
          · obtain rfl : j = (lo + hi) / 2 := by omega
            rw [Z.out] at hy; injection hy with hy; omega
        case measure => simp [intOf]; omega
    · obtain rfl : hi = lo := by omega
      have PL : Hid (Place xs x hi) := hideIt ⟨hhn, P.out.1, P.out.2⟩
      by_cases hl : hi < xs.length
      · obtain ⟨z, hz⟩ : ∃ z, xs[hi]? = some z := ⟨_, List.getElem?_eq_getElem hl⟩
        obtain ⟨b, off, rfl, cs, hl1, hcs, hr⟩ := HX.out _ z hz
        have hr : cs = [.int .i64 z] := hr
        subst hr
        have kz : wr.cell? ⟨b, off + hi, none⟩ = some (.int .i64 z) := hg.keeps _ _ (by simpa using hcs 0 _ rfl)
        have Z := hideIt hz
        clear hcs hl1 hz hg
        by_cases hc : z = x
        · have hc1 : (z == x) = true := by simp [hc]
          have R := hideIt (show decide (xs[hi]? = some x) = true by rw [Z.out, hc]; simp)
          go_wp2_with (go_at_call 61; refine (isNaNs_any _ _).mono ?_; rintro e w' ⟨rfl, rfl⟩)
          go_ret2
          exact ⟨hi, by rw [R.out]; rfl, PL.out, HG.out⟩
        · have hc1 : (z == x) = false := by simp [hc]
          have R := hideIt (show decide (xs[hi]? = some x) = false by rw [Z.out]; simp [hc])
          go_wp2_with (go_at_call 61; refine (isNaNs_any _ _).mono ?_; rintro e w' ⟨rfl, rfl⟩)
          go_ret2
          exact ⟨hi, by rw [R.out]; rfl, PL.out, HG.out⟩
      · have R := hideIt (show decide (xs[hi]? = some x) = false by rw [List.getElem?_eq_none (by omega)]; simp)
        clear hg
        go_wp2_with (go_at_call 61; refine (isNaNs_any _ _).mono ?_; rintro e w' ⟨rfl, rfl⟩)
        go_ret2
        exact ⟨hi, by rw [R.out]; rfl, PL.out, HG.out⟩
end Go.Proofs.Ytgglgghlndhfbaa
