/-
  Roots and the slew behind a wire: contracts.
-/
import Derived.Test.YtpppobomekebdaaGreatDoorGA
import Derived.Test.YtpppobomekebdaaGreatDoorSlewM
namespace Go.Proofs.YtpppobomekebdaaGreatDoor
open Go.RowKit
def upR (n a m : Int) : Int := if m = 1 ∧ a * a < n then a + 1 else a
theorem rt_ex : ∀ n : Nat, ∃ b, IsRt (n : Int) b
  | 0 => ⟨0, by unfold IsRt; omega⟩
  | n + 1 => by
    obtain ⟨b, h0, h1, h2⟩ := rt_ex n
    by_cases h : (b + 1) * (b + 1) ≤ ((n + 1 : Nat) : Int)
    · have e : (b + 1 + 1) * (b + 1 + 1) = (b + 1) * (b + 1) + 2 * (b + 1) + 1 := by grind
      exact ⟨b + 1, by omega, h, by omega⟩
    · exact ⟨b, h0, by omega, by omega⟩
theorem slewX_bd {s d : Int} (h1 : 0 ≤ s) (h2 : s ≤ 1000000) (h3 : 0 ≤ d) (h4 : d ≤ 301000000) : (0 ≤ s * s ∧ s * s ≤ 1000000000000) ∧ (0 ≤ d * d ∧ d * d ≤ 90601000000000000) := by
  have a1 := sq_le h1 h2
  have a2 := Int.mul_nonneg h1 h1
  have a3 := sq_le h3 h4
  have a4 := Int.mul_nonneg h3 h3
  omega
set_option maxHeartbeats 2000000 in
theorem l07Root_any (n m : Int) (w : World) (h0 : 0 ≤ n) (h1 : n ≤ 2000000000000000000) :
    Calls Tryz.prog 113 #[.int .i64 n, .int .i64 m] w fun e w' => (∃ a : Int, IsRt n a ∧ a ≤ 2000000000 ∧ e = .returned (.int .i64 (upR n a m))) ∧ w = w' := by
  go_enter Tryz.func113, Tryz.ntmps113
  go_wp2
  go_loopw [5, 6] (fun l h wr => ∃ lo hi : Int, l = .int .i64 lo ∧ h = .int .i64 hi ∧ (0 ≤ lo ∧ lo ≤ hi ∧ hi ≤ 2000000000) ∧ lo * lo ≤ n ∧ n < (hi + 1) * (hi + 1) ∧ w = wr) (fun l h _ => (intOf h - intOf l).toNat)
  case atStart => exact ⟨0, 2000000000, rfl, rfl, by omega, by omega, by omega, rfl⟩
  case round =>
    obtain ⟨lo, hi, rfl, rfl, hb, h2, h3, rfl⟩ := hrel
    by_cases hlt : lo < hi
    · obtain ⟨mid, hm⟩ : ∃ mid, mid = (lo + hi + 1).tdiv 2 := ⟨_, rfl⟩
      have hm2 : mid = (lo + hi + 1) / 2 := by rw [hm, Int.tdiv_eq_ediv_of_nonneg (by omega)]
      have b1 : lo < mid := by omega
      have b2 : mid ≤ hi := by omega
      have sq1 := sq_le (show 0 ≤ mid by omega) (show mid ≤ 2000000000 by omega)
      have sq0 := Int.mul_nonneg (show 0 ≤ mid by omega) (show 0 ≤ mid by omega)
      have wr1 : IntKind.i64.wrap (lo + hi) = lo + hi := IntWalk.i64_in _ (by omega)
      have wr2 : IntKind.i64.wrap (lo + hi + 1) = lo + hi + 1 := IntWalk.i64_in _ (by omega)
      have wr3 : IntKind.i64.wrap ((lo + hi + 1).tdiv 2) = mid := by rw [← hm]; exact IntWalk.i64_in _ (by omega)
      have wr4 : IntKind.i64.wrap (mid * mid) = mid * mid := IntWalk.i64_in _ (by omega)
      have wr5 : IntKind.i64.wrap (mid - 1) = mid - 1 := IntWalk.i64_in _ (by omega)
      clear hm hm2
      by_cases hle : mid * mid ≤ n
      · go_wp2
        go_roundw
        case rel => exact ⟨mid, hi, rfl, rfl, by omega, hle, h3, trivial⟩
        case measure => simp [intOf]; omega
      · go_wp2
        go_roundw
        case rel => exact ⟨lo, mid - 1, rfl, rfl, by omega, h2, by rw [Int.sub_add_cancel]; omega, trivial⟩
        case measure => simp [intOf]; omega
    · obtain rfl : lo = hi := by omega
      have R := hideIt (show IsRt n lo from ⟨hb.1, h2, h3⟩)
      have LE := hideIt hb.2.2
      have sq1 := sq_le (show 0 ≤ lo by omega) (show lo ≤ 2000000000 by omega)
      have sq0 := Int.mul_nonneg (show 0 ≤ lo by omega) (show 0 ≤ lo by omega)
      have wr4 : IntKind.i64.wrap (lo * lo) = lo * lo := IntWalk.i64_in _ (by omega)
      have wr5 : IntKind.i64.wrap (lo + 1) = lo + 1 := IntWalk.i64_in _ (by omega)
      clear sq0 sq1 h3
      by_cases h4 : (m == 1) = true
      · have h5 := hideIt (eq_of_beq h4)
        by_cases h6 : lo * lo < n
        · go_wp2
          go_ret
          exact ⟨⟨lo, R.out, LE.out, ret_int (show lo + 1 = upR n lo m by unfold upR; rw [if_pos ⟨h5.out, h6⟩])⟩, rfl⟩
        · go_wp2
          go_ret
          exact ⟨⟨lo, R.out, LE.out, ret_int (show lo = upR n lo m by unfold upR; rw [if_neg (fun h => by have := h.2; omega)])⟩, rfl⟩
      · have h5 : (m == 1) = false := by simpa using h4
        have h6 := hideIt (show ¬ m = 1 by simpa using h5)
        clear h4
        go_wp2
        go_ret
        exact ⟨⟨lo, R.out, LE.out, ret_int (show lo = upR n lo m by unfold upR; rw [if_neg (fun h => h6.out h.1)])⟩, rfl⟩
set_option maxHeartbeats 2000000 in
theorem root_any (n : Int) (w : World) (h0 : 0 ≤ n) (h1 : n ≤ 2000000000000000000) :
    Calls Tryz.prog 114 #[.int .i64 n] w fun e w' => (∃ a : Int, IsRt n a ∧ a ≤ 3000000000 ∧ e = .returned (.int .i64 (a))) ∧ w = w' := by
  go_enter Tryz.func114, Tryz.ntmps114
  go_wp2
  go_loopw [3, 4] (fun l h wr => ∃ lo hi : Int, l = .int .i64 lo ∧ h = .int .i64 hi ∧ (0 ≤ lo ∧ lo ≤ hi ∧ hi ≤ 3000000000) ∧ lo * lo ≤ n ∧ n < (hi + 1) * (hi + 1) ∧ w = wr) (fun l h _ => (intOf h - intOf l).toNat)
  case atStart => exact ⟨0, 3000000000, rfl, rfl, by omega, by omega, by omega, rfl⟩
  case round =>
    obtain ⟨lo, hi, rfl, rfl, hb, h2, h3, rfl⟩ := hrel
    by_cases hlt : lo < hi
    · obtain ⟨mid, hm⟩ : ∃ mid, mid = (lo + hi + 1).tdiv 2 := ⟨_, rfl⟩
      have hm2 : mid = (lo + hi + 1) / 2 := by rw [hm, Int.tdiv_eq_ediv_of_nonneg (by omega)]
      have b1 : lo < mid := by omega
      have b2 : mid ≤ hi := by omega
      have sq1 := sq_le (show 0 ≤ mid by omega) (show mid ≤ 3000000000 by omega)
      have sq0 := Int.mul_nonneg (show 0 ≤ mid by omega) (show 0 ≤ mid by omega)
      have wr1 : IntKind.i64.wrap (lo + hi) = lo + hi := IntWalk.i64_in _ (by omega)
      have wr2 : IntKind.i64.wrap (lo + hi + 1) = lo + hi + 1 := IntWalk.i64_in _ (by omega)
      have wr3 : IntKind.i64.wrap ((lo + hi + 1).tdiv 2) = mid := by rw [← hm]; exact IntWalk.i64_in _ (by omega)
      have wr4 : IntKind.i64.wrap (mid * mid) = mid * mid := IntWalk.i64_in _ (by omega)
      have wr5 : IntKind.i64.wrap (mid - 1) = mid - 1 := IntWalk.i64_in _ (by omega)
      clear hm hm2
      by_cases hle : mid * mid ≤ n
      · go_wp2
        go_roundw
        case rel => exact ⟨mid, hi, rfl, rfl, by omega, hle, h3, trivial⟩
        case measure => simp [intOf]; omega
      · go_wp2
        go_roundw
        case rel => exact ⟨lo, mid - 1, rfl, rfl, by omega, h2, by rw [Int.sub_add_cancel]; omega, trivial⟩
        case measure => simp [intOf]; omega
    · obtain rfl : lo = hi := by omega
      have R := hideIt (show IsRt n lo from ⟨hb.1, h2, h3⟩)
      have LE := hideIt hb.2.2
      go_wp2
      go_ret
      exact ⟨⟨lo, R.out, LE.out, rfl⟩, rfl⟩
set_option maxHeartbeats 2000000 in
theorem wireSlew_any (s d m : Int) (w : World) (h1 : 0 ≤ s) (h2 : s ≤ 1000000) (h3 : 0 ≤ d) (h4 : d ≤ 301000000) :
    Calls Tryz.prog 63 #[.int .i64 s, .int .i64 d, .int .i64 m] w fun e w' => (∃ r : Int, SlewP s d m r ∧ e = .returned (.int .i64 r)) ∧ ∃ n, w.drewN n = w' := by
  obtain ⟨⟨a1, a2⟩, a3, a4⟩ := slewX_bd h1 h2 h3 h4
  have e1 : 500 * s * 500 = 250000 * s := by omega
  have e2 : 250000 * s * s = 250000 * (s * s) := by rw [Int.mul_assoc]
  have wr1 : IntKind.i64.wrap (500 * s) = 500 * s := IntWalk.i64_in _ (by omega)
  have wr2 : IntKind.i64.wrap (500 * s * 500) = 250000 * s := by rw [e1]; exact IntWalk.i64_in _ (by omega)
  have wr3 : IntKind.i64.wrap (250000 * s * s) = 250000 * (s * s) := by rw [e2]; exact IntWalk.i64_in _ (by omega)
  have wr4 : IntKind.i64.wrap (d * d) = d * d := IntWalk.i64_in _ (by omega)
  obtain ⟨X, hX⟩ : ∃ X, X = 250000 * (s * s) + d * d := ⟨_, rfl⟩
  have wr5 : IntKind.i64.wrap (250000 * (s * s) + d * d) = X := by rw [← hX]; exact IntWalk.i64_in _ (by omega)
  have x1 : 0 ≤ X := by omega
  have x2 : X ≤ 2000000000000000000 := by omega
  have EX := hideIt (show X = slewX s d from hX)
  clear e1 e2 hX a1 a2 a3 a4
  go_enter Tryz.func63, Tryz.ntmps63
  go_wp2_with fail
  refine (root_any X _ x1 x2).mono ?_
  rintro e w1 ⟨⟨a, ha, hle, rfl⟩, rfl⟩
  have R := hideIt ha
  have a0 := ha.1
  have a5 := sq_le a0 hle
  have a6 := Int.mul_nonneg a0 a0
  have q0 : a.tdiv 500 = a / 500 := Int.tdiv_eq_ediv_of_nonneg a0
  have wr6 : IntKind.i64.wrap (a * a) = a * a := IntWalk.i64_in _ (by omega)
  have wr7 : IntKind.i64.wrap (a.tdiv 500) = a / 500 := by rw [q0]; exact IntWalk.i64_in _ (by omega)
  have wr8 : IntKind.i64.wrap (a / 500 + 1) = a / 500 + 1 := IntWalk.i64_in _ (by omega)
  clear a5 a6 q0 ha
  by_cases h5 : (m == 1) = true
  · have h6 := hideIt (eq_of_beq h5)
    by_cases h7 : a * a < X
    · go_wp2
      go_ret
      exact ⟨⟨_, ⟨a, by rw [← EX.out]; exact R.out, by rw [if_pos ⟨h6.out, by rw [← EX.out]; exact h7⟩]⟩, rfl⟩, 0, rfl⟩
    · go_wp2_with (go_at_call 115; refine (divide_any _ _ _ _ (by omega) (by omega) (by omega)).mono ?_; rintro e w' ⟨rfl, n1, rfl⟩)
      go_ret
      exact ⟨⟨_, ⟨a, by rw [← EX.out]; exact R.out, by rw [if_neg (fun h => by have h8 := h.2; rw [← EX.out] at h8; omega)]⟩, rfl⟩, n1, rfl⟩
  · have h6 : (m == 1) = false := by simpa using h5
    have h7 := hideIt (show ¬ m = 1 by simpa using h6)
    clear h5
    go_wp2_with (go_at_call 115; refine (divide_any _ _ _ _ (by omega) (by omega) (by omega)).mono ?_; rintro e w' ⟨rfl, n1, rfl⟩)
    go_ret
    exact ⟨⟨_, ⟨a, by rw [← EX.out]; exact R.out, by rw [if_neg (fun h => h7.out h.1)]⟩, rfl⟩, n1, rfl⟩
/-- the slew, as a value -/
noncomputable def slewR (s d m : Int) : Int := open Classical in if h : ∃ r, SlewP s d m r then h.choose else 0
theorem slewR_eq {s d m r : Int} (h : SlewP s d m r) : r = slewR s d m := by
  unfold slewR
  rw [dif_pos ⟨r, h⟩]
  exact h.uniq (Exists.choose_spec (⟨r, h⟩ : ∃ r, SlewP s d m r))
end Go.Proofs.YtpppobomekebdaaGreatDoor
