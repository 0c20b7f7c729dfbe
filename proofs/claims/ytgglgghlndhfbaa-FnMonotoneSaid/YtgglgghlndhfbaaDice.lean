/-
  The laws' dice: numbers that follow from a code; any numbers within their bounds.
-/
import Derived.Test.YtgglgghlndhfbaaDrawS
import Derived.Test.YtgglgghlndhfbaaReg
import Derived.Laws.Bits64b
namespace Go.Proofs.Ytgglgghlndhfbaa
open Go.RowKit
def DiceAt (w0 w : World) (b : Nat) : Prop :=
  ∃ (v : Value) (xs : List Int) (p : Nat) (h : Int), RBytes w0 v xs ∧ Grows w0 w ∧ w0.heap.size ≤ b ∧ Blk w b 60 #[v, .int .i64 (p : Int), .int .u64 h] ∧ p ≤ xs.length
theorem DiceAt.grows {w0 w w' : World} {b : Nat} (h : DiceAt w0 w b) (g : Grows w w') : DiceAt w0 w' b := by
  obtain ⟨v, xs, p, s, h1, h2, h3, h4, h5⟩ := h
  exact ⟨v, xs, p, s, h1, h2.trans g, h3, h4.grows g, h5⟩
theorem DiceAt.ge {w0 w : World} {b : Nat} (h : DiceAt w0 w b) : w0.heap.size ≤ b ∧ Grows w0 w ∧ b < w.heap.size := by
  obtain ⟨v, xs, p, s, h1, h2, h3, h4, h5⟩ := h
  exact ⟨h3, h2, h4.lt⟩
set_option maxHeartbeats 4000000 in
theorem roll_any {v : Value} {xs : List Int} {w0 w : World} (seed : Int) (h : RBytes w0 v xs) (g0 : Grows w0 w) :
    Calls Try.prog 15 #[v, .int .u64 seed] w fun e w' => ∃ b : Nat, e = .returned (.pointer (some ⟨b, 0, none⟩)) ∧ DiceAt w0 w' b ∧ w.heap.size ≤ b ∧ Grows w w' := by
  have gs := g0.size
  have G0 := hideIt g0
  clear g0
  have hl := RList.len h
  obtain ⟨A, c, rfl, -, -, hx⟩ := RList.form h
  have HX := hideIt hx
  have H1 := hideIt h
  clear hx h
  go_enter Try.func15, Try.ntmps15
  go_wp2
  go_loopw [6] (fun i wr => ∃ (k : Nat) (s : Int), k ≤ xs.length ∧ i = .int .i64 (k : Int) ∧ Grows w wr ∧ Blk wr w.heap.size 60 #[.slice A xs.length c, .int .i64 0, .int .u64 s]) (fun i _ => xs.length - (intOf i).toNat)
  case atStart => exact ⟨0, _, by omega, rfl, (Grows.refl w).alloc _, Blk.new w _ _⟩
  case round =>
    obtain ⟨k, s, hk, rfl, hg, hb⟩ := hrel
    have G := hideIt hg
    have B := hideIt hb
    have k0 : wr.cell? ⟨w.heap.size, 0, none⟩ = some (.slice A xs.length c) := hb.cell 0
    have k1 : wr.cell? ⟨w.heap.size, 1, none⟩ = some (.int .i64 0) := hb.cell 1
    have k2 : wr.cell? ⟨w.heap.size, 2, none⟩ = some (.int .u64 s) := hb.cell 2
    have kf := hb.frozen
    have kl := hb.lt
    clear hg hb
    by_cases hlt : k < xs.length
    · obtain ⟨x, hx⟩ : ∃ x, xs[k]? = some x := ⟨_, List.getElem?_eq_getElem hlt⟩
      obtain ⟨b2, o2, rfl, cs, hl1, hcs, hr, x1, x2⟩ := HX.out k x hx
      subst hr
      have lb2 := cell_lt (hcs 0 _ rfl)
      simp at lb2
      have kx : wr.cell? ⟨b2, o2 + k, none⟩ = some (.int .u8 x) := (G0.out.trans G.out).keeps _ _ (by simpa using hcs 0 _ rfl)
      have nb : b2 ≠ w.heap.size := by omega
      clear hcs hl1 hx
      go_wp2
      go_region
      all_goals go_wp2
      all_goals go_roundw
      case rel => exact ⟨k + 1, _, by omega, by go_num, by repeat (first | exact G.out | refine Grows.drew ?_ | refine Grows.setCell ?_ (by simp) _), B.out.set_ 2 _⟩
      case measure => simp [intOf]; omega
    · obtain rfl : k = xs.length := by omega
      go_wp2
      go_ret
      exact ⟨_, rfl, ⟨_, _, 0, s, H1.out, G0.out.trans G.out, gs, B.out, by omega⟩, Nat.le_refl _, G.out⟩
theorem dice_bits (s : Int) : ∃ y : Int, wrap64 (bits BinOp.and IntKind.u64 (IntKind.u64.wrap s / 8589934592) 16777215) = y ∧ 0 ≤ y ∧ y ≤ 16777215 := by
  refine ⟨_, rfl, ?_⟩
  obtain ⟨a, ha, hl⟩ : ∃ a : Nat, IntKind.u64.wrap s / 8589934592 = (a : Int) ∧ a < 18446744073709551616 := by
    have h : 0 ≤ IntKind.u64.wrap s ∧ IntKind.u64.wrap s < 18446744073709551616 := by
      unfold IntKind.wrap
      simp [IntKind.signed, IntKind.bits]
      omega
    exact ⟨(IntKind.u64.wrap s / 8589934592).toNat, by omega, by omega⟩
  rw [ha, show (16777215 : Int) = ((16777215 : Nat) : Int) from rfl, bits_and_u64_nat a 16777215 hl (by decide)]
  have h := @Nat.and_le_right a 16777215
  have e : wrap64 ((a &&& 16777215 : Nat) : Int) = ((a &&& 16777215 : Nat) : Int) := by
    unfold wrap64
    omega
  rw [e]
  omega
set_option maxHeartbeats 4000000 in
theorem below_any {w0 w : World} {b : Nat} (n : Int) (h : DiceAt w0 w b) (n1 : 1 ≤ n) (n2 : n ≤ 1000000) :
    Calls Try.prog 20 #[.pointer (some ⟨b, 0, none⟩), .int .i64 n] w fun e w' => ∃ r : Int, e = .returned (.int .i64 r) ∧ 0 ≤ r ∧ r < n ∧ DiceAt w0 w' b ∧ Chg [b] w w' := by
  obtain ⟨v, xs, p, s, h1, h2, h3, h4, h5⟩ := h
  have hl := RList.len h1
  obtain ⟨A, c, rfl, -, -, hx⟩ := RList.form h1
  have HX := hideIt hx
  have H1 := hideIt h1
  have G := hideIt h2
  have B := hideIt h4
  have k0 : w.cell? ⟨b, 0, none⟩ = some (.slice A xs.length c) := h4.cell 0
  have k1 : w.cell? ⟨b, 1, none⟩ = some (.int .i64 (p : Int)) := h4.cell 1
  have k2 : w.cell? ⟨b, 2, none⟩ = some (.int .u64 s) := h4.cell 2
  have kf := h4.frozen
  have kl := h4.lt
  clear hx h1 h2 h4
  obtain ⟨y, hy, y0, y1⟩ := dice_bits (IntKind.u64.wrap (s * 6364136223846793005) + 1442695040888963407)
  have T1 : 0 ≤ y % n := Int.emod_nonneg y (by omega)
  have T2 : y % n < n := Int.emod_lt_of_pos y (by omega)
  have hz : (n == 0) = false := by simp; omega
  have up : ∀ W : World, Chg [b] w W → Grows w0 W := fun W hc => G.out.chg hc fun g hg => by simp at hg; omega
  have UP := hideIt up
  have C2 := hideIt (B.out.set_ 2 (.int .u64 (IntKind.u64.wrap (IntKind.u64.wrap (s * 6364136223846793005) + 1442695040888963407))))
  clear up
  by_cases hp : p < xs.length
  · obtain ⟨x, hx⟩ : ∃ x, xs[p]? = some x := ⟨_, List.getElem?_eq_getElem hp⟩
    obtain ⟨b2, o2, rfl, cs, hl1, hcs, hr, x1, x2⟩ := HX.out p x hx
    subst hr
    have lb2 := cell_lt (hcs 0 _ rfl)
    simp at lb2
    have kx : w.cell? ⟨b2, o2 + p, none⟩ = some (.int .u8 x) := G.out.keeps _ _ (by simpa using hcs 0 _ rfl)
    have nb : b2 ≠ b := by omega
    have T3 : 0 ≤ (y + x) % n := Int.emod_nonneg _ (by omega)
    have T4 : (y + x) % n < n := Int.emod_lt_of_pos _ (by omega)
    have C3 := hideIt (C2.out.set_ 1 (.int .i64 ((p : Int) + 1)))
    clear hcs hl1 hx lb2
    go_enter Try.func20, Try.ntmps20
    go_wp2
    rw [hy]
    go_quiet (fail)
    go_wp2
    go_quiet (fail)
    go_wp2
    go_ret
    exact ⟨_, rfl, T3, T4, ⟨_, _, p + 1, _, H1.out, UP.out _ (by repeat (first | exact Chg.refl _ _ | refine Chg.drewN ?_ _ | refine Chg.drew ?_ | refine Chg.setCell ?_ (by simp) _)), h3, C3.out, by omega⟩, (by repeat (first | exact Chg.refl _ _ | refine Chg.drewN ?_ _ | refine Chg.drew ?_ | refine Chg.setCell ?_ (by simp) _))⟩
  · obtain rfl : p = xs.length := by omega
    go_enter Try.func20, Try.ntmps20
    go_wp2
    rw [hy]
    go_quiet (fail)
    go_wp2
    go_ret
    exact ⟨_, rfl, T1, T2, ⟨_, _, xs.length, _, H1.out, UP.out _ (by repeat (first | exact Chg.refl _ _ | refine Chg.drewN ?_ _ | refine Chg.drew ?_ | refine Chg.setCell ?_ (by simp) _)), h3, C2.out, h5⟩, (by repeat (first | exact Chg.refl _ _ | refine Chg.drewN ?_ _ | refine Chg.drew ?_ | refine Chg.setCell ?_ (by simp) _))⟩
end Go.Proofs.Ytgglgghlndhfbaa
