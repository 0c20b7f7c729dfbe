/-
  The sense of an input, off the gate's values: plain Lean.
-/
import Derived.Test.YtldblnopbnmgfaaDoorSenseOf
import Derived.Test.YtldblnopbnmgfaaDoorGateM
namespace Go.Proofs.YtldblnopbnmgfaaDoor
open Go.RowKit
def bitZ (k i : Nat) : Int := if k.testBit i then 1 else 0
/-- the first n bits of k -/
def bitsL (k n : Nat) : List Int := (List.range n).map (bitZ k)
theorem bitsL_len (k n : Nat) : (bitsL k n).length = n := by simp [bitsL]
theorem bitsL_succ (k n : Nat) : bitsL k (n + 1) = bitsL k n ++ [bitZ k n] := by simp [bitsL, List.range_succ]
theorem bitsL_wi (k n : Nat) : wiB (bitsL k n) 0 1 = true := by
  refine List.all_eq_true.2 fun v hv => ?_
  simp only [bitsL, List.mem_map, bitZ] at hv
  obtain ⟨i, -, rfl⟩ := hv
  split <;> decide
theorem wi_set {xs : List Int} {p : Nat} {z : Int} (h : wiB xs 0 1 = true) (hz : z = 0 ∨ z = 1) : wiB (xs.set p z) 0 1 = true := by
  refine List.all_eq_true.2 fun v hv => ?_
  rcases List.mem_or_eq_of_mem_set hv with h1 | h1
  · exact List.all_eq_true.1 h v h1
  · subst h1; rcases hz with rfl | rfl <;> decide
theorem bit_val' : ∀ j : Fin 4, ∀ k : Fin 16, bits BinOp.and IntKind.i64 ((k.val : Int) / (2 : Int) ^ j.val) 1 = bitZ k.val j.val := by decide
theorem bit_val0 : ∀ k : Fin 16, bits BinOp.and IntKind.i64 (k.val : Int) 1 = bitZ k.val 0 := by decide
/-- the row without the bit -/
def clr (k p : Nat) : Nat := if k.testBit p then k - 2 ^ p else k
theorem clr_all : ∀ n : Fin 5, ∀ p : Fin 4, ∀ k : Fin 16, p.val < n.val → k.val < 2 ^ n.val →
    gN ((bitsL k.val n.val).set p.val 0) n.val = clr k.val p.val ∧ gN ((bitsL k.val n.val).set p.val 1) n.val = clr k.val p.val + 2 ^ p.val ∧ (clr k.val p.val).testBit p.val = false ∧ clr k.val p.val + 2 ^ p.val < 2 ^ n.val := by decide +kernel
theorem clr_ok {n p k : Nat} (hn : n ≤ 4) (hp : p < n) (hk : k < 2 ^ n) : gN ((bitsL k n).set p 0) n = clr k p ∧ gN ((bitsL k n).set p 1) n = clr k p + 2 ^ p ∧ (clr k p).testBit p = false ∧ clr k p + 2 ^ p < 2 ^ n := by
  have : 2 ^ n ≤ 2 ^ 4 := Nat.pow_le_pow_right (by decide) hn
  exact clr_all ⟨n, by omega⟩ ⟨p, by omega⟩ ⟨k, by omega⟩ hp hk
/-- one of the first k rows, the bit cleared, is raised by the bit -/
def upB (t : List Int) (p k : Nat) : Bool := (List.range k).any fun r => decide (t.getD (clr r p) 0 < t.getD (clr r p + 2 ^ p) 0)
def dnB (t : List Int) (p k : Nat) : Bool := (List.range k).any fun r => decide (t.getD (clr r p) 0 > t.getD (clr r p + 2 ^ p) 0)
theorem upB_succ {t : List Int} {p k : Nat} {a b : Int} (ha : t[clr k p]? = some a) (hb : t[clr k p + 2 ^ p]? = some b) : upB t p (k + 1) = (upB t p k || decide (a < b)) := by
  unfold upB; rw [List.range_succ, List.any_append]; simp [List.getD_eq_getElem?_getD, ha, hb]
theorem dnB_succ {t : List Int} {p k : Nat} {a b : Int} (ha : t[clr k p]? = some a) (hb : t[clr k p + 2 ^ p]? = some b) : dnB t p (k + 1) = (dnB t p k || decide (a > b)) := by
  unfold dnB; rw [List.range_succ, List.any_append]; simp [List.getD_eq_getElem?_getD, ha, hb]
theorem any_clr {f : Nat → Bool} {n p : Nat} (hn : n ≤ 4) (hp : p < n) : ((List.range (2 ^ n)).any fun r => f (clr r p)) = (List.range (2 ^ n)).any fun r => !r.testBit p && f r := by
  rw [Bool.eq_iff_iff]
  simp only [List.any_eq_true, List.mem_range, Bool.and_eq_true, Bool.not_eq_true']
  constructor
  · rintro ⟨r, hr, h⟩
    obtain ⟨-, -, h3, h4⟩ := clr_ok hn hp hr
    exact ⟨clr r p, Nat.lt_of_le_of_lt (Nat.le_add_right _ _) h4, h3, h⟩
  · rintro ⟨r, hr, hb, h⟩
    exact ⟨r, hr, by unfold clr; rw [hb]; simpa using h⟩
theorem upB_all {t : List Int} {n p : Nat} (hn : n ≤ 4) (hp : p < n) : upB t p (2 ^ n) = rB t p (2 ^ n) := any_clr (f := fun r => decide (t.getD r 0 < t.getD (r + 2 ^ p) 0)) hn hp
theorem dnB_all {t : List Int} {n p : Nat} (hn : n ≤ 4) (hp : p < n) : dnB t p (2 ^ n) = lB t p (2 ^ n) := any_clr (f := fun r => decide (t.getD r 0 > t.getD (r + 2 ^ p) 0)) hn hp
/-- the two values of a row -/
theorem gate_pair {x : CellD} {n p k : Nat} (h : cellB x = true) (h1 : x.kind = 1) (hl : x.pins.length = n + 1) (hn : n ≤ 4) (hp : p < n) (hk : k < 2 ^ n) :
    ∃ a b : Int, gateV x ((bitsL k n).set p 0) = (a, 0) ∧ gateV x ((bitsL k n).set p 1) = (b, 0) ∧ upB x.truth p (k + 1) = (upB x.truth p k || decide (a < b)) ∧ dnB x.truth p (k + 1) = (dnB x.truth p k || decide (a > b)) := by
  obtain ⟨e0, e1, e2, e3⟩ := clr_ok hn hp hk
  have ht := (gate_truth h h1).1
  rw [hl, Nat.add_sub_cancel] at ht
  obtain ⟨a, ha⟩ : ∃ a, x.truth[clr k p]? = some a := ⟨_, List.getElem?_eq_getElem (by rw [ht]; exact Nat.lt_of_le_of_lt (Nat.le_add_right _ _) e3)⟩
  obtain ⟨b, hb⟩ : ∃ b, x.truth[clr k p + 2 ^ p]? = some b := ⟨_, List.getElem?_eq_getElem (by omega)⟩
  refine ⟨a, b, gateV_0 h h1 (by rw [List.length_set, bitsL_len, hl]) (wi_set (bitsL_wi k n) (.inl rfl)) ?_, gateV_0 h h1 (by rw [List.length_set, bitsL_len, hl]) (wi_set (bitsL_wi k n) (.inr rfl)) ?_, upB_succ ha hb, dnB_succ ha hb⟩
  · rw [List.length_set, bitsL_len, e0]; exact ha
  · rw [List.length_set, bitsL_len, e1]; exact hb
theorem sens_up {x : CellD} {n p : Nat} (h : cellB x = true) (h1 : x.kind = 1) (hl : x.pins.length = n + 1) (hn : n ≤ 4) (hp : p < n) : sensV x (p : Int) = senV (upB x.truth p (2 ^ n)) (dnB x.truth p (2 ^ n)) := by
  unfold sensV
  have ht := (gate_truth h h1).1
  rw [hl, Nat.add_sub_cancel] at ht
  rw [if_pos ⟨h, h1, by rw [hl]; unfold inB; simp; omega⟩, upB_all hn hp, dnB_all hn hp]
  unfold senN
  rw [ht]; rfl
theorem sens_no {x : CellD} {pin : Int} (h : sensV x pin ≠ -1) : cellB x = true ∧ x.kind = 1 ∧ ∃ p : Nat, pin = (p : Int) ∧ p + 1 < x.pins.length := by
  unfold sensV at h
  split at h
  · rename_i hc
    obtain ⟨h1, h2, h3⟩ := hc
    have := inB_true h3
    exact ⟨h1, h2, pin.toNat, by omega, by omega⟩
  · exact absurd rfl h
theorem sens_bd (x : CellD) (pin : Int) : -1 ≤ sensV x pin ∧ sensV x pin ≤ 3 := by
  unfold sensV
  split
  · have := senV_bd (rB x.truth pin.toNat x.truth.length) (lB x.truth pin.toNat x.truth.length)
    unfold senN; omega
  · omega
end Go.Proofs.YtldblnopbnmgfaaDoor
