/-
  How the output of a gate depends on an input, in plain Lean.
-/
import Derived.Test.YtlnpefiipdkafaaGreatDoorGateM
namespace Go.Proofs.YtlnpefiipdkafaaGreatDoor
open Go.RowKit
/-- one of the first k rows without bit p is raised by that bit -/
def rB (t : List Int) (p k : Nat) : Bool := (List.range k).any fun r => !r.testBit p && decide (t.getD r 0 < t.getD (r + 2 ^ p) 0)
def lB (t : List Int) (p k : Nat) : Bool := (List.range k).any fun r => !r.testBit p && decide (t.getD r 0 > t.getD (r + 2 ^ p) 0)
theorem rB_succ (t : List Int) (p k : Nat) : rB t p (k + 1) = (rB t p k || (!k.testBit p && decide (t.getD k 0 < t.getD (k + 2 ^ p) 0))) := by
  unfold rB; rw [List.range_succ, List.any_append]; simp
theorem lB_succ (t : List Int) (p k : Nat) : lB t p (k + 1) = (lB t p k || (!k.testBit p && decide (t.getD k 0 > t.getD (k + 2 ^ p) 0))) := by
  unfold lB; rw [List.range_succ, List.any_append]; simp
theorem rB_skip {t : List Int} {p k : Nat} (h : k.testBit p = true) : rB t p (k + 1) = rB t p k := by rw [rB_succ, h]; simp
theorem lB_skip {t : List Int} {p k : Nat} (h : k.testBit p = true) : lB t p (k + 1) = lB t p k := by rw [lB_succ, h]; simp
theorem rB_at {t : List Int} {p k : Nat} {a b : Int} (h : k.testBit p = false) (ha : t[k]? = some a) (hb : t[k + 2 ^ p]? = some b) : rB t p (k + 1) = (rB t p k || decide (a < b)) := by
  rw [rB_succ, h, List.getD_eq_getElem?_getD, List.getD_eq_getElem?_getD, ha, hb]; simp
theorem lB_at {t : List Int} {p k : Nat} {a b : Int} (h : k.testBit p = false) (ha : t[k]? = some a) (hb : t[k + 2 ^ p]? = some b) : lB t p (k + 1) = (lB t p k || decide (a > b)) := by
  rw [lB_succ, h, List.getD_eq_getElem?_getD, List.getD_eq_getElem?_getD, ha, hb]; simp
def senV (r l : Bool) : Int := if r && l then 3 else if r then 1 else if l then 2 else 0
def senN (t : List Int) (p : Nat) : Int := senV (rB t p t.length) (lB t p t.length)
theorem idx_ok' : ∀ m : Fin 5, ∀ p : Fin 4, ∀ i : Fin 16, p.val < m.val → i.val < 2 ^ m.val → i.val.testBit p.val = false → i.val + 2 ^ p.val < 2 ^ m.val := by decide
theorem idx_ok {m p i : Nat} (hm : m ≤ 4) (hp : p < m) (hi : i < 2 ^ m) (h : i.testBit p = false) : i + 2 ^ p < 2 ^ m := by
  have : 2 ^ m ≤ 2 ^ 4 := Nat.pow_le_pow_right (by decide) hm
  exact idx_ok' ⟨m, by omega⟩ ⟨p, by omega⟩ ⟨i, by omega⟩ hp hi h
theorem and_bit' : ∀ p : Fin 4, ∀ i : Fin 16, (bits BinOp.and IntKind.i64 (i.val : Int) ((2 : Int) ^ p.val) != 0) = i.val.testBit p.val := by decide
theorem shr_bit' : ∀ p : Fin 4, ∀ i : Fin 16, (bits BinOp.and IntKind.i64 ((i.val : Int) / (2 : Int) ^ p.val) 1 == 1) = i.val.testBit p.val := by decide
theorem shr_zero' : ∀ i : Fin 16, (bits BinOp.and IntKind.i64 (i.val : Int) 1 == 1) = i.val.testBit 0 := by decide
theorem or_clear' : ∀ p : Fin 4, ∀ i : Fin 16, i.val.testBit p.val = false → bits BinOp.or IntKind.i64 (i.val : Int) ((2 : Int) ^ p.val) = (i.val : Int) + 2 ^ p.val := by decide
theorem or_one (r l : Bool) : bits BinOp.or IntKind.i64 (senV r l) 1 = senV true l := by cases r <;> cases l <;> decide
theorem or_two (r l : Bool) : bits BinOp.or IntKind.i64 (senV r l) 2 = senV r true := by cases r <;> cases l <;> decide
theorem senV_bd (r l : Bool) : 0 ≤ senV r l ∧ senV r l ≤ 3 := by cases r <;> cases l <;> decide
/-- what a valid gate gives the walk -/
structure GateT (t : List Int) (p : Nat) : Prop where
  len : t.length ≤ 16
  bit : ∀ (i : Nat) (v : Int), t[i]? = some v → v = 0 ∨ v = 1
  up : ∀ i : Nat, i < t.length → i.testBit p = false → i + 2 ^ p < t.length
  pin : p ≤ 3
theorem GateT.of {x : CellD} (h : cellB x = true) (k : x.kind = 1) {p : Nat} (hp : p + 1 < x.pins.length) : GateT x.truth p := by
  obtain ⟨hl, h2, h5⟩ := gate_truth h k
  have hm : x.pins.length - 1 ≤ 4 := by omega
  have : 2 ^ (x.pins.length - 1) ≤ 2 ^ 4 := Nat.pow_le_pow_right (by decide) hm
  exact ⟨by omega, fun i v hv => gate_bits h k hv, fun i hi hb => by rw [hl] at hi ⊢; exact idx_ok hm (by omega) hi hb, by omega⟩
end Go.Proofs.YtlnpefiipdkafaaGreatDoor
