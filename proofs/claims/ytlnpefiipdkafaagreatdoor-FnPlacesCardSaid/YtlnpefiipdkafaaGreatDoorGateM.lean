/-
  The value of a gate, in plain Lean.
-/
import Derived.Test.YtlnpefiipdkafaaGreatDoorGI
import Derived.Test.YtlnpefiipdkafaaGreatDoorGA
namespace Go.Proofs.YtlnpefiipdkafaaGreatDoor
open Go.RowKit
/-- the row of the truth table that the first k inputs name -/
def gN (xs : List Int) : Nat → Nat
  | 0 => 0
  | k + 1 => gN xs k + (xs.getD k 0).toNat * 2 ^ k
theorem gN_succ {xs : List Int} {k : Nat} {v : Int} (h : xs[k]? = some v) : gN xs (k + 1) = gN xs k + v.toNat * 2 ^ k := by
  show gN xs k + (xs.getD k 0).toNat * 2 ^ k = _
  rw [List.getD_eq_getElem?_getD, h]; rfl
theorem gN_lt {xs : List Int} (h : wiB xs 0 1 = true) : ∀ {k : Nat}, k ≤ xs.length → gN xs k < 2 ^ k
  | 0, _ => Nat.one_pos
  | k + 1, hk => by
    have ih := gN_lt h (k := k) (by omega)
    obtain ⟨v, hv⟩ : ∃ v, xs[k]? = some v := ⟨_, List.getElem?_eq_getElem (by omega)⟩
    rw [gN_succ hv]
    have hb := inB_true (List.all_eq_true.1 h v (List.mem_of_getElem? hv))
    have : v.toNat ≤ 1 := by omega
    have h2 : v.toNat * 2 ^ k ≤ 1 * 2 ^ k := Nat.mul_le_mul_right _ this
    rw [Nat.pow_succ]
    omega
theorem gN_lt' {xs : List Int} {k : Nat} (h : ∀ (j : Nat) (v : Int), j < k → xs[j]? = some v → inB v 0 1 = true) : ∀ {m : Nat}, m ≤ k → m ≤ xs.length → gN xs m < 2 ^ m
  | 0, _, _ => Nat.one_pos
  | m + 1, hm, hl => by
    have ih := gN_lt' h (m := m) (by omega) (by omega)
    obtain ⟨v, hv⟩ : ∃ v, xs[m]? = some v := ⟨_, List.getElem?_eq_getElem (by omega)⟩
    rw [gN_succ hv]
    have hb := inB_true (h m v (by omega) hv)
    have : v.toNat ≤ 1 := by omega
    have h2 : v.toNat * 2 ^ m ≤ 1 * 2 ^ m := Nat.mul_le_mul_right _ this
    rw [Nat.pow_succ]
    omega
noncomputable def gateV (x : CellD) (is : List Int) : Int × Int :=
  if cellB x = true then if x.kind = 1 then if is.length + 1 = x.pins.length ∧ wiB is 0 1 = true then (x.truth.getD (gN is is.length) 0, 0) else (0, 2) else (0, 5) else (0, 1)
theorem gateV_1 {x : CellD} {is : List Int} (h : cellB x = false) : gateV x is = (0, 1) := by
  unfold gateV; rw [if_neg (by rw [h]; decide)]
theorem gateV_5 {x : CellD} {is : List Int} (h : cellB x = true) (k : ¬ x.kind = 1) : gateV x is = (0, 5) := by
  unfold gateV; rw [if_pos h, if_neg k]
theorem gateV_2 {x : CellD} {is : List Int} (h : cellB x = true) (k : x.kind = 1) (l : ¬ (is.length + 1 = x.pins.length ∧ wiB is 0 1 = true)) : gateV x is = (0, 2) := by
  unfold gateV; rw [if_pos h, if_pos k, if_neg l]
theorem gateV_0 {x : CellD} {is : List Int} {t : Int} (h : cellB x = true) (k : x.kind = 1) (l : is.length + 1 = x.pins.length) (b : wiB is 0 1 = true) (ht : x.truth[gN is is.length]? = some t) : gateV x is = (t, 0) := by
  unfold gateV; rw [if_pos h, if_pos k, if_pos ⟨l, b⟩, List.getD_eq_getElem?_getD, ht]; rfl
theorem gate_truth {x : CellD} (h : cellB x = true) (k : x.kind = 1) : x.truth.length = 2 ^ (x.pins.length - 1) ∧ 2 ≤ x.pins.length ∧ x.pins.length ≤ 5 := by
  have hp := pB_iff.1 h
  have hk := hp.ofKind
  unfold kindB at hk
  rw [if_pos k] at hk
  simp only [Bool.and_eq_true, decide_eq_true_eq] at hk
  exact ⟨hk.1.2, hp.pins.1.1, hp.pins.1.2⟩
theorem gate_bits {x : CellD} (h : cellB x = true) (k : x.kind = 1) {i : Nat} {v : Int} (hv : x.truth[i]? = some v) : v = 0 ∨ v = 1 := by
  have hk := (pB_iff.1 h).ofKind
  unfold kindB at hk
  rw [if_pos k] at hk
  simp only [Bool.and_eq_true, decide_eq_true_eq, List.all_eq_true] at hk
  have := inB_true (hk.2 v (List.mem_of_getElem? hv))
  omega
theorem or_pow' : ∀ k : Fin 4, ∀ g : Fin 8, g.val < 2 ^ k.val → bits BinOp.or IntKind.i64 (g.val : Int) ((2 : Int) ^ k.val) = (g.val : Int) + 2 ^ k.val := by decide
theorem or_zero' : ∀ g : Fin 8, bits BinOp.or IntKind.i64 (g.val : Int) 0 = (g.val : Int) := by decide
theorem or_pow {g k : Nat} (hk : k ≤ 3) (hg : (g : Int) < 2 ^ k) (h8 : (2 : Int) ^ k ≤ 8) : bits BinOp.or IntKind.i64 (g : Int) ((2 : Int) ^ k) = (g : Int) + 2 ^ k := by
  have h2 : ((2 ^ k : Nat) : Int) = (2 : Int) ^ k := by simp
  exact or_pow' ⟨k, by omega⟩ ⟨g, by omega⟩ (by simp only; omega)
theorem or_zero {g k : Nat} (hg : (g : Int) < 2 ^ k) (h8 : (2 : Int) ^ k ≤ 8) : bits BinOp.or IntKind.i64 (g : Int) 0 = (g : Int) := or_zero' ⟨g, by omega⟩
end Go.Proofs.YtlnpefiipdkafaaGreatDoor
