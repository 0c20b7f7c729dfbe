/-
  Plain facts on cells: pins.
-/
import Derived.Test.YtcaklodecejkhaaDoorCellT
import Derived.Test.YtcaklodecejkhaaDoorIsName
namespace Go.Proofs.YtcaklodecejkhaaDoor
open Go.RowKit

/-- a proposition as a Bool -/
noncomputable def pB (p : Prop) : Bool := @decide p (Classical.propDecidable p)
theorem pB_true {p : Prop} (h : p) : pB p = true := by exact @decide_eq_true p (Classical.propDecidable p) h
theorem pB_false {p : Prop} (h : ¬ p) : pB p = false := by exact @decide_eq_false p (Classical.propDecidable p) h
theorem pB_iff {p : Prop} : pB p = true ↔ p := by exact @decide_eq_true_iff p (Classical.propDecidable p)
theorem pB_congr {p q : Prop} (h : p ↔ q) : pB p = pB q := by rw [propext h]

def PinOk (n i : Nat) (p : PinD) : Prop := nameB p.name = true ∧ inB p.cap 0 500 = true ∧ (i + 1 = n → p.dir = 2 ∧ p.cap = 0 ∧ p.clock = false) ∧ (i + 1 < n → p.dir = 1)
def PinsP (ps : List PinD) : Prop := (2 ≤ ps.length ∧ ps.length ≤ 5) ∧ (∀ (i : Nat) (p : PinD), ps[i]? = some p → PinOk ps.length i p) ∧
  (∀ (i j : Nat) (p q : PinD), i < j → ps[i]? = some p → ps[j]? = some q → ¬ p.name = q.name)
/-- how many of the first k pins are clocks -/
def clkN (ps : List PinD) (k : Nat) : Nat := ((ps.take k).filter (·.clock)).length
theorem clkN_succ {ps : List PinD} {k : Nat} {p : PinD} (h : ps[k]? = some p) : clkN ps (k + 1) = clkN ps k + (if p.clock then 1 else 0) := by
  have hk : k < ps.length := (List.getElem?_eq_some_iff.1 h).1
  have e : ps.take (k + 1) = ps.take k ++ [p] := by
    rw [List.take_add_one, h]; rfl
  unfold clkN
  rw [e, List.filter_append, List.length_append]
  cases hc : p.clock <;> simp [hc]
theorem clkN_le (ps : List PinD) (k : Nat) : clkN ps k ≤ k := by
  unfold clkN
  exact Nat.le_trans (List.length_filter_le _ _) (by simp; omega)
end Go.Proofs.YtcaklodecejkhaaDoor
