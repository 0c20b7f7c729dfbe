/-
  Contracts of IsMonotone, the reference's and the program's.
-/
import Derived.Test.YtcaklodecejkhaaDoorTab
namespace Go.Proofs.YtcaklodecejkhaaDoor
open Go.RowKit

def monOk (n : Nat) (vs : List Int) (i : Nat) : Bool := (decide (i % n = 0) || decide (vs.getD (i - 1) 0 ≤ vs.getD i 0)) && (decide (i < n) || decide (vs.getD (i - n) 0 ≤ vs.getD i 0))
def monB (t : TableD) : Bool := tabB t && (List.range t.values.length).all (monOk t.loads.length t.values)
theorem monB_no {t : TableD} {k : Nat} (hk : k < t.values.length) (h : monOk t.loads.length t.values k = false) : monB t = false := by
  unfold monB
  rw [Bool.and_eq_false_iff]
  right
  rw [List.all_eq_false]
  exact ⟨k, List.mem_range.2 hk, by simp [h]⟩
theorem monB_mk {t : TableD} (ht : tabB t = true) (h : ∀ k, k < t.values.length → monOk t.loads.length t.values k = true) : monB t = true := by
  unfold monB
  rw [ht, Bool.true_and, List.all_eq_true]
  exact fun k hk => h k (List.mem_range.1 hk)
theorem monOk_no1 {n : Nat} {vs : List Int} {k : Nat} {x y : Int} (hm : (0 : Int) < (k : Int) % (n : Int)) (hx : vs[k]? = some x) (hy : vs[k - 1]? = some y) (h : x < y) : monOk n vs k = false := by
  have : ¬ k % n = 0 := by intro e; have e2 : ((k % n : Nat) : Int) = 0 := by rw [e]; rfl
                           rw [Int.natCast_emod] at e2; omega
  simp [monOk, List.getD, hx, hy, this]
  omega
theorem monOk_no2 {n : Nat} {vs : List Int} {k : Nat} {x y : Int} (hm : n ≤ k) (hx : vs[k]? = some x) (hy : vs[k - n]? = some y) (h : x < y) : monOk n vs k = false := by
  simp [monOk, List.getD, hx, hy]
  omega
theorem monOk_yes {n : Nat} {vs : List Int} {k : Nat} {x : Int} (hx : vs[k]? = some x) (h1 : ¬ (0 : Int) < (k : Int) % (n : Int) ∨ ∃ y, vs[k - 1]? = some y ∧ y ≤ x) (h2 : k < n ∨ ∃ y, vs[k - n]? = some y ∧ y ≤ x) : monOk n vs k = true := by
  have g1 : k % n = 0 ∨ vs.getD (k - 1) 0 ≤ vs.getD k 0 := by
    rcases h1 with h1 | ⟨y, hy, h⟩
    · left
      have : (0 : Int) ≤ (k : Int) % (n : Int) := by rw [← Int.natCast_emod]; omega
      have e : ((k % n : Nat) : Int) = 0 := by rw [Int.natCast_emod]; omega
      omega
    · right; simpa [List.getD, hx, hy] using h
  have g2 : k < n ∨ vs.getD (k - n) 0 ≤ vs.getD k 0 := by
    rcases h2 with h2 | ⟨y, hy, h⟩
    · exact .inl h2
    · right; simpa [List.getD, hx, hy] using h
  simp only [monOk, Bool.and_eq_true, Bool.or_eq_true, decide_eq_true_eq]
  exact ⟨g1, g2⟩
end Go.Proofs.YtcaklodecejkhaaDoor
