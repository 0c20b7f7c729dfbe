/-
  A table's values scaled in place: the state of the loop.
-/
import Derived.Test.YtgglgghlndhfbaaOwnI
import Derived.Test.YtgglgghlndhfbaaScale
namespace Go.Proofs.Ytgglgghlndhfbaa
open Go.RowKit

/-- the scaling's state behind i rounds -/
def ScSt (w wr : World) (g : Nat) (xs : List Int) (f : Int → Int) (i : Nat) : Prop :=
  ∃ cs : Array Value, Blk wr g 2 cs ∧ xs.length ≤ cs.size ∧ (∀ (j : Nat) (x : Int), xs[j]? = some x → cs[j]? = some (.int .i64 (if j < i then f x else x))) ∧ Chg [g] w wr
theorem ScSt.drewN {w wr : World} {g i : Nat} {xs : List Int} {f : Int → Int} (h : ScSt w wr g xs f i) (n : Nat) : ScSt w (wr.drewN n) g xs f i := by
  obtain ⟨cs, hb, hs, hc, hg⟩ := h
  exact ⟨cs, hb, hs, hc, hg.drewN n⟩
theorem ScSt.drew {w wr : World} {g i : Nat} {xs : List Int} {f : Int → Int} (h : ScSt w wr g xs f i) : ScSt w wr.drew g xs f i := by
  obtain ⟨cs, hb, hs, hc, hg⟩ := h
  exact ⟨cs, hb, hs, hc, hg.drew⟩
theorem ScSt.step {w wr : World} {g i : Nat} {xs : List Int} {f : Int → Int} {x : Int} (h : ScSt w wr g xs f i) (hx : xs[i]? = some x) : ScSt w (wr.setCell ⟨g, i, none⟩ (.int .i64 (f x))) g xs f (i + 1) := by
  obtain ⟨cs, hb, hs, hc, hg⟩ := h
  have hi : i < xs.length := (List.getElem?_eq_some_iff.1 hx).1
  refine ⟨_, hb.set_ i _, by simpa using hs, fun j y hy => ?_, hg.setCell (by simp) _⟩
  rw [Array.getElem?_setIfInBounds]
  by_cases e : i = j
  · subst e
    rw [hx] at hy
    injection hy with hy
    subst hy
    rw [if_pos rfl, if_pos (by omega), if_pos (by omega)]
  · rw [if_neg e, hc j y hy]
    by_cases h1 : j < i
    · rw [if_pos h1, if_pos (by omega)]
    · rw [if_neg h1, if_neg (by omega)]
theorem ScSt.end_ {w wr : World} {g c : Nat} {xs : List Int} {f : Int → Int} (h : ScSt w wr g xs f xs.length) (h1 : xs.length ≤ c) (h2 : c ≤ maxLen) : OInts wr (.slice (some ⟨g, 0, none⟩) xs.length c) (xs.map f) [g] := by
  obtain ⟨cs, hb, hs, hc, hg⟩ := h
  have := OInts.of_row (w := wr) (g := g) (c := c) (cs := cs) (xs := xs.map f) (by simpa using h1) h2 hb (fun i y hy => by
    rw [List.getElem?_map] at hy
    obtain ⟨x, hx, rfl⟩ := Option.map_eq_some_iff.1 hy
    have hi : i < xs.length := (List.getElem?_eq_some_iff.1 hx).1
    have := hc i x hx
    rw [if_pos hi] at this
    exact this)
  simpa using this
/-- a table scaled -/
def scT (t : TableD) (k m : Int) : TableD := ⟨t.slews, t.loads, t.values.map fun v => rdv (v * k) 1000 m⟩
def scTV (t : TableD) (k m : Int) : TableD :=
  if tabB t = true ∧ inB k 0 10000 = true ∧ isM m = true ∧ tabB (scT t k m) = true then scT t k m else ⟨[], [], []⟩
def scTC (t : TableD) (k m : Int) : Int :=
  if tabB t = true then (if inB k 0 10000 = true ∧ isM m = true ∧ tabB (scT t k m) = true then 0 else 2) else 1
theorem OTable.nil {w : World} : OTable w [.slice none 0 0, .slice none 0 0, .slice none 0 0] ⟨[], [], []⟩ [] := ⟨_, _, _, [], [], [], rfl, OInts.nil, OInts.nil, OInts.nil, rfl⟩
theorem ret_nil {w w' : World} {code : Int} (g : Grows w w') : RetTable ⟨[], [], []⟩ code w (.returned (.tuple #[.agg #[.slice none 0 0, .slice none 0 0, .slice none 0 0], .int .i64 code])) w' :=
  ⟨none, 0, none, 0, none, 0, [], rfl, OTable.nil, Own.nil, g⟩
theorem sc_mul {v k : Int} (h1 : -1000000 ≤ v) (h2 : v ≤ 1000000) (h3 : 0 ≤ k) (h4 : k ≤ 10000) : -10000000000 ≤ v * k ∧ v * k ≤ 10000000000 := by
  have a1 := Int.mul_le_mul_of_nonneg_right h1 h3
  have a2 := Int.mul_le_mul_of_nonneg_right h2 h3
  omega
end Go.Proofs.Ytgglgghlndhfbaa
