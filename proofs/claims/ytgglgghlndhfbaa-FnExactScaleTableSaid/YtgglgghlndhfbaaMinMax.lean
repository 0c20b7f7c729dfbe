/-
  Contracts of slices.Min and slices.Max over integers.
-/
import Derived.Test.YtgglgghlndhfbaaTab
namespace Go.Proofs.Ytgglgghlndhfbaa
open Go.RowKit

def minTo (xs : List Int) (k : Nat) : Int := (xs.take k).foldl min (xs.headD 0)
def maxTo (xs : List Int) (k : Nat) : Int := (xs.take k).foldl max (xs.headD 0)
def minL (xs : List Int) : Int := minTo xs xs.length
def maxL (xs : List Int) : Int := maxTo xs xs.length
theorem take_succ' {xs : List Int} {k : Nat} {x : Int} (h : xs[k]? = some x) : xs.take (k + 1) = xs.take k ++ [x] := by
  rw [List.take_add_one, h]; rfl
theorem minTo_succ {xs : List Int} {k : Nat} {x : Int} (h : xs[k]? = some x) : minTo xs (k + 1) = if x < minTo xs k then x else minTo xs k := by
  unfold minTo
  rw [take_succ' h, List.foldl_append]
  simp only [List.foldl_cons, List.foldl_nil]
  split <;> omega
theorem maxTo_succ {xs : List Int} {k : Nat} {x : Int} (h : xs[k]? = some x) : maxTo xs (k + 1) = if maxTo xs k < x then x else maxTo xs k := by
  unfold maxTo
  rw [take_succ' h, List.foldl_append]
  simp only [List.foldl_cons, List.foldl_nil]
  split <;> omega
theorem minTo_one {xs : List Int} {x : Int} (h : xs[0]? = some x) : minTo xs 1 = x := by
  cases xs with
  | nil => simp at h
  | cons a r => simp at h; subst h; simp [minTo]
theorem maxTo_one {xs : List Int} {x : Int} (h : xs[0]? = some x) : maxTo xs 1 = x := by
  cases xs with
  | nil => simp at h
  | cons a r => simp at h; subst h; simp [maxTo]
set_option maxHeartbeats 1000000 in
theorem min_any {v : Value} {xs : List Int} (w : World) (h : RInts w v xs) (hn : 1 ≤ xs.length) :
    Calls Try.prog 43 #[v] w fun e w' => e = .returned (.int .i64 (minL xs)) ∧ w = w' := by
  have hl := h.len
  obtain ⟨A, c, rfl, hle, hc, hx⟩ := h.form
  have HX := hideIt hx
  obtain ⟨x0, h0⟩ : ∃ x, xs[0]? = some x := ⟨_, List.getElem?_eq_getElem (by omega)⟩
  obtain ⟨b, off, rfl, cs, hl1, hcs, hr⟩ := hx 0 x0 h0
  unfold RI at hr
  subst hr
  have hs : w.cell? ⟨b, off, none⟩ = some (.int .i64 x0) := by simpa using hcs 0 _ rfl
  have X0 := hideIt h0
  have E : Hid (minL xs = minTo xs xs.length) := rfl
  clear hx h hle hc h0 hcs hl1
  go_enter Try.func43, Try.ntmps43
  go_wp2
  go_loop [3, 4] (fun m i => ∃ k : Nat, 1 ≤ k ∧ k ≤ xs.length ∧ i = .int .i64 (k : Int) ∧ m = .int .i64 (minTo xs k)) (fun _ i => xs.length - (intOf i).toNat)
  case atStart => exact ⟨1, Nat.le_refl _, hn, rfl, by rw [minTo_one X0.out]⟩
  case round =>
    obtain ⟨k, hk0, hk, rfl, rfl⟩ := hrel
    by_cases hlt : k < xs.length
    · obtain ⟨x, hx⟩ : ∃ x, xs[k]? = some x := ⟨_, List.getElem?_eq_getElem hlt⟩
      obtain ⟨b', off', he, cs, hl1, hcs, hr⟩ := HX.out k x hx
      injection he with he
      injection he with he1 he2
      subst he1 he2
      unfold RI at hr
      subst hr
      have hs2 : w.cell? ⟨b, off + k, none⟩ = some (.int .i64 x) := by simpa using hcs 0 _ rfl
      have X1 := hideIt (minTo_succ hx)
      clear hcs hl1 hx
      go_wp2
      go_round
      case rel => exact ⟨k + 1, by omega, by omega, by go_num, by rw [X1.out]⟩
      case measure => simp [intOf]; omega
    · have hk2 : k = xs.length := by omega
      subst hk2
      go_wp2
      go_ret
      exact ⟨ret_int E.out.symm, rfl⟩
set_option maxHeartbeats 1000000 in
theorem max_any {v : Value} {xs : List Int} (w : World) (h : RInts w v xs) (hn : 1 ≤ xs.length) :
    Calls Try.prog 44 #[v] w fun e w' => e = .returned (.int .i64 (maxL xs)) ∧ w = w' := by
  have hl := h.len
  obtain ⟨A, c, rfl, hle, hc, hx⟩ := h.form
  have HX := hideIt hx
  obtain ⟨x0, h0⟩ : ∃ x, xs[0]? = some x := ⟨_, List.getElem?_eq_getElem (by omega)⟩
  obtain ⟨b, off, rfl, cs, hl1, hcs, hr⟩ := hx 0 x0 h0
  unfold RI at hr
  subst hr
  have hs : w.cell? ⟨b, off, none⟩ = some (.int .i64 x0) := by simpa using hcs 0 _ rfl
  have X0 := hideIt h0
  have E : Hid (maxL xs = maxTo xs xs.length) := rfl
  clear hx h hle hc h0 hcs hl1
  go_enter Try.func44, Try.ntmps44
  go_wp2
  go_loop [3, 4] (fun m i => ∃ k : Nat, 1 ≤ k ∧ k ≤ xs.length ∧ i = .int .i64 (k : Int) ∧ m = .int .i64 (maxTo xs k)) (fun _ i => xs.length - (intOf i).toNat)
  case atStart => exact ⟨1, Nat.le_refl _, hn, rfl, by rw [maxTo_one X0.out]⟩
  case round =>
    obtain ⟨k, hk0, hk, rfl, rfl⟩ := hrel
    by_cases hlt : k < xs.length
    · obtain ⟨x, hx⟩ : ∃ x, xs[k]? = some x := ⟨_, List.getElem?_eq_getElem hlt⟩
      obtain ⟨b', off', he, cs, hl1, hcs, hr⟩ := HX.out k x hx
      injection he with he
      injection he with he1 he2
      subst he1 he2
      unfold RI at hr
      subst hr
      have hs2 : w.cell? ⟨b, off + k, none⟩ = some (.int .i64 x) := by simpa using hcs 0 _ rfl
      have X1 := hideIt (maxTo_succ hx)
      clear hcs hl1 hx
      go_wp2
      go_round
      case rel => exact ⟨k + 1, by omega, by omega, by go_num, by rw [X1.out]⟩
      case measure => simp [intOf]; omega
    · have hk2 : k = xs.length := by omega
      subst hk2
      go_wp2
      go_ret
      exact ⟨ret_int E.out.symm, rfl⟩
end Go.Proofs.Ytgglgghlndhfbaa
