/-
  slices.IndexFunc and slices.ContainsFunc over a slice that reads as a list, for whatever predicate the function value decides.
-/
import Derived.Test.YtgglgghlndhfbaaDoorData
import Derived.Test.YtgglgghlndhfbaaDoorProg
import Derived.Shelf.Abstract
namespace Go.Proofs.YtgglgghlndhfbaaDoor
open Go.RowKit

/-- the first place at which p holds, -1 if there is none -/
def idxF {α : Type} (p : α → Bool) (xs : List α) : Int := match xs.findIdx? p with | some i => (i : Int) | none => -1
theorem idxF_hit {α : Type} {p : α → Bool} {xs : List α} {k : Nat} {x : α} (hx : xs[k]? = some x) (hp : p x = true) (hb : ∀ (j : Nat) (y : α), j < k → xs[j]? = some y → p y = false) : idxF p xs = (k : Int) := by
  have hk : k < xs.length := (List.getElem?_eq_some_iff.1 hx).1
  have h : xs.findIdx? p = some k := by
    rw [List.findIdx?_eq_some_iff_getElem]
    refine ⟨hk, ?_, fun j hj => ?_⟩
    · rw [List.getElem?_eq_getElem hk] at hx
      injection hx with hx
      rw [hx]; exact hp
    · simpa using hb j _ hj (List.getElem?_eq_getElem (by omega))
  simp [idxF, h]
theorem idxF_miss {α : Type} {p : α → Bool} {xs : List α} (hb : ∀ (j : Nat) (y : α), j < xs.length → xs[j]? = some y → p y = false) : idxF p xs = -1 := by
  have h : xs.findIdx? p = none := by
    rw [List.findIdx?_eq_none_iff]
    intro x hx
    obtain ⟨j, hj, e⟩ := List.getElem_of_mem hx
    exact hb j x hj (by rw [List.getElem?_eq_getElem hj, e])
  simp [idxF, h]
theorem idxF_any {α : Type} (p : α → Bool) (xs : List α) : decide (0 ≤ idxF p xs) = xs.any p := by
  unfold idxF
  cases h : xs.findIdx? p with
  | none =>
    rw [List.findIdx?_eq_none_iff] at h
    have : xs.any p = false := by rw [List.any_eq_false]; intro x hx; simp [h x hx]
    simp [this]
  | some i =>
    rw [List.findIdx?_eq_some_iff_getElem] at h
    obtain ⟨hi, hp, _⟩ := h
    have : xs.any p = true := List.any_eq_true.2 ⟨_, List.getElem_mem hi, hp⟩
    simp [this]

theorem list1 {cs : List Value} (h : cs.length = 1) : ∃ c0 : Value, cs = [c0] := by
  match cs, h with
  | [c0], _ => exact ⟨c0, rfl⟩
theorem list3 {cs : List Value} (h : cs.length = 3) : ∃ c0 c1 c2 : Value, cs = [c0, c1, c2] := by
  match cs, h with
  | [c0, c1, c2], _ => exact ⟨c0, c1, c2, rfl⟩
theorem list4 {cs : List Value} (h : cs.length = 4) : ∃ c0 c1 c2 c3 : Value, cs = [c0, c1, c2, c3] := by
  match cs, h with
  | [c0, c1, c2, c3], _ => exact ⟨c0, c1, c2, c3, rfl⟩
theorem list6 {cs : List Value} (h : cs.length = 6) : ∃ c0 c1 c2 c3 c4 c5 : Value, cs = [c0, c1, c2, c3, c4, c5] := by
  match cs, h with
  | [c0, c1, c2, c3, c4, c5], _ => exact ⟨c0, c1, c2, c3, c4, c5, rfl⟩
theorem list7 {cs : List Value} (h : cs.length = 7) : ∃ c0 c1 c2 c3 c4 c5 c6 : Value, cs = [c0, c1, c2, c3, c4, c5, c6] := by
  match cs, h with
  | [c0, c1, c2, c3, c4, c5, c6], _ => exact ⟨c0, c1, c2, c3, c4, c5, c6, rfl⟩
/-- the function value decides p on the list's elements, in every later world -/
def PredI64 (g : Nat) (lb : Array Value) (p : Int → Bool) (xs : List Int) (w : World) : Prop :=
  ∀ (x : Int) (c0 : Value) (W : World), x ∈ xs → Grows w W → RI W [c0] x → Calls Tryd.prog g (#[c0] ++ lb) W fun e W' => e = .returned (.bool (p x)) ∧ Grows W W'
set_option maxHeartbeats 2000000 in
theorem indexFuncI64_any {v : Value} {xs : List Int} (g : Nat) (lb : Array Value) (eg : ∀ (args : Array Value) (w : World), (callFunc g args).run Tryd.prog w = .ok (.enter g args) w) (p : Int → Bool) (w : World)
    (h : RList 1 RI w v xs) (hp : PredI64 g lb p xs w) :
    Calls Tryd.prog 101 #[v, .func (.func g) #[] lb] w fun e w' => e = .returned (.int .i64 (idxF p xs)) ∧ Grows w w' := by
  have hl := h.len
  obtain ⟨A, c, rfl, hle, hc, hx⟩ := h.form
  have HX := hideIt hx
  have HP := hideIt hp
  clear hx hp h hle hc
  go_enter Tryd.func101, Tryd.ntmps101
  go_wp2
  go_loopw [5, 8] (fun _ i wr => ∃ k : Nat, k ≤ xs.length ∧ i = .int .i64 k ∧ Hid (∀ (j : Nat) (y : Int), j < k → xs[j]? = some y → p y = false) ∧ Grows w wr) (fun _ i _ => xs.length - (intOf i).toNat)
  case atStart => exact ⟨0, Nat.zero_le _, rfl, fun i y hi => absurd hi (by omega), Grows.refl _⟩
  case round =>
    obtain ⟨k, hk, rfl, hco, hg⟩ := hrel
    by_cases hlt : k < xs.length
    · obtain ⟨x, hx⟩ : ∃ x, xs[k]? = some x := ⟨_, List.getElem?_eq_getElem hlt⟩
      obtain ⟨b, off, rfl, cs, hl1, hcs, hr⟩ := HX.out k x hx
      obtain ⟨c0, rfl⟩ := list1 hl1
      have hcall := fun W (gw : Grows wr W) (hr' : RI W [c0] x) => HP.out x c0 W (List.mem_of_getElem? hx) (hg.trans gw) hr'
      have HR : Hid (RI wr [c0] x) := by have h := hr; exact h
      have hs0 : wr.cell? ⟨b, off + k, none⟩ = some c0 := by simpa using hg.keeps _ _ (hcs 0 _ rfl)
      have X1 := hideIt hx
      clear hcs hl1 hx hr
      have HC := hideIt hcall
      clear hcall
      cases hq : p x with
      | true =>
        have HQ := hideIt hq
        go_wp2_with (go_at_fn g; refine (HC.out _ (by repeat (first | exact Grows.refl _ | refine Grows.drew ?_)) HR.out).mono ?_; rintro e w' ⟨rfl, g2⟩; rw [HQ.out])
        go_ret
        exact ⟨ret_int (idxF_hit X1.out HQ.out hco.out).symm, hg.trans (by assumption)⟩
      | false =>
        have HQ := hideIt hq
        go_wp2_with (go_at_fn g; refine (HC.out _ (by repeat (first | exact Grows.refl _ | refine Grows.drew ?_)) HR.out).mono ?_; rintro e w' ⟨rfl, g2⟩; rw [HQ.out])
        go_roundw
        case rel => exact ⟨k + 1, by omega, by go_num, fun j y hj hy => by
          by_cases e : j = k
          · subst e; rw [X1.out] at hy; injection hy with hy; rw [← hy]; exact HQ.out
          · exact hco.out j y (by omega) hy, hg.trans (by assumption)⟩
        case measure => simp [intOf]; omega
    · have hk2 : k = xs.length := by omega
      subst hk2
      go_wp2
      go_ret
      exact ⟨ret_int (idxF_miss hco.out).symm, hg⟩
set_option maxHeartbeats 1000000 in
theorem containsFuncI64_any {v : Value} {xs : List Int} (g : Nat) (lb : Array Value) (eg : ∀ (args : Array Value) (w : World), (callFunc g args).run Tryd.prog w = .ok (.enter g args) w) (p : Int → Bool) (w : World)
    (h : RList 1 RI w v xs) (hp : PredI64 g lb p xs w) :
    Calls Tryd.prog 84 #[v, .func (.func g) #[] lb] w fun e w' => e = .returned (.bool (xs.any p)) ∧ Grows w w' := by
  have E := hideIt (idxF_any p xs)
  have HC := hideIt (indexFuncI64_any g lb eg p w h hp)
  clear h hp
  go_enter Tryd.func84, Tryd.ntmps84
  go_wp2_with (go_at_call 101; refine HC.out.mono ?_; rintro e w' ⟨rfl, g2⟩)
  go_ret
  exact ⟨ret_bool E.out, by assumption⟩
end Go.Proofs.YtgglgghlndhfbaaDoor
