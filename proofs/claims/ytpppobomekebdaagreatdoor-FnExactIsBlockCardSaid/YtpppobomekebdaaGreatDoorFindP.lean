/-
  slices.IndexFunc and slices.ContainsFunc over []int and over places.
-/
import Derived.Test.YtpppobomekebdaaGreatDoorGM
import Derived.Test.YtpppobomekebdaaGreatDoorGA
namespace Go.Proofs.YtpppobomekebdaaGreatDoor
open Go.RowKit

/-- the function value decides p on the list's elements, in every later world -/
def PredIn (g : Nat) (lb : Array Value) (p : Int → Bool) (xs : List Int) (w : World) : Prop :=
  ∀ (x : Int) (c0 : Value) (W : World), x ∈ xs → Grows w W → RI W [c0] x → Calls Tryz.prog g (#[c0] ++ lb) W fun e W' => e = .returned (.bool (p x)) ∧ Grows W W'
set_option maxHeartbeats 2000000 in
theorem indexFuncIn_any {v : Value} {xs : List Int} (g : Nat) (lb : Array Value) (eg : ∀ (args : Array Value) (w : World), (callFunc g args).run Tryz.prog w = .ok (.enter g args) w) (p : Int → Bool) (w : World)
    (h : RList 1 RI w v xs) (hp : PredIn g lb p xs w) :
    Calls Tryz.prog 141 #[v, .func (.func g) #[] lb] w fun e w' => e = .returned (.int .i64 (idxF p xs)) ∧ Grows w w' := by
  have hl := h.len
  obtain ⟨A, c, rfl, hle, hc, hx⟩ := h.form
  have HX := hideIt hx
  have HP := hideIt hp
  clear hx hp h hle hc
  go_enter Tryz.func141, Tryz.ntmps141
  go_wp2
  go_loopw [5, 8] (fun _ i wr => ∃ k : Nat, k ≤ xs.length ∧ i = .int .i64 k ∧ Hid (∀ (j : Nat) (y : Int), j < k → xs[j]? = some y → p y = false) ∧ Grows w wr) (fun _ i _ => xs.length - (intOf i).toNat)
  case atStart => exact ⟨0, Nat.zero_le _, rfl, fun i y hi => absurd hi (by omega), Grows.refl _⟩
  case round =>
    obtain ⟨k, hk, rfl, hco, hg⟩ := hrel
    by_cases hlt : k < xs.length
    · obtain ⟨x, hx⟩ : ∃ x, xs[k]? = some x := ⟨_, List.getElem?_eq_getElem hlt⟩
      obtain ⟨b, off, rfl, cs, hl1, hcs, hr⟩ := HX.out k x hx
      obtain ⟨c0, rfl⟩ := list1 hl1
      have hcall := fun W (gw : Grows wr W) (hr' : RI W [c0] x) => HP.out x c0 W (List.mem_of_getElem? hx) (hg.trans gw) hr'
      have HR : Hid (RI wr [c0] x) := by have h := hr; exact h
      have hs0 : wr.cell? ⟨b, off + k, none⟩ = some c0 := by simpa using hg.keeps _ _ (hcs 0 _ rfl)
      have X1 := hideIt hx
      clear hcs hl1 hx hr
      have HC := hideIt hcall
      clear hcall
      cases hq : p x with
      | true =>
        have HQ := hideIt hq
        go_wp2_with (go_at_fn g; refine (HC.out _ (by repeat (first | exact Grows.refl _ | refine Grows.drew ?_)) HR.out).mono ?_; rintro e w' ⟨rfl, g2⟩; rw [HQ.out])
        go_ret
        exact ⟨ret_int (idxF_hit X1.out HQ.out hco.out).symm, hg.trans (by assumption)⟩
      | false =>
        have HQ := hideIt hq
        go_wp2_with (go_at_fn g; refine (HC.out _ (by repeat (first | exact Grows.refl _ | refine Grows.drew ?_)) HR.out).mono ?_; rintro e w' ⟨rfl, g2⟩; rw [HQ.out])
        go_roundw
        case rel => exact ⟨k + 1, by omega, by go_num, fun j y hj hy => by
          by_cases e : j = k
          · subst e; rw [X1.out] at hy; injection hy with hy; rw [← hy]; exact HQ.out
          · exact hco.out j y (by omega) hy, hg.trans (by assumption)⟩
        case measure => simp [intOf]; omega
    · have hk2 : k = xs.length := by omega
      subst hk2
      go_wp2
      go_ret
      exact ⟨ret_int (idxF_miss hco.out).symm, hg⟩
set_option maxHeartbeats 1000000 in
theorem containsFuncIn_any {v : Value} {xs : List Int} (g : Nat) (lb : Array Value) (eg : ∀ (args : Array Value) (w : World), (callFunc g args).run Tryz.prog w = .ok (.enter g args) w) (p : Int → Bool) (w : World)
    (h : RList 1 RI w v xs) (hp : PredIn g lb p xs w) :
    Calls Tryz.prog 94 #[v, .func (.func g) #[] lb] w fun e w' => e = .returned (.bool (xs.any p)) ∧ Grows w w' := by
  have E := hideIt (idxF_any p xs)
  have HC := hideIt (indexFuncIn_any g lb eg p w h hp)
  clear h hp
  go_enter Tryz.func94, Tryz.ntmps94
  go_wp2_with (go_at_call 141; refine HC.out.mono ?_; rintro e w' ⟨rfl, g2⟩)
  go_ret
  exact ⟨ret_bool E.out, by assumption⟩
end Go.Proofs.YtpppobomekebdaaGreatDoor
