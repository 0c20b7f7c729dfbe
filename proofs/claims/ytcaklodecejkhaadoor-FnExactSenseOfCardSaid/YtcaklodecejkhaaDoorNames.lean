/-
  Contract of the program's test of different names.
-/
import Derived.Test.YtcaklodecejkhaaDoorCellM
import Derived.Test.YtcaklodecejkhaaDoorListB
namespace Go.Proofs.YtcaklodecejkhaaDoor
open Go.RowKit

set_option maxHeartbeats 1000000 in
theorem indexStr_any {v : Value} {xs : List ByteArray} (s : ByteArray) (w : World) (h : RStrs w v xs) :
    Calls Tryd.prog 100 #[v, .string s] w fun e w' => e = .returned (.int .i64 (idxF (fun y => decide (y = s)) xs)) ∧ w' = w := by
  have hl := RList.len h
  obtain ⟨A, c, rfl, -, -, hx⟩ := RList.form h
  have HX := hideIt hx
  clear hx h
  go_enter Tryd.func100, Tryd.ntmps100
  go_wp2
  go_loop [5, 8] (fun _ i => ∃ k : Nat, k ≤ xs.length ∧ i = .int .i64 (k : Int) ∧ Hid (∀ (j : Nat) (y : ByteArray), j < k → xs[j]? = some y → decide (y = s) = false)) (fun _ i => xs.length - (intOf i).toNat)
  case atStart => exact ⟨0, Nat.zero_le _, rfl, fun i y hi => absurd hi (by omega)⟩
  case round =>
    obtain ⟨k, hk, rfl, hco⟩ := hrel
    by_cases hlt : k < xs.length
    · obtain ⟨y, hy⟩ : ∃ y, xs[k]? = some y := ⟨_, List.getElem?_eq_getElem hlt⟩
      obtain ⟨b, off, rfl, cs, hl1, hcs, hr⟩ := HX.out k y hy
      obtain ⟨c0, rfl⟩ := list1 hl1
      obtain ⟨hr, -⟩ := hr
      injection hr with hr
      subst hr
      have hs0 : w.cell? ⟨b, off + k, none⟩ = some (.string y) := by simpa using (hcs 0 _ rfl)
      have Y := hideIt hy
      clear hcs hl1 hy
      by_cases he : y = s
      · have HE := hideIt (decide_eq_true he)
        go_wp2
        go_ret
        exact ⟨ret_int (idxF_hit Y.out HE.out hco.out).symm, rfl⟩
      · have HE := hideIt (decide_eq_false he)
        have he2 := strNe (fun h => he h.symm)
        go_wp2
        go_round
        case rel => exact ⟨k + 1, by omega, by go_num, fun j z hj hz => by
          by_cases e : j = k
          · subst e; rw [Y.out] at hz; injection hz with hz; rw [← hz]; exact HE.out
          · exact hco.out j z (by omega) hz⟩
        case measure => simp [intOf]; omega
    · have hk2 : k = xs.length := by omega
      subst hk2
      go_wp2
      go_ret
      exact ⟨ret_int (idxF_miss hco.out).symm, rfl⟩

theorem take_le {α : Type} {xs : List α} {k : Nat} (h : k ≤ xs.length) : (xs.take k).length = k := by simp; omega
theorem RStrs.take {w : World} {A : Option Addr} {xs : List ByteArray} {c k : Nat} (h : RStrs w (.slice A xs.length c) xs) (hk : k ≤ xs.length) : RStrs w (.slice A k c) (xs.take k) := by
  obtain ⟨A', c', e, h1, h2, h3⟩ := h
  injection e with e1 e2 e3
  subst e1 e3
  refine ⟨A, c, by rw [take_le hk], by rw [take_le hk]; omega, h2, ?_⟩
  rcases h3 with rfl | ⟨b, off, hA, hc⟩
  · left; simp
  · right
    refine ⟨b, off, hA, fun i x hx => hc i x ?_⟩
    rw [List.getElem?_take] at hx
    split at hx
    · exact hx
    · cases hx
set_option maxHeartbeats 400000 in
theorem containsStr_any {v : Value} {xs : List ByteArray} (s : ByteArray) (w : World) (h : RStrs w v xs) :
    Calls Tryd.prog 86 #[v, .string s] w fun e w' => e = .returned (.bool (xs.any fun y => decide (y = s))) ∧ w' = w := by
  have E := hideIt (idxF_any (fun y => decide (y = s)) xs)
  have HC := hideIt (indexStr_any s w h)
  clear h
  go_enter Tryd.func86, Tryd.ntmps86
  go_wp2_with (go_at_call 100; refine HC.out.mono ?_; rintro e w' ⟨rfl, rfl⟩)
  go_ret
  exact ⟨ret_bool E.out, rfl⟩
def NamesP (l : List ByteArray) : Prop := (∀ (i : Nat) (s : ByteArray), l[i]? = some s → nameB s = true) ∧ ∀ (i j : Nat) (s u : ByteArray), i < j → l[i]? = some s → l[j]? = some u → ¬ s = u
set_option maxHeartbeats 2000000 in
theorem areNames_any {v : Value} {xs : List ByteArray} (w : World) (h : RStrs w v xs) :
    Calls Tryd.prog 63 #[v] w fun e w' => e = .returned (.bool (pB (NamesP xs))) ∧ Grows w w' := by
  have hl := RList.len h
  obtain ⟨A, c, rfl, hle, hcm, hx⟩ := RList.form h
  have H := hideIt h
  have HX := hideIt hx
  clear hx h
  go_enter Tryd.func63, Tryd.ntmps63
  go_wp2
  go_loopw [3, 4, 7] (fun _ _ i wr => ∃ k : Nat, k ≤ xs.length ∧ i = .int .i64 (k : Int) ∧ Hid (∀ (j : Nat) (u : ByteArray), j < k → xs[j]? = some u → nameB u = true ∧ ∀ (i : Nat) (s : ByteArray), i < j → xs[i]? = some s → ¬ s = u) ∧ Grows w wr) (fun _ _ i _ => xs.length - (intOf i).toNat)
  case atStart => exact ⟨0, by omega, rfl, fun j u hj => absurd hj (by omega), Grows.refl _⟩
  case round =>
    obtain ⟨k, hk, rfl, hco, hg⟩ := hrel
    have HG := hideIt hg
    by_cases hlt : k < xs.length
    · obtain ⟨u, hu⟩ : ∃ u, xs[k]? = some u := ⟨_, List.getElem?_eq_getElem hlt⟩
      obtain ⟨b, off, rfl, cs, hl1, hcs, hr, hz⟩ := HX.out k u hu
      subst hr
      have hs0 : wr.cell? ⟨b, off + k, none⟩ = some (.string u) := hg.keeps _ _ (by simpa using (hcs 0 _ rfl))
      have U := hideIt hu
      have kc : k ≤ c := by omega
      have kc2 : (k : Int) ≤ (c : Int) := by omega
      have HT := hideIt (RStrs.take H.out (Nat.le_of_lt hlt))
      clear hcs hl1 hu hg
      cases hn : nameB u
      · have EP := hideIt (pB_false (p := NamesP xs) fun h => by have := h.1 _ u U.out; rw [hn] at this; cases this)
        go_wp2_with fail
        refine (isName_any _ _ hz).mono ?_
        rintro e w1 ⟨rfl, g1⟩
        rw [hn]
        have G1 := hideIt (HG.out.trans g1)
        clear g1 hn
        go_wp2
        go_ret
        exact ⟨ret_bool EP.out.symm, G1.out⟩
      have HN := hideIt hn
      cases ha : ((xs.take k).any fun y => decide (y = u))
      · have NE : Hid (∀ (i : Nat) (s : ByteArray), i < k → xs[i]? = some s → ¬ s = u) := hideIt fun i s hi hs e => by
          rw [List.any_eq_false] at ha
          have hm : s ∈ xs.take k := List.mem_of_getElem? (i := i) (by rw [List.getElem?_take, if_pos hi]; exact hs)
          have := ha s hm
          simp [e] at this
        have HA := hideIt ha
        clear ha hn
        go_wp2_with fail
        refine (isName_any _ _ hz).mono ?_
        rintro e w1 ⟨rfl, g1⟩
        rw [HN.out]
        have G1 := hideIt (HG.out.trans g1)
        clear g1
        go_wp2_with fail
        refine (containsStr_any _ _ (HT.out.keep G1.out.keeps)).mono ?_
        rintro e w2 ⟨rfl, rfl⟩
        rw [HA.out]
        go_wp2
        go_roundw
        case rel => exact ⟨k + 1, by omega, by go_num, fun j s hj hs => by
          by_cases ej : j = k
          · subst ej; rw [U.out] at hs; injection hs with hs; subst hs; exact ⟨HN.out, NE.out⟩
          · exact hco.out j s (by omega) hs, G1.out⟩
        case measure => simp [intOf]; omega
      · have EP := hideIt (pB_false (p := NamesP xs) fun h => by
          obtain ⟨s, hm, hs⟩ := List.any_eq_true.1 ha
          obtain ⟨i, hi⟩ := List.getElem?_of_mem hm
          rw [List.getElem?_take] at hi
          split at hi
          · exact h.2 i k s u (by assumption) hi U.out (of_decide_eq_true hs)
          · cases hi)
        have HA := hideIt ha
        clear ha hn
        go_wp2_with fail
        refine (isName_any _ _ hz).mono ?_
        rintro e w1 ⟨rfl, g1⟩
        rw [HN.out]
        have G1 := hideIt (HG.out.trans g1)
        clear g1
        go_wp2_with fail
        refine (containsStr_any _ _ (HT.out.keep G1.out.keeps)).mono ?_
        rintro e w2 ⟨rfl, rfl⟩
        rw [HA.out]
        go_wp2
        go_ret
        exact ⟨ret_bool EP.out.symm, G1.out⟩
    · obtain rfl : k = xs.length := by omega
      have EP := hideIt (pB_true (p := NamesP xs) ⟨fun i s hi => (hco.out i s (List.getElem?_eq_some_iff.1 hi).1 hi).1, fun i j s u hij hi hj => (hco.out j u (List.getElem?_eq_some_iff.1 hj).1 hj).2 i s hij hi⟩)
      clear hco
      go_wp2
      go_ret
      exact ⟨ret_bool EP.out.symm, HG.out⟩
end Go.Proofs.YtcaklodecejkhaaDoor
