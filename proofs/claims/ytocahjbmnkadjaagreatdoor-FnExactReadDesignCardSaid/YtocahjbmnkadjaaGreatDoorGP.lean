/-
  slices.IndexFunc and slices.ContainsFunc over []int and over places.
-/
import Derived.Test.YtocahjbmnkadjaaGreatDoorGM
import Derived.Test.YtocahjbmnkadjaaGreatDoorGA
import Derived.Test.YtocahjbmnkadjaaGreatDoorGG
namespace Go.Proofs.YtocahjbmnkadjaaGreatDoor
open Go.RowKit

/-- the function value decides p on the list's elements, in every later world -/
def PredIn (g : Nat) (lb : Array Value) (p : Int → Bool) (xs : List Int) (w : World) : Prop :=
  ∀ (x : Int) (c0 : Value) (W : World), x ∈ xs → Grows w W → RI W [c0] x → Calls Tryz.prog g (#[c0] ++ lb) W fun e W' => e = .returned (.bool (p x)) ∧ Grows W W'
set_option maxHeartbeats 2000000 in
theorem indexFuncIn_any {v : Value} {xs : List Int} (g : Nat) (lb : Array Value) (eg : ∀ (args : Array Value) (w : World), (callFunc g args).run Tryz.prog w = .ok (.enter g args) w) (p : Int → Bool) (w : World)
    (h : RList 1 RI w v xs) (hp : PredIn g lb p xs w) :
    Calls Tryz.prog 104 #[v, .func (.func g) #[] lb] w fun e w' => e = .returned (.int .i64 (idxF p xs)) ∧ Grows w w' := by
  have hl := h.len
  obtain ⟨A, c, rfl, hle, hc, hx⟩ := h.form
  have HX := hideIt hx
  have HP := hideIt hp
  clear hx hp h hle hc
  go_enter Tryz.func104, Tryz.ntmps104
  go_wp2
  go_loopw [5, 8] (fun _ i wr => ∃ k : Nat, k ≤ xs.length ∧ i = .int .i64 k ∧ Hid (∀ (j : Nat) (y : Int), j < k → xs[j]? = some y → p y = false) ∧ Grows w wr) (fun _ i _ => xs.length - (intOf i).toNat)
  case atStart => exact ⟨0, Nat.zero_le _, rfl, fun i y hi => absurd hi (by omega), Grows.refl _⟩
  case round =>
    obtain ⟨k, hk, rfl, hco, hg⟩ := hrel
    by_cases hlt : k < xs.length
    · obtain ⟨x, hx⟩ : ∃ x, xs[k]? = some x := ⟨_, List.getElem?_eq_getElem hlt⟩
      obtain ⟨b, off, rfl, cs, hl1, hcs, hr⟩ := HX.out k x hx
      obtain ⟨c0, rfl⟩ := list1 hl1
      have hcall := fun W (gw : Grows wr W) (hr' : RI W [c0] x) => HP.out x c0 W (List.mem_of_getElem? hx) (hg.trans gw) hr'
      have HR : Hid (RI wr [c0] x) := by have h := hr; exact h
      have hs0 : wr.cell? ⟨b, off + k, none⟩ = some c0 := by simpa using hg.keeps _ _ (hcs 0 _ rfl)
      have X1 := hideIt hx
      clear hcs hl1 hx hr
      have HC := hideIt hcall
      clear hcall
      cases hq : p x with
      | true =>
        have HQ := hideIt hq
        go_wp2_with (go_at_fn g; refine (HC.out _ (by repeat (first | exact Grows.refl _ | refine Grows.drew ?_)) HR.out).mono ?_; rintro e w' ⟨rfl, g2⟩; rw [HQ.out])
        go_ret
        exact ⟨ret_int (idxF_hit X1.out HQ.out hco.out).symm, hg.trans (by assumption)⟩
      | false =>
        have HQ := hideIt hq
        go_wp2_with (go_at_fn g; refine (HC.out _ (by repeat (first | exact Grows.refl _ | refine Grows.drew ?_)) HR.out).mono ?_; rintro e w' ⟨rfl, g2⟩; rw [HQ.out])
        go_roundw
        case rel => exact ⟨k + 1, by omega, by go_num, fun j y hj hy => by
          by_cases e : j = k
          · subst e; rw [X1.out] at hy; injection hy with hy; rw [← hy]; exact HQ.out
          · exact hco.out j y (by omega) hy, hg.trans (by assumption)⟩
        case measure => simp [intOf]; omega
    · have hk2 : k = xs.length := by omega
      subst hk2
      go_wp2
      go_ret
      exact ⟨ret_int (idxF_miss hco.out).symm, hg⟩
set_option maxHeartbeats 1000000 in
theorem containsFuncIn_any {v : Value} {xs : List Int} (g : Nat) (lb : Array Value) (eg : ∀ (args : Array Value) (w : World), (callFunc g args).run Tryz.prog w = .ok (.enter g args) w) (p : Int → Bool) (w : World)
    (h : RList 1 RI w v xs) (hp : PredIn g lb p xs w) :
    Calls Tryz.prog 77 #[v, .func (.func g) #[] lb] w fun e w' => e = .returned (.bool (xs.any p)) ∧ Grows w w' := by
  have E := hideIt (idxF_any p xs)
  have HC := hideIt (indexFuncIn_any g lb eg p w h hp)
  clear h hp
  go_enter Tryz.func77, Tryz.ntmps77
  go_wp2_with (go_at_call 104; refine HC.out.mono ?_; rintro e w' ⟨rfl, g2⟩)
  go_ret
  exact ⟨ret_bool E.out, by assumption⟩
end Go.Proofs.YtocahjbmnkadjaaGreatDoor
/-
  Contract of the reference's test of different names.
-/
namespace Go.Proofs.YtocahjbmnkadjaaGreatDoor
open Go.RowKit
set_option maxHeartbeats 2000000 in
theorem l05Names_any {v : Value} {xs : List ByteArray} (w : World) (h : RStrs w v xs) :
    Calls Tryz.prog 38 #[v] w fun e w' => e = .returned (.bool (pB (NamesP xs))) ∧ Grows w w' := by
  have hl := RList.len h
  obtain ⟨A, c, rfl, hle, hcm, hx⟩ := RList.form h
  have HX := hideIt (fun (i : Nat) (s : ByteArray) (hi : xs[i]? = some s) => (by obtain ⟨b, off, e, ds, hl1, hcs, hr, hz⟩ := hx i s hi; exact ⟨b, off, e, by subst hr; simpa using hcs 0 _ rfl, hz⟩ : ∃ b off : Nat, A = some ⟨b, off, none⟩ ∧ w.cell? ⟨b, off + i, none⟩ = some (.string s) ∧ s.size ≤ maxLen))
  clear hx h
  go_enter Tryz.func38, Tryz.ntmps38
  go_wp2
  go_loopw [3, 4] (fun i _ wr => ∃ k : Nat, k ≤ xs.length ∧ i = .int .i64 (k : Int) ∧ Hid (∀ (j : Nat) (u : ByteArray), j < k → xs[j]? = some u → nameB u = true ∧ ∀ (i : Nat) (s : ByteArray), i < j → xs[i]? = some s → ¬ s = u) ∧ Grows w wr) (fun i _ _ => xs.length - (intOf i).toNat)
  case atStart => exact ⟨0, by omega, rfl, fun j u hj => absurd hj (by omega), Grows.refl _⟩
  case round =>
    obtain ⟨k, hk, rfl, hco, hg⟩ := hrel
    have HG := hideIt hg
    clear hg
    by_cases hlt : k < xs.length
    · obtain ⟨u, hu⟩ : ∃ u, xs[k]? = some u := ⟨_, List.getElem?_eq_getElem hlt⟩
      obtain ⟨b, off, rfl, hc, hz⟩ := HX.out k u hu
      have hs0 : wr.cell? ⟨b, off + k, none⟩ = some (.string u) := HG.out.keeps _ _ hc
      have U := hideIt hu
      clear hc hu
      cases hn : nameB u
      · have EP := hideIt (pB_false (p := NamesP xs) fun h => by have := h.1 _ u U.out; rw [hn] at this; cases this)
        have HN := hideIt hn
        clear hn
        go_wp2_with (go_at_call 59; refine (l03Name_any _ _ hz).mono ?_; rintro e w' ⟨rfl, hw⟩; rw [hw]; clear hw w'; rw [HN.out])
        go_ret
        exact ⟨ret_bool EP.out.symm, HG.out⟩
      have HN := hideIt hn
      clear hn
      obtain ⟨wo, ewo⟩ : ∃ wo : World, wo = wr := ⟨_, rfl⟩
      subst ewo
      go_wp2_with (go_at_call 59; refine (l03Name_any _ _ hz).mono ?_; rintro e w' ⟨rfl, hw⟩; rw [hw]; clear hw w'; rw [HN.out])
      go_loopw [4] (fun i wr => ∃ q : Nat, q ≤ k ∧ i = .int .i64 (q : Int) ∧ Hid (∀ (j : Nat) (r : ByteArray), j < q → xs[j]? = some r → ¬ r = u) ∧ Grows wo wr) (fun i _ => k - (intOf i).toNat)
      case atStart => exact ⟨0, by omega, rfl, fun j r hj => absurd hj (by omega), Grows.refl _⟩
      case round =>
        obtain ⟨q, hq, rfl, hne, hg2⟩ := hrel
        have HG2 := hideIt hg2
        have GG2 := hideIt (HG.out.trans hg2)
        have hs1 : wr.cell? ⟨b, off + k, none⟩ = some (.string u) := hg2.keeps _ _ hs0
        clear hg2
        by_cases hlq : q < k
        · obtain ⟨r, hr⟩ : ∃ r, xs[q]? = some r := ⟨_, List.getElem?_eq_getElem (by omega)⟩
          have kq : wr.cell? ⟨b, off + q, none⟩ = some (.string r) := by
            obtain ⟨b', off', e, hc, -⟩ := HX.out q r hr
            injection e with e
            injection e with e1 e2
            subst e1 e2
            exact GG2.out.keeps _ _ hc
          have Q1 := hideIt hr
          have kq2 : q < xs.length := by omega
          clear hr
          by_cases he : r = u
          · have EP := hideIt (pB_false (p := NamesP xs) fun h => h.2 q k r u hlq Q1.out U.out he)
            have he1 : (r.toList == u.toList) = true := by rw [he]; simp
            clear he
            go_wp2
            (try (go_quiet (fail); go_wp2))
            go_ret
            exact ⟨ret_bool EP.out.symm, by first | exact GG2.out | exact GG2.out.drewN _⟩
          · have he1 := strNe he
            have HE := hideIt he
            clear he
            go_wp2
            (try (go_quiet (fail); go_wp2))
            go_roundw
            case rel => exact ⟨q + 1, by omega, by go_num, fun j s hj hs => by
              by_cases ej : j = q
              · subst ej
                rw [Q1.out] at hs
                injection hs with hs
                rw [← hs]
                exact HE.out
              · exact hne.out j s (by omega) hs, by first | exact HG2.out | exact HG2.out.drewN _⟩
            case measure => simp [intOf]; omega
        · obtain rfl : q = k := by omega
          go_wp2
          go_roundw
          case rel => exact ⟨q + 1, by omega, by go_num, fun j s hj hs => by
            by_cases ej : j = q
            · subst ej
              rw [U.out] at hs
              injection hs with hs
              subst hs
              exact ⟨HN.out, fun m r hm hr => hne.out m r hm hr⟩
            · exact hco.out j s (by omega) hs, GG2.out⟩
          case measure => simp [intOf]; omega
    · obtain rfl : k = xs.length := by omega
      have EP := hideIt (pB_true (p := NamesP xs) ⟨fun i s hi => (hco.out i s (List.getElem?_eq_some_iff.1 hi).1 hi).1, fun i j s u hij hi hj => (hco.out j u (List.getElem?_eq_some_iff.1 hj).1 hj).2 i s hij hi⟩)
      clear hco
      go_wp2
      go_ret
      exact ⟨ret_bool EP.out.symm, HG.out⟩
end Go.Proofs.YtocahjbmnkadjaaGreatDoor
