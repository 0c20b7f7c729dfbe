/-
  Contract of the reference's test of different names.
-/
import Derived.Test.YtpppobomekebdaaGreatDoorGG
namespace Go.Proofs.YtpppobomekebdaaGreatDoor
open Go.RowKit
set_option maxHeartbeats 2000000 in
theorem l05Names_any {v : Value} {xs : List ByteArray} (w : World) (h : RStrs w v xs) :
    Calls Tryz.prog 83 #[v] w fun e w' => e = .returned (.bool (pB (NamesP xs))) ∧ Grows w w' := by
  have hl := RList.len h
  obtain ⟨A, c, rfl, hle, hcm, hx⟩ := RList.form h
  have HX := hideIt (fun (i : Nat) (s : ByteArray) (hi : xs[i]? = some s) => (by obtain ⟨b, off, e, ds, hl1, hcs, hr, hz⟩ := hx i s hi; exact ⟨b, off, e, by subst hr; simpa using hcs 0 _ rfl, hz⟩ : ∃ b off : Nat, A = some ⟨b, off, none⟩ ∧ w.cell? ⟨b, off + i, none⟩ = some (.string s) ∧ s.size ≤ maxLen))
  clear hx h
  go_enter Tryz.func83, Tryz.ntmps83
  go_wp2
  go_loopw [3, 4] (fun i _ wr => ∃ k : Nat, k ≤ xs.length ∧ i = .int .i64 (k : Int) ∧ Hid (∀ (j : Nat) (u : ByteArray), j < k → xs[j]? = some u → nameB u = true ∧ ∀ (i : Nat) (s : ByteArray), i < j → xs[i]? = some s → ¬ s = u) ∧ Grows w wr) (fun i _ _ => xs.length - (intOf i).toNat)
  case atStart => exact ⟨0, by omega, rfl, fun j u hj => absurd hj (by omega), Grows.refl _⟩
  case round =>
    obtain ⟨k, hk, rfl, hco, hg⟩ := hrel
    have HG := hideIt hg
    clear hg
    by_cases hlt : k < xs.length
    · obtain ⟨u, hu⟩ : ∃ u, xs[k]? = some u := ⟨_, List.getElem?_eq_getElem hlt⟩
      obtain ⟨b, off, rfl, hc, hz⟩ := HX.out k u hu
      have hs0 : wr.cell? ⟨b, off + k, none⟩ = some (.string u) := HG.out.keeps _ _ hc
      have U := hideIt hu
      clear hc hu
      cases hn : nameB u
      · have EP := hideIt (pB_false (p := NamesP xs) fun h => by have := h.1 _ u U.out; rw [hn] at this; cases this)
        have HN := hideIt hn
        clear hn
        go_wp2_with (go_at_call 119; refine (l03Name_any _ _ hz).mono ?_; rintro e w' ⟨rfl, hw⟩; rw [hw]; clear hw w'; rw [HN.out])
        go_ret
        exact ⟨ret_bool EP.out.symm, HG.out⟩
      have HN := hideIt hn
      clear hn
      obtain ⟨wo, ewo⟩ : ∃ wo : World, wo = wr := ⟨_, rfl⟩
      subst ewo
      go_wp2_with (go_at_call 119; refine (l03Name_any _ _ hz).mono ?_; rintro e w' ⟨rfl, hw⟩; rw [hw]; clear hw w'; rw [HN.out])
      go_loopw [4] (fun i wr => ∃ q : Nat, q ≤ k ∧ i = .int .i64 (q : Int) ∧ Hid (∀ (j : Nat) (r : ByteArray), j < q → xs[j]? = some r → ¬ r = u) ∧ Grows wo wr) (fun i _ => k - (intOf i).toNat)
      case atStart => exact ⟨0, by omega, rfl, fun j r hj => absurd hj (by omega), Grows.refl _⟩
      case round =>
        obtain ⟨q, hq, rfl, hne, hg2⟩ := hrel
        have HG2 := hideIt hg2
        have GG2 := hideIt (HG.out.trans hg2)
        have hs1 : wr.cell? ⟨b, off + k, none⟩ = some (.string u) := hg2.keeps _ _ hs0
        clear hg2
        by_cases hlq : q < k
        · obtain ⟨r, hr⟩ : ∃ r, xs[q]? = some r := ⟨_, List.getElem?_eq_getElem (by omega)⟩
          have kq : wr.cell? ⟨b, off + q, none⟩ = some (.string r) := by
            obtain ⟨b', off', e, hc, -⟩ := HX.out q r hr
            injection e with e
            injection e with e1 e2
            subst e1 e2
            exact GG2.out.keeps _ _ hc
          have Q1 := hideIt hr
          have kq2 : q < xs.length := by omega
          clear hr
          by_cases he : r = u
          · have EP := hideIt (pB_false (p := NamesP xs) fun h => h.2 q k r u hlq Q1.out U.out he)
            have he1 : (r.toList == u.toList) = true := by rw [he]; simp
            clear he
            go_wp2
            (try (go_quiet (fail); go_wp2))
            go_ret
            exact ⟨ret_bool EP.out.symm, by first | exact GG2.out | exact GG2.out.drewN _⟩
          · have he1 := strNe he
            have HE := hideIt he
            clear he
            go_wp2
            (try (go_quiet (fail); go_wp2))
            go_roundw
            case rel => exact ⟨q + 1, by omega, by go_num, fun j s hj hs => by
              by_cases ej : j = q
              · subst ej
                rw [Q1.out] at hs
                injection hs with hs
                rw [← hs]
                exact HE.out
              · exact hne.out j s (by omega) hs, by first | exact HG2.out | exact HG2.out.drewN _⟩
            case measure => simp [intOf]; omega
        · obtain rfl : q = k := by omega
          go_wp2
          go_roundw
          case rel => exact ⟨q + 1, by omega, by go_num, fun j s hj hs => by
            by_cases ej : j = q
            · subst ej
              rw [U.out] at hs
              injection hs with hs
              subst hs
              exact ⟨HN.out, fun m r hm hr => hne.out m r hm hr⟩
            · exact hco.out j s (by omega) hs, GG2.out⟩
          case measure => simp [intOf]; omega
    · obtain rfl : k = xs.length := by omega
      have EP := hideIt (pB_true (p := NamesP xs) ⟨fun i s hi => (hco.out i s (List.getElem?_eq_some_iff.1 hi).1 hi).1, fun i j s u hij hi hj => (hco.out j u (List.getElem?_eq_some_iff.1 hj).1 hj).2 i s hij hi⟩)
      clear hco
      go_wp2
      go_ret
      exact ⟨ret_bool EP.out.symm, HG.out⟩
end Go.Proofs.YtpppobomekebdaaGreatDoor
