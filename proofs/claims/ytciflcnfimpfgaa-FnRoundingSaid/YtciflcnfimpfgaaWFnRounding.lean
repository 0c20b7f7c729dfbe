/-
  The walk of FnRounding.
-/
import Derived.Test.YtciflcnfimpfgaaRound
import Derived.Test.YtciflcnfimpfgaaRdv
import Derived.Test.YtciflcnfimpfgaaDrawR
import Derived.Test.YtciflcnfimpfgaaOpenB
namespace Go.Proofs.Ytciflcnfimpfgaa
open Go.RowKit
set_option maxHeartbeats 1000000 in
theorem walk_FnRounding {v : Value} {xs : List Int} {w : World} (hx : RBytes w v xs) :
    Calls Try.prog 3 #[v] w fun e w' => e = .returned (.bool true) ∧ Below w.heap.size w w' := by
  have HX := hideIt hx
  clear hx
  go_enter Try.func3, Try.ntmps3
  go_wp2_with fail
  refine (big_any _ HX.out).mono ?_
  rintro e w1 ⟨rfl, rfl⟩
  cases hb : decide ((xs.length : Int) > 4096)
  rotate_left
  · go_wp2
    go_ret
    exact ⟨rfl, Below.refl _ _⟩
  clear hb
  go_wp2_with fail
  refine (drawRoundDiv_any HX.out).mono ?_
  rintro e u ⟨a, b, m, rfl, g⟩
  have G := hideIt g
  clear g
  by_cases hok : inB a (-1000000000000000) 1000000000000000 = true ∧ inB b 1 1000000000000000 = true ∧ isM m = true
  · have E : Hid (roundV a b m = (rdv a b m, 0)) := hideIt (by unfold roundV; rw [if_pos hok])
    have E0 : Hid (roundV a b 0 = (rdv a b 0, 0)) := hideIt (by unfold roundV; rw [if_pos ⟨hok.1, hok.2.1, rfl⟩])
    have E1 : Hid (roundV a b 1 = (rdv a b 1, 0)) := hideIt (by unfold roundV; rw [if_pos ⟨hok.1, hok.2.1, rfl⟩])
    obtain ⟨h1, h2, h3⟩ := hok
    have a1 := inB_true h1
    have b1 := inB_true h2
    have m1 := isM_true h3
    obtain ⟨l1, l2⟩ := @rdv_low a b (by omega)
    obtain ⟨k1, k2⟩ := @rdv_high a b (by omega)
    obtain ⟨d1, d2, d3⟩ := rdv_diff a b
    have rb := @rdv_bd a b 0 (by omega)
    have rb1 : -1000000000000002 ≤ rdv a b 0 ∧ rdv a b 0 ≤ 1000000000000002 := by rcases Int.le_total 0 a with h | h <;> omega
    have M : Hid ((rdv a b m = rdv a b 0 ∨ rdv a b m = rdv a b 1)) := hideIt (by rcases m1 with rfl | rfl; exact .inl rfl; exact .inr rfl)
    generalize hL : rdv a b 0 = L at *
    generalize hH : rdv a b 1 = Hh at *
    generalize hN : rdv a b m = N at *
    clear hL hH hN rb h1 h2 h3 m1
    have hz : (b == 0) = false := by simp; omega
    go_wp2_with fail
    refine (iRoundDiv_any a b m _).mono ?_
    rintro e w1 ⟨rfl, n1, rfl⟩
    rw [E.out]
    go_wp2_with fail
    refine (sRoundDiv_any a b m _).mono ?_
    rintro e w1 ⟨rfl, rfl⟩
    rw [E.out]
    go_wp2_with fail
    refine (iRoundDiv_any a b 0 _).mono ?_
    rintro e w1 ⟨rfl, n2, rfl⟩
    rw [E0.out]
    go_wp2_with fail
    refine (iRoundDiv_any a b 1 _).mono ?_
    rintro e w1 ⟨rfl, n3, rfl⟩
    rw [E1.out]
    by_cases q1 : b > 1000000
    · go_wp2
      go_ret
      exact ⟨rfl, ((by repeat (first | exact G.out | refine Grows.drewN ?_ _ | refine Grows.drew ?_) : Grows w _)).below⟩
    by_cases q2 : a > 1000000000000
    · go_wp2
      go_ret
      exact ⟨rfl, ((by repeat (first | exact G.out | refine Grows.drewN ?_ _ | refine Grows.drew ?_) : Grows w _)).below⟩
    by_cases q3 : a < -1000000000000
    · go_wp2
      go_ret
      exact ⟨rfl, ((by repeat (first | exact G.out | refine Grows.drewN ?_ _ | refine Grows.drew ?_) : Grows w _)).below⟩
    by_cases hm : a.tmod b = 0
    · have hl : L = Hh := d3.2 hm
      have hm2 : (a.tmod b == 0) = true := by simp [hm]
      subst hl
      have eA : L * b = a := by omega
      clear d1 d2 d3 l1 l2 k1 k2
      rcases M.out with e | e <;> subst e
      · go_wp2
        all_goals go_ret
        all_goals exact ⟨rfl, ((by repeat (first | exact G.out | refine Grows.drewN ?_ _ | refine Grows.drew ?_) : Grows w _)).below⟩
      · go_wp2
        all_goals go_ret
        all_goals exact ⟨rfl, ((by repeat (first | exact G.out | refine Grows.drewN ?_ _ | refine Grows.drew ?_) : Grows w _)).below⟩
    · have hl : ¬ L = Hh := fun e => hm (d3.1 e)
      have hm2 : (a.tmod b == 0) = false := by simp [hm]
      have hl2 : (L == Hh) = false := by simp [hl]
      rcases M.out with e | e <;> subst e
      · go_wp2
        all_goals go_ret
        all_goals exact ⟨rfl, ((by repeat (first | exact G.out | refine Grows.drewN ?_ _ | refine Grows.drew ?_) : Grows w _)).below⟩
      · go_wp2
        all_goals go_ret
        all_goals exact ⟨rfl, ((by repeat (first | exact G.out | refine Grows.drewN ?_ _ | refine Grows.drew ?_) : Grows w _)).below⟩
  · have E : Hid (roundV a b m = (0, 2)) := hideIt (by unfold roundV; rw [if_neg hok])
    clear hok
    go_wp2_with (first | (go_at_call 11; refine (iRoundDiv_any _ _ _ _).mono ?_; rintro e w' ⟨rfl, nd, rfl⟩; rw [E.out]) | (go_at_call 12; refine (sRoundDiv_any _ _ _ _).mono ?_; rintro e w' ⟨rfl, rfl⟩; rw [E.out]))
    go_ret
    exact ⟨rfl, (G.out.drewN _).below⟩
end Go.Proofs.Ytciflcnfimpfgaa
