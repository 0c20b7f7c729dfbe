/-
  The walk of FnTimeText.
-/
import Derived.Test.YtgglgghlndhfbaaDoorDrawP
import Derived.Test.YtgglgghlndhfbaaDoorOpenB
namespace Go.Proofs.YtgglgghlndhfbaaDoor
open Go.RowKit
theorem pt_in {t n : Int} {ok : Bool} (ht : isT t) (h : PT (fmtB t) n ok) : n = t ∧ ok = true := (PT.uniq h (.inl ⟨rfl, ht, rfl⟩))
theorem pt_out {t n : Int} {ok : Bool} (ht : ¬ isT t) (h : PT (fmtB t) n ok) : ok = false := by
  rcases h with ⟨rfl, h1, h2⟩ | ⟨rfl, _, _⟩
  · rw [fmtB_out ht] at h2
    exact absurd h2.symm (fmtB_ne h1)
  · rfl
set_option maxHeartbeats 4000000 in
theorem walk_FnTimeText {v : Value} {xs : List Int} {w : World} (hx : RBytes w v xs) (hw : TW w ∧ TE w) :
    Calls Tryd.prog 6 #[v] w fun e w' => e = .returned (.bool true) ∧ Below w.heap.size w w' := by
  have HX := hideIt hx
  have H := hideIt hw.1
  have HE := hideIt hw.2
  have G : Hid (Grows w w) := hideIt (Grows.refl w)
  clear hx hw
  go_enter Tryd.func6, Tryd.ntmps6
  go_wp2_with fail
  refine (big_any _ HX.out).mono ?_
  rintro e w1 ⟨rfl, rfl⟩
  cases hb : decide ((xs.length : Int) > 4096)
  rotate_left
  · go_wp2
    go_ret
    exact ⟨rfl, Below.refl _ _⟩
  clear hb
  go_wp2_with fail
  refine (drawFormatTime_any HX.out).mono ?_
  rintro e u1 ⟨t, rfl, t1, t2, g⟩
  replace G := hideIt g
  clear g
  go_wp2_with fail
  refine (iFmt_any t _ (H.out.keep G.out)).mono ?_
  rintro e u2 ⟨rfl, g⟩
  replace G := hideIt (G.out.trans g)
  clear g
  have zs := fmtB_small t
  go_wp2_with fail
  refine (iParse_any (fmtB t) _ (by omega) (H.out.keep G.out) (HE.out.keep G.out)).mono ?_
  rintro e u3 ⟨n, ok, rfl, hp, g⟩
  replace G := hideIt (G.out.trans g)
  clear g
  by_cases ht : isT t
  · obtain ⟨rfl, rfl⟩ := pt_in ht hp
    have b1 : ¬ 1000000000 < n := by unfold isT at ht; omega
    have b2 : ¬ n < -1000000000 := by unfold isT at ht; omega
    clear hp zs ht
    go_wp2_with fail
    refine (drawParseTime_any (HX.out.keep G.out.keeps)).mono ?_
    rintro e u4 ⟨u, rfl, zu, g⟩
    replace G := hideIt (G.out.trans g)
    clear g
    go_wp2_with fail
    refine (iParse_any u _ (by omega) (H.out.keep G.out) (HE.out.keep G.out)).mono ?_
    rintro e u5 ⟨m, fine, rfl, hq, g⟩
    replace G := hideIt (G.out.trans g)
    clear g
    rcases hq with ⟨rfl, hm, rfl⟩ | ⟨rfl, rfl, -⟩
    · clear hm zu
      go_wp2_with fail
      refine (iFmt_any m _ (H.out.keep G.out)).mono ?_
      rintro e u6 ⟨rfl, g⟩
      replace G := hideIt (G.out.trans g)
      clear g
      go_wp2
      go_ret
      exact ⟨rfl, G.out.below⟩
    · go_wp2
      go_ret
      exact ⟨rfl, G.out.below⟩
  · obtain rfl := pt_out ht hp
    have e0 := fmtB_out ht
    rw [e0]
    clear hp e0 zs
    by_cases b1 : 1000000000 < t
    · clear ht
      go_wp2
      go_ret
      exact ⟨rfl, G.out.below⟩
    · have b2 : t < -1000000000 := by unfold isT at ht; omega
      clear ht
      go_wp2
      go_ret
      exact ⟨rfl, G.out.below⟩
end Go.Proofs.YtgglgghlndhfbaaDoor
