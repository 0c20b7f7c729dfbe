/-
  The walk of FnMonotone.
-/
import Derived.Test.YtgglgghlndhfbaaDrawTL
import Derived.Test.YtgglgghlndhfbaaLookUp
import Derived.Test.YtgglgghlndhfbaaLookL
import Derived.Test.YtgglgghlndhfbaaOpenB
import Derived.Test.YtgglgghlndhfbaaDice
import Derived.Test.YtgglgghlndhfbaaMono
namespace Go.Proofs.Ytgglgghlndhfbaa
open Go.RowKit
theorem RTable.slices {w : World} {a1 a2 a3 : Value} {t : TableD} (h : RTable w [a1, a2, a3] t) : ∃ (A1 A2 A3 : Option Addr) (c1 c2 c3 : Nat), a1 = .slice A1 t.slews.length c1 ∧ a2 = .slice A2 t.loads.length c2 ∧ a3 = .slice A3 t.values.length c3 := by
  obtain ⟨x1, x2, x3, e_, hx1, hx2, hx3⟩ := h
  injection e_ with e1 e_
  injection e_ with e2 e_
  injection e_ with e3 e_
  subst e1 e2 e3
  obtain ⟨A1, c1, e1, -⟩ := hx1
  obtain ⟨A2, c2, e2, -⟩ := hx2
  obtain ⟨A3, c3, e3, -⟩ := hx3
  exact ⟨A1, A2, A3, c1, c2, c3, e1, e2, e3⟩
theorem lv_ok {t : TableD} {sl ld m r c : Int} (h : LookUpV t sl ld m r c) (ht : tabB t = true) (hm : isM m = true) : LookV t sl ld m r ∧ c = 0 := by
  unfold LookUpV at h
  rwa [if_pos ht, if_pos hm] at h
theorem lv_mode {t : TableD} {sl ld m r c : Int} (h : LookUpV t sl ld m r c) (ht : tabB t = true) (hm : isM m = false) : r = 0 ∧ c = 2 := by
  unfold LookUpV at h
  rw [if_pos ht, if_neg (by rw [hm]; decide)] at h
  exact h
theorem lv_not {t : TableD} {sl ld m r c : Int} (h : LookUpV t sl ld m r c) (ht : tabB t = false) : r = 0 ∧ c = 1 := by
  unfold LookUpV at h
  rw [if_neg (by rw [ht]; decide)] at h
  exact h
set_option maxHeartbeats 16000000 in
set_option maxRecDepth 10000 in
theorem walk_FnMonotone {v : Value} {xs : List Int} {w : World} (hx : RBytes w v xs) :
    Calls Try.prog 4 #[v] w fun e w' => e = .returned (.bool true) ∧ Below w.heap.size w w' := by
  have HX := hideIt hx
  clear hx
  go_enter Try.func4, Try.ntmps4
  go_wp2_with fail
  refine (big_any _ HX.out).mono ?_
  rintro e w1 ⟨rfl, rfl⟩
  cases hb : decide ((xs.length : Int) > 4096)
  rotate_left
  · go_wp2
    go_ret
    exact ⟨rfl, Below.refl _ _⟩
  clear hb
  go_wp2_with fail
  refine (drawLookUp_any HX.out).mono ?_
  rintro e u1 ⟨a1, a2, a3, sl, ld, m, rfl, ⟨s1, s2⟩, ⟨d1, d2⟩, ⟨m1, m2⟩, t, hr, g⟩
  obtain ⟨A1, A2, A3, c1, c2, c3, e1, e2, e3⟩ := hr.slices
  subst e1 e2 e3
  have gal : Grows u1 (u1.alloc (.cells #[.slice A1 t.slews.length c1, .slice A2 t.loads.length c2, .slice A3 t.values.length c3] 26)) := (Grows.refl _).alloc _
  have G2 := hideIt (g.trans gal)
  have HR := hideIt (hr.keep gal.keeps)
  have V := hideIt (Blk.new u1 26 #[.slice A1 t.slews.length c1, .slice A2 t.loads.length c2, .slice A3 t.values.length c3])
  have HXB := hideIt (HX.out.keep G2.out.keeps)
  clear gal hr g
  go_wp2_with fail
  generalize u1.heap.size = gV at V ⊢
  generalize u1.alloc (.cells #[.slice A1 t.slews.length c1, .slice A2 t.loads.length c2, .slice A3 t.values.length c3] 26) = W2 at G2 HR V HXB ⊢
  refine (roll_any (w0 := W2) _ HXB.out (Grows.refl _)).mono ?_
  rintro e u3 ⟨d, rfl, hd, -, g3⟩
  have DC := hideIt hd
  have GG := hideIt g3
  clear hd g3
  have kV0 : u3.cell? ⟨gV, 0, none⟩ = some (.slice A1 t.slews.length c1) := (V.out.grows GG.out).cell 0
  have kV1 : u3.cell? ⟨gV, 1, none⟩ = some (.slice A2 t.loads.length c2) := (V.out.grows GG.out).cell 1
  have kV2 : u3.cell? ⟨gV, 2, none⟩ = some (.slice A3 t.values.length c3) := (V.out.grows GG.out).cell 2
  have fV := (V.out.grows GG.out).frozen
  have lV := (V.out.grows GG.out).lt
  go_wp2_with fail
  clear kV0 kV1 kV2 fV lV
  refine (sIsMono_any _ (HR.out.keep (show Grows W2 _ from (by repeat (first | exact GG.out | refine Grows.drewN ?_ _ | refine Grows.drew ?_ | refine Grows.alloc ?_ _))).keeps)).mono ?_
  rintro e u4 ⟨rfl, g_⟩
  replace DC := hideIt ((DC.out.grows (by repeat (first | exact Grows.refl _ | refine Grows.drewN ?_ _ | refine Grows.drew ?_)) : DiceAt W2 _ d).grows g_)
  replace GG := hideIt ((show Grows W2 _ from (by repeat (first | exact GG.out | refine Grows.drewN ?_ _ | refine Grows.drew ?_ | refine Grows.alloc ?_ _))).trans g_)
  clear g_
  have kV0 : u4.cell? ⟨gV, 0, none⟩ = some (.slice A1 t.slews.length c1) := (V.out.grows GG.out).cell 0
  have kV1 : u4.cell? ⟨gV, 1, none⟩ = some (.slice A2 t.loads.length c2) := (V.out.grows GG.out).cell 1
  have kV2 : u4.cell? ⟨gV, 2, none⟩ = some (.slice A3 t.values.length c3) := (V.out.grows GG.out).cell 2
  have fV := (V.out.grows GG.out).frozen
  have lV := (V.out.grows GG.out).lt
  cases hm : monB t
  · have HM := hideIt hm
    clear hm
    go_wp2_with fail
    clear kV0 kV1 kV2 fV lV
    refine (iLookUp_any _ _ _ _ (HR.out.keep (show Grows W2 _ from (by repeat (first | exact GG.out | refine Grows.drewN ?_ _ | refine Grows.drew ?_ | refine Grows.alloc ?_ _))).keeps)).mono ?_
    rintro e u5 ⟨r, c, rfl, lv_, g_⟩
    replace DC := hideIt ((DC.out.grows (by repeat (first | exact Grows.refl _ | refine Grows.drewN ?_ _ | refine Grows.drew ?_)) : DiceAt W2 _ d).grows g_)
    replace GG := hideIt ((show Grows W2 _ from (by repeat (first | exact GG.out | refine Grows.drewN ?_ _ | refine Grows.drew ?_ | refine Grows.alloc ?_ _))).trans g_)
    clear g_
    have LV := hideIt lv_
    clear lv_
    have kV0 : u5.cell? ⟨gV, 0, none⟩ = some (.slice A1 t.slews.length c1) := (V.out.grows GG.out).cell 0
    have kV1 : u5.cell? ⟨gV, 1, none⟩ = some (.slice A2 t.loads.length c2) := (V.out.grows GG.out).cell 1
    have kV2 : u5.cell? ⟨gV, 2, none⟩ = some (.slice A3 t.values.length c3) := (V.out.grows GG.out).cell 2
    have fV := (V.out.grows GG.out).frozen
    have lV := (V.out.grows GG.out).lt
    cases htb : tabB t
    · skip
      obtain ⟨rfl, rfl⟩ := lv_not LV.out htb
      have TV : Hid (tabB t = false) := hideIt htb
      clear htb
      have gg := GG.out
      have HK : Hid (∀ w', Grows W2 w' → w'.cell? ⟨gV, 0, none⟩ = some (.slice A1 t.slews.length c1) ∧ w'.cell? ⟨gV, 1, none⟩ = some (.slice A2 t.loads.length c2) ∧ w'.cell? ⟨gV, 2, none⟩ = some (.slice A3 t.values.length c3)) := hideIt (fun w' g => ⟨(V.out.grows g).cell 0, (V.out.grows g).cell 1, (V.out.grows g).cell 2⟩)
      go_wp2
      refine wp_region_held_drew (S := (fun w' => w'.cell? ⟨gV, 0, none⟩ = some (.slice A1 t.slews.length c1) ∧ w'.cell? ⟨gV, 1, none⟩ = some (.slice A2 t.loads.length c2) ∧ w'.cell? ⟨gV, 2, none⟩ = some (.slice A3 t.values.length c3))) (by kernel_rfl) ?_ (fun hh0 => ?_)
      · (try dsimp only); refine HK.out _ ?_; (repeat (first | exact gg | refine Grows.drew ?_ | refine Grows.alloc ?_ _ | refine Grows.setCell ?_ (by simp <;> omega) _))
      refine regTake 0 (v := ?_) ?_ hh0 ?_
      rotate_left
      · intro w hw; (try dsimp only at hw); go_simp; (try with_reducible rfl)
      try simp only [Act.put, List.setIfInBounds_toArray, List.set_cons_zero, List.set_cons_succ]
      refine regTake 2 (v := ?_) ?_ hh0 ?_
      rotate_left
      · intro w hw; (try dsimp only at hw); go_simp; (try with_reducible rfl)
      try simp only [Act.put, List.setIfInBounds_toArray, List.set_cons_zero, List.set_cons_succ]
      refine regCall 1 (fun K hK => ?_)
      go_simp
      refine (iIsMono_any _ (HR.out.keep (show Grows W2 _ from (by (repeat (first | exact gg | refine Grows.drew ?_ | refine Grows.alloc ?_ _ | refine Grows.setCell ?_ (by simp <;> omega) _)))).keeps)).mono ?_
      rintro e v1 ⟨rfl, g_⟩
      have gg := (show Grows W2 _ from (by (repeat (first | exact gg | refine Grows.drew ?_ | refine Grows.alloc ?_ _ | refine Grows.setCell ?_ (by simp <;> omega) _)))).trans g_
      clear g_
      (try go_wp2_with fail)
      refine hK.out _ _ ?_ (fun hh1 => ?_)
      · (try dsimp only); refine HK.out _ ?_; (repeat (first | exact gg | refine Grows.drew ?_ | refine Grows.alloc ?_ _ | refine Grows.setCell ?_ (by simp <;> omega) _))
      clear hK K hh0
      try simp only [Act.put, List.setIfInBounds_toArray, List.set_cons_zero, List.set_cons_succ]
      refine regCall 3 (fun K hK => ?_)
      go_simp
      refine (sIsMono_any _ (HR.out.keep (show Grows W2 _ from (by (repeat (first | exact gg | refine Grows.drew ?_ | refine Grows.alloc ?_ _ | refine Grows.setCell ?_ (by simp <;> omega) _)))).keeps)).mono ?_
      rintro e v2 ⟨rfl, g_⟩
      have gg := (show Grows W2 _ from (by (repeat (first | exact gg | refine Grows.drew ?_ | refine Grows.alloc ?_ _ | refine Grows.setCell ?_ (by simp <;> omega) _)))).trans g_
      clear g_
      (try go_wp2_with fail)
      refine hK.out _ _ ?_ (fun hh2 => ?_)
      · (try dsimp only); refine HK.out _ ?_; (repeat (first | exact gg | refine Grows.drew ?_ | refine Grows.alloc ?_ _ | refine Grows.setCell ?_ (by simp <;> omega) _))
      clear hK K hh1
      try simp only [Act.put, List.setIfInBounds_toArray, List.set_cons_zero, List.set_cons_succ]
      refine regTake 4 (v := ?_) ?_ hh2 ?_
      rotate_left
      · intro w hw; (try dsimp only at hw); go_simp; (try with_reducible rfl)
      try simp only [Act.put, List.setIfInBounds_toArray, List.set_cons_zero, List.set_cons_succ]
      refine regTake 5 (v := ?_) ?_ hh2 ?_
      rotate_left
      · intro w hw; (try dsimp only at hw); go_simp; (try with_reducible rfl)
      try simp only [Act.put, List.setIfInBounds_toArray, List.set_cons_zero, List.set_cons_succ]
      refine regTake 6 (v := ?_) ?_ hh2 ?_
      rotate_left
      · intro w hw; (try dsimp only at hw); go_simp; (try with_reducible rfl)
      try simp only [Act.put, List.setIfInBounds_toArray, List.set_cons_zero, List.set_cons_succ]
      refine regTake 7 (v := ?_) ?_ hh2 ?_
      rotate_left
      · intro w hw; (try dsimp only at hw); go_simp; (try with_reducible rfl)
      try simp only [Act.put, List.setIfInBounds_toArray, List.set_cons_zero, List.set_cons_succ]
      refine regTake 8 (v := ?_) ?_ hh2 ?_
      rotate_left
      · intro w hw; (try dsimp only at hw); go_simp; (try with_reducible rfl)
      try simp only [Act.put, List.setIfInBounds_toArray, List.set_cons_zero, List.set_cons_succ]
      refine regCall 9 (fun K hK => ?_)
      go_simp
      refine (sIsTable_any _ (HR.out.keep (show Grows W2 _ from (by (repeat (first | exact gg | refine Grows.drew ?_ | refine Grows.alloc ?_ _ | refine Grows.setCell ?_ (by simp <;> omega) _)))).keeps)).mono ?_
      rintro e v3 ⟨rfl, g_⟩
      have gg := (show Grows W2 _ from (by (repeat (first | exact gg | refine Grows.drew ?_ | refine Grows.alloc ?_ _ | refine Grows.setCell ?_ (by simp <;> omega) _)))).trans g_
      clear g_
      rw [TV.out]
      (try go_wp2_with fail)
      refine hK.out _ _ ?_ (fun hh3 => ?_)
      · (try dsimp only); refine HK.out _ ?_; (repeat (first | exact gg | refine Grows.drew ?_ | refine Grows.alloc ?_ _ | refine Grows.setCell ?_ (by simp <;> omega) _))
      clear hK K hh2
      try simp only [Act.put, List.setIfInBounds_toArray, List.set_cons_zero, List.set_cons_succ]
      refine regTake 10 (v := ?_) ?_ hh3 ?_
      rotate_left
      · intro w hw; (try dsimp only at hw); go_simp; (try with_reducible rfl)
      try simp only [Act.put, List.setIfInBounds_toArray, List.set_cons_zero, List.set_cons_succ]
      refine regSkip 11 hh3 ?_
      try simp only [Act.put, List.setIfInBounds_toArray, List.set_cons_zero, List.set_cons_succ]
      refine regSkip 12 hh3 ?_
      try simp only [Act.put, List.setIfInBounds_toArray, List.set_cons_zero, List.set_cons_succ]
      refine regTake 13 (v := ?_) ?_ hh3 ?_
      rotate_left
      · intro w hw; (try dsimp only at hw); go_simp; (try with_reducible rfl)
      try simp only [Act.put, List.setIfInBounds_toArray, List.set_cons_zero, List.set_cons_succ]
      refine regTake 14 (v := ?_) ?_ hh3 ?_
      rotate_left
      · intro w hw; (try dsimp only at hw); go_simp; (try with_reducible rfl)
      try simp only [Act.put, List.setIfInBounds_toArray, List.set_cons_zero, List.set_cons_succ]
      refine regTake 15 (v := ?_) ?_ hh3 ?_
      rotate_left
      · intro w hw; (try dsimp only at hw); go_simp; (try with_reducible rfl)
      try simp only [Act.put, List.setIfInBounds_toArray, List.set_cons_zero, List.set_cons_succ]
      refine regTake 16 (v := ?_) ?_ hh3 ?_
      rotate_left
      · intro w hw; (try dsimp only at hw); go_simp; (try with_reducible rfl)
      try simp only [Act.put, List.setIfInBounds_toArray, List.set_cons_zero, List.set_cons_succ]
      refine wpAnyH_done (by kernel_rfl) ?_ _
      clear hh3 HK
      replace GG := hideIt gg
      clear gg
      go_wp2
      go_ret
      exact ⟨rfl, (G2.out.trans (show Grows W2 _ from (by repeat (first | exact GG.out | refine Grows.drewN ?_ _ | refine Grows.drew ?_ | refine Grows.alloc ?_ _)))).below⟩
    · by_cases hm1 : m ≤ 1
      · have him : isM m = true := by rcases (by omega : m = 0 ∨ m = 1) with rfl | rfl <;> rfl
        obtain ⟨lv1, rfl⟩ := lv_ok LV.out htb him
        have TV : Hid (tabB t = true) := hideIt htb
        have md : decide (m ≤ 1) = true := by simpa using hm1
        clear lv1 htb him
        have gg := GG.out
        have HK : Hid (∀ w', Grows W2 w' → w'.cell? ⟨gV, 0, none⟩ = some (.slice A1 t.slews.length c1) ∧ w'.cell? ⟨gV, 1, none⟩ = some (.slice A2 t.loads.length c2) ∧ w'.cell? ⟨gV, 2, none⟩ = some (.slice A3 t.values.length c3)) := hideIt (fun w' g => ⟨(V.out.grows g).cell 0, (V.out.grows g).cell 1, (V.out.grows g).cell 2⟩)
        go_wp2
        refine wp_region_held_drew (S := (fun w' => w'.cell? ⟨gV, 0, none⟩ = some (.slice A1 t.slews.length c1) ∧ w'.cell? ⟨gV, 1, none⟩ = some (.slice A2 t.loads.length c2) ∧ w'.cell? ⟨gV, 2, none⟩ = some (.slice A3 t.values.length c3))) (by kernel_rfl) ?_ (fun hh0 => ?_)
        · (try dsimp only); refine HK.out _ ?_; (repeat (first | exact gg | refine Grows.drew ?_ | refine Grows.alloc ?_ _ | refine Grows.setCell ?_ (by simp <;> omega) _))
        refine regTake 0 (v := ?_) ?_ hh0 ?_
        rotate_left
        · intro w hw; (try dsimp only at hw); go_simp; (try with_reducible rfl)
        try simp only [Act.put, List.setIfInBounds_toArray, List.set_cons_zero, List.set_cons_succ]
        refine regTake 2 (v := ?_) ?_ hh0 ?_
        rotate_left
        · intro w hw; (try dsimp only at hw); go_simp; (try with_reducible rfl)
        try simp only [Act.put, List.setIfInBounds_toArray, List.set_cons_zero, List.set_cons_succ]
        refine regCall 1 (fun K hK => ?_)
        go_simp
        refine (iIsMono_any _ (HR.out.keep (show Grows W2 _ from (by (repeat (first | exact gg | refine Grows.drew ?_ | refine Grows.alloc ?_ _ | refine Grows.setCell ?_ (by simp <;> omega) _)))).keeps)).mono ?_
        rintro e v1 ⟨rfl, g_⟩
        have gg := (show Grows W2 _ from (by (repeat (first | exact gg | refine Grows.drew ?_ | refine Grows.alloc ?_ _ | refine Grows.setCell ?_ (by simp <;> omega) _)))).trans g_
        clear g_
        (try go_wp2_with fail)
        refine hK.out _ _ ?_ (fun hh1 => ?_)
        · (try dsimp only); refine HK.out _ ?_; (repeat (first | exact gg | refine Grows.drew ?_ | refine Grows.alloc ?_ _ | refine Grows.setCell ?_ (by simp <;> omega) _))
        clear hK K hh0
        try simp only [Act.put, List.setIfInBounds_toArray, List.set_cons_zero, List.set_cons_succ]
        refine regCall 3 (fun K hK => ?_)
        go_simp
        refine (sIsMono_any _ (HR.out.keep (show Grows W2 _ from (by (repeat (first | exact gg | refine Grows.drew ?_ | refine Grows.alloc ?_ _ | refine Grows.setCell ?_ (by simp <;> omega) _)))).keeps)).mono ?_
        rintro e v2 ⟨rfl, g_⟩
        have gg := (show Grows W2 _ from (by (repeat (first | exact gg | refine Grows.drew ?_ | refine Grows.alloc ?_ _ | refine Grows.setCell ?_ (by simp <;> omega) _)))).trans g_
        clear g_
        (try go_wp2_with fail)
        refine hK.out _ _ ?_ (fun hh2 => ?_)
        · (try dsimp only); refine HK.out _ ?_; (repeat (first | exact gg | refine Grows.drew ?_ | refine Grows.alloc ?_ _ | refine Grows.setCell ?_ (by simp <;> omega) _))
        clear hK K hh1
        try simp only [Act.put, List.setIfInBounds_toArray, List.set_cons_zero, List.set_cons_succ]
        refine regTake 4 (v := ?_) ?_ hh2 ?_
        rotate_left
        · intro w hw; (try dsimp only at hw); go_simp; (try with_reducible rfl)
        try simp only [Act.put, List.setIfInBounds_toArray, List.set_cons_zero, List.set_cons_succ]
        refine regTake 5 (v := ?_) ?_ hh2 ?_
        rotate_left
        · intro w hw; (try dsimp only at hw); go_simp; (try with_reducible rfl)
        try simp only [Act.put, List.setIfInBounds_toArray, List.set_cons_zero, List.set_cons_succ]
        refine regTake 6 (v := ?_) ?_ hh2 ?_
        rotate_left
        · intro w hw; (try dsimp only at hw); go_simp; (try with_reducible rfl)
        try simp only [Act.put, List.setIfInBounds_toArray, List.set_cons_zero, List.set_cons_succ]
        refine regTake 7 (v := ?_) ?_ hh2 ?_
        rotate_left
        · intro w hw; (try dsimp only at hw); go_simp; (try with_reducible rfl)
        try simp only [Act.put, List.setIfInBounds_toArray, List.set_cons_zero, List.set_cons_succ]
        refine regTake 8 (v := ?_) ?_ hh2 ?_
        rotate_left
        · intro w hw; (try dsimp only at hw); go_simp; (try with_reducible rfl)
        try simp only [Act.put, List.setIfInBounds_toArray, List.set_cons_zero, List.set_cons_succ]
        refine regCall 9 (fun K hK => ?_)
        go_simp
        refine (sIsTable_any _ (HR.out.keep (show Grows W2 _ from (by (repeat (first | exact gg | refine Grows.drew ?_ | refine Grows.alloc ?_ _ | refine Grows.setCell ?_ (by simp <;> omega) _)))).keeps)).mono ?_
        rintro e v3 ⟨rfl, g_⟩
        have gg := (show Grows W2 _ from (by (repeat (first | exact gg | refine Grows.drew ?_ | refine Grows.alloc ?_ _ | refine Grows.setCell ?_ (by simp <;> omega) _)))).trans g_
        clear g_
        rw [TV.out]
        (try go_wp2_with fail)
        refine hK.out _ _ ?_ (fun hh3 => ?_)
        · (try dsimp only); refine HK.out _ ?_; (repeat (first | exact gg | refine Grows.drew ?_ | refine Grows.alloc ?_ _ | refine Grows.setCell ?_ (by simp <;> omega) _))
        clear hK K hh2
        try simp only [Act.put, List.setIfInBounds_toArray, List.set_cons_zero, List.set_cons_succ]
        refine regTake 10 (v := ?_) ?_ hh3 ?_
        rotate_left
        · intro w hw; (try dsimp only at hw); go_simp; (try with_reducible rfl)
        try simp only [Act.put, List.setIfInBounds_toArray, List.set_cons_zero, List.set_cons_succ]
        refine regTake 11 (v := ?_) ?_ hh3 ?_
        rotate_left
        · intro w hw; (try dsimp only at hw); go_simp; (try with_reducible rfl)
        try simp only [Act.put, List.setIfInBounds_toArray, List.set_cons_zero, List.set_cons_succ]
        refine regTake 12 (v := ?_) ?_ hh3 ?_
        rotate_left
        · intro w hw; (try dsimp only at hw); go_simp; (try with_reducible rfl)
        try simp only [Act.put, List.setIfInBounds_toArray, List.set_cons_zero, List.set_cons_succ]
        refine regTake 13 (v := ?_) ?_ hh3 ?_
        rotate_left
        · intro w hw; (try dsimp only at hw); go_simp; (try with_reducible rfl)
        try simp only [Act.put, List.setIfInBounds_toArray, List.set_cons_zero, List.set_cons_succ]
        refine regTake 14 (v := ?_) ?_ hh3 ?_
        rotate_left
        · intro w hw; (try dsimp only at hw); go_simp; (try with_reducible rfl)
        try simp only [Act.put, List.setIfInBounds_toArray, List.set_cons_zero, List.set_cons_succ]
        refine regTake 15 (v := ?_) ?_ hh3 ?_
        rotate_left
        · intro w hw; (try dsimp only at hw); go_simp; (try with_reducible rfl)
        try simp only [Act.put, List.setIfInBounds_toArray, List.set_cons_zero, List.set_cons_succ]
        refine regTake 16 (v := ?_) ?_ hh3 ?_
        rotate_left
        · intro w hw; (try dsimp only at hw); go_simp; (try with_reducible rfl)
        try simp only [Act.put, List.setIfInBounds_toArray, List.set_cons_zero, List.set_cons_succ]
        refine wpAnyH_done (by kernel_rfl) ?_ _
        clear hh3 HK
        replace GG := hideIt gg
        clear gg
        go_wp2
        go_ret
        exact ⟨rfl, (G2.out.trans (show Grows W2 _ from (by repeat (first | exact GG.out | refine Grows.drewN ?_ _ | refine Grows.drew ?_ | refine Grows.alloc ?_ _)))).below⟩
      · have him : isM m = false := by unfold isM; simp; omega
        obtain ⟨rfl, rfl⟩ := lv_mode LV.out htb him
        have TV : Hid (tabB t = true) := hideIt htb
        have md : decide (m ≤ 1) = false := by simpa using hm1
        clear htb him
        have gg := GG.out
        have HK : Hid (∀ w', Grows W2 w' → w'.cell? ⟨gV, 0, none⟩ = some (.slice A1 t.slews.length c1) ∧ w'.cell? ⟨gV, 1, none⟩ = some (.slice A2 t.loads.length c2) ∧ w'.cell? ⟨gV, 2, none⟩ = some (.slice A3 t.values.length c3)) := hideIt (fun w' g => ⟨(V.out.grows g).cell 0, (V.out.grows g).cell 1, (V.out.grows g).cell 2⟩)
        go_wp2
        refine wp_region_held_drew (S := (fun w' => w'.cell? ⟨gV, 0, none⟩ = some (.slice A1 t.slews.length c1) ∧ w'.cell? ⟨gV, 1, none⟩ = some (.slice A2 t.loads.length c2) ∧ w'.cell? ⟨gV, 2, none⟩ = some (.slice A3 t.values.length c3))) (by kernel_rfl) ?_ (fun hh0 => ?_)
        · (try dsimp only); refine HK.out _ ?_; (repeat (first | exact gg | refine Grows.drew ?_ | refine Grows.alloc ?_ _ | refine Grows.setCell ?_ (by simp <;> omega) _))
        refine regTake 0 (v := ?_) ?_ hh0 ?_
        rotate_left
        · intro w hw; (try dsimp only at hw); go_simp; (try with_reducible rfl)
        try simp only [Act.put, List.setIfInBounds_toArray, List.set_cons_zero, List.set_cons_succ]
        refine regTake 2 (v := ?_) ?_ hh0 ?_
        rotate_left
        · intro w hw; (try dsimp only at hw); go_simp; (try with_reducible rfl)
        try simp only [Act.put, List.setIfInBounds_toArray, List.set_cons_zero, List.set_cons_succ]
        refine regCall 1 (fun K hK => ?_)
        go_simp
        refine (iIsMono_any _ (HR.out.keep (show Grows W2 _ from (by (repeat (first | exact gg | refine Grows.drew ?_ | refine Grows.alloc ?_ _ | refine Grows.setCell ?_ (by simp <;> omega) _)))).keeps)).mono ?_
        rintro e v1 ⟨rfl, g_⟩
        have gg := (show Grows W2 _ from (by (repeat (first | exact gg | refine Grows.drew ?_ | refine Grows.alloc ?_ _ | refine Grows.setCell ?_ (by simp <;> omega) _)))).trans g_
        clear g_
        (try go_wp2_with fail)
        refine hK.out _ _ ?_ (fun hh1 => ?_)
        · (try dsimp only); refine HK.out _ ?_; (repeat (first | exact gg | refine Grows.drew ?_ | refine Grows.alloc ?_ _ | refine Grows.setCell ?_ (by simp <;> omega) _))
        clear hK K hh0
        try simp only [Act.put, List.setIfInBounds_toArray, List.set_cons_zero, List.set_cons_succ]
        refine regCall 3 (fun K hK => ?_)
        go_simp
        refine (sIsMono_any _ (HR.out.keep (show Grows W2 _ from (by (repeat (first | exact gg | refine Grows.drew ?_ | refine Grows.alloc ?_ _ | refine Grows.setCell ?_ (by simp <;> omega) _)))).keeps)).mono ?_
        rintro e v2 ⟨rfl, g_⟩
        have gg := (show Grows W2 _ from (by (repeat (first | exact gg | refine Grows.drew ?_ | refine Grows.alloc ?_ _ | refine Grows.setCell ?_ (by simp <;> omega) _)))).trans g_
        clear g_
        (try go_wp2_with fail)
        refine hK.out _ _ ?_ (fun hh2 => ?_)
        · (try dsimp only); refine HK.out _ ?_; (repeat (first | exact gg | refine Grows.drew ?_ | refine Grows.alloc ?_ _ | refine Grows.setCell ?_ (by simp <;> omega) _))
        clear hK K hh1
        try simp only [Act.put, List.setIfInBounds_toArray, List.set_cons_zero, List.set_cons_succ]
        refine regTake 4 (v := ?_) ?_ hh2 ?_
        rotate_left
        · intro w hw; (try dsimp only at hw); go_simp; (try with_reducible rfl)
        try simp only [Act.put, List.setIfInBounds_toArray, List.set_cons_zero, List.set_cons_succ]
        refine regTake 5 (v := ?_) ?_ hh2 ?_
        rotate_left
        · intro w hw; (try dsimp only at hw); go_simp; (try with_reducible rfl)
        try simp only [Act.put, List.setIfInBounds_toArray, List.set_cons_zero, List.set_cons_succ]
        refine regTake 6 (v := ?_) ?_ hh2 ?_
        rotate_left
        · intro w hw; (try dsimp only at hw); go_simp; (try with_reducible rfl)
        try simp only [Act.put, List.setIfInBounds_toArray, List.set_cons_zero, List.set_cons_succ]
        refine regTake 7 (v := ?_) ?_ hh2 ?_
        rotate_left
        · intro w hw; (try dsimp only at hw); go_simp; (try with_reducible rfl)
        try simp only [Act.put, List.setIfInBounds_toArray, List.set_cons_zero, List.set_cons_succ]
        refine regTake 8 (v := ?_) ?_ hh2 ?_
        rotate_left
        · intro w hw; (try dsimp only at hw); go_simp; (try with_reducible rfl)
        try simp only [Act.put, List.setIfInBounds_toArray, List.set_cons_zero, List.set_cons_succ]
        refine regCall 9 (fun K hK => ?_)
        go_simp
        refine (sIsTable_any _ (HR.out.keep (show Grows W2 _ from (by (repeat (first | exact gg | refine Grows.drew ?_ | refine Grows.alloc ?_ _ | refine Grows.setCell ?_ (by simp <;> omega) _)))).keeps)).mono ?_
        rintro e v3 ⟨rfl, g_⟩
        have gg := (show Grows W2 _ from (by (repeat (first | exact gg | refine Grows.drew ?_ | refine Grows.alloc ?_ _ | refine Grows.setCell ?_ (by simp <;> omega) _)))).trans g_
        clear g_
        rw [TV.out]
        (try go_wp2_with fail)
        refine hK.out _ _ ?_ (fun hh3 => ?_)
        · (try dsimp only); refine HK.out _ ?_; (repeat (first | exact gg | refine Grows.drew ?_ | refine Grows.alloc ?_ _ | refine Grows.setCell ?_ (by simp <;> omega) _))
        clear hK K hh2
        try simp only [Act.put, List.setIfInBounds_toArray, List.set_cons_zero, List.set_cons_succ]
        refine regTake 10 (v := ?_) ?_ hh3 ?_
        rotate_left
        · intro w hw; (try dsimp only at hw); go_simp; (try with_reducible rfl)
        try simp only [Act.put, List.setIfInBounds_toArray, List.set_cons_zero, List.set_cons_succ]
        refine regTake 11 (v := ?_) ?_ hh3 ?_
        rotate_left
        · intro w hw; (try dsimp only at hw); go_simp; (try with_reducible rfl)
        try simp only [Act.put, List.setIfInBounds_toArray, List.set_cons_zero, List.set_cons_succ]
        refine regTake 12 (v := ?_) ?_ hh3 ?_
        rotate_left
        · intro w hw; (try dsimp only at hw); go_simp; (try with_reducible rfl)
        try simp only [Act.put, List.setIfInBounds_toArray, List.set_cons_zero, List.set_cons_succ]
        refine regTake 13 (v := ?_) ?_ hh3 ?_
        rotate_left
        · intro w hw; (try dsimp only at hw); go_simp; (try with_reducible rfl)
        try simp only [Act.put, List.setIfInBounds_toArray, List.set_cons_zero, List.set_cons_succ]
        refine regTake 14 (v := ?_) ?_ hh3 ?_
        rotate_left
        · intro w hw; (try dsimp only at hw); go_simp; (try with_reducible rfl)
        try simp only [Act.put, List.setIfInBounds_toArray, List.set_cons_zero, List.set_cons_succ]
        refine regTake 15 (v := ?_) ?_ hh3 ?_
        rotate_left
        · intro w hw; (try dsimp only at hw); go_simp; (try with_reducible rfl)
        try simp only [Act.put, List.setIfInBounds_toArray, List.set_cons_zero, List.set_cons_succ]
        refine regTake 16 (v := ?_) ?_ hh3 ?_
        rotate_left
        · intro w hw; (try dsimp only at hw); go_simp; (try with_reducible rfl)
        try simp only [Act.put, List.setIfInBounds_toArray, List.set_cons_zero, List.set_cons_succ]
        refine wpAnyH_done (by kernel_rfl) ?_ _
        clear hh3 HK
        replace GG := hideIt gg
        clear gg
        go_wp2
        go_ret
        exact ⟨rfl, (G2.out.trans (show Grows W2 _ from (by repeat (first | exact GG.out | refine Grows.drewN ?_ _ | refine Grows.drew ?_ | refine Grows.alloc ?_ _)))).below⟩
  · have htb := monB_tab hm
    by_cases hm1 : m ≤ 1
    · have him : isM m = true := by rcases (by omega : m = 0 ∨ m = 1) with rfl | rfl <;> rfl
      have hmd : decide (1 < m) = false := by simpa using hm1
      go_wp2_with fail
      clear kV0 kV1 kV2 fV lV
      refine (iLookUp_any _ _ _ _ (HR.out.keep (show Grows W2 _ from (by repeat (first | exact GG.out | refine Grows.drewN ?_ _ | refine Grows.drew ?_ | refine Grows.alloc ?_ _))).keeps)).mono ?_
      rintro e u5 ⟨r, c0, rfl, lv_, g_⟩
      replace DC := hideIt ((DC.out.grows (by repeat (first | exact Grows.refl _ | refine Grows.drewN ?_ _ | refine Grows.drew ?_)) : DiceAt W2 _ d).grows g_)
      replace GG := hideIt ((show Grows W2 _ from (by repeat (first | exact GG.out | refine Grows.drewN ?_ _ | refine Grows.drew ?_ | refine Grows.alloc ?_ _))).trans g_)
      clear g_
      have LV := hideIt lv_
      clear lv_
      obtain ⟨lva, rfl⟩ := lv_ok LV.out htb him
      have LA := hideIt lva
      clear lva LV
      have kV0 : u5.cell? ⟨gV, 0, none⟩ = some (.slice A1 t.slews.length c1) := (V.out.grows GG.out).cell 0
      have kV1 : u5.cell? ⟨gV, 1, none⟩ = some (.slice A2 t.loads.length c2) := (V.out.grows GG.out).cell 1
      have kV2 : u5.cell? ⟨gV, 2, none⟩ = some (.slice A3 t.values.length c3) := (V.out.grows GG.out).cell 2
      have fV := (V.out.grows GG.out).frozen
      have lV := (V.out.grows GG.out).lt
      have gg := GG.out
      have HK : Hid (∀ w', Grows W2 w' → w'.cell? ⟨gV, 0, none⟩ = some (.slice A1 t.slews.length c1) ∧ w'.cell? ⟨gV, 1, none⟩ = some (.slice A2 t.loads.length c2) ∧ w'.cell? ⟨gV, 2, none⟩ = some (.slice A3 t.values.length c3)) := hideIt (fun w' g => ⟨(V.out.grows g).cell 0, (V.out.grows g).cell 1, (V.out.grows g).cell 2⟩)
      clear GG
      clear kV0 kV1 kV2 fV lV
      go_wp2
      refine wp_region_held_drew (S := (fun w' => w'.cell? ⟨gV, 0, none⟩ = some (.slice A1 t.slews.length c1) ∧ w'.cell? ⟨gV, 1, none⟩ = some (.slice A2 t.loads.length c2) ∧ w'.cell? ⟨gV, 2, none⟩ = some (.slice A3 t.values.length c3))) (by kernel_rfl) ?_ (fun hh0 => ?_)
      · (try dsimp only); refine HK.out _ ?_; (repeat (first | exact gg | refine Grows.drew ?_ | refine Grows.alloc ?_ _ | refine Grows.setCell ?_ (by simp <;> omega) _))
      refine regTake 0 (v := ?_) ?_ hh0 ?_
      rotate_left
      · intro w hw; (try dsimp only at hw); go_simp; (try with_reducible rfl)
      try simp only [Act.put, List.setIfInBounds_toArray, List.set_cons_zero, List.set_cons_succ]
      refine regTake 1 (v := ?_) ?_ hh0 ?_
      rotate_left
      · intro w hw; (try dsimp only at hw); go_simp; (try with_reducible rfl)
      try simp only [Act.put, List.setIfInBounds_toArray, List.set_cons_zero, List.set_cons_succ]
      refine regTake 2 (v := ?_) ?_ hh0 ?_
      rotate_left
      · intro w hw; (try dsimp only at hw); go_simp; (try with_reducible rfl)
      try simp only [Act.put, List.setIfInBounds_toArray, List.set_cons_zero, List.set_cons_succ]
      refine regTake 5 (v := ?_) ?_ hh0 ?_
      rotate_left
      · intro w hw; (try dsimp only at hw); go_simp; (try with_reducible rfl)
      try simp only [Act.put, List.setIfInBounds_toArray, List.set_cons_zero, List.set_cons_succ]
      refine regTake 6 (v := ?_) ?_ hh0 ?_
      rotate_left
      · intro w hw; (try dsimp only at hw); go_simp; (try with_reducible rfl)
      try simp only [Act.put, List.setIfInBounds_toArray, List.set_cons_zero, List.set_cons_succ]
      refine regCall 3 (fun K hK => ?_)
      go_simp
      refine (below_any (w0 := W2) 40 (DC.out.grows (by repeat (first | exact Grows.refl _ | refine Grows.drewN ?_ _ | refine Grows.drew ?_))) (by omega) (by omega)).mono ?_
      rintro e p1 ⟨y1, rfl, y1a, y1b, h_, -⟩
      replace DC := hideIt h_
      clear h_
      have gg := DC.out.ge.2.1
      (try go_wp2_with fail)
      refine hK.out _ _ ?_ (fun hh1 => ?_)
      · (try dsimp only); refine HK.out _ ?_; (repeat (first | exact gg | refine Grows.drew ?_ | refine Grows.alloc ?_ _ | refine Grows.setCell ?_ (by simp <;> omega) _))
      clear hK K hh0
      try simp only [Act.put, List.setIfInBounds_toArray, List.set_cons_zero, List.set_cons_succ]
      have wy1 : IntKind.i64.wrap (sl + y1) = sl + y1 := Go.IntWalk.i64_in _ (by omega)
      refine regTake 4 (v := .int .i64 (sl + y1)) (fun w hw => ?_) hh1 ?_
      · (try dsimp only at hw)
        go_simp
      try simp only [Act.put, List.setIfInBounds_toArray, List.set_cons_zero, List.set_cons_succ]
      refine regCall 7 (fun K hK => ?_)
      go_simp
      refine (iLookUp_any (sl + y1) _ _ _ (HR.out.keep (show Grows W2 _ from (by (repeat (first | exact gg | refine Grows.drew ?_ | refine Grows.alloc ?_ _ | refine Grows.setCell ?_ (by simp <;> omega) _)))).keeps)).mono ?_
      rintro e p2 ⟨rb, c1, rfl, lv_, g_⟩
      replace DC := hideIt ((DC.out.grows (by repeat (first | exact Grows.refl _ | refine Grows.drewN ?_ _ | refine Grows.drew ?_)) : DiceAt W2 _ d).grows g_)
      have gg := (show Grows W2 _ from (by (repeat (first | exact gg | refine Grows.drew ?_ | refine Grows.alloc ?_ _ | refine Grows.setCell ?_ (by simp <;> omega) _)))).trans g_
      obtain ⟨lvb, rfl⟩ := lv_ok lv_ htb him
      have LB := hideIt lvb
      clear lv_ lvb g_
      (try go_wp2_with fail)
      refine hK.out _ _ ?_ (fun hh2 => ?_)
      · (try dsimp only); refine HK.out _ ?_; (repeat (first | exact gg | refine Grows.drew ?_ | refine Grows.alloc ?_ _ | refine Grows.setCell ?_ (by simp <;> omega) _))
      clear hK K hh1
      try simp only [Act.put, List.setIfInBounds_toArray, List.set_cons_zero, List.set_cons_succ]
      refine regTake 8 (v := ?_) ?_ hh2 ?_
      rotate_left
      · intro w hw; (try dsimp only at hw); go_simp; (try with_reducible rfl)
      try simp only [Act.put, List.setIfInBounds_toArray, List.set_cons_zero, List.set_cons_succ]
      refine regTake 9 (v := ?_) ?_ hh2 ?_
      rotate_left
      · intro w hw; (try dsimp only at hw); go_simp; (try with_reducible rfl)
      try simp only [Act.put, List.setIfInBounds_toArray, List.set_cons_zero, List.set_cons_succ]
      refine regTake 10 (v := ?_) ?_ hh2 ?_
      rotate_left
      · intro w hw; (try dsimp only at hw); go_simp; (try with_reducible rfl)
      try simp only [Act.put, List.setIfInBounds_toArray, List.set_cons_zero, List.set_cons_succ]
      refine regTake 11 (v := ?_) ?_ hh2 ?_
      rotate_left
      · intro w hw; (try dsimp only at hw); go_simp; (try with_reducible rfl)
      try simp only [Act.put, List.setIfInBounds_toArray, List.set_cons_zero, List.set_cons_succ]
      refine regTake 12 (v := ?_) ?_ hh2 ?_
      rotate_left
      · intro w hw; (try dsimp only at hw); go_simp; (try with_reducible rfl)
      try simp only [Act.put, List.setIfInBounds_toArray, List.set_cons_zero, List.set_cons_succ]
      refine wpAnyH_done (by kernel_rfl) ?_ _
      clear hh2 HK
      have GG := hideIt gg
      clear gg
      have kV0 : p2.cell? ⟨gV, 0, none⟩ = some (.slice A1 t.slews.length c1) := (V.out.grows GG.out).cell 0
      have kV1 : p2.cell? ⟨gV, 1, none⟩ = some (.slice A2 t.loads.length c2) := (V.out.grows GG.out).cell 1
      have kV2 : p2.cell? ⟨gV, 2, none⟩ = some (.slice A3 t.values.length c3) := (V.out.grows GG.out).cell 2
      have fV := (V.out.grows GG.out).frozen
      have lV := (V.out.grows GG.out).lt
      have gg := GG.out
      have HK : Hid (∀ w', Grows W2 w' → w'.cell? ⟨gV, 0, none⟩ = some (.slice A1 t.slews.length c1) ∧ w'.cell? ⟨gV, 1, none⟩ = some (.slice A2 t.loads.length c2) ∧ w'.cell? ⟨gV, 2, none⟩ = some (.slice A3 t.values.length c3)) := hideIt (fun w' g => ⟨(V.out.grows g).cell 0, (V.out.grows g).cell 1, (V.out.grows g).cell 2⟩)
      clear GG
      clear kV0 kV1 kV2 fV lV
      go_wp2
      refine wp_region_held_drew (S := (fun w' => w'.cell? ⟨gV, 0, none⟩ = some (.slice A1 t.slews.length c1) ∧ w'.cell? ⟨gV, 1, none⟩ = some (.slice A2 t.loads.length c2) ∧ w'.cell? ⟨gV, 2, none⟩ = some (.slice A3 t.values.length c3))) (by kernel_rfl) ?_ (fun hh0 => ?_)
      · (try dsimp only); refine HK.out _ ?_; (repeat (first | exact gg | refine Grows.drew ?_ | refine Grows.alloc ?_ _ | refine Grows.setCell ?_ (by simp <;> omega) _))
      refine regTake 0 (v := ?_) ?_ hh0 ?_
      rotate_left
      · intro w hw; (try dsimp only at hw); go_simp; (try with_reducible rfl)
      try simp only [Act.put, List.setIfInBounds_toArray, List.set_cons_zero, List.set_cons_succ]
      refine regTake 1 (v := ?_) ?_ hh0 ?_
      rotate_left
      · intro w hw; (try dsimp only at hw); go_simp; (try with_reducible rfl)
      try simp only [Act.put, List.setIfInBounds_toArray, List.set_cons_zero, List.set_cons_succ]
      refine regTake 2 (v := ?_) ?_ hh0 ?_
      rotate_left
      · intro w hw; (try dsimp only at hw); go_simp; (try with_reducible rfl)
      try simp only [Act.put, List.setIfInBounds_toArray, List.set_cons_zero, List.set_cons_succ]
      refine regTake 3 (v := ?_) ?_ hh0 ?_
      rotate_left
      · intro w hw; (try dsimp only at hw); go_simp; (try with_reducible rfl)
      try simp only [Act.put, List.setIfInBounds_toArray, List.set_cons_zero, List.set_cons_succ]
      refine regTake 6 (v := ?_) ?_ hh0 ?_
      rotate_left
      · intro w hw; (try dsimp only at hw); go_simp; (try with_reducible rfl)
      try simp only [Act.put, List.setIfInBounds_toArray, List.set_cons_zero, List.set_cons_succ]
      refine regCall 4 (fun K hK => ?_)
      go_simp
      refine (below_any (w0 := W2) 40 (DC.out.grows (by repeat (first | exact Grows.refl _ | refine Grows.drewN ?_ _ | refine Grows.drew ?_))) (by omega) (by omega)).mono ?_
      rintro e p3 ⟨y2, rfl, y2a, y2b, h_, -⟩
      replace DC := hideIt h_
      clear h_
      have gg := DC.out.ge.2.1
      (try go_wp2_with fail)
      refine hK.out _ _ ?_ (fun hh1 => ?_)
      · (try dsimp only); refine HK.out _ ?_; (repeat (first | exact gg | refine Grows.drew ?_ | refine Grows.alloc ?_ _ | refine Grows.setCell ?_ (by simp <;> omega) _))
      clear hK K hh0
      try simp only [Act.put, List.setIfInBounds_toArray, List.set_cons_zero, List.set_cons_succ]
      have wy2 : IntKind.i64.wrap (ld + y2) = ld + y2 := Go.IntWalk.i64_in _ (by omega)
      refine regTake 5 (v := .int .i64 (ld + y2)) (fun w hw => ?_) hh1 ?_
      · (try dsimp only at hw)
        go_simp
      try simp only [Act.put, List.setIfInBounds_toArray, List.set_cons_zero, List.set_cons_succ]
      refine regCall 7 (fun K hK => ?_)
      go_simp
      refine (iLookUp_any _ (ld + y2) _ _ (HR.out.keep (show Grows W2 _ from (by (repeat (first | exact gg | refine Grows.drew ?_ | refine Grows.alloc ?_ _ | refine Grows.setCell ?_ (by simp <;> omega) _)))).keeps)).mono ?_
      rintro e p4 ⟨rc, c2, rfl, lv_, g_⟩
      replace DC := hideIt ((DC.out.grows (by repeat (first | exact Grows.refl _ | refine Grows.drewN ?_ _ | refine Grows.drew ?_)) : DiceAt W2 _ d).grows g_)
      have gg := (show Grows W2 _ from (by (repeat (first | exact gg | refine Grows.drew ?_ | refine Grows.alloc ?_ _ | refine Grows.setCell ?_ (by simp <;> omega) _)))).trans g_
      obtain ⟨lvb, rfl⟩ := lv_ok lv_ htb him
      have LC := hideIt lvb
      clear lv_ lvb g_
      (try go_wp2_with fail)
      refine hK.out _ _ ?_ (fun hh2 => ?_)
      · (try dsimp only); refine HK.out _ ?_; (repeat (first | exact gg | refine Grows.drew ?_ | refine Grows.alloc ?_ _ | refine Grows.setCell ?_ (by simp <;> omega) _))
      clear hK K hh1
      try simp only [Act.put, List.setIfInBounds_toArray, List.set_cons_zero, List.set_cons_succ]
      refine regTake 8 (v := ?_) ?_ hh2 ?_
      rotate_left
      · intro w hw; (try dsimp only at hw); go_simp; (try with_reducible rfl)
      try simp only [Act.put, List.setIfInBounds_toArray, List.set_cons_zero, List.set_cons_succ]
      refine regTake 9 (v := ?_) ?_ hh2 ?_
      rotate_left
      · intro w hw; (try dsimp only at hw); go_simp; (try with_reducible rfl)
      try simp only [Act.put, List.setIfInBounds_toArray, List.set_cons_zero, List.set_cons_succ]
      refine regTake 10 (v := ?_) ?_ hh2 ?_
      rotate_left
      · intro w hw; (try dsimp only at hw); go_simp; (try with_reducible rfl)
      try simp only [Act.put, List.setIfInBounds_toArray, List.set_cons_zero, List.set_cons_succ]
      refine regTake 11 (v := ?_) ?_ hh2 ?_
      rotate_left
      · intro w hw; (try dsimp only at hw); go_simp; (try with_reducible rfl)
      try simp only [Act.put, List.setIfInBounds_toArray, List.set_cons_zero, List.set_cons_succ]
      refine regTake 12 (v := ?_) ?_ hh2 ?_
      rotate_left
      · intro w hw; (try dsimp only at hw); go_simp; (try with_reducible rfl)
      try simp only [Act.put, List.setIfInBounds_toArray, List.set_cons_zero, List.set_cons_succ]
      refine wpAnyH_done (by kernel_rfl) ?_ _
      clear hh2 HK
      have GG := hideIt gg
      clear gg
      have kV0 : p4.cell? ⟨gV, 0, none⟩ = some (.slice A1 t.slews.length c1) := (V.out.grows GG.out).cell 0
      have kV1 : p4.cell? ⟨gV, 1, none⟩ = some (.slice A2 t.loads.length c2) := (V.out.grows GG.out).cell 1
      have kV2 : p4.cell? ⟨gV, 2, none⟩ = some (.slice A3 t.values.length c3) := (V.out.grows GG.out).cell 2
      have fV := (V.out.grows GG.out).frozen
      have lV := (V.out.grows GG.out).lt
      go_wp2_with fail
      clear kV0 kV1 kV2 fV lV
      refine (iLookUp_any _ _ 0 _ (HR.out.keep (show Grows W2 _ from (by repeat (first | exact GG.out | refine Grows.drewN ?_ _ | refine Grows.drew ?_ | refine Grows.alloc ?_ _))).keeps)).mono ?_
      rintro e p5 ⟨rl, c3, rfl, lv_, g_⟩
      replace DC := hideIt ((DC.out.grows (by repeat (first | exact Grows.refl _ | refine Grows.drewN ?_ _ | refine Grows.drew ?_)) : DiceAt W2 _ d).grows g_)
      replace GG := hideIt ((show Grows W2 _ from (by repeat (first | exact GG.out | refine Grows.drewN ?_ _ | refine Grows.drew ?_ | refine Grows.alloc ?_ _))).trans g_)
      clear g_
      have LV := hideIt lv_
      clear lv_
      obtain ⟨lva, rfl⟩ := lv_ok LV.out htb rfl
      have LL := hideIt lva
      clear lva LV
      have kV0 : p5.cell? ⟨gV, 0, none⟩ = some (.slice A1 t.slews.length c1) := (V.out.grows GG.out).cell 0
      have kV1 : p5.cell? ⟨gV, 1, none⟩ = some (.slice A2 t.loads.length c2) := (V.out.grows GG.out).cell 1
      have kV2 : p5.cell? ⟨gV, 2, none⟩ = some (.slice A3 t.values.length c3) := (V.out.grows GG.out).cell 2
      have fV := (V.out.grows GG.out).frozen
      have lV := (V.out.grows GG.out).lt
      go_wp2_with fail
      clear kV0 kV1 kV2 fV lV
      refine (iLookUp_any _ _ 1 _ (HR.out.keep (show Grows W2 _ from (by repeat (first | exact GG.out | refine Grows.drewN ?_ _ | refine Grows.drew ?_ | refine Grows.alloc ?_ _))).keeps)).mono ?_
      rintro e p6 ⟨rh, c4, rfl, lv_, g_⟩
      replace DC := hideIt ((DC.out.grows (by repeat (first | exact Grows.refl _ | refine Grows.drewN ?_ _ | refine Grows.drew ?_)) : DiceAt W2 _ d).grows g_)
      replace GG := hideIt ((show Grows W2 _ from (by repeat (first | exact GG.out | refine Grows.drewN ?_ _ | refine Grows.drew ?_ | refine Grows.alloc ?_ _))).trans g_)
      clear g_
      have LV := hideIt lv_
      clear lv_
      obtain ⟨lva, rfl⟩ := lv_ok LV.out htb rfl
      have LH := hideIt lva
      clear lva LV
      have kV0 : p6.cell? ⟨gV, 0, none⟩ = some (.slice A1 t.slews.length c1) := (V.out.grows GG.out).cell 0
      have kV1 : p6.cell? ⟨gV, 1, none⟩ = some (.slice A2 t.loads.length c2) := (V.out.grows GG.out).cell 1
      have kV2 : p6.cell? ⟨gV, 2, none⟩ = some (.slice A3 t.values.length c3) := (V.out.grows GG.out).cell 2
      have fV := (V.out.grows GG.out).frozen
      have lV := (V.out.grows GG.out).lt
      have hmo : m = 0 ∨ m = 1 := by omega
      have h1 := look_slew hm hmo LA.out LB.out (by omega)
      have h2 := look_load hm hmo LA.out LC.out (by omega)
      have h3 := look_modes htb LL.out LH.out
      obtain ⟨h3, h4⟩ := h3
      have HM := hideIt hm
      clear hmo htb him hm LA LB LC LL LH
      go_wp2_with fail
      clear kV0 kV1 kV2 fV lV
      refine (iIsMono_any _ (HR.out.keep (show Grows W2 _ from (by repeat (first | exact GG.out | refine Grows.drewN ?_ _ | refine Grows.drew ?_ | refine Grows.alloc ?_ _))).keeps)).mono ?_
      rintro e p7 ⟨rfl, g_⟩
      replace DC := hideIt ((DC.out.grows (by repeat (first | exact Grows.refl _ | refine Grows.drewN ?_ _ | refine Grows.drew ?_)) : DiceAt W2 _ d).grows g_)
      replace GG := hideIt ((show Grows W2 _ from (by repeat (first | exact GG.out | refine Grows.drewN ?_ _ | refine Grows.drew ?_ | refine Grows.alloc ?_ _))).trans g_)
      clear g_
      rw [HM.out]
      go_wp2
      go_ret
      exact ⟨rfl, (G2.out.trans (show Grows W2 _ from (by repeat (first | exact GG.out | refine Grows.drewN ?_ _ | refine Grows.drew ?_ | refine Grows.alloc ?_ _)))).below⟩
    · have him : isM m = false := by unfold isM; simp; omega
      have hmd : decide (1 < m) = true := by simpa using hm1
      have HM := hideIt hm
      clear hm
      go_wp2_with fail
      clear kV0 kV1 kV2 fV lV
      refine (iLookUp_any _ _ _ _ (HR.out.keep (show Grows W2 _ from (by repeat (first | exact GG.out | refine Grows.drewN ?_ _ | refine Grows.drew ?_ | refine Grows.alloc ?_ _))).keeps)).mono ?_
      rintro e u5 ⟨r, c, rfl, lv_, g_⟩
      replace DC := hideIt ((DC.out.grows (by repeat (first | exact Grows.refl _ | refine Grows.drewN ?_ _ | refine Grows.drew ?_)) : DiceAt W2 _ d).grows g_)
      replace GG := hideIt ((show Grows W2 _ from (by repeat (first | exact GG.out | refine Grows.drewN ?_ _ | refine Grows.drew ?_ | refine Grows.alloc ?_ _))).trans g_)
      clear g_
      have LV := hideIt lv_
      clear lv_
      have kV0 : u5.cell? ⟨gV, 0, none⟩ = some (.slice A1 t.slews.length c1) := (V.out.grows GG.out).cell 0
      have kV1 : u5.cell? ⟨gV, 1, none⟩ = some (.slice A2 t.loads.length c2) := (V.out.grows GG.out).cell 1
      have kV2 : u5.cell? ⟨gV, 2, none⟩ = some (.slice A3 t.values.length c3) := (V.out.grows GG.out).cell 2
      have fV := (V.out.grows GG.out).frozen
      have lV := (V.out.grows GG.out).lt
      obtain ⟨rfl, rfl⟩ := lv_mode LV.out htb him
      have TV : Hid (tabB t = true) := hideIt htb
      have md : decide (m ≤ 1) = false := by simpa using hm1
      clear htb him
      have gg := GG.out
      have HK : Hid (∀ w', Grows W2 w' → w'.cell? ⟨gV, 0, none⟩ = some (.slice A1 t.slews.length c1) ∧ w'.cell? ⟨gV, 1, none⟩ = some (.slice A2 t.loads.length c2) ∧ w'.cell? ⟨gV, 2, none⟩ = some (.slice A3 t.values.length c3)) := hideIt (fun w' g => ⟨(V.out.grows g).cell 0, (V.out.grows g).cell 1, (V.out.grows g).cell 2⟩)
      go_wp2
      refine wp_region_held_drew (S := (fun w' => w'.cell? ⟨gV, 0, none⟩ = some (.slice A1 t.slews.length c1) ∧ w'.cell? ⟨gV, 1, none⟩ = some (.slice A2 t.loads.length c2) ∧ w'.cell? ⟨gV, 2, none⟩ = some (.slice A3 t.values.length c3))) (by kernel_rfl) ?_ (fun hh0 => ?_)
      · (try dsimp only); refine HK.out _ ?_; (repeat (first | exact gg | refine Grows.drew ?_ | refine Grows.alloc ?_ _ | refine Grows.setCell ?_ (by simp <;> omega) _))
      refine regTake 0 (v := ?_) ?_ hh0 ?_
      rotate_left
      · intro w hw; (try dsimp only at hw); go_simp; (try with_reducible rfl)
      try simp only [Act.put, List.setIfInBounds_toArray, List.set_cons_zero, List.set_cons_succ]
      refine regTake 2 (v := ?_) ?_ hh0 ?_
      rotate_left
      · intro w hw; (try dsimp only at hw); go_simp; (try with_reducible rfl)
      try simp only [Act.put, List.setIfInBounds_toArray, List.set_cons_zero, List.set_cons_succ]
      refine regCall 1 (fun K hK => ?_)
      go_simp
      refine (iIsMono_any _ (HR.out.keep (show Grows W2 _ from (by (repeat (first | exact gg | refine Grows.drew ?_ | refine Grows.alloc ?_ _ | refine Grows.setCell ?_ (by simp <;> omega) _)))).keeps)).mono ?_
      rintro e v1 ⟨rfl, g_⟩
      have gg := (show Grows W2 _ from (by (repeat (first | exact gg | refine Grows.drew ?_ | refine Grows.alloc ?_ _ | refine Grows.setCell ?_ (by simp <;> omega) _)))).trans g_
      clear g_
      (try go_wp2_with fail)
      refine hK.out _ _ ?_ (fun hh1 => ?_)
      · (try dsimp only); refine HK.out _ ?_; (repeat (first | exact gg | refine Grows.drew ?_ | refine Grows.alloc ?_ _ | refine Grows.setCell ?_ (by simp <;> omega) _))
      clear hK K hh0
      try simp only [Act.put, List.setIfInBounds_toArray, List.set_cons_zero, List.set_cons_succ]
      refine regCall 3 (fun K hK => ?_)
      go_simp
      refine (sIsMono_any _ (HR.out.keep (show Grows W2 _ from (by (repeat (first | exact gg | refine Grows.drew ?_ | refine Grows.alloc ?_ _ | refine Grows.setCell ?_ (by simp <;> omega) _)))).keeps)).mono ?_
      rintro e v2 ⟨rfl, g_⟩
      have gg := (show Grows W2 _ from (by (repeat (first | exact gg | refine Grows.drew ?_ | refine Grows.alloc ?_ _ | refine Grows.setCell ?_ (by simp <;> omega) _)))).trans g_
      clear g_
      (try go_wp2_with fail)
      refine hK.out _ _ ?_ (fun hh2 => ?_)
      · (try dsimp only); refine HK.out _ ?_; (repeat (first | exact gg | refine Grows.drew ?_ | refine Grows.alloc ?_ _ | refine Grows.setCell ?_ (by simp <;> omega) _))
      clear hK K hh1
      try simp only [Act.put, List.setIfInBounds_toArray, List.set_cons_zero, List.set_cons_succ]
      refine regTake 4 (v := ?_) ?_ hh2 ?_
      rotate_left
      · intro w hw; (try dsimp only at hw); go_simp; (try with_reducible rfl)
      try simp only [Act.put, List.setIfInBounds_toArray, List.set_cons_zero, List.set_cons_succ]
      refine regTake 5 (v := ?_) ?_ hh2 ?_
      rotate_left
      · intro w hw; (try dsimp only at hw); go_simp; (try with_reducible rfl)
      try simp only [Act.put, List.setIfInBounds_toArray, List.set_cons_zero, List.set_cons_succ]
      refine regTake 6 (v := ?_) ?_ hh2 ?_
      rotate_left
      · intro w hw; (try dsimp only at hw); go_simp; (try with_reducible rfl)
      try simp only [Act.put, List.setIfInBounds_toArray, List.set_cons_zero, List.set_cons_succ]
      refine regTake 7 (v := ?_) ?_ hh2 ?_
      rotate_left
      · intro w hw; (try dsimp only at hw); go_simp; (try with_reducible rfl)
      try simp only [Act.put, List.setIfInBounds_toArray, List.set_cons_zero, List.set_cons_succ]
      refine regTake 8 (v := ?_) ?_ hh2 ?_
      rotate_left
      · intro w hw; (try dsimp only at hw); go_simp; (try with_reducible rfl)
      try simp only [Act.put, List.setIfInBounds_toArray, List.set_cons_zero, List.set_cons_succ]
      refine regCall 9 (fun K hK => ?_)
      go_simp
      refine (sIsTable_any _ (HR.out.keep (show Grows W2 _ from (by (repeat (first | exact gg | refine Grows.drew ?_ | refine Grows.alloc ?_ _ | refine Grows.setCell ?_ (by simp <;> omega) _)))).keeps)).mono ?_
      rintro e v3 ⟨rfl, g_⟩
      have gg := (show Grows W2 _ from (by (repeat (first | exact gg | refine Grows.drew ?_ | refine Grows.alloc ?_ _ | refine Grows.setCell ?_ (by simp <;> omega) _)))).trans g_
      clear g_
      rw [TV.out]
      (try go_wp2_with fail)
      refine hK.out _ _ ?_ (fun hh3 => ?_)
      · (try dsimp only); refine HK.out _ ?_; (repeat (first | exact gg | refine Grows.drew ?_ | refine Grows.alloc ?_ _ | refine Grows.setCell ?_ (by simp <;> omega) _))
      clear hK K hh2
      try simp only [Act.put, List.setIfInBounds_toArray, List.set_cons_zero, List.set_cons_succ]
      refine regTake 10 (v := ?_) ?_ hh3 ?_
      rotate_left
      · intro w hw; (try dsimp only at hw); go_simp; (try with_reducible rfl)
      try simp only [Act.put, List.setIfInBounds_toArray, List.set_cons_zero, List.set_cons_succ]
      refine regTake 11 (v := ?_) ?_ hh3 ?_
      rotate_left
      · intro w hw; (try dsimp only at hw); go_simp; (try with_reducible rfl)
      try simp only [Act.put, List.setIfInBounds_toArray, List.set_cons_zero, List.set_cons_succ]
      refine regTake 12 (v := ?_) ?_ hh3 ?_
      rotate_left
      · intro w hw; (try dsimp only at hw); go_simp; (try with_reducible rfl)
      try simp only [Act.put, List.setIfInBounds_toArray, List.set_cons_zero, List.set_cons_succ]
      refine regTake 13 (v := ?_) ?_ hh3 ?_
      rotate_left
      · intro w hw; (try dsimp only at hw); go_simp; (try with_reducible rfl)
      try simp only [Act.put, List.setIfInBounds_toArray, List.set_cons_zero, List.set_cons_succ]
      refine regTake 14 (v := ?_) ?_ hh3 ?_
      rotate_left
      · intro w hw; (try dsimp only at hw); go_simp; (try with_reducible rfl)
      try simp only [Act.put, List.setIfInBounds_toArray, List.set_cons_zero, List.set_cons_succ]
      refine regTake 15 (v := ?_) ?_ hh3 ?_
      rotate_left
      · intro w hw; (try dsimp only at hw); go_simp; (try with_reducible rfl)
      try simp only [Act.put, List.setIfInBounds_toArray, List.set_cons_zero, List.set_cons_succ]
      refine regTake 16 (v := ?_) ?_ hh3 ?_
      rotate_left
      · intro w hw; (try dsimp only at hw); go_simp; (try with_reducible rfl)
      try simp only [Act.put, List.setIfInBounds_toArray, List.set_cons_zero, List.set_cons_succ]
      refine wpAnyH_done (by kernel_rfl) ?_ _
      clear hh3 HK
      replace GG := hideIt gg
      clear gg
      go_wp2
      go_ret
      exact ⟨rfl, (G2.out.trans (show Grows W2 _ from (by repeat (first | exact GG.out | refine Grows.drewN ?_ _ | refine Grows.drew ?_ | refine Grows.alloc ?_ _)))).below⟩
end Go.Proofs.Ytgglgghlndhfbaa
