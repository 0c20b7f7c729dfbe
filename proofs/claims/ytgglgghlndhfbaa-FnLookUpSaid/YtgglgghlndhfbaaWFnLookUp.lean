/-
  The walk of FnLookUp.
-/
import Derived.Test.YtgglgghlndhfbaaDrawTL
import Derived.Test.YtgglgghlndhfbaaLookUp
import Derived.Test.YtgglgghlndhfbaaLookL
import Derived.Test.YtgglgghlndhfbaaOpenB
import Derived.Test.YtgglgghlndhfbaaBounds
namespace Go.Proofs.Ytgglgghlndhfbaa
open Go.RowKit
theorem RTable.slices {w : World} {a1 a2 a3 : Value} {t : TableD} (h : RTable w [a1, a2, a3] t) : ∃ (A1 A2 A3 : Option Addr) (c1 c2 c3 : Nat), a1 = .slice A1 t.slews.length c1 ∧ a2 = .slice A2 t.loads.length c2 ∧ a3 = .slice A3 t.values.length c3 := by
  obtain ⟨x1, x2, x3, e_, hx1, hx2, hx3⟩ := h
  injection e_ with e1 e_
  injection e_ with e2 e_
  injection e_ with e3 e_
  subst e1 e2 e3
  obtain ⟨A1, c1, e1, -⟩ := hx1
  obtain ⟨A2, c2, e2, -⟩ := hx2
  obtain ⟨A3, c3, e3, -⟩ := hx3
  exact ⟨A1, A2, A3, c1, c2, c3, e1, e2, e3⟩
theorem lv_ok {t : TableD} {sl ld m r c : Int} (h : LookUpV t sl ld m r c) (ht : tabB t = true) (hm : isM m = true) : LookV t sl ld m r ∧ c = 0 := by
  unfold LookUpV at h
  rwa [if_pos ht, if_pos hm] at h
theorem lv_mode {t : TableD} {sl ld m r c : Int} (h : LookUpV t sl ld m r c) (ht : tabB t = true) (hm : isM m = false) : r = 0 ∧ c = 2 := by
  unfold LookUpV at h
  rw [if_pos ht, if_neg (by rw [hm]; decide)] at h
  exact h
theorem lv_not {t : TableD} {sl ld m r c : Int} (h : LookUpV t sl ld m r c) (ht : tabB t = false) : r = 0 ∧ c = 1 := by
  unfold LookUpV at h
  rw [if_neg (by rw [ht]; decide)] at h
  exact h
theorem foldl_min_le (xs : List Int) (a : Int) : (xs.foldl min a ≤ a) ∧ ∀ x ∈ xs, xs.foldl min a ≤ x := by
  induction xs generalizing a with
  | nil => simp
  | cons y ys ih =>
    simp only [List.foldl_cons]
    obtain ⟨h1, h2⟩ := ih (min a y)
    refine ⟨by omega, fun x hx => ?_⟩
    rcases List.mem_cons.1 hx with rfl | hx
    · omega
    · exact h2 x hx
theorem foldl_max_le (xs : List Int) (a : Int) : (a ≤ xs.foldl max a) ∧ ∀ x ∈ xs, x ≤ xs.foldl max a := by
  induction xs generalizing a with
  | nil => simp
  | cons y ys ih =>
    simp only [List.foldl_cons]
    obtain ⟨h1, h2⟩ := ih (max a y)
    refine ⟨by omega, fun x hx => ?_⟩
    rcases List.mem_cons.1 hx with rfl | hx
    · omega
    · exact h2 x hx
theorem minmax_mem {xs : List Int} {x : Int} (hx : x ∈ xs) : minL xs ≤ x ∧ x ≤ maxL xs := by
  unfold minL maxL minTo maxTo
  rw [List.take_length]
  exact ⟨(foldl_min_le xs _).2 x hx, (foldl_max_le xs _).2 x hx⟩
set_option maxHeartbeats 16000000 in
set_option maxRecDepth 10000 in
theorem walk_FnLookUp {v : Value} {xs : List Int} {w : World} (hx : RBytes w v xs) :
    Calls Try.prog 5 #[v] w fun e w' => e = .returned (.bool true) ∧ Below w.heap.size w w' := by
  have HX := hideIt hx
  clear hx
  go_enter Try.func5, Try.ntmps5
  go_wp2_with fail
  refine (big_any _ HX.out).mono ?_
  rintro e w1 ⟨rfl, rfl⟩
  cases hb : decide ((xs.length : Int) > 4096)
  rotate_left
  · go_wp2
    go_ret
    exact ⟨rfl, Below.refl _ _⟩
  clear hb
  go_wp2_with fail
  refine (drawLookUp_any HX.out).mono ?_
  rintro e u1 ⟨a1, a2, a3, sl, ld, m, rfl, ⟨s1, s2⟩, ⟨d1, d2⟩, ⟨m1, m2⟩, t, hr, g⟩
  obtain ⟨A1, A2, A3, c1, c2, c3, e1, e2, e3⟩ := hr.slices
  subst e1 e2 e3
  have gal : Grows u1 (u1.alloc (.cells #[.slice A1 t.slews.length c1, .slice A2 t.loads.length c2, .slice A3 t.values.length c3] 26)) := (Grows.refl _).alloc _
  have G2 := hideIt (g.trans gal)
  have HR := hideIt (hr.keep gal.keeps)
  have V := hideIt (Blk.new u1 26 #[.slice A1 t.slews.length c1, .slice A2 t.loads.length c2, .slice A3 t.values.length c3])
  have HXB := hideIt (HX.out.keep G2.out.keeps)
  clear gal hr g
  go_wp2_with fail
  generalize u1.heap.size = gV at V ⊢
  generalize u1.alloc (.cells #[.slice A1 t.slews.length c1, .slice A2 t.loads.length c2, .slice A3 t.values.length c3] 26) = W2 at G2 HR V HXB ⊢
  have GG : Hid (Grows W2 W2) := hideIt (Grows.refl _)
  skip
  have kV0 : W2.cell? ⟨gV, 0, none⟩ = some (.slice A1 t.slews.length c1) := (V.out.grows GG.out).cell 0
  have kV1 : W2.cell? ⟨gV, 1, none⟩ = some (.slice A2 t.loads.length c2) := (V.out.grows GG.out).cell 1
  have kV2 : W2.cell? ⟨gV, 2, none⟩ = some (.slice A3 t.values.length c3) := (V.out.grows GG.out).cell 2
  have fV := (V.out.grows GG.out).frozen
  have lV := (V.out.grows GG.out).lt
  go_wp2_with fail
  clear kV0 kV1 kV2 fV lV
  refine (iLookUp_any _ _ _ _ (HR.out.keep (show Grows W2 _ from (by repeat (first | exact GG.out | refine Grows.drewN ?_ _ | refine Grows.drew ?_ | refine Grows.alloc ?_ _))).keeps)).mono ?_
  rintro e u3 ⟨r, c0, rfl, lv_, g_⟩
  replace GG := hideIt ((show Grows W2 _ from (by repeat (first | exact GG.out | refine Grows.drewN ?_ _ | refine Grows.drew ?_ | refine Grows.alloc ?_ _))).trans g_)
  have LV := hideIt lv_
  clear g_ lv_
  have kV0 : u3.cell? ⟨gV, 0, none⟩ = some (.slice A1 t.slews.length c1) := (V.out.grows GG.out).cell 0
  have kV1 : u3.cell? ⟨gV, 1, none⟩ = some (.slice A2 t.loads.length c2) := (V.out.grows GG.out).cell 1
  have kV2 : u3.cell? ⟨gV, 2, none⟩ = some (.slice A3 t.values.length c3) := (V.out.grows GG.out).cell 2
  have fV := (V.out.grows GG.out).frozen
  have lV := (V.out.grows GG.out).lt
  go_wp2_with fail
  clear kV0 kV1 kV2 fV lV
  refine (sLookUp_any _ _ _ _ (HR.out.keep (show Grows W2 _ from (by repeat (first | exact GG.out | refine Grows.drewN ?_ _ | refine Grows.drew ?_ | refine Grows.alloc ?_ _))).keeps)).mono ?_
  rintro e u4 ⟨r2, c20, rfl, lv_, g_⟩
  replace GG := hideIt ((show Grows W2 _ from (by repeat (first | exact GG.out | refine Grows.drewN ?_ _ | refine Grows.drew ?_ | refine Grows.alloc ?_ _))).trans g_)
  have LV2 := hideIt lv_
  clear g_ lv_
  obtain ⟨rfl, rfl⟩ := LV.out.uniq LV2.out
  clear LV2
  have kV0 : u4.cell? ⟨gV, 0, none⟩ = some (.slice A1 t.slews.length c1) := (V.out.grows GG.out).cell 0
  have kV1 : u4.cell? ⟨gV, 1, none⟩ = some (.slice A2 t.loads.length c2) := (V.out.grows GG.out).cell 1
  have kV2 : u4.cell? ⟨gV, 2, none⟩ = some (.slice A3 t.values.length c3) := (V.out.grows GG.out).cell 2
  have fV := (V.out.grows GG.out).frozen
  have lV := (V.out.grows GG.out).lt
  cases htb : tabB t
  · obtain ⟨rfl, rfl⟩ := lv_not LV.out htb
    clear htb
    go_wp2
    go_ret
    exact ⟨rfl, (G2.out.trans (show Grows W2 _ from (by repeat (first | exact GG.out | refine Grows.drewN ?_ _ | refine Grows.drew ?_ | refine Grows.alloc ?_ _)))).below⟩
  by_cases hm1 : m ≤ 1
  rotate_left
  · have him : isM m = false := by unfold isM; simp; omega
    obtain ⟨rfl, rfl⟩ := lv_mode LV.out htb him
    clear htb him
    go_wp2
    go_ret
    exact ⟨rfl, (G2.out.trans (show Grows W2 _ from (by repeat (first | exact GG.out | refine Grows.drewN ?_ _ | refine Grows.drew ?_ | refine Grows.alloc ?_ _)))).below⟩
  have him : isM m = true := by rcases (by omega : m = 0 ∨ m = 1) with rfl | rfl <;> rfl
  obtain ⟨lv, rfl⟩ := lv_ok LV.out htb him
  have hmo : m = 0 ∨ m = 1 := by omega
  obtain ⟨hS, hL, hV, hVb⟩ := tabB_parts htb
  have bd := look_between htb hmo lv (fun x hx => minmax_mem hx)
  obtain ⟨bd1, bd2⟩ := bd
  have EB : Hid (bndV t = (minL t.values, maxL t.values, 0)) := hideIt (by unfold bndV; rw [if_pos htb])
  have nS := axB_len hS
  have nL := axB_len hL
  have nV : t.values.length = t.slews.length * t.loads.length := hV
  have vlen : t.values.length ≤ 16 := by rw [nV]; exact Nat.mul_le_mul nS.2 nL.2
  have vpos : 1 ≤ t.values.length := by rw [nV]; exact Nat.mul_pos nS.1 nL.1
  have TB := hideIt htb
  have hIM := hideIt him
  clear htb him hmo lv LV hS hL hV hVb nV
  go_wp2_with fail
  clear kV0 kV1 kV2 fV lV
  refine (iBounds_any _ (HR.out.keep (show Grows W2 _ from (by repeat (first | exact GG.out | refine Grows.drewN ?_ _ | refine Grows.drew ?_ | refine Grows.alloc ?_ _))).keeps)).mono ?_
  rintro e u5 ⟨rfl, g_⟩
  replace GG := hideIt ((show Grows W2 _ from (by repeat (first | exact GG.out | refine Grows.drewN ?_ _ | refine Grows.drew ?_ | refine Grows.alloc ?_ _))).trans g_)
  clear g_
  rw [EB.out]
  generalize hlo : minL t.values = lo at bd1
  generalize hhi : maxL t.values = hi_ at bd2
  clear EB hlo hhi
  have hr1 : RInts W2 (.slice A1 t.slews.length c1) t.slews := HR.out.open_.1
  have hr2 : RInts W2 (.slice A2 t.loads.length c2) t.loads := HR.out.open_.2.1
  have hr3 : RInts W2 (.slice A3 t.values.length c3) t.values := HR.out.open_.2.2
  obtain ⟨b1, o1, e1, -⟩ := ints_cell (i := 0) hr1 (List.getElem?_eq_getElem (by omega))
  obtain ⟨b2, o2, e2, -⟩ := ints_cell (i := 0) hr2 (List.getElem?_eq_getElem (by omega))
  obtain ⟨b3, o3, e3, -⟩ := ints_cell (i := 0) hr3 (List.getElem?_eq_getElem (by omega))
  subst e1 e2 e3
  have HR1 := hideIt hr1
  have HR2 := hideIt hr2
  have HR3 := hideIt hr3
  clear hr1 hr2 hr3
  go_wp2
  go_loopw [13, 14, 15, 16] (fun a _ _ _ wr => ∃ i : Nat, i ≤ t.slews.length ∧ a = .int .i64 (i : Int) ∧ Hid (Grows W2 wr)) (fun a _ _ _ _ => t.slews.length - (intOf a).toNat)
  case atStart => exact ⟨0, Nat.zero_le _, rfl, hideIt (show Grows W2 _ from (by repeat (first | exact GG.out | refine Grows.drewN ?_ _ | refine Grows.drew ?_ | refine Grows.alloc ?_ _)))⟩
  case round =>
    clear GG
    obtain ⟨i, hi0, rfl, GG⟩ := hrel
    have kV0 : wr.cell? ⟨gV, 0, none⟩ = some (.slice (some ⟨b1, o1, none⟩) t.slews.length c1) := (V.out.grows GG.out).cell 0
    have kV1 : wr.cell? ⟨gV, 1, none⟩ = some (.slice (some ⟨b2, o2, none⟩) t.loads.length c2) := (V.out.grows GG.out).cell 1
    have kV2 : wr.cell? ⟨gV, 2, none⟩ = some (.slice (some ⟨b3, o3, none⟩) t.values.length c3) := (V.out.grows GG.out).cell 2
    have fV := (V.out.grows GG.out).frozen
    have lV := (V.out.grows GG.out).lt
    by_cases hi : i < t.slews.length
    · obtain ⟨x, hx_⟩ : ∃ x, t.slews[i]? = some x := ⟨_, List.getElem?_eq_getElem hi⟩
      have X1 := hideIt hx_
      obtain ⟨b1', o1', e1_, q1⟩ := ints_cell HR1.out hx_
      injection e1_ with e1_
      injection e1_ with e1_ e1b
      subst e1_ e1b
      clear hx_
      go_wp2
      clear kV0 kV1 kV2 fV lV
      go_loopw [14, 15, 16] (fun a _ _ wr => ∃ k : Nat, k ≤ t.loads.length ∧ a = .int .i64 (k : Int) ∧ Hid (Grows W2 wr)) (fun a _ _ _ => t.loads.length - (intOf a).toNat)
      case atStart => exact ⟨0, Nat.zero_le _, rfl, GG⟩
      case round =>
        clear GG
        obtain ⟨k, hk0, rfl, GG⟩ := hrel
        have kV0 : wr.cell? ⟨gV, 0, none⟩ = some (.slice (some ⟨b1, o1, none⟩) t.slews.length c1) := (V.out.grows GG.out).cell 0
        have kV1 : wr.cell? ⟨gV, 1, none⟩ = some (.slice (some ⟨b2, o2, none⟩) t.loads.length c2) := (V.out.grows GG.out).cell 1
        have kV2 : wr.cell? ⟨gV, 2, none⟩ = some (.slice (some ⟨b3, o3, none⟩) t.values.length c3) := (V.out.grows GG.out).cell 2
        have fV := (V.out.grows GG.out).frozen
        have lV := (V.out.grows GG.out).lt
        by_cases hk : k < t.loads.length
        · skip
          obtain ⟨y, hy_⟩ : ∃ y, t.loads[k]? = some y := ⟨_, List.getElem?_eq_getElem hk⟩
          have Y1 := hideIt hy_
          obtain ⟨b2', o2', e2_, q2⟩ := ints_cell HR2.out hy_
          injection e2_ with e2_
          injection e2_ with e2_ e2b
          subst e2_ e2b
          clear hy_
          have ixl := idxl_lt TB.out hi hk
          obtain ⟨vv, hv_⟩ : ∃ vv, t.values[i * t.loads.length + k]? = some vv := ⟨_, List.getElem?_eq_getElem ixl⟩
          obtain ⟨b3', o3', e3_, q3⟩ := ints_cell HR3.out hv_
          injection e3_ with e3_
          injection e3_ with e3_ e3b
          subst e3_ e3b
          have ev : t.values.getD (i * t.loads.length + k) 0 = vv := by rw [List.getD_eq_getElem?_getD, hv_]; rfl
          have EV := hideIt ev
          clear hv_ ev
          have gg := GG.out
          have HK : Hid (∀ w', Grows W2 w' → w'.cell? ⟨gV, 0, none⟩ = some (.slice (some ⟨b1, o1, none⟩) t.slews.length c1) ∧ w'.cell? ⟨gV, 1, none⟩ = some (.slice (some ⟨b2, o2, none⟩) t.loads.length c2) ∧ w'.cell? ⟨gV, 2, none⟩ = some (.slice (some ⟨b3, o3, none⟩) t.values.length c3) ∧ w'.cell? ⟨b1, o1 + i, none⟩ = some (.int .i64 x) ∧ w'.cell? ⟨b2, o2 + k, none⟩ = some (.int .i64 y)) := hideIt (fun w' g => ⟨(V.out.grows g).cell 0, (V.out.grows g).cell 1, (V.out.grows g).cell 2, g.keeps _ _ q1, g.keeps _ _ q2⟩)
          clear GG
          have him : isM m = true := hIM.out
          have hmo : m = 0 ∨ m = 1 := by omega
          go_wp2
          clear kV0 kV1 kV2 fV lV
          refine wp_region_held_drew (S := (fun w' => w'.cell? ⟨gV, 0, none⟩ = some (.slice (some ⟨b1, o1, none⟩) t.slews.length c1) ∧ w'.cell? ⟨gV, 1, none⟩ = some (.slice (some ⟨b2, o2, none⟩) t.loads.length c2) ∧ w'.cell? ⟨gV, 2, none⟩ = some (.slice (some ⟨b3, o3, none⟩) t.values.length c3) ∧ w'.cell? ⟨b1, o1 + i, none⟩ = some (.int .i64 x) ∧ w'.cell? ⟨b2, o2 + k, none⟩ = some (.int .i64 y))) (by kernel_rfl) ?_ (fun hh0 => ?_)
          · (try dsimp only); refine HK.out _ ?_; (repeat (first | exact gg | refine Grows.drew ?_ | refine Grows.alloc ?_ _ | refine Grows.setCell ?_ (by simp <;> omega) _))
          refine regTake 0 (v := ?_) ?_ hh0 ?_
          rotate_left
          · intro w hw; (try dsimp only at hw); go_simp; (try with_reducible rfl)
          try simp only [Act.put, List.setIfInBounds_toArray, List.set_cons_zero, List.set_cons_succ]
          refine regTake 1 (v := ?_) ?_ hh0 ?_
          rotate_left
          · intro w hw; (try dsimp only at hw); go_simp; (try with_reducible rfl)
          try simp only [Act.put, List.setIfInBounds_toArray, List.set_cons_zero, List.set_cons_succ]
          refine regTake 2 (v := ?_) ?_ hh0 ?_
          rotate_left
          · intro w hw; (try dsimp only at hw); go_simp; (try with_reducible rfl)
          try simp only [Act.put, List.setIfInBounds_toArray, List.set_cons_zero, List.set_cons_succ]
          refine regTake 3 (v := ?_) ?_ hh0 ?_
          rotate_left
          · intro w hw; (try dsimp only at hw); go_simp; (try with_reducible rfl)
          try simp only [Act.put, List.setIfInBounds_toArray, List.set_cons_zero, List.set_cons_succ]
          refine regTake 4 (v := ?_) ?_ hh0 ?_
          rotate_left
          · intro w hw; (try dsimp only at hw); go_simp; (try with_reducible rfl)
          try simp only [Act.put, List.setIfInBounds_toArray, List.set_cons_zero, List.set_cons_succ]
          refine regTake 5 (v := ?_) ?_ hh0 ?_
          rotate_left
          · intro w hw; (try dsimp only at hw); go_simp; (try with_reducible rfl)
          try simp only [Act.put, List.setIfInBounds_toArray, List.set_cons_zero, List.set_cons_succ]
          refine regTake 6 (v := ?_) ?_ hh0 ?_
          rotate_left
          · intro w hw; (try dsimp only at hw); go_simp; (try with_reducible rfl)
          try simp only [Act.put, List.setIfInBounds_toArray, List.set_cons_zero, List.set_cons_succ]
          refine regTake 7 (v := ?_) ?_ hh0 ?_
          rotate_left
          · intro w hw; (try dsimp only at hw); go_simp; (try with_reducible rfl)
          try simp only [Act.put, List.setIfInBounds_toArray, List.set_cons_zero, List.set_cons_succ]
          refine regTake 8 (v := ?_) ?_ hh0 ?_
          rotate_left
          · intro w hw; (try dsimp only at hw); go_simp; (try with_reducible rfl)
          try simp only [Act.put, List.setIfInBounds_toArray, List.set_cons_zero, List.set_cons_succ]
          refine regTake 9 (v := ?_) ?_ hh0 ?_
          rotate_left
          · intro w hw; (try dsimp only at hw); go_simp; (try with_reducible rfl)
          try simp only [Act.put, List.setIfInBounds_toArray, List.set_cons_zero, List.set_cons_succ]
          refine regTake 10 (v := ?_) ?_ hh0 ?_
          rotate_left
          · intro w hw; (try dsimp only at hw); go_simp; (try with_reducible rfl)
          try simp only [Act.put, List.setIfInBounds_toArray, List.set_cons_zero, List.set_cons_succ]
          refine regTake 11 (v := ?_) ?_ hh0 ?_
          rotate_left
          · intro w hw; (try dsimp only at hw); go_simp; (try with_reducible rfl)
          try simp only [Act.put, List.setIfInBounds_toArray, List.set_cons_zero, List.set_cons_succ]
          refine regCall 12 (fun K hK => ?_)
          go_simp
          refine (iLookUp_any x y m _ (HR.out.keep (show Grows W2 _ from (by (repeat (first | exact gg | refine Grows.drew ?_ | refine Grows.alloc ?_ _ | refine Grows.setCell ?_ (by simp <;> omega) _)))).keeps)).mono ?_
          rintro e u9 ⟨z, c9, rfl, lv_, g_⟩
          have gg := (show Grows W2 _ from (by (repeat (first | exact gg | refine Grows.drew ?_ | refine Grows.alloc ?_ _ | refine Grows.setCell ?_ (by simp <;> omega) _)))).trans g_
          obtain ⟨lvb, rfl⟩ := lv_ok lv_ TB.out him
          have ez := look_own TB.out X1.out Y1.out hmo lvb
          have EZ := hideIt ez
          clear g_ lv_ lvb ez
          (try go_wp2_with fail)
          refine hK.out _ _ ?_ (fun hh1 => ?_)
          · (try dsimp only); refine HK.out _ ?_; (repeat (first | exact gg | refine Grows.drew ?_ | refine Grows.alloc ?_ _ | refine Grows.setCell ?_ (by simp <;> omega) _))
          clear hK K hh0
          try simp only [Act.put, List.setIfInBounds_toArray, List.set_cons_zero, List.set_cons_succ]
          refine regTake 13 (v := ?_) ?_ hh1 ?_
          rotate_left
          · intro w hw; (try dsimp only at hw); go_simp; (try with_reducible rfl)
          try simp only [Act.put, List.setIfInBounds_toArray, List.set_cons_zero, List.set_cons_succ]
          refine regTake 14 (v := ?_) ?_ hh1 ?_
          rotate_left
          · intro w hw; (try dsimp only at hw); go_simp; (try with_reducible rfl)
          try simp only [Act.put, List.setIfInBounds_toArray, List.set_cons_zero, List.set_cons_succ]
          refine regTake 15 (v := ?_) ?_ hh1 ?_
          rotate_left
          · intro w hw; (try dsimp only at hw); go_simp; (try with_reducible rfl)
          try simp only [Act.put, List.setIfInBounds_toArray, List.set_cons_zero, List.set_cons_succ]
          refine regTake 16 (v := ?_) ?_ hh1 ?_
          rotate_left
          · intro w hw; (try dsimp only at hw); go_simp; (try with_reducible rfl)
          try simp only [Act.put, List.setIfInBounds_toArray, List.set_cons_zero, List.set_cons_succ]
          refine regTake 17 (v := ?_) ?_ hh1 ?_
          rotate_left
          · intro w hw; (try dsimp only at hw); go_simp; (try with_reducible rfl)
          try simp only [Act.put, List.setIfInBounds_toArray, List.set_cons_zero, List.set_cons_succ]
          refine wpAnyH_done (by kernel_rfl) ?_ _
          clear hh1 HK hmo him
          have GG := hideIt gg
          clear gg
          obtain rfl : z = vv := EZ.out.trans EV.out
          have kV0 : u9.cell? ⟨gV, 0, none⟩ = some (.slice (some ⟨b1, o1, none⟩) t.slews.length c1) := (V.out.grows GG.out).cell 0
          have kV1 : u9.cell? ⟨gV, 1, none⟩ = some (.slice (some ⟨b2, o2, none⟩) t.loads.length c2) := (V.out.grows GG.out).cell 1
          have kV2 : u9.cell? ⟨gV, 2, none⟩ = some (.slice (some ⟨b3, o3, none⟩) t.values.length c3) := (V.out.grows GG.out).cell 2
          have fV := (V.out.grows GG.out).frozen
          have lV := (V.out.grows GG.out).lt
          have kq3 : u9.cell? ⟨b3, o3 + (i * t.loads.length + k), none⟩ = some (.int .i64 z) := GG.out.keeps _ _ q3
          clear EZ EV
          have ml : ((i * t.loads.length : Nat) : Int) = (i : Int) * (t.loads.length : Int) := Int.natCast_mul _ _
          obtain ⟨N, hN⟩ : ∃ N, N = i * t.loads.length := ⟨_, rfl⟩
          rw [← hN] at kq3 ml ixl
          have ml2 : (i : Int) * (t.loads.length : Int) = (N : Int) := ml.symm
          have NV := vlen
          clear ml hN
          go_wp2
          go_roundw
          case rel => exact ⟨k + 1, by omega, by go_num, GG⟩
          case measure => simp [intOf]; omega
        · obtain rfl : k = t.loads.length := by omega
          go_wp2
          go_roundw
          case rel => exact ⟨i + 1, by omega, by go_num, GG⟩
          case measure => simp [intOf]; omega
    · obtain rfl : i = t.slews.length := by omega
      go_wp2
      go_ret
      exact ⟨rfl, (G2.out.trans (show Grows W2 _ from (by repeat (first | exact GG.out | refine Grows.drewN ?_ _ | refine Grows.drew ?_ | refine Grows.alloc ?_ _)))).below⟩
end Go.Proofs.Ytgglgghlndhfbaa
