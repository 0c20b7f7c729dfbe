/-
  DrawLookUp: a table, a slew, a load, a mode.
-/
import Derived.Test.YtgglgghlndhfbaaDrawTA
namespace Go.Proofs.Ytgglgghlndhfbaa
open Go.RowKit
theorem ints_cell {w : World} {A : Option Addr} {n m i : Nat} {xs : List Int} {x : Int} (h : RInts w (.slice A n m) xs) (hx : xs[i]? = some x) : ∃ b off : Nat, A = some ⟨b, off, none⟩ ∧ w.cell? ⟨b, off + i, none⟩ = some (.int .i64 x) := by
  obtain ⟨A', c', e, -, -, h3⟩ := h
  injection e with e1
  subst e1
  rcases h3 with rfl | ⟨b, off, hA, h4⟩
  · simp at hx
  · obtain ⟨cs, hl, hc, hr⟩ := h4 i x hx
    have hr' : cs = [.int .i64 x] := hr
    subst hr'
    exact ⟨b, off, hA, by simpa using hc 0 _ rfl⟩
set_option maxHeartbeats 16000000 in
set_option maxRecDepth 10000 in
theorem drawLookUp_any {v : Value} {xs : List Int} {w : World} (hx : RBytes w v xs) :
    Calls Try.prog 14 #[v] w fun e w' => ∃ (a1 a2 a3 : Value) (sl ld m : Int), e = .returned (.tuple #[.agg #[a1, a2, a3], .int .i64 sl, .int .i64 ld, .int .i64 m]) ∧ (-1000 ≤ sl ∧ sl ≤ 100000) ∧ (-1000 ≤ ld ∧ ld ≤ 1000) ∧ (0 ≤ m ∧ m ≤ 3) ∧ ∃ t : TableD, RTable w' [a1, a2, a3] t ∧ Grows w w' := by
  have HX := hideIt hx
  clear hx
  have R := hideIt (Blk.new w 26 #[.slice none 0 0, .slice none 0 0, .slice none 0 0])
  go_enter Try.func14, Try.ntmps14
  go_wp2_with fail
  refine (l01From_at HX.out ((Grows.refl w).alloc (.cells #[.slice none 0 0, .slice none 0 0, .slice none 0 0] 26))).mono ?_
  rintro e u0 ⟨b, rfl, h_, hb_, g_⟩
  have HB : Hid (w.heap.size + 1 ≤ b) := hideIt (by simpa using hb_)
  have HS := hideIt h_
  replace R := hideIt (R.out.grows g_)
  clear h_ hb_ g_
  have NR : Hid (w.heap.size ∉ [b]) := hideIt (by have := HB.out; simp; omega)
  go_wp2_with fail
  refine (l02DrawAny_any (w0 := w) HS.out).mono ?_
  have lb0 : Hid (b < u0.heap.size) := hideIt HS.out.ge.2.2
  rintro e u1 ⟨a1, a2, a3, rfl, t, ht, ⟨f1, f2, f3⟩, ⟨n1, n1'⟩, sb, h_, c_⟩
  obtain ⟨x1, x2, x3, e_, hx1, hx2, hx3⟩ := ht
  injection e_ with e1 e_
  injection e_ with e2 e_
  injection e_ with e3 e_
  subst e1 e2 e3
  obtain ⟨A1, c1, rfl⟩ : ∃ (A : Option Addr) (c : Nat), a1 = .slice A t.slews.length c := by obtain ⟨A, c, e, -⟩ := hx1; exact ⟨A, c, e⟩
  obtain ⟨A2, c2, rfl⟩ : ∃ (A : Option Addr) (c : Nat), a2 = .slice A t.loads.length c := by obtain ⟨A, c, e, -⟩ := hx2; exact ⟨A, c, e⟩
  obtain ⟨A3, c3, rfl⟩ : ∃ (A : Option Addr) (c : Nat), a3 = .slice A t.values.length c := by obtain ⟨A, c, e, -⟩ := hx3; exact ⟨A, c, e⟩
  have SB := hideIt sb
  have F1 := hideIt f1
  have F2 := hideIt f2
  have F3 := hideIt f3
  have gal : Grows u1 (u1.alloc (.cells #[.slice A1 t.slews.length c1, .slice A2 t.loads.length c2, .slice A3 t.values.length c3] 26)) := (Grows.refl _).alloc _
  have V := hideIt (Blk.new u1 26 #[.slice A1 t.slews.length c1, .slice A2 t.loads.length c2, .slice A3 t.values.length c3])
  have X1 := hideIt (RInts.keep hx1 gal.keeps)
  have X2 := hideIt (RInts.keep hx2 gal.keeps)
  have X3 := hideIt (RInts.keep hx3 gal.keeps)
  replace R := hideIt ((R.out.chg c_ NR.out).grows gal)
  have NV : Hid (u1.heap.size ∉ [b]) := hideIt (by have := c_.size; have := lb0.out; simp; omega)
  replace HS := hideIt (h_.grows gal)
  have SU : Hid (w.heap.size < u1.heap.size) := hideIt (by have := c_.size; have := lb0.out; have := HB.out; omega)
  clear f1 f2 f3 sb hx1 hx2 hx3 h_ c_ gal
  go_wp2_with fail
  refine (l01Next_any (w0 := w) 220 (HS.out.grows (by repeat (first | exact Grows.refl _ | refine Grows.drewN ?_ _ | refine Grows.drew ?_ | refine Grows.alloc ?_ _)))).mono ?_
  rintro e u2 ⟨r1, rfl, r1a, r1b, h_, c1_⟩
  have c_ : Chg [b] (u1.alloc (.cells #[.slice A1 t.slews.length c1, .slice A2 t.loads.length c2, .slice A3 t.values.length c3] 26)) u2 := ⟨c1_.os, c1_.tape, c1_.output, c1_.size, c1_.block⟩
  replace R := hideIt (R.out.chg c_ NR.out)
  replace V := hideIt (V.out.chg c_ NV.out)
  replace X1 := hideIt (OffB.chg X1.out F1.out lb0.out c_)
  replace X2 := hideIt (OffB.chg X2.out F2.out lb0.out c_)
  replace X3 := hideIt (OffB.chg X3.out F3.out lb0.out c_)
  replace HS := hideIt h_
  clear h_ c_ c1_
  have r1c := r1b (by omega)
  clear r1b
  have kV0 : u2.cell? ⟨u1.heap.size, 0, none⟩ = some (.slice A1 t.slews.length c1) := V.out.cell 0
  have kV1 : u2.cell? ⟨u1.heap.size, 1, none⟩ = some (.slice A2 t.loads.length c2) := V.out.cell 1
  have kV2 : u2.cell? ⟨u1.heap.size, 2, none⟩ = some (.slice A3 t.values.length c3) := V.out.cell 2
  have fV := V.out.frozen
  have lV := V.out.lt
  go_wp2_with fail
  clear kV0 kV1 kV2 fV lV
  refine (l01Next_any (w0 := w) 160 (HS.out.grows (by repeat (first | exact Grows.refl _ | refine Grows.drewN ?_ _ | refine Grows.drew ?_ | refine Grows.alloc ?_ _)))).mono ?_
  rintro e u3 ⟨r2, rfl, r2a, r2b, h_, c1_⟩
  have c_ : Chg [b] u2 u3 := ⟨c1_.os, c1_.tape, c1_.output, c1_.size, c1_.block⟩
  replace R := hideIt (R.out.chg c_ NR.out)
  replace V := hideIt (V.out.chg c_ NV.out)
  replace X1 := hideIt (OffB.chg X1.out F1.out lb0.out c_)
  replace X2 := hideIt (OffB.chg X2.out F2.out lb0.out c_)
  replace X3 := hideIt (OffB.chg X3.out F3.out lb0.out c_)
  replace HS := hideIt h_
  clear h_ c_ c1_
  have r2c := r2b (by omega)
  clear r2b
  have kV0 : u3.cell? ⟨u1.heap.size, 0, none⟩ = some (.slice A1 t.slews.length c1) := V.out.cell 0
  have kV1 : u3.cell? ⟨u1.heap.size, 1, none⟩ = some (.slice A2 t.loads.length c2) := V.out.cell 1
  have kV2 : u3.cell? ⟨u1.heap.size, 2, none⟩ = some (.slice A3 t.values.length c3) := V.out.cell 2
  have fV := V.out.frozen
  have lV := V.out.lt
  go_wp2_with fail
  clear kV0 kV1 kV2 fV lV
  refine (l01Next_any (w0 := w) 5 (HS.out.grows (by repeat (first | exact Grows.refl _ | refine Grows.drewN ?_ _ | refine Grows.drew ?_ | refine Grows.alloc ?_ _)))).mono ?_
  rintro e u4 ⟨r3, rfl, r3a, r3b, h_, c1_⟩
  have c_ : Chg [b] u3 u4 := ⟨c1_.os, c1_.tape, c1_.output, c1_.size, c1_.block⟩
  replace R := hideIt (R.out.chg c_ NR.out)
  replace V := hideIt (V.out.chg c_ NV.out)
  replace X1 := hideIt (OffB.chg X1.out F1.out lb0.out c_)
  replace X2 := hideIt (OffB.chg X2.out F2.out lb0.out c_)
  replace X3 := hideIt (OffB.chg X3.out F3.out lb0.out c_)
  replace HS := hideIt h_
  clear h_ c_ c1_
  have r3c := r3b (by omega)
  clear r3b
  have kV0 : u4.cell? ⟨u1.heap.size, 0, none⟩ = some (.slice A1 t.slews.length c1) := V.out.cell 0
  have kV1 : u4.cell? ⟨u1.heap.size, 1, none⟩ = some (.slice A2 t.loads.length c2) := V.out.cell 1
  have kV2 : u4.cell? ⟨u1.heap.size, 2, none⟩ = some (.slice A3 t.values.length c3) := V.out.cell 2
  have fV := V.out.frozen
  have lV := V.out.lt
  have zl : (0 : Int) < (t.slews.length : Int) := by omega
  by_cases hr3 : r3 = 0
  · subst hr3
    obtain ⟨g, o, e0, -⟩ := ints_cell (i := 0) X1.out (List.getElem?_eq_getElem n1)
    subst e0
    have NVV := NV
    have HK : Hid (∀ w', Chg [b] u4 w' → w'.cell? ⟨u1.heap.size, 0, none⟩ = some (.slice (some ⟨g, o, none⟩) t.slews.length c1)) := hideIt (fun w' c => c.cell kV0 NVV.out)
    have gg : Chg [b] u4 u4 := Chg.refl _ _
    go_wp2
    clear kV0 kV1 kV2 fV lV
    refine wp_region_held_drew (S := (fun w' => w'.cell? ⟨u1.heap.size, 0, none⟩ = some (.slice (some ⟨g, o, none⟩) t.slews.length c1))) (by kernel_rfl) ?_ (fun hh0 => ?_)
    · (try dsimp only); refine HK.out _ ?_; (repeat (first | exact gg | refine Chg.drew ?_ | refine Chg.drewN ?_ _))
    refine regTake 0 (v := ?_) ?_ hh0 ?_
    rotate_left
    · intro w hw; (try dsimp only at hw); go_simp; (try with_reducible rfl)
    try simp only [Act.put, List.setIfInBounds_toArray, List.set_cons_zero, List.set_cons_succ]
    refine regTake 1 (v := ?_) ?_ hh0 ?_
    rotate_left
    · intro w hw; (try dsimp only at hw); go_simp; (try with_reducible rfl)
    try simp only [Act.put, List.setIfInBounds_toArray, List.set_cons_zero, List.set_cons_succ]
    refine regTake 2 (v := ?_) ?_ hh0 ?_
    rotate_left
    · intro w hw; (try dsimp only at hw); go_simp; (try with_reducible rfl)
    try simp only [Act.put, List.setIfInBounds_toArray, List.set_cons_zero, List.set_cons_succ]
    refine regTake 3 (v := ?_) ?_ hh0 ?_
    rotate_left
    · intro w hw; (try dsimp only at hw); go_simp; (try with_reducible rfl)
    try simp only [Act.put, List.setIfInBounds_toArray, List.set_cons_zero, List.set_cons_succ]
    refine regTake 4 (v := ?_) ?_ hh0 ?_
    rotate_left
    · intro w hw; (try dsimp only at hw); go_simp; (try with_reducible rfl)
    try simp only [Act.put, List.setIfInBounds_toArray, List.set_cons_zero, List.set_cons_succ]
    refine regTake 5 (v := ?_) ?_ hh0 ?_
    rotate_left
    · intro w hw; (try dsimp only at hw); go_simp; (try with_reducible rfl)
    try simp only [Act.put, List.setIfInBounds_toArray, List.set_cons_zero, List.set_cons_succ]
    refine regCall 6 (fun K hK => ?_)
    go_simp
    refine (l01Next_any (w0 := w) _ (HS.out.grows (by repeat (first | exact Grows.refl _ | refine Grows.drewN ?_ _ | refine Grows.drew ?_ | refine Grows.alloc ?_ _)))).mono ?_
    rintro e u5 ⟨q_, rfl, q_a, q_b, h_, c1_⟩
    have c_ : Chg [b] u4 u5 := ⟨c1_.os, c1_.tape, c1_.output, c1_.size, c1_.block⟩
    have gg := gg.trans c_
    replace R := hideIt (R.out.chg c_ NR.out)
    replace V := hideIt (V.out.chg c_ NV.out)
    replace X1 := hideIt (OffB.chg X1.out F1.out lb0.out c_)
    replace X2 := hideIt (OffB.chg X2.out F2.out lb0.out c_)
    replace X3 := hideIt (OffB.chg X3.out F3.out lb0.out c_)
    replace HS := hideIt h_
    obtain ⟨q, rfl⟩ : ∃ q : Nat, q_ = (q : Int) := ⟨q_.toNat, by omega⟩
    have qn : q < t.slews.length := by have := q_b (by omega); omega
    have qn2 : (q : Int) < (t.slews.length : Int) := by omega
    obtain ⟨y, hy_⟩ : ∃ y, t.slews[q]? = some y := ⟨_, List.getElem?_eq_getElem qn⟩
    have yb := SB.out y (List.mem_of_getElem? hy_)
    obtain ⟨g9, o9, e9, kc⟩ := ints_cell X1.out hy_
    injection e9 with e9
    injection e9 with e9 e8
    subst e9 e8
    clear hy_ h_ c_ c1_ q_a q_b
    (try go_wp2_with fail)
    refine hK.out _ _ ?_ (fun hh1 => ?_)
    · (try dsimp only); refine HK.out _ ?_; (repeat (first | exact gg | refine Chg.drew ?_ | refine Chg.drewN ?_ _))
    clear hK K hh0
    try simp only [Act.put, List.setIfInBounds_toArray, List.set_cons_zero, List.set_cons_succ]
    refine regTake 7 (v := ?_) ?_ hh1 ?_
    rotate_left
    · intro w hw; (try dsimp only at hw); go_simp; (try with_reducible rfl)
    try simp only [Act.put, List.setIfInBounds_toArray, List.set_cons_zero, List.set_cons_succ]
    refine regCall 8 (fun K hK => ?_)
    go_simp
    (try go_wp2_with fail)
    refine hK.out _ _ ?_ (fun hh2 => ?_)
    · (try dsimp only); refine HK.out _ ?_; (repeat (first | exact gg | refine Chg.drew ?_ | refine Chg.drewN ?_ _))
    clear hK K hh1
    try simp only [Act.put, List.setIfInBounds_toArray, List.set_cons_zero, List.set_cons_succ]
    refine regTake 9 (v := ?_) ?_ hh2 ?_
    rotate_left
    · intro w hw; (try dsimp only at hw); go_simp; (try with_reducible rfl)
    try simp only [Act.put, List.setIfInBounds_toArray, List.set_cons_zero, List.set_cons_succ]
    refine wpAnyH_done (by kernel_rfl) ?_ _
    clear kc hh2 HK gg
    have kV0 : u5.cell? ⟨u1.heap.size, 0, none⟩ = some (.slice (some ⟨g, o, none⟩) t.slews.length c1) := V.out.cell 0
    have kV1 : u5.cell? ⟨u1.heap.size, 1, none⟩ = some (.slice A2 t.loads.length c2) := V.out.cell 1
    have kV2 : u5.cell? ⟨u1.heap.size, 2, none⟩ = some (.slice A3 t.values.length c3) := V.out.cell 2
    have fV := V.out.frozen
    have lV := V.out.lt
    have DV : Hid (u1.heap.size ∉ [b, w.heap.size]) := hideIt (by have h1 := NV.out; have h2 := SU.out; simp at h1 ⊢; omega)
    have HK : Hid (∀ w', Chg [b, w.heap.size] u5 w' → w'.cell? ⟨u1.heap.size, 0, none⟩ = some (.slice (some ⟨g, o, none⟩) t.slews.length c1) ∧ w'.cell? ⟨u1.heap.size, 1, none⟩ = some (.slice A2 t.loads.length c2) ∧ w'.cell? ⟨u1.heap.size, 2, none⟩ = some (.slice A3 t.values.length c3)) := hideIt (fun w' c => ⟨c.cell kV0 DV.out, c.cell kV1 DV.out, c.cell kV2 DV.out⟩)
    have gg : Chg [b, w.heap.size] u5 u5 := Chg.refl _ _
    clear kV0 kV1 kV2 fV lV
    go_wp2
    refine wp_region_held_drew (S := (fun w' => w'.cell? ⟨u1.heap.size, 0, none⟩ = some (.slice (some ⟨g, o, none⟩) t.slews.length c1) ∧ w'.cell? ⟨u1.heap.size, 1, none⟩ = some (.slice A2 t.loads.length c2) ∧ w'.cell? ⟨u1.heap.size, 2, none⟩ = some (.slice A3 t.values.length c3))) (by kernel_rfl) ?_ (fun hh0 => ?_)
    · (try dsimp only); refine HK.out _ ?_; (repeat (first | exact gg | refine Chg.drew ?_ | refine Chg.drewN ?_ _ | refine Chg.setCell ?_ (by simp) _))
    refine regTake 0 (v := ?_) ?_ hh0 ?_
    rotate_left
    · intro w hw; (try dsimp only at hw); go_simp; (try with_reducible rfl)
    try simp only [Act.put, List.setIfInBounds_toArray, List.set_cons_zero, List.set_cons_succ]
    refine regTake 1 (v := ?_) ?_ hh0 ?_
    rotate_left
    · intro w hw; (try dsimp only at hw); go_simp; (try with_reducible rfl)
    try simp only [Act.put, List.setIfInBounds_toArray, List.set_cons_zero, List.set_cons_succ]
    refine regTake 2 (v := ?_) ?_ hh0 ?_
    rotate_left
    · intro w hw; (try dsimp only at hw); go_simp; (try with_reducible rfl)
    try simp only [Act.put, List.setIfInBounds_toArray, List.set_cons_zero, List.set_cons_succ]
    refine regTake 3 (v := ?_) ?_ hh0 ?_
    rotate_left
    · intro w hw; (try dsimp only at hw); go_simp; (try with_reducible rfl)
    try simp only [Act.put, List.setIfInBounds_toArray, List.set_cons_zero, List.set_cons_succ]
    refine regTake 5 (v := ?_) ?_ hh0 ?_
    rotate_left
    · intro w hw; (try dsimp only at hw); go_simp; (try with_reducible rfl)
    try simp only [Act.put, List.setIfInBounds_toArray, List.set_cons_zero, List.set_cons_succ]
    refine regCall 4 (fun K hK => ?_)
    go_simp
    refine (l01Next_any (w0 := w) 2 (HS.out.grows (by repeat (first | exact Grows.refl _ | refine Grows.drewN ?_ _ | refine Grows.drew ?_ | refine Grows.alloc ?_ _)))).mono ?_
    rintro e u6 ⟨r5, rfl, r5a, r5b, h_, c1_⟩
    have c_ : Chg [b] u5 u6 := ⟨c1_.os, c1_.tape, c1_.output, c1_.size, c1_.block⟩
    replace R := hideIt (R.out.chg c_ NR.out)
    replace V := hideIt (V.out.chg c_ NV.out)
    replace X1 := hideIt (OffB.chg X1.out F1.out lb0.out c_)
    replace X2 := hideIt (OffB.chg X2.out F2.out lb0.out c_)
    replace X3 := hideIt (OffB.chg X3.out F3.out lb0.out c_)
    replace HS := hideIt h_
    have gg := gg.trans (c_.mono (by simp))
    clear h_ c_ c1_
    have r5c := r5b (by omega)
    clear r5b
    (try go_wp2_with fail)
    refine hK.out _ _ ?_ (fun hh1 => ?_)
    · (try dsimp only); refine HK.out _ ?_; (repeat (first | exact gg | refine Chg.drew ?_ | refine Chg.drewN ?_ _ | refine Chg.setCell ?_ (by simp) _))
    clear hK K hh0
    try simp only [Act.put, List.setIfInBounds_toArray, List.set_cons_zero, List.set_cons_succ]
    refine regCall 6 (fun K hK => ?_)
    go_simp
    refine (l01Next_any (w0 := w) 24 (HS.out.grows (by repeat (first | exact Grows.refl _ | refine Grows.drewN ?_ _ | refine Grows.drew ?_ | refine Grows.alloc ?_ _)))).mono ?_
    rintro e u7 ⟨r6, rfl, r6a, r6b, h_, c1_⟩
    have c_ : Chg [b] u6 u7 := ⟨c1_.os, c1_.tape, c1_.output, c1_.size, c1_.block⟩
    replace R := hideIt (R.out.chg c_ NR.out)
    replace V := hideIt (V.out.chg c_ NV.out)
    replace X1 := hideIt (OffB.chg X1.out F1.out lb0.out c_)
    replace X2 := hideIt (OffB.chg X2.out F2.out lb0.out c_)
    replace X3 := hideIt (OffB.chg X3.out F3.out lb0.out c_)
    replace HS := hideIt h_
    have gg := gg.trans (c_.mono (by simp))
    clear h_ c_ c1_
    have r6c := r6b (by omega)
    clear r6b
    have kR0 := R.out.cell 0
    have kR1 := R.out.cell 1
    have kR2 := R.out.cell 2
    simp at kR0 kR1 kR2
    have fR := R.out.frozen
    have lR := R.out.lt
    (try go_wp2_with fail)
    refine hK.out _ _ ?_ (fun hh2 => ?_)
    · (try dsimp only); refine HK.out _ ?_; (repeat (first | exact gg | refine Chg.drew ?_ | refine Chg.drewN ?_ _ | refine Chg.setCell ?_ (by simp) _))
    clear hK K hh1
    try simp only [Act.put, List.setIfInBounds_toArray, List.set_cons_zero, List.set_cons_succ]
    obtain ⟨m7, h_⟩ : ∃ m, m = r6 / 23 := ⟨_, rfl⟩
    have m7b : 0 ≤ m7 ∧ m7 ≤ 1 := by omega
    have m7e := hideIt h_
    clear h_
    refine regTake 7 (v := .int .i64 m7) (fun w hw => ?_) hh2 ?_
    · (try dsimp only at hw)
      go_simp
      rw [m7e.out]
      (try rw [Int.tdiv_eq_ediv_of_nonneg (by omega)])
      (try rw [Go.IntWalk.i64_in _ (by omega)])
      (try omega)
    try simp only [Act.put, List.setIfInBounds_toArray, List.set_cons_zero, List.set_cons_succ]
    obtain ⟨m8, h_⟩ : ∃ m, m = 2 * m7 := ⟨_, rfl⟩
    have m8b : 0 ≤ m8 ∧ m8 ≤ 2 := by omega
    have m8e := hideIt h_
    clear h_
    refine regTake 8 (v := .int .i64 m8) (fun w hw => ?_) hh2 ?_
    · (try dsimp only at hw)
      go_simp
      rw [m8e.out]
      (try rw [Int.tdiv_eq_ediv_of_nonneg (by omega)])
      (try rw [Go.IntWalk.i64_in _ (by omega)])
      (try omega)
    try simp only [Act.put, List.setIfInBounds_toArray, List.set_cons_zero, List.set_cons_succ]
    obtain ⟨m9, h_⟩ : ∃ m, m = r5 + m8 := ⟨_, rfl⟩
    have m9b : 0 ≤ m9 ∧ m9 ≤ 3 := by omega
    have m9e := hideIt h_
    clear h_
    refine regTake 9 (v := .int .i64 m9) (fun w hw => ?_) hh2 ?_
    · (try dsimp only at hw)
      go_simp
      rw [m9e.out]
      (try rw [Int.tdiv_eq_ediv_of_nonneg (by omega)])
      (try rw [Go.IntWalk.i64_in _ (by omega)])
      (try omega)
    try simp only [Act.put, List.setIfInBounds_toArray, List.set_cons_zero, List.set_cons_succ]
    refine regCall 10 (fun K hK => ?_)
    go_simp
    
    (try go_wp2_with fail)
    refine hK.out _ _ ?_ (fun hh3 => ?_)
    · (try dsimp only); refine HK.out _ ?_; (repeat (first | exact gg | refine Chg.drew ?_ | refine Chg.drewN ?_ _ | refine Chg.setCell ?_ (by simp) _))
    clear hK K hh2
    try simp only [Act.put, List.setIfInBounds_toArray, List.set_cons_zero, List.set_cons_succ]
    refine regTake 11 (v := ?_) ?_ hh3 ?_
    rotate_left
    · intro w hw; (try dsimp only at hw); go_simp; (try with_reducible rfl)
    try simp only [Act.put, List.setIfInBounds_toArray, List.set_cons_zero, List.set_cons_succ]
    refine regTake 12 (v := ?_) ?_ hh3 ?_
    rotate_left
    · intro w hw; (try dsimp only at hw); go_simp; (try with_reducible rfl)
    try simp only [Act.put, List.setIfInBounds_toArray, List.set_cons_zero, List.set_cons_succ]
    refine regTake 13 (v := ?_) ?_ hh3 ?_
    rotate_left
    · intro w hw; (try dsimp only at hw); go_simp; (try with_reducible rfl)
    try simp only [Act.put, List.setIfInBounds_toArray, List.set_cons_zero, List.set_cons_succ]
    refine wpAnyH_done (by kernel_rfl) ?_ _
    clear hh3 HK gg
    go_wp2
    refine bodyPost_ret (by simp [*, results, Try.results14, go_sem]; try rfl) rfl ?_
    have ni : ∀ o x, u7.cell? ⟨w.heap.size, o, none⟩ ≠ some (.int .i64 x) := fun o x e => by
      rw [R.out.cell] at e
      match o, e with
      | 0, e => simp at e
      | 1, e => simp at e
      | 2, e => simp at e
      | n + 3, e => simp at e
    have fin : ∀ w9, Chg [w.heap.size] u7 w9 → RTable w9 [.slice (some ⟨g, o, none⟩) t.slews.length c1, .slice A2 t.loads.length c2, .slice A3 t.values.length c3] t ∧ Grows w w9 := fun w9 c9 => ⟨⟨_, _, _, rfl, X1.out.off c9 ni, X2.out.off c9 ni, X3.out.off c9 ni⟩, HS.out.ge.2.1.chg c9 (fun g hg => by simp at hg; omega)⟩
    refine ⟨_, _, _, _, _, _, rfl, ?_, ?_, ?_, t, ?_⟩
    · omega
    · omega
    · omega
    · refine fin _ ?_
      repeat (first | exact Chg.refl _ _ | refine Chg.drewN ?_ _ | refine Chg.drew ?_ | refine Chg.setCell ?_ (by simp) _)
  · have hr4 : (r3 == 0) = false := by simp [hr3]
    have DV : Hid (u1.heap.size ∉ [b, w.heap.size]) := hideIt (by have h1 := NV.out; have h2 := SU.out; simp at h1 ⊢; omega)
    have HK : Hid (∀ w', Chg [b, w.heap.size] u4 w' → w'.cell? ⟨u1.heap.size, 0, none⟩ = some (.slice A1 t.slews.length c1) ∧ w'.cell? ⟨u1.heap.size, 1, none⟩ = some (.slice A2 t.loads.length c2) ∧ w'.cell? ⟨u1.heap.size, 2, none⟩ = some (.slice A3 t.values.length c3)) := hideIt (fun w' c => ⟨c.cell kV0 DV.out, c.cell kV1 DV.out, c.cell kV2 DV.out⟩)
    have gg : Chg [b, w.heap.size] u4 u4 := Chg.refl _ _
    clear kV0 kV1 kV2 fV lV
    go_wp2
    refine wp_region_held_drew (S := (fun w' => w'.cell? ⟨u1.heap.size, 0, none⟩ = some (.slice A1 t.slews.length c1) ∧ w'.cell? ⟨u1.heap.size, 1, none⟩ = some (.slice A2 t.loads.length c2) ∧ w'.cell? ⟨u1.heap.size, 2, none⟩ = some (.slice A3 t.values.length c3))) (by kernel_rfl) ?_ (fun hh0 => ?_)
    · (try dsimp only); refine HK.out _ ?_; (repeat (first | exact gg | refine Chg.drew ?_ | refine Chg.drewN ?_ _ | refine Chg.setCell ?_ (by simp) _))
    refine regTake 0 (v := ?_) ?_ hh0 ?_
    rotate_left
    · intro w hw; (try dsimp only at hw); go_simp; (try with_reducible rfl)
    try simp only [Act.put, List.setIfInBounds_toArray, List.set_cons_zero, List.set_cons_succ]
    refine regTake 1 (v := ?_) ?_ hh0 ?_
    rotate_left
    · intro w hw; (try dsimp only at hw); go_simp; (try with_reducible rfl)
    try simp only [Act.put, List.setIfInBounds_toArray, List.set_cons_zero, List.set_cons_succ]
    refine regTake 2 (v := ?_) ?_ hh0 ?_
    rotate_left
    · intro w hw; (try dsimp only at hw); go_simp; (try with_reducible rfl)
    try simp only [Act.put, List.setIfInBounds_toArray, List.set_cons_zero, List.set_cons_succ]
    refine regTake 3 (v := ?_) ?_ hh0 ?_
    rotate_left
    · intro w hw; (try dsimp only at hw); go_simp; (try with_reducible rfl)
    try simp only [Act.put, List.setIfInBounds_toArray, List.set_cons_zero, List.set_cons_succ]
    refine regTake 5 (v := ?_) ?_ hh0 ?_
    rotate_left
    · intro w hw; (try dsimp only at hw); go_simp; (try with_reducible rfl)
    try simp only [Act.put, List.setIfInBounds_toArray, List.set_cons_zero, List.set_cons_succ]
    refine regCall 4 (fun K hK => ?_)
    go_simp
    refine (l01Next_any (w0 := w) 2 (HS.out.grows (by repeat (first | exact Grows.refl _ | refine Grows.drewN ?_ _ | refine Grows.drew ?_ | refine Grows.alloc ?_ _)))).mono ?_
    rintro e u6 ⟨r5, rfl, r5a, r5b, h_, c1_⟩
    have c_ : Chg [b] u4 u6 := ⟨c1_.os, c1_.tape, c1_.output, c1_.size, c1_.block⟩
    replace R := hideIt (R.out.chg c_ NR.out)
    replace V := hideIt (V.out.chg c_ NV.out)
    replace X1 := hideIt (OffB.chg X1.out F1.out lb0.out c_)
    replace X2 := hideIt (OffB.chg X2.out F2.out lb0.out c_)
    replace X3 := hideIt (OffB.chg X3.out F3.out lb0.out c_)
    replace HS := hideIt h_
    have gg := gg.trans (c_.mono (by simp))
    clear h_ c_ c1_
    have r5c := r5b (by omega)
    clear r5b
    (try go_wp2_with fail)
    refine hK.out _ _ ?_ (fun hh1 => ?_)
    · (try dsimp only); refine HK.out _ ?_; (repeat (first | exact gg | refine Chg.drew ?_ | refine Chg.drewN ?_ _ | refine Chg.setCell ?_ (by simp) _))
    clear hK K hh0
    try simp only [Act.put, List.setIfInBounds_toArray, List.set_cons_zero, List.set_cons_succ]
    refine regCall 6 (fun K hK => ?_)
    go_simp
    refine (l01Next_any (w0 := w) 24 (HS.out.grows (by repeat (first | exact Grows.refl _ | refine Grows.drewN ?_ _ | refine Grows.drew ?_ | refine Grows.alloc ?_ _)))).mono ?_
    rintro e u7 ⟨r6, rfl, r6a, r6b, h_, c1_⟩
    have c_ : Chg [b] u6 u7 := ⟨c1_.os, c1_.tape, c1_.output, c1_.size, c1_.block⟩
    replace R := hideIt (R.out.chg c_ NR.out)
    replace V := hideIt (V.out.chg c_ NV.out)
    replace X1 := hideIt (OffB.chg X1.out F1.out lb0.out c_)
    replace X2 := hideIt (OffB.chg X2.out F2.out lb0.out c_)
    replace X3 := hideIt (OffB.chg X3.out F3.out lb0.out c_)
    replace HS := hideIt h_
    have gg := gg.trans (c_.mono (by simp))
    clear h_ c_ c1_
    have r6c := r6b (by omega)
    clear r6b
    have kR0 := R.out.cell 0
    have kR1 := R.out.cell 1
    have kR2 := R.out.cell 2
    simp at kR0 kR1 kR2
    have fR := R.out.frozen
    have lR := R.out.lt
    (try go_wp2_with fail)
    refine hK.out _ _ ?_ (fun hh2 => ?_)
    · (try dsimp only); refine HK.out _ ?_; (repeat (first | exact gg | refine Chg.drew ?_ | refine Chg.drewN ?_ _ | refine Chg.setCell ?_ (by simp) _))
    clear hK K hh1
    try simp only [Act.put, List.setIfInBounds_toArray, List.set_cons_zero, List.set_cons_succ]
    obtain ⟨m7, h_⟩ : ∃ m, m = r6 / 23 := ⟨_, rfl⟩
    have m7b : 0 ≤ m7 ∧ m7 ≤ 1 := by omega
    have m7e := hideIt h_
    clear h_
    refine regTake 7 (v := .int .i64 m7) (fun w hw => ?_) hh2 ?_
    · (try dsimp only at hw)
      go_simp
      rw [m7e.out]
      (try rw [Int.tdiv_eq_ediv_of_nonneg (by omega)])
      (try rw [Go.IntWalk.i64_in _ (by omega)])
      (try omega)
    try simp only [Act.put, List.setIfInBounds_toArray, List.set_cons_zero, List.set_cons_succ]
    obtain ⟨m8, h_⟩ : ∃ m, m = 2 * m7 := ⟨_, rfl⟩
    have m8b : 0 ≤ m8 ∧ m8 ≤ 2 := by omega
    have m8e := hideIt h_
    clear h_
    refine regTake 8 (v := .int .i64 m8) (fun w hw => ?_) hh2 ?_
    · (try dsimp only at hw)
      go_simp
      rw [m8e.out]
      (try rw [Int.tdiv_eq_ediv_of_nonneg (by omega)])
      (try rw [Go.IntWalk.i64_in _ (by omega)])
      (try omega)
    try simp only [Act.put, List.setIfInBounds_toArray, List.set_cons_zero, List.set_cons_succ]
    obtain ⟨m9, h_⟩ : ∃ m, m = r5 + m8 := ⟨_, rfl⟩
    have m9b : 0 ≤ m9 ∧ m9 ≤ 3 := by omega
    have m9e := hideIt h_
    clear h_
    refine regTake 9 (v := .int .i64 m9) (fun w hw => ?_) hh2 ?_
    · (try dsimp only at hw)
      go_simp
      rw [m9e.out]
      (try rw [Int.tdiv_eq_ediv_of_nonneg (by omega)])
      (try rw [Go.IntWalk.i64_in _ (by omega)])
      (try omega)
    try simp only [Act.put, List.setIfInBounds_toArray, List.set_cons_zero, List.set_cons_succ]
    refine regCall 10 (fun K hK => ?_)
    go_simp
    
    (try go_wp2_with fail)
    refine hK.out _ _ ?_ (fun hh3 => ?_)
    · (try dsimp only); refine HK.out _ ?_; (repeat (first | exact gg | refine Chg.drew ?_ | refine Chg.drewN ?_ _ | refine Chg.setCell ?_ (by simp) _))
    clear hK K hh2
    try simp only [Act.put, List.setIfInBounds_toArray, List.set_cons_zero, List.set_cons_succ]
    refine regTake 11 (v := ?_) ?_ hh3 ?_
    rotate_left
    · intro w hw; (try dsimp only at hw); go_simp; (try with_reducible rfl)
    try simp only [Act.put, List.setIfInBounds_toArray, List.set_cons_zero, List.set_cons_succ]
    refine regTake 12 (v := ?_) ?_ hh3 ?_
    rotate_left
    · intro w hw; (try dsimp only at hw); go_simp; (try with_reducible rfl)
    try simp only [Act.put, List.setIfInBounds_toArray, List.set_cons_zero, List.set_cons_succ]
    refine regTake 13 (v := ?_) ?_ hh3 ?_
    rotate_left
    · intro w hw; (try dsimp only at hw); go_simp; (try with_reducible rfl)
    try simp only [Act.put, List.setIfInBounds_toArray, List.set_cons_zero, List.set_cons_succ]
    refine wpAnyH_done (by kernel_rfl) ?_ _
    clear hh3 HK gg
    go_wp2
    refine bodyPost_ret (by simp [*, results, Try.results14, go_sem]; try rfl) rfl ?_
    have ni : ∀ o x, u7.cell? ⟨w.heap.size, o, none⟩ ≠ some (.int .i64 x) := fun o x e => by
      rw [R.out.cell] at e
      match o, e with
      | 0, e => simp at e
      | 1, e => simp at e
      | 2, e => simp at e
      | n + 3, e => simp at e
    have fin : ∀ w9, Chg [w.heap.size] u7 w9 → RTable w9 [.slice A1 t.slews.length c1, .slice A2 t.loads.length c2, .slice A3 t.values.length c3] t ∧ Grows w w9 := fun w9 c9 => ⟨⟨_, _, _, rfl, X1.out.off c9 ni, X2.out.off c9 ni, X3.out.off c9 ni⟩, HS.out.ge.2.1.chg c9 (fun g hg => by simp at hg; omega)⟩
    refine ⟨_, _, _, _, _, _, rfl, ?_, ?_, ?_, t, ?_⟩
    · omega
    · omega
    · omega
    · refine fin _ ?_
      repeat (first | exact Chg.refl _ _ | refine Chg.drewN ?_ _ | refine Chg.drew ?_ | refine Chg.setCell ?_ (by simp) _)
end Go.Proofs.Ytgglgghlndhfbaa
