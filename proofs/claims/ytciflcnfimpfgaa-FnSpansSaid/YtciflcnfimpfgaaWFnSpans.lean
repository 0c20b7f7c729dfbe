/-
  The walk of FnSpans.
-/
import Derived.Test.YtciflcnfimpfgaaHull
import Derived.Test.YtciflcnfimpfgaaAdd
import Derived.Test.YtciflcnfimpfgaaOver
import Derived.Test.YtciflcnfimpfgaaDrawA
import Derived.Test.YtciflcnfimpfgaaOther
import Derived.Test.YtciflcnfimpfgaaOpenB
namespace Go.Proofs.Ytciflcnfimpfgaa
open Go.RowKit

theorem two_spans {w : World} {g : Nat} {t : TypeId} {a1 a2 b1 b2 : Int} (h : Blk w g t #[.int .i64 a1, .int .i64 a2, .int .i64 b1, .int .i64 b2]) : RSpans w (.slice (some ⟨g, 0, none⟩) 2 2) [(a1, a2), (b1, b2)] := by
  refine ⟨_, 2, rfl, Nat.le_refl _, by unfold maxLen; omega, .inr ⟨g, 0, rfl, fun j x hx => ?_⟩⟩
  match j, hx with
  | 0, hx =>
    simp at hx
    subst hx
    refine ⟨[.int .i64 a1, .int .i64 a2], rfl, fun q u hu => ?_, rfl⟩
    match q, hu with
    | 0, hu => simp at hu; subst hu; exact h.cell 0
    | 1, hu => simp at hu; subst hu; exact h.cell 1
  | 1, hx =>
    simp at hx
    subst hx
    refine ⟨[.int .i64 b1, .int .i64 b2], rfl, fun q u hu => ?_, rfl⟩
    match q, hu with
    | 0, hu => simp at hu; subst hu; exact h.cell 2
    | 1, hu => simp at hu; subst hu; exact h.cell 3
theorem hull2_no {a1 a2 b1 b2 : Int} (h : ¬ (spanV a1 a2 = true ∧ spanV b1 b2 = true)) : hullV [(a1, a2), (b1, b2)] = (0, 0, 1) := by
  unfold hullV
  rw [if_neg]
  simpa [okSpan] using h
theorem hull2_yes {a1 a2 b1 b2 : Int} (h : spanV a1 a2 = true) (k : spanV b1 b2 = true) : ∃ h1 h2 : Int, hullV [(a1, a2), (b1, b2)] = (h1, h2, 0) ∧ h1 ≤ a1 ∧ h1 ≤ b1 ∧ a2 ≤ h2 ∧ b2 ≤ h2 ∧ (h1 = a1 ∨ h1 = b1) ∧ (h2 = a2 ∨ h2 = b2) := by
  refine ⟨min a1 b1, max a2 b2, ?_, by omega, by omega, by omega, by omega, by omega, by omega⟩
  unfold hullV
  rw [if_pos (by simp [okSpan, h, k])]
  simp [minL, maxL, minTo, maxTo]
theorem hull2_uniq {a1 a2 b1 b2 h1 h2 : Int} (h : spanV a1 a2 = true) (k : spanV b1 b2 = true) (q1 : h1 ≤ a1) (q2 : h1 ≤ b1) (q3 : a2 ≤ h2) (q4 : b2 ≤ h2) (q5 : h1 = a1 ∨ h1 = b1) (q6 : h2 = a2 ∨ h2 = b2) : hullV [(a1, a2), (b1, b2)] = (h1, h2, 0) := by
  obtain ⟨x, y, e, r⟩ := hull2_yes h k
  rw [e, show x = h1 by omega, show y = h2 by omega]
theorem addV_zero {a b c d x y : Int} (h : addV a b c d = (x, y, 0)) : x = a + c ∧ y = b + d ∧ spanV (a + c) (b + d) = true := by
  unfold addV at h
  split at h
  · split at h
    · injection h with e1 e2
      injection e2 with e2 e3
      exact ⟨e1.symm, e2.symm, by assumption⟩
    · injection h with e1 e2
      injection e2 with e2 e3
      cases e3
  · injection h with e1 e2
    injection e2 with e2 e3
    cases e3
theorem over_iff {a1 a2 b1 b2 h1 h2 : Int} (h : spanV a1 a2 = true) (k : spanV b1 b2 = true) (q1 : h1 ≤ a1) (q2 : h1 ≤ b1) (q3 : a2 ≤ h2) (q4 : b2 ≤ h2) (q5 : h1 = a1 ∨ h1 = b1) (q6 : h2 = a2 ∨ h2 = b2) :
    (overV a1 a2 b1 b2 = true ∧ h2 - h1 ≤ a2 - a1 + b2 - b1) ∨ (overV a1 a2 b1 b2 = false ∧ ¬ h2 - h1 ≤ a2 - a1 + b2 - b1) := by
  have s1 := (spanV_bd h).2.2
  have s2 := (spanV_bd k).2.2
  unfold overV
  rw [h, k]
  by_cases o1 : a1 ≤ b2 <;> by_cases o2 : b1 ≤ a2 <;> simp [o1, o2] <;> omega
set_option maxHeartbeats 400000 in
theorem w5Sum_any (a b c d : Int) (w : World) :
    Calls Try.prog 19 #[.agg #[.int .i64 a, .int .i64 b], .agg #[.int .i64 c, .int .i64 d]] w fun e w' => e = .returned (.int .i64 (addV a b c d).2.2) ∧ Grows w w' := by
  obtain ⟨v, ev⟩ : ∃ v, v = addV a b c d := ⟨_, rfl⟩
  have EV := hideIt ev
  rw [← ev]
  clear ev
  obtain ⟨x, y, k⟩ := v
  go_enter Try.func19, Try.ntmps19
  go_wp2_with fail
  refine (sAddSpans_any _ _ _ _ _).mono ?_
  rintro e u ⟨rfl, g⟩
  rw [← EV.out]
  have G := hideIt ((((Grows.refl w).alloc _).alloc _).trans g)
  clear g
  go_wp2
  go_ret
  exact ⟨rfl, G.out.alloc _⟩
set_option maxHeartbeats 4000000 in
set_option maxRecDepth 10000 in
theorem walk_FnSpans {v : Value} {xs : List Int} {w : World} (hx : RBytes w v xs) :
    Calls Try.prog 4 #[v] w fun e w' => e = .returned (.bool true) ∧ Below w.heap.size w w' := by
  have g : Grows w w := Grows.refl w
  have G : Hid (Grows w w) := hideIt (Grows.refl w)
  clear g
  replace hx := hideIt (hx.keep G.out.keeps)
  go_enter Try.func4, Try.ntmps4
  go_wp2_with fail
  refine (big_any _ hx.out).mono ?_
  rintro e wb ⟨rfl, rfl⟩
  cases hb : decide ((xs.length : Int) > 4096)
  rotate_left
  · go_wp2
    go_ret
    exact ⟨rfl, G.out.below⟩
  have hlen : xs.length ≤ 4096 := by have := of_decide_eq_false hb; omega
  clear hb
  go_wp2_with fail
  refine (drawAddSpans_any hx.out).mono ?_
  rintro e u1 ⟨a1, a2, b1, b2, rfl, g⟩
  replace G := hideIt (G.out.trans g)
  replace hx := hideIt (hx.out.keep g.keeps)
  clear g
  have gl : Grows u1 (u1.alloc (.cells #[.int .i64 a1, .int .i64 a2] 29)) := (Grows.refl _).alloc _
  replace G := hideIt (G.out.trans gl)
  replace hx := hideIt (hx.out.keep gl.keeps)
  have A := hideIt (Blk.new u1 29 #[.int .i64 a1, .int .i64 a2])
  clear gl
  have gl : Grows (u1.alloc (.cells #[.int .i64 a1, .int .i64 a2] 29)) ((u1.alloc (.cells #[.int .i64 a1, .int .i64 a2] 29)).alloc (.cells #[.int .i64 b1, .int .i64 b2] 29)) := (Grows.refl _).alloc _
  replace G := hideIt (G.out.trans gl)
  replace hx := hideIt (hx.out.keep gl.keeps)
  replace A := hideIt (A.out.grows gl)
  have B : Hid (Blk ((u1.alloc (.cells #[.int .i64 a1, .int .i64 a2] 29)).alloc (.cells #[.int .i64 b1, .int .i64 b2] 29)) (u1.heap.size + 1) 29 #[.int .i64 b1, .int .i64 b2]) := by
    have := Blk.new (u1.alloc (.cells #[.int .i64 a1, .int .i64 a2] 29)) 29 #[.int .i64 b1, .int .i64 b2]
    exact hideIt (by simpa using this)
  clear gl
  go_wp2_with fail
  refine (other_any _ hx.out hlen).mono ?_
  rintro e u2 ⟨v2, ys, rfl, hy, g⟩
  replace G := hideIt (G.out.trans g)
  replace hx := hideIt (hx.out.keep g.keeps)
  replace A := hideIt (A.out.grows g)
  replace B := hideIt (B.out.grows g)
  clear g
  have kA_0 : u2.cell? ⟨u1.heap.size, 0, none⟩ = some (.int .i64 a1) := A.out.cell 0
  have kA_1 : u2.cell? ⟨u1.heap.size, 1, none⟩ = some (.int .i64 a2) := A.out.cell 1
  have fA := A.out.frozen
  have lA : u1.heap.size < u2.heap.size := A.out.lt
  have kB_0 : u2.cell? ⟨u1.heap.size + 1, 0, none⟩ = some (.int .i64 b1) := B.out.cell 0
  have kB_1 : u2.cell? ⟨u1.heap.size + 1, 1, none⟩ = some (.int .i64 b2) := B.out.cell 1
  have fB := B.out.frozen
  have lB : u1.heap.size + 1 < u2.heap.size := B.out.lt
  replace hy := hideIt hy
  go_wp2_with fail
  clear kA_0 kA_1 fA lA kB_0 kB_1 fB lB
  refine (drawAddSpans_any hy.out).mono ?_
  rintro e u3 ⟨c1, c2, d1, d2, rfl, g⟩
  replace G := hideIt (G.out.trans g)
  replace hx := hideIt (hx.out.keep g.keeps)
  replace hy := hideIt (hy.out.keep g.keeps)
  replace A := hideIt (A.out.grows g)
  replace B := hideIt (B.out.grows g)
  clear g
  have kA_0 : u3.cell? ⟨u1.heap.size, 0, none⟩ = some (.int .i64 a1) := A.out.cell 0
  have kA_1 : u3.cell? ⟨u1.heap.size, 1, none⟩ = some (.int .i64 a2) := A.out.cell 1
  have fA := A.out.frozen
  have lA : u1.heap.size < u3.heap.size := A.out.lt
  have kB_0 : u3.cell? ⟨u1.heap.size + 1, 0, none⟩ = some (.int .i64 b1) := B.out.cell 0
  have kB_1 : u3.cell? ⟨u1.heap.size + 1, 1, none⟩ = some (.int .i64 b2) := B.out.cell 1
  have fB := B.out.frozen
  have lB : u1.heap.size + 1 < u3.heap.size := B.out.lt
  clear hx hy
  have gl : Grows u3 (u3.alloc (.cells #[.int .i64 c1, .int .i64 c2] 29)) := (Grows.refl _).alloc _
  replace G := hideIt (G.out.trans gl)
  replace A := hideIt (A.out.grows gl)
  replace B := hideIt (B.out.grows gl)
  have C := hideIt (Blk.new u3 29 #[.int .i64 c1, .int .i64 c2])
  clear gl
  have gl : Grows (u3.alloc (.cells #[.int .i64 c1, .int .i64 c2] 29)) ((u3.alloc (.cells #[.int .i64 c1, .int .i64 c2] 29)).alloc (.cells #[.int .i64 d1, .int .i64 d2] 29)) := (Grows.refl _).alloc _
  replace G := hideIt (G.out.trans gl)
  replace A := hideIt (A.out.grows gl)
  replace B := hideIt (B.out.grows gl)
  replace C := hideIt (C.out.grows gl)
  have D : Hid (Blk ((u3.alloc (.cells #[.int .i64 c1, .int .i64 c2] 29)).alloc (.cells #[.int .i64 d1, .int .i64 d2] 29)) (u3.heap.size + 1) 29 #[.int .i64 d1, .int .i64 d2]) := by
    have := Blk.new (u3.alloc (.cells #[.int .i64 c1, .int .i64 c2] 29)) 29 #[.int .i64 d1, .int .i64 d2]
    exact hideIt (by simpa using this)
  clear gl
  have gl : Grows ((u3.alloc (.cells #[.int .i64 c1, .int .i64 c2] 29)).alloc (.cells #[.int .i64 d1, .int .i64 d2] 29)) (((u3.alloc (.cells #[.int .i64 c1, .int .i64 c2] 29)).alloc (.cells #[.int .i64 d1, .int .i64 d2] 29)).alloc (.cells #[.int .i64 a1, .int .i64 a2, .int .i64 b1, .int .i64 b2] 29)) := (Grows.refl _).alloc _
  replace G := hideIt (G.out.trans gl)
  replace A := hideIt (A.out.grows gl)
  replace B := hideIt (B.out.grows gl)
  replace C := hideIt (C.out.grows gl)
  replace D := hideIt (D.out.grows gl)
  have Q : Hid (Blk (((u3.alloc (.cells #[.int .i64 c1, .int .i64 c2] 29)).alloc (.cells #[.int .i64 d1, .int .i64 d2] 29)).alloc (.cells #[.int .i64 a1, .int .i64 a2, .int .i64 b1, .int .i64 b2] 29)) (u3.heap.size + 1 + 1) 29 #[.int .i64 a1, .int .i64 a2, .int .i64 b1, .int .i64 b2]) := by
    have := Blk.new ((u3.alloc (.cells #[.int .i64 c1, .int .i64 c2] 29)).alloc (.cells #[.int .i64 d1, .int .i64 d2] 29)) 29 #[.int .i64 a1, .int .i64 a2, .int .i64 b1, .int .i64 b2]
    exact hideIt (by simpa using this)
  clear gl
  go_wp2_with fail
  clear kA_0 kA_1 fA lA kB_0 kB_1 fB lB
  refine (iHull_any _ (two_spans Q.out)).mono ?_
  rintro e u4 ⟨rfl, g⟩
  replace G := hideIt (G.out.trans g)
  replace A := hideIt (A.out.grows g)
  replace B := hideIt (B.out.grows g)
  replace C := hideIt (C.out.grows g)
  replace D := hideIt (D.out.grows g)
  replace Q := hideIt (Q.out.grows g)
  clear g
  have kA_0 : u4.cell? ⟨u1.heap.size, 0, none⟩ = some (.int .i64 a1) := A.out.cell 0
  have kA_1 : u4.cell? ⟨u1.heap.size, 1, none⟩ = some (.int .i64 a2) := A.out.cell 1
  have fA := A.out.frozen
  have lA : u1.heap.size < u4.heap.size := A.out.lt
  have kB_0 : u4.cell? ⟨u1.heap.size + 1, 0, none⟩ = some (.int .i64 b1) := B.out.cell 0
  have kB_1 : u4.cell? ⟨u1.heap.size + 1, 1, none⟩ = some (.int .i64 b2) := B.out.cell 1
  have fB := B.out.frozen
  have lB : u1.heap.size + 1 < u4.heap.size := B.out.lt
  have kC_0 : u4.cell? ⟨u3.heap.size, 0, none⟩ = some (.int .i64 c1) := C.out.cell 0
  have kC_1 : u4.cell? ⟨u3.heap.size, 1, none⟩ = some (.int .i64 c2) := C.out.cell 1
  have fC := C.out.frozen
  have lC : u3.heap.size < u4.heap.size := C.out.lt
  have kD_0 : u4.cell? ⟨u3.heap.size + 1, 0, none⟩ = some (.int .i64 d1) := D.out.cell 0
  have kD_1 : u4.cell? ⟨u3.heap.size + 1, 1, none⟩ = some (.int .i64 d2) := D.out.cell 1
  have fD := D.out.frozen
  have lD : u3.heap.size + 1 < u4.heap.size := D.out.lt
  have kQ_0 : u4.cell? ⟨u3.heap.size + 1 + 1, 0, none⟩ = some (.int .i64 a1) := Q.out.cell 0
  have kQ_1 : u4.cell? ⟨u3.heap.size + 1 + 1, 1, none⟩ = some (.int .i64 a2) := Q.out.cell 1
  have kQ_2 : u4.cell? ⟨u3.heap.size + 1 + 1, 2, none⟩ = some (.int .i64 b1) := Q.out.cell 2
  have kQ_3 : u4.cell? ⟨u3.heap.size + 1 + 1, 3, none⟩ = some (.int .i64 b2) := Q.out.cell 3
  have fQ := Q.out.frozen
  have lQ : u3.heap.size + 1 + 1 < u4.heap.size := Q.out.lt
  cases hA : spanV a1 a2
  · rw [hull2_no (by rw [hA]; simp)]
    have gl : Grows u4 (u4.alloc (.cells #[.int .i64 0, .int .i64 0] 29)) := (Grows.refl _).alloc _
    replace G := hideIt (G.out.trans gl)
    replace A := hideIt (A.out.grows gl)
    replace B := hideIt (B.out.grows gl)
    replace C := hideIt (C.out.grows gl)
    replace D := hideIt (D.out.grows gl)
    replace Q := hideIt (Q.out.grows gl)
    have H := hideIt (Blk.new u4 29 #[.int .i64 0, .int .i64 0])
    clear gl
    go_wp2_with fail
    clear kA_0 kA_1 fA lA kB_0 kB_1 fB lB kC_0 kC_1 fC lC kD_0 kD_1 fD lD kQ_0 kQ_1 kQ_2 kQ_3 fQ lQ
    refine (sIsSpan_any _ _ _).mono ?_
    rintro e u5 ⟨rfl, g⟩
    replace G := hideIt (G.out.trans g)
    replace A := hideIt (A.out.grows g)
    replace B := hideIt (B.out.grows g)
    replace C := hideIt (C.out.grows g)
    replace D := hideIt (D.out.grows g)
    replace Q := hideIt (Q.out.grows g)
    replace H := hideIt (H.out.grows g)
    rw [hA]
    clear g
    have kA_0 : u5.cell? ⟨u1.heap.size, 0, none⟩ = some (.int .i64 a1) := A.out.cell 0
    have kA_1 : u5.cell? ⟨u1.heap.size, 1, none⟩ = some (.int .i64 a2) := A.out.cell 1
    have fA := A.out.frozen
    have lA : u1.heap.size < u5.heap.size := A.out.lt
    have kB_0 : u5.cell? ⟨u1.heap.size + 1, 0, none⟩ = some (.int .i64 b1) := B.out.cell 0
    have kB_1 : u5.cell? ⟨u1.heap.size + 1, 1, none⟩ = some (.int .i64 b2) := B.out.cell 1
    have fB := B.out.frozen
    have lB : u1.heap.size + 1 < u5.heap.size := B.out.lt
    have kC_0 : u5.cell? ⟨u3.heap.size, 0, none⟩ = some (.int .i64 c1) := C.out.cell 0
    have kC_1 : u5.cell? ⟨u3.heap.size, 1, none⟩ = some (.int .i64 c2) := C.out.cell 1
    have fC := C.out.frozen
    have lC : u3.heap.size < u5.heap.size := C.out.lt
    have kD_0 : u5.cell? ⟨u3.heap.size + 1, 0, none⟩ = some (.int .i64 d1) := D.out.cell 0
    have kD_1 : u5.cell? ⟨u3.heap.size + 1, 1, none⟩ = some (.int .i64 d2) := D.out.cell 1
    have fD := D.out.frozen
    have lD : u3.heap.size + 1 < u5.heap.size := D.out.lt
    have kQ_0 : u5.cell? ⟨u3.heap.size + 1 + 1, 0, none⟩ = some (.int .i64 a1) := Q.out.cell 0
    have kQ_1 : u5.cell? ⟨u3.heap.size + 1 + 1, 1, none⟩ = some (.int .i64 a2) := Q.out.cell 1
    have kQ_2 : u5.cell? ⟨u3.heap.size + 1 + 1, 2, none⟩ = some (.int .i64 b1) := Q.out.cell 2
    have kQ_3 : u5.cell? ⟨u3.heap.size + 1 + 1, 3, none⟩ = some (.int .i64 b2) := Q.out.cell 3
    have fQ := Q.out.frozen
    have lQ : u3.heap.size + 1 + 1 < u5.heap.size := Q.out.lt
    have kH_0 : u5.cell? ⟨u4.heap.size, 0, none⟩ = some (.int .i64 0) := H.out.cell 0
    have kH_1 : u5.cell? ⟨u4.heap.size, 1, none⟩ = some (.int .i64 0) := H.out.cell 1
    have fH := H.out.frozen
    have lH : u4.heap.size < u5.heap.size := H.out.lt
    go_wp2
    go_ret
    exact ⟨rfl, G.out.below⟩
  cases hB : spanV b1 b2
  · rw [hull2_no (by rw [hB]; simp)]
    have gl : Grows u4 (u4.alloc (.cells #[.int .i64 0, .int .i64 0] 29)) := (Grows.refl _).alloc _
    replace G := hideIt (G.out.trans gl)
    replace A := hideIt (A.out.grows gl)
    replace B := hideIt (B.out.grows gl)
    replace C := hideIt (C.out.grows gl)
    replace D := hideIt (D.out.grows gl)
    replace Q := hideIt (Q.out.grows gl)
    have H := hideIt (Blk.new u4 29 #[.int .i64 0, .int .i64 0])
    clear gl
    go_wp2_with fail
    clear kA_0 kA_1 fA lA kB_0 kB_1 fB lB kC_0 kC_1 fC lC kD_0 kD_1 fD lD kQ_0 kQ_1 kQ_2 kQ_3 fQ lQ
    refine (sIsSpan_any _ _ _).mono ?_
    rintro e u5 ⟨rfl, g⟩
    replace G := hideIt (G.out.trans g)
    replace A := hideIt (A.out.grows g)
    replace B := hideIt (B.out.grows g)
    replace C := hideIt (C.out.grows g)
    replace D := hideIt (D.out.grows g)
    replace Q := hideIt (Q.out.grows g)
    replace H := hideIt (H.out.grows g)
    rw [hA]
    clear g
    have kA_0 : u5.cell? ⟨u1.heap.size, 0, none⟩ = some (.int .i64 a1) := A.out.cell 0
    have kA_1 : u5.cell? ⟨u1.heap.size, 1, none⟩ = some (.int .i64 a2) := A.out.cell 1
    have fA := A.out.frozen
    have lA : u1.heap.size < u5.heap.size := A.out.lt
    have kB_0 : u5.cell? ⟨u1.heap.size + 1, 0, none⟩ = some (.int .i64 b1) := B.out.cell 0
    have kB_1 : u5.cell? ⟨u1.heap.size + 1, 1, none⟩ = some (.int .i64 b2) := B.out.cell 1
    have fB := B.out.frozen
    have lB : u1.heap.size + 1 < u5.heap.size := B.out.lt
    have kC_0 : u5.cell? ⟨u3.heap.size, 0, none⟩ = some (.int .i64 c1) := C.out.cell 0
    have kC_1 : u5.cell? ⟨u3.heap.size, 1, none⟩ = some (.int .i64 c2) := C.out.cell 1
    have fC := C.out.frozen
    have lC : u3.heap.size < u5.heap.size := C.out.lt
    have kD_0 : u5.cell? ⟨u3.heap.size + 1, 0, none⟩ = some (.int .i64 d1) := D.out.cell 0
    have kD_1 : u5.cell? ⟨u3.heap.size + 1, 1, none⟩ = some (.int .i64 d2) := D.out.cell 1
    have fD := D.out.frozen
    have lD : u3.heap.size + 1 < u5.heap.size := D.out.lt
    have kQ_0 : u5.cell? ⟨u3.heap.size + 1 + 1, 0, none⟩ = some (.int .i64 a1) := Q.out.cell 0
    have kQ_1 : u5.cell? ⟨u3.heap.size + 1 + 1, 1, none⟩ = some (.int .i64 a2) := Q.out.cell 1
    have kQ_2 : u5.cell? ⟨u3.heap.size + 1 + 1, 2, none⟩ = some (.int .i64 b1) := Q.out.cell 2
    have kQ_3 : u5.cell? ⟨u3.heap.size + 1 + 1, 3, none⟩ = some (.int .i64 b2) := Q.out.cell 3
    have fQ := Q.out.frozen
    have lQ : u3.heap.size + 1 + 1 < u5.heap.size := Q.out.lt
    have kH_0 : u5.cell? ⟨u4.heap.size, 0, none⟩ = some (.int .i64 0) := H.out.cell 0
    have kH_1 : u5.cell? ⟨u4.heap.size, 1, none⟩ = some (.int .i64 0) := H.out.cell 1
    have fH := H.out.frozen
    have lH : u4.heap.size < u5.heap.size := H.out.lt
    go_wp2_with fail
    clear kA_0 kA_1 fA lA kB_0 kB_1 fB lB kC_0 kC_1 fC lC kD_0 kD_1 fD lD kQ_0 kQ_1 kQ_2 kQ_3 fQ lQ kH_0 kH_1 fH lH
    refine (sIsSpan_any _ _ _).mono ?_
    rintro e u6 ⟨rfl, g⟩
    replace G := hideIt (G.out.trans g)
    replace A := hideIt (A.out.grows g)
    replace B := hideIt (B.out.grows g)
    replace C := hideIt (C.out.grows g)
    replace D := hideIt (D.out.grows g)
    replace Q := hideIt (Q.out.grows g)
    replace H := hideIt (H.out.grows g)
    rw [hB]
    clear g
    have kA_0 : u6.cell? ⟨u1.heap.size, 0, none⟩ = some (.int .i64 a1) := A.out.cell 0
    have kA_1 : u6.cell? ⟨u1.heap.size, 1, none⟩ = some (.int .i64 a2) := A.out.cell 1
    have fA := A.out.frozen
    have lA : u1.heap.size < u6.heap.size := A.out.lt
    have kB_0 : u6.cell? ⟨u1.heap.size + 1, 0, none⟩ = some (.int .i64 b1) := B.out.cell 0
    have kB_1 : u6.cell? ⟨u1.heap.size + 1, 1, none⟩ = some (.int .i64 b2) := B.out.cell 1
    have fB := B.out.frozen
    have lB : u1.heap.size + 1 < u6.heap.size := B.out.lt
    have kC_0 : u6.cell? ⟨u3.heap.size, 0, none⟩ = some (.int .i64 c1) := C.out.cell 0
    have kC_1 : u6.cell? ⟨u3.heap.size, 1, none⟩ = some (.int .i64 c2) := C.out.cell 1
    have fC := C.out.frozen
    have lC : u3.heap.size < u6.heap.size := C.out.lt
    have kD_0 : u6.cell? ⟨u3.heap.size + 1, 0, none⟩ = some (.int .i64 d1) := D.out.cell 0
    have kD_1 : u6.cell? ⟨u3.heap.size + 1, 1, none⟩ = some (.int .i64 d2) := D.out.cell 1
    have fD := D.out.frozen
    have lD : u3.heap.size + 1 < u6.heap.size := D.out.lt
    have kQ_0 : u6.cell? ⟨u3.heap.size + 1 + 1, 0, none⟩ = some (.int .i64 a1) := Q.out.cell 0
    have kQ_1 : u6.cell? ⟨u3.heap.size + 1 + 1, 1, none⟩ = some (.int .i64 a2) := Q.out.cell 1
    have kQ_2 : u6.cell? ⟨u3.heap.size + 1 + 1, 2, none⟩ = some (.int .i64 b1) := Q.out.cell 2
    have kQ_3 : u6.cell? ⟨u3.heap.size + 1 + 1, 3, none⟩ = some (.int .i64 b2) := Q.out.cell 3
    have fQ := Q.out.frozen
    have lQ : u3.heap.size + 1 + 1 < u6.heap.size := Q.out.lt
    have kH_0 : u6.cell? ⟨u4.heap.size, 0, none⟩ = some (.int .i64 0) := H.out.cell 0
    have kH_1 : u6.cell? ⟨u4.heap.size, 1, none⟩ = some (.int .i64 0) := H.out.cell 1
    have fH := H.out.frozen
    have lH : u4.heap.size < u6.heap.size := H.out.lt
    go_wp2
    go_ret
    exact ⟨rfl, G.out.below⟩
  obtain ⟨h1, h2, EH, q1, q2, q3, q4, q5, q6⟩ := hull2_yes hA hB
  rw [EH]
  clear EH
  have OV := over_iff hA hB q1 q2 q3 q4 q5 q6
  obtain ⟨⟨ba1, ba2⟩, ⟨ba3, ba4⟩, ba5⟩ := spanV_bd hA
  obtain ⟨⟨bb1, bb2⟩, ⟨bb3, bb4⟩, bb5⟩ := spanV_bd hB
  replace OV := hideIt OV
  have PQ := hideIt (And.intro q5 q6)
  clear q5 q6
  have bh1 : -1000000000 ≤ h1 := by have := PQ.out; omega
  have bh2 : h2 ≤ 1000000000 := by have := PQ.out; omega
  have bh3 : h1 ≤ h2 := by omega
  have gl : Grows u4 (u4.alloc (.cells #[.int .i64 h1, .int .i64 h2] 29)) := (Grows.refl _).alloc _
  replace G := hideIt (G.out.trans gl)
  replace A := hideIt (A.out.grows gl)
  replace B := hideIt (B.out.grows gl)
  replace C := hideIt (C.out.grows gl)
  replace D := hideIt (D.out.grows gl)
  replace Q := hideIt (Q.out.grows gl)
  have H := hideIt (Blk.new u4 29 #[.int .i64 h1, .int .i64 h2])
  clear gl
  go_wp2_with fail
  clear kA_0 kA_1 fA lA kB_0 kB_1 fB lB kC_0 kC_1 fC lC kD_0 kD_1 fD lD kQ_0 kQ_1 kQ_2 kQ_3 fQ lQ
  refine (sIsSpan_any _ _ _).mono ?_
  rintro e u5 ⟨rfl, g⟩
  replace G := hideIt (G.out.trans g)
  replace A := hideIt (A.out.grows g)
  replace B := hideIt (B.out.grows g)
  replace C := hideIt (C.out.grows g)
  replace D := hideIt (D.out.grows g)
  replace Q := hideIt (Q.out.grows g)
  replace H := hideIt (H.out.grows g)
  rw [hA]
  clear g
  have kA_0 : u5.cell? ⟨u1.heap.size, 0, none⟩ = some (.int .i64 a1) := A.out.cell 0
  have kA_1 : u5.cell? ⟨u1.heap.size, 1, none⟩ = some (.int .i64 a2) := A.out.cell 1
  have fA := A.out.frozen
  have lA : u1.heap.size < u5.heap.size := A.out.lt
  have kB_0 : u5.cell? ⟨u1.heap.size + 1, 0, none⟩ = some (.int .i64 b1) := B.out.cell 0
  have kB_1 : u5.cell? ⟨u1.heap.size + 1, 1, none⟩ = some (.int .i64 b2) := B.out.cell 1
  have fB := B.out.frozen
  have lB : u1.heap.size + 1 < u5.heap.size := B.out.lt
  have kC_0 : u5.cell? ⟨u3.heap.size, 0, none⟩ = some (.int .i64 c1) := C.out.cell 0
  have kC_1 : u5.cell? ⟨u3.heap.size, 1, none⟩ = some (.int .i64 c2) := C.out.cell 1
  have fC := C.out.frozen
  have lC : u3.heap.size < u5.heap.size := C.out.lt
  have kD_0 : u5.cell? ⟨u3.heap.size + 1, 0, none⟩ = some (.int .i64 d1) := D.out.cell 0
  have kD_1 : u5.cell? ⟨u3.heap.size + 1, 1, none⟩ = some (.int .i64 d2) := D.out.cell 1
  have fD := D.out.frozen
  have lD : u3.heap.size + 1 < u5.heap.size := D.out.lt
  have kQ_0 : u5.cell? ⟨u3.heap.size + 1 + 1, 0, none⟩ = some (.int .i64 a1) := Q.out.cell 0
  have kQ_1 : u5.cell? ⟨u3.heap.size + 1 + 1, 1, none⟩ = some (.int .i64 a2) := Q.out.cell 1
  have kQ_2 : u5.cell? ⟨u3.heap.size + 1 + 1, 2, none⟩ = some (.int .i64 b1) := Q.out.cell 2
  have kQ_3 : u5.cell? ⟨u3.heap.size + 1 + 1, 3, none⟩ = some (.int .i64 b2) := Q.out.cell 3
  have fQ := Q.out.frozen
  have lQ : u3.heap.size + 1 + 1 < u5.heap.size := Q.out.lt
  have kH_0 : u5.cell? ⟨u4.heap.size, 0, none⟩ = some (.int .i64 h1) := H.out.cell 0
  have kH_1 : u5.cell? ⟨u4.heap.size, 1, none⟩ = some (.int .i64 h2) := H.out.cell 1
  have fH := H.out.frozen
  have lH : u4.heap.size < u5.heap.size := H.out.lt
  go_wp2_with fail
  clear kA_0 kA_1 fA lA kB_0 kB_1 fB lB kC_0 kC_1 fC lC kD_0 kD_1 fD lD kQ_0 kQ_1 kQ_2 kQ_3 fQ lQ kH_0 kH_1 fH lH
  refine (sIsSpan_any _ _ _).mono ?_
  rintro e u6 ⟨rfl, g⟩
  replace G := hideIt (G.out.trans g)
  replace A := hideIt (A.out.grows g)
  replace B := hideIt (B.out.grows g)
  replace C := hideIt (C.out.grows g)
  replace D := hideIt (D.out.grows g)
  replace Q := hideIt (Q.out.grows g)
  replace H := hideIt (H.out.grows g)
  rw [hB]
  clear g
  have kA_0 : u6.cell? ⟨u1.heap.size, 0, none⟩ = some (.int .i64 a1) := A.out.cell 0
  have kA_1 : u6.cell? ⟨u1.heap.size, 1, none⟩ = some (.int .i64 a2) := A.out.cell 1
  have fA := A.out.frozen
  have lA : u1.heap.size < u6.heap.size := A.out.lt
  have kB_0 : u6.cell? ⟨u1.heap.size + 1, 0, none⟩ = some (.int .i64 b1) := B.out.cell 0
  have kB_1 : u6.cell? ⟨u1.heap.size + 1, 1, none⟩ = some (.int .i64 b2) := B.out.cell 1
  have fB := B.out.frozen
  have lB : u1.heap.size + 1 < u6.heap.size := B.out.lt
  have kC_0 : u6.cell? ⟨u3.heap.size, 0, none⟩ = some (.int .i64 c1) := C.out.cell 0
  have kC_1 : u6.cell? ⟨u3.heap.size, 1, none⟩ = some (.int .i64 c2) := C.out.cell 1
  have fC := C.out.frozen
  have lC : u3.heap.size < u6.heap.size := C.out.lt
  have kD_0 : u6.cell? ⟨u3.heap.size + 1, 0, none⟩ = some (.int .i64 d1) := D.out.cell 0
  have kD_1 : u6.cell? ⟨u3.heap.size + 1, 1, none⟩ = some (.int .i64 d2) := D.out.cell 1
  have fD := D.out.frozen
  have lD : u3.heap.size + 1 < u6.heap.size := D.out.lt
  have kQ_0 : u6.cell? ⟨u3.heap.size + 1 + 1, 0, none⟩ = some (.int .i64 a1) := Q.out.cell 0
  have kQ_1 : u6.cell? ⟨u3.heap.size + 1 + 1, 1, none⟩ = some (.int .i64 a2) := Q.out.cell 1
  have kQ_2 : u6.cell? ⟨u3.heap.size + 1 + 1, 2, none⟩ = some (.int .i64 b1) := Q.out.cell 2
  have kQ_3 : u6.cell? ⟨u3.heap.size + 1 + 1, 3, none⟩ = some (.int .i64 b2) := Q.out.cell 3
  have fQ := Q.out.frozen
  have lQ : u3.heap.size + 1 + 1 < u6.heap.size := Q.out.lt
  have kH_0 : u6.cell? ⟨u4.heap.size, 0, none⟩ = some (.int .i64 h1) := H.out.cell 0
  have kH_1 : u6.cell? ⟨u4.heap.size, 1, none⟩ = some (.int .i64 h2) := H.out.cell 1
  have fH := H.out.frozen
  have lH : u4.heap.size < u6.heap.size := H.out.lt
  obtain ⟨o, EO, hq⟩ : ∃ o : Bool, overV a1 a2 b1 b2 = o ∧ decide (h2 - h1 ≤ a2 - a1 + b2 - b1) = o := by
    rcases OV.out with ⟨e1, e2⟩ | ⟨e1, e2⟩
    · exact ⟨true, e1, decide_eq_true e2⟩
    · exact ⟨false, e1, decide_eq_false (by omega)⟩
  replace EO := hideIt EO
  clear OV
  go_wp2_with fail
  have K0 : ∀ w', Grows u6 w' → w'.cell? ⟨u1.heap.size, 0, none⟩ = some (.int .i64 a1) ∧ w'.cell? ⟨u1.heap.size, 1, none⟩ = some (.int .i64 a2) ∧ w'.cell? ⟨u1.heap.size + 1, 0, none⟩ = some (.int .i64 b1) ∧ w'.cell? ⟨u1.heap.size + 1, 1, none⟩ = some (.int .i64 b2) ∧ w'.cell? ⟨u3.heap.size, 0, none⟩ = some (.int .i64 c1) ∧ w'.cell? ⟨u3.heap.size, 1, none⟩ = some (.int .i64 c2) ∧ w'.cell? ⟨u3.heap.size + 1, 0, none⟩ = some (.int .i64 d1) ∧ w'.cell? ⟨u3.heap.size + 1, 1, none⟩ = some (.int .i64 d2) ∧ w'.cell? ⟨u3.heap.size + 1 + 1, 0, none⟩ = some (.int .i64 a1) ∧ w'.cell? ⟨u3.heap.size + 1 + 1, 1, none⟩ = some (.int .i64 a2) ∧ w'.cell? ⟨u3.heap.size + 1 + 1, 2, none⟩ = some (.int .i64 b1) ∧ w'.cell? ⟨u3.heap.size + 1 + 1, 3, none⟩ = some (.int .i64 b2) ∧ w'.cell? ⟨u4.heap.size, 0, none⟩ = some (.int .i64 h1) ∧ w'.cell? ⟨u4.heap.size, 1, none⟩ = some (.int .i64 h2) ∧ Grows u6 w' := fun w' G => ⟨(G.cells.1 _ _ A.out.lt).trans (A.out.cell 0), (G.cells.1 _ _ A.out.lt).trans (A.out.cell 1), (G.cells.1 _ _ B.out.lt).trans (B.out.cell 0), (G.cells.1 _ _ B.out.lt).trans (B.out.cell 1), (G.cells.1 _ _ C.out.lt).trans (C.out.cell 0), (G.cells.1 _ _ C.out.lt).trans (C.out.cell 1), (G.cells.1 _ _ D.out.lt).trans (D.out.cell 0), (G.cells.1 _ _ D.out.lt).trans (D.out.cell 1), (G.cells.1 _ _ Q.out.lt).trans (Q.out.cell 0), (G.cells.1 _ _ Q.out.lt).trans (Q.out.cell 1), (G.cells.1 _ _ Q.out.lt).trans (Q.out.cell 2), (G.cells.1 _ _ Q.out.lt).trans (Q.out.cell 3), (G.cells.1 _ _ H.out.lt).trans (H.out.cell 0), (G.cells.1 _ _ H.out.lt).trans (H.out.cell 1), G⟩
  have HK := hideIt K0
  clear K0
  have gg : Grows u6 u6 := Grows.refl _
  go_region_held3 (fun w' => w'.cell? ⟨u1.heap.size, 0, none⟩ = some (.int .i64 a1) ∧ w'.cell? ⟨u1.heap.size, 1, none⟩ = some (.int .i64 a2) ∧ w'.cell? ⟨u1.heap.size + 1, 0, none⟩ = some (.int .i64 b1) ∧ w'.cell? ⟨u1.heap.size + 1, 1, none⟩ = some (.int .i64 b2) ∧ w'.cell? ⟨u3.heap.size, 0, none⟩ = some (.int .i64 c1) ∧ w'.cell? ⟨u3.heap.size, 1, none⟩ = some (.int .i64 c2) ∧ w'.cell? ⟨u3.heap.size + 1, 0, none⟩ = some (.int .i64 d1) ∧ w'.cell? ⟨u3.heap.size + 1, 1, none⟩ = some (.int .i64 d2) ∧ w'.cell? ⟨u3.heap.size + 1 + 1, 0, none⟩ = some (.int .i64 a1) ∧ w'.cell? ⟨u3.heap.size + 1 + 1, 1, none⟩ = some (.int .i64 a2) ∧ w'.cell? ⟨u3.heap.size + 1 + 1, 2, none⟩ = some (.int .i64 b1) ∧ w'.cell? ⟨u3.heap.size + 1 + 1, 3, none⟩ = some (.int .i64 b2) ∧ w'.cell? ⟨u4.heap.size, 0, none⟩ = some (.int .i64 h1) ∧ w'.cell? ⟨u4.heap.size, 1, none⟩ = some (.int .i64 h2) ∧ Grows u6 w')
      ((refine HK.out _ ?_; (repeat (first | exact gg | refine Grows.drew ?_ | refine Grows.alloc ?_ _ | refine Grows.setCell ?_ (by simp <;> omega) _))))
      (first | (go_at_call 17; refine (iOverlap_any _ _ _ _ _).mono ?_; rintro e wx ⟨rfl, g⟩; rw [EO.out]; replace gg : Grows u6 wx := Grows.trans (by (repeat (first | exact gg | refine Grows.drew ?_ | refine Grows.alloc ?_ _ | refine Grows.setCell ?_ (by simp <;> omega) _))) g))
  all_goals go_split_ands
  clear kA_0 kA_1 fA lA kB_0 kB_1 fB lB kC_0 kC_1 fC lC kD_0 kD_1 fD lD kQ_0 kQ_1 kQ_2 kQ_3 fQ lQ kH_0 kH_1 fH lH
  replace G := hideIt (G.out.trans gg)
  replace A := hideIt (A.out.grows gg)
  replace B := hideIt (B.out.grows gg)
  replace C := hideIt (C.out.grows gg)
  replace D := hideIt (D.out.grows gg)
  replace Q := hideIt (Q.out.grows gg)
  replace H := hideIt (H.out.grows gg)
  clear gg HK
  have kA_0 : wx.cell? ⟨u1.heap.size, 0, none⟩ = some (.int .i64 a1) := A.out.cell 0
  have kA_1 : wx.cell? ⟨u1.heap.size, 1, none⟩ = some (.int .i64 a2) := A.out.cell 1
  have fA := A.out.frozen
  have lA : u1.heap.size < wx.heap.size := A.out.lt
  have kB_0 : wx.cell? ⟨u1.heap.size + 1, 0, none⟩ = some (.int .i64 b1) := B.out.cell 0
  have kB_1 : wx.cell? ⟨u1.heap.size + 1, 1, none⟩ = some (.int .i64 b2) := B.out.cell 1
  have fB := B.out.frozen
  have lB : u1.heap.size + 1 < wx.heap.size := B.out.lt
  have kC_0 : wx.cell? ⟨u3.heap.size, 0, none⟩ = some (.int .i64 c1) := C.out.cell 0
  have kC_1 : wx.cell? ⟨u3.heap.size, 1, none⟩ = some (.int .i64 c2) := C.out.cell 1
  have fC := C.out.frozen
  have lC : u3.heap.size < wx.heap.size := C.out.lt
  have kD_0 : wx.cell? ⟨u3.heap.size + 1, 0, none⟩ = some (.int .i64 d1) := D.out.cell 0
  have kD_1 : wx.cell? ⟨u3.heap.size + 1, 1, none⟩ = some (.int .i64 d2) := D.out.cell 1
  have fD := D.out.frozen
  have lD : u3.heap.size + 1 < wx.heap.size := D.out.lt
  have kQ_0 : wx.cell? ⟨u3.heap.size + 1 + 1, 0, none⟩ = some (.int .i64 a1) := Q.out.cell 0
  have kQ_1 : wx.cell? ⟨u3.heap.size + 1 + 1, 1, none⟩ = some (.int .i64 a2) := Q.out.cell 1
  have kQ_2 : wx.cell? ⟨u3.heap.size + 1 + 1, 2, none⟩ = some (.int .i64 b1) := Q.out.cell 2
  have kQ_3 : wx.cell? ⟨u3.heap.size + 1 + 1, 3, none⟩ = some (.int .i64 b2) := Q.out.cell 3
  have fQ := Q.out.frozen
  have lQ : u3.heap.size + 1 + 1 < wx.heap.size := Q.out.lt
  have kH_0 : wx.cell? ⟨u4.heap.size, 0, none⟩ = some (.int .i64 h1) := H.out.cell 0
  have kH_1 : wx.cell? ⟨u4.heap.size, 1, none⟩ = some (.int .i64 h2) := H.out.cell 1
  have fH := H.out.frozen
  have lH : u4.heap.size < wx.heap.size := H.out.lt
  obtain ⟨⟨x1, x2, kx⟩, EX⟩ : ∃ v, addV a1 a2 c1 c2 = v := ⟨_, rfl⟩
  replace EX := hideIt EX
  obtain ⟨⟨y1, y2, ky⟩, EY⟩ : ∃ v, addV b1 b2 c1 c2 = v := ⟨_, rfl⟩
  replace EY := hideIt EY
  obtain ⟨⟨z1, z2, kz⟩, EZ⟩ : ∃ v, addV h1 h2 c1 c2 = v := ⟨_, rfl⟩
  replace EZ := hideIt EZ
  go_wp2_with fail
  · exfalso
    rename_i hh
    have wr : ∀ z : Int, -9000000000000000000 ≤ z → z ≤ 9000000000000000000 → IntKind.i64.wrap z = z := fun z h1 h2 => IntWalk.i64_in z (by omega)
    rw [wr (h2 - h1) (by omega) (by omega), wr (a2 - a1) (by omega) (by omega), wr (a2 - a1 + b2) (by omega) (by omega), wr (a2 - a1 + b2 - b1) (by omega) (by omega), hq] at hh
    simp at hh
  go_wp2_with fail
  clear kA_0 kA_1 fA lA kB_0 kB_1 fB lB kC_0 kC_1 fC lC kD_0 kD_1 fD lD kQ_0 kQ_1 kQ_2 kQ_3 fQ lQ kH_0 kH_1 fH lH
  refine (iAddSpans_any _ _ _ _ _).mono ?_
  rintro e u7 ⟨rfl, g⟩
  replace G := hideIt (G.out.trans g)
  replace A := hideIt (A.out.grows g)
  replace B := hideIt (B.out.grows g)
  replace C := hideIt (C.out.grows g)
  replace D := hideIt (D.out.grows g)
  replace Q := hideIt (Q.out.grows g)
  replace H := hideIt (H.out.grows g)
  rw [EX.out]
  clear g
  have kA_0 : u7.cell? ⟨u1.heap.size, 0, none⟩ = some (.int .i64 a1) := A.out.cell 0
  have kA_1 : u7.cell? ⟨u1.heap.size, 1, none⟩ = some (.int .i64 a2) := A.out.cell 1
  have fA := A.out.frozen
  have lA : u1.heap.size < u7.heap.size := A.out.lt
  have kB_0 : u7.cell? ⟨u1.heap.size + 1, 0, none⟩ = some (.int .i64 b1) := B.out.cell 0
  have kB_1 : u7.cell? ⟨u1.heap.size + 1, 1, none⟩ = some (.int .i64 b2) := B.out.cell 1
  have fB := B.out.frozen
  have lB : u1.heap.size + 1 < u7.heap.size := B.out.lt
  have kC_0 : u7.cell? ⟨u3.heap.size, 0, none⟩ = some (.int .i64 c1) := C.out.cell 0
  have kC_1 : u7.cell? ⟨u3.heap.size, 1, none⟩ = some (.int .i64 c2) := C.out.cell 1
  have fC := C.out.frozen
  have lC : u3.heap.size < u7.heap.size := C.out.lt
  have kD_0 : u7.cell? ⟨u3.heap.size + 1, 0, none⟩ = some (.int .i64 d1) := D.out.cell 0
  have kD_1 : u7.cell? ⟨u3.heap.size + 1, 1, none⟩ = some (.int .i64 d2) := D.out.cell 1
  have fD := D.out.frozen
  have lD : u3.heap.size + 1 < u7.heap.size := D.out.lt
  have kQ_0 : u7.cell? ⟨u3.heap.size + 1 + 1, 0, none⟩ = some (.int .i64 a1) := Q.out.cell 0
  have kQ_1 : u7.cell? ⟨u3.heap.size + 1 + 1, 1, none⟩ = some (.int .i64 a2) := Q.out.cell 1
  have kQ_2 : u7.cell? ⟨u3.heap.size + 1 + 1, 2, none⟩ = some (.int .i64 b1) := Q.out.cell 2
  have kQ_3 : u7.cell? ⟨u3.heap.size + 1 + 1, 3, none⟩ = some (.int .i64 b2) := Q.out.cell 3
  have fQ := Q.out.frozen
  have lQ : u3.heap.size + 1 + 1 < u7.heap.size := Q.out.lt
  have kH_0 : u7.cell? ⟨u4.heap.size, 0, none⟩ = some (.int .i64 h1) := H.out.cell 0
  have kH_1 : u7.cell? ⟨u4.heap.size, 1, none⟩ = some (.int .i64 h2) := H.out.cell 1
  have fH := H.out.frozen
  have lH : u4.heap.size < u7.heap.size := H.out.lt
  have gl : Grows u7 (u7.alloc (.cells #[.int .i64 x1, .int .i64 x2] 29)) := (Grows.refl _).alloc _
  replace G := hideIt (G.out.trans gl)
  replace A := hideIt (A.out.grows gl)
  replace B := hideIt (B.out.grows gl)
  replace C := hideIt (C.out.grows gl)
  replace D := hideIt (D.out.grows gl)
  replace Q := hideIt (Q.out.grows gl)
  replace H := hideIt (H.out.grows gl)
  have X := hideIt (Blk.new u7 29 #[.int .i64 x1, .int .i64 x2])
  clear gl
  go_wp2_with fail
  clear kA_0 kA_1 fA lA kB_0 kB_1 fB lB kC_0 kC_1 fC lC kD_0 kD_1 fD lD kQ_0 kQ_1 kQ_2 kQ_3 fQ lQ kH_0 kH_1 fH lH
  refine (iAddSpans_any _ _ _ _ _).mono ?_
  rintro e u8 ⟨rfl, g⟩
  replace G := hideIt (G.out.trans g)
  replace A := hideIt (A.out.grows g)
  replace B := hideIt (B.out.grows g)
  replace C := hideIt (C.out.grows g)
  replace D := hideIt (D.out.grows g)
  replace Q := hideIt (Q.out.grows g)
  replace H := hideIt (H.out.grows g)
  replace X := hideIt (X.out.grows g)
  rw [EY.out]
  clear g
  have kA_0 : u8.cell? ⟨u1.heap.size, 0, none⟩ = some (.int .i64 a1) := A.out.cell 0
  have kA_1 : u8.cell? ⟨u1.heap.size, 1, none⟩ = some (.int .i64 a2) := A.out.cell 1
  have fA := A.out.frozen
  have lA : u1.heap.size < u8.heap.size := A.out.lt
  have kB_0 : u8.cell? ⟨u1.heap.size + 1, 0, none⟩ = some (.int .i64 b1) := B.out.cell 0
  have kB_1 : u8.cell? ⟨u1.heap.size + 1, 1, none⟩ = some (.int .i64 b2) := B.out.cell 1
  have fB := B.out.frozen
  have lB : u1.heap.size + 1 < u8.heap.size := B.out.lt
  have kC_0 : u8.cell? ⟨u3.heap.size, 0, none⟩ = some (.int .i64 c1) := C.out.cell 0
  have kC_1 : u8.cell? ⟨u3.heap.size, 1, none⟩ = some (.int .i64 c2) := C.out.cell 1
  have fC := C.out.frozen
  have lC : u3.heap.size < u8.heap.size := C.out.lt
  have kD_0 : u8.cell? ⟨u3.heap.size + 1, 0, none⟩ = some (.int .i64 d1) := D.out.cell 0
  have kD_1 : u8.cell? ⟨u3.heap.size + 1, 1, none⟩ = some (.int .i64 d2) := D.out.cell 1
  have fD := D.out.frozen
  have lD : u3.heap.size + 1 < u8.heap.size := D.out.lt
  have kQ_0 : u8.cell? ⟨u3.heap.size + 1 + 1, 0, none⟩ = some (.int .i64 a1) := Q.out.cell 0
  have kQ_1 : u8.cell? ⟨u3.heap.size + 1 + 1, 1, none⟩ = some (.int .i64 a2) := Q.out.cell 1
  have kQ_2 : u8.cell? ⟨u3.heap.size + 1 + 1, 2, none⟩ = some (.int .i64 b1) := Q.out.cell 2
  have kQ_3 : u8.cell? ⟨u3.heap.size + 1 + 1, 3, none⟩ = some (.int .i64 b2) := Q.out.cell 3
  have fQ := Q.out.frozen
  have lQ : u3.heap.size + 1 + 1 < u8.heap.size := Q.out.lt
  have kH_0 : u8.cell? ⟨u4.heap.size, 0, none⟩ = some (.int .i64 h1) := H.out.cell 0
  have kH_1 : u8.cell? ⟨u4.heap.size, 1, none⟩ = some (.int .i64 h2) := H.out.cell 1
  have fH := H.out.frozen
  have lH : u4.heap.size < u8.heap.size := H.out.lt
  have kX_0 : u8.cell? ⟨u7.heap.size, 0, none⟩ = some (.int .i64 x1) := X.out.cell 0
  have kX_1 : u8.cell? ⟨u7.heap.size, 1, none⟩ = some (.int .i64 x2) := X.out.cell 1
  have fX := X.out.frozen
  have lX : u7.heap.size < u8.heap.size := X.out.lt
  have gl : Grows u8 (u8.alloc (.cells #[.int .i64 y1, .int .i64 y2] 29)) := (Grows.refl _).alloc _
  replace G := hideIt (G.out.trans gl)
  replace A := hideIt (A.out.grows gl)
  replace B := hideIt (B.out.grows gl)
  replace C := hideIt (C.out.grows gl)
  replace D := hideIt (D.out.grows gl)
  replace Q := hideIt (Q.out.grows gl)
  replace H := hideIt (H.out.grows gl)
  replace X := hideIt (X.out.grows gl)
  have Y := hideIt (Blk.new u8 29 #[.int .i64 y1, .int .i64 y2])
  clear gl
  go_wp2_with fail
  clear kA_0 kA_1 fA lA kB_0 kB_1 fB lB kC_0 kC_1 fC lC kD_0 kD_1 fD lD kQ_0 kQ_1 kQ_2 kQ_3 fQ lQ kH_0 kH_1 fH lH kX_0 kX_1 fX lX
  refine (iAddSpans_any _ _ _ _ _).mono ?_
  rintro e u9 ⟨rfl, g⟩
  replace G := hideIt (G.out.trans g)
  replace A := hideIt (A.out.grows g)
  replace B := hideIt (B.out.grows g)
  replace C := hideIt (C.out.grows g)
  replace D := hideIt (D.out.grows g)
  replace Q := hideIt (Q.out.grows g)
  replace H := hideIt (H.out.grows g)
  replace X := hideIt (X.out.grows g)
  replace Y := hideIt (Y.out.grows g)
  rw [EZ.out]
  clear g
  have kA_0 : u9.cell? ⟨u1.heap.size, 0, none⟩ = some (.int .i64 a1) := A.out.cell 0
  have kA_1 : u9.cell? ⟨u1.heap.size, 1, none⟩ = some (.int .i64 a2) := A.out.cell 1
  have fA := A.out.frozen
  have lA : u1.heap.size < u9.heap.size := A.out.lt
  have kB_0 : u9.cell? ⟨u1.heap.size + 1, 0, none⟩ = some (.int .i64 b1) := B.out.cell 0
  have kB_1 : u9.cell? ⟨u1.heap.size + 1, 1, none⟩ = some (.int .i64 b2) := B.out.cell 1
  have fB := B.out.frozen
  have lB : u1.heap.size + 1 < u9.heap.size := B.out.lt
  have kC_0 : u9.cell? ⟨u3.heap.size, 0, none⟩ = some (.int .i64 c1) := C.out.cell 0
  have kC_1 : u9.cell? ⟨u3.heap.size, 1, none⟩ = some (.int .i64 c2) := C.out.cell 1
  have fC := C.out.frozen
  have lC : u3.heap.size < u9.heap.size := C.out.lt
  have kD_0 : u9.cell? ⟨u3.heap.size + 1, 0, none⟩ = some (.int .i64 d1) := D.out.cell 0
  have kD_1 : u9.cell? ⟨u3.heap.size + 1, 1, none⟩ = some (.int .i64 d2) := D.out.cell 1
  have fD := D.out.frozen
  have lD : u3.heap.size + 1 < u9.heap.size := D.out.lt
  have kQ_0 : u9.cell? ⟨u3.heap.size + 1 + 1, 0, none⟩ = some (.int .i64 a1) := Q.out.cell 0
  have kQ_1 : u9.cell? ⟨u3.heap.size + 1 + 1, 1, none⟩ = some (.int .i64 a2) := Q.out.cell 1
  have kQ_2 : u9.cell? ⟨u3.heap.size + 1 + 1, 2, none⟩ = some (.int .i64 b1) := Q.out.cell 2
  have kQ_3 : u9.cell? ⟨u3.heap.size + 1 + 1, 3, none⟩ = some (.int .i64 b2) := Q.out.cell 3
  have fQ := Q.out.frozen
  have lQ : u3.heap.size + 1 + 1 < u9.heap.size := Q.out.lt
  have kH_0 : u9.cell? ⟨u4.heap.size, 0, none⟩ = some (.int .i64 h1) := H.out.cell 0
  have kH_1 : u9.cell? ⟨u4.heap.size, 1, none⟩ = some (.int .i64 h2) := H.out.cell 1
  have fH := H.out.frozen
  have lH : u4.heap.size < u9.heap.size := H.out.lt
  have kX_0 : u9.cell? ⟨u7.heap.size, 0, none⟩ = some (.int .i64 x1) := X.out.cell 0
  have kX_1 : u9.cell? ⟨u7.heap.size, 1, none⟩ = some (.int .i64 x2) := X.out.cell 1
  have fX := X.out.frozen
  have lX : u7.heap.size < u9.heap.size := X.out.lt
  have kY_0 : u9.cell? ⟨u8.heap.size, 0, none⟩ = some (.int .i64 y1) := Y.out.cell 0
  have kY_1 : u9.cell? ⟨u8.heap.size, 1, none⟩ = some (.int .i64 y2) := Y.out.cell 1
  have fY := Y.out.frozen
  have lY : u8.heap.size < u9.heap.size := Y.out.lt
  have gl : Grows u9 (u9.alloc (.cells #[.int .i64 z1, .int .i64 z2] 29)) := (Grows.refl _).alloc _
  replace G := hideIt (G.out.trans gl)
  replace A := hideIt (A.out.grows gl)
  replace B := hideIt (B.out.grows gl)
  replace C := hideIt (C.out.grows gl)
  replace D := hideIt (D.out.grows gl)
  replace Q := hideIt (Q.out.grows gl)
  replace H := hideIt (H.out.grows gl)
  replace X := hideIt (X.out.grows gl)
  replace Y := hideIt (Y.out.grows gl)
  have Z := hideIt (Blk.new u9 29 #[.int .i64 z1, .int .i64 z2])
  clear gl
  go_wp2_with fail
  clear kA_0 kA_1 fA lA kB_0 kB_1 fB lB kC_0 kC_1 fC lC kD_0 kD_1 fD lD kQ_0 kQ_1 kQ_2 kQ_3 fQ lQ kH_0 kH_1 fH lH kX_0 kX_1 fX lX kY_0 kY_1 fY lY
  refine (w5Sum_any _ _ _ _ _).mono ?_
  rintro e u10 ⟨rfl, g⟩
  replace G := hideIt (G.out.trans g)
  replace A := hideIt (A.out.grows g)
  replace B := hideIt (B.out.grows g)
  replace C := hideIt (C.out.grows g)
  replace D := hideIt (D.out.grows g)
  replace Q := hideIt (Q.out.grows g)
  replace H := hideIt (H.out.grows g)
  replace X := hideIt (X.out.grows g)
  replace Y := hideIt (Y.out.grows g)
  replace Z := hideIt (Z.out.grows g)
  rw [EX.out]
  clear g
  have kA_0 : u10.cell? ⟨u1.heap.size, 0, none⟩ = some (.int .i64 a1) := A.out.cell 0
  have kA_1 : u10.cell? ⟨u1.heap.size, 1, none⟩ = some (.int .i64 a2) := A.out.cell 1
  have fA := A.out.frozen
  have lA : u1.heap.size < u10.heap.size := A.out.lt
  have kB_0 : u10.cell? ⟨u1.heap.size + 1, 0, none⟩ = some (.int .i64 b1) := B.out.cell 0
  have kB_1 : u10.cell? ⟨u1.heap.size + 1, 1, none⟩ = some (.int .i64 b2) := B.out.cell 1
  have fB := B.out.frozen
  have lB : u1.heap.size + 1 < u10.heap.size := B.out.lt
  have kC_0 : u10.cell? ⟨u3.heap.size, 0, none⟩ = some (.int .i64 c1) := C.out.cell 0
  have kC_1 : u10.cell? ⟨u3.heap.size, 1, none⟩ = some (.int .i64 c2) := C.out.cell 1
  have fC := C.out.frozen
  have lC : u3.heap.size < u10.heap.size := C.out.lt
  have kD_0 : u10.cell? ⟨u3.heap.size + 1, 0, none⟩ = some (.int .i64 d1) := D.out.cell 0
  have kD_1 : u10.cell? ⟨u3.heap.size + 1, 1, none⟩ = some (.int .i64 d2) := D.out.cell 1
  have fD := D.out.frozen
  have lD : u3.heap.size + 1 < u10.heap.size := D.out.lt
  have kQ_0 : u10.cell? ⟨u3.heap.size + 1 + 1, 0, none⟩ = some (.int .i64 a1) := Q.out.cell 0
  have kQ_1 : u10.cell? ⟨u3.heap.size + 1 + 1, 1, none⟩ = some (.int .i64 a2) := Q.out.cell 1
  have kQ_2 : u10.cell? ⟨u3.heap.size + 1 + 1, 2, none⟩ = some (.int .i64 b1) := Q.out.cell 2
  have kQ_3 : u10.cell? ⟨u3.heap.size + 1 + 1, 3, none⟩ = some (.int .i64 b2) := Q.out.cell 3
  have fQ := Q.out.frozen
  have lQ : u3.heap.size + 1 + 1 < u10.heap.size := Q.out.lt
  have kH_0 : u10.cell? ⟨u4.heap.size, 0, none⟩ = some (.int .i64 h1) := H.out.cell 0
  have kH_1 : u10.cell? ⟨u4.heap.size, 1, none⟩ = some (.int .i64 h2) := H.out.cell 1
  have fH := H.out.frozen
  have lH : u4.heap.size < u10.heap.size := H.out.lt
  have kX_0 : u10.cell? ⟨u7.heap.size, 0, none⟩ = some (.int .i64 x1) := X.out.cell 0
  have kX_1 : u10.cell? ⟨u7.heap.size, 1, none⟩ = some (.int .i64 x2) := X.out.cell 1
  have fX := X.out.frozen
  have lX : u7.heap.size < u10.heap.size := X.out.lt
  have kY_0 : u10.cell? ⟨u8.heap.size, 0, none⟩ = some (.int .i64 y1) := Y.out.cell 0
  have kY_1 : u10.cell? ⟨u8.heap.size, 1, none⟩ = some (.int .i64 y2) := Y.out.cell 1
  have fY := Y.out.frozen
  have lY : u8.heap.size < u10.heap.size := Y.out.lt
  have kZ_0 : u10.cell? ⟨u9.heap.size, 0, none⟩ = some (.int .i64 z1) := Z.out.cell 0
  have kZ_1 : u10.cell? ⟨u9.heap.size, 1, none⟩ = some (.int .i64 z2) := Z.out.cell 1
  have fZ := Z.out.frozen
  have lZ : u9.heap.size < u10.heap.size := Z.out.lt
  go_wp2_with fail
  clear kA_0 kA_1 fA lA kB_0 kB_1 fB lB kC_0 kC_1 fC lC kD_0 kD_1 fD lD kQ_0 kQ_1 kQ_2 kQ_3 fQ lQ kH_0 kH_1 fH lH kX_0 kX_1 fX lX kY_0 kY_1 fY lY kZ_0 kZ_1 fZ lZ
  refine (w5Sum_any _ _ _ _ _).mono ?_
  rintro e u11 ⟨rfl, g⟩
  replace G := hideIt (G.out.trans g)
  replace A := hideIt (A.out.grows g)
  replace B := hideIt (B.out.grows g)
  replace C := hideIt (C.out.grows g)
  replace D := hideIt (D.out.grows g)
  replace Q := hideIt (Q.out.grows g)
  replace H := hideIt (H.out.grows g)
  replace X := hideIt (X.out.grows g)
  replace Y := hideIt (Y.out.grows g)
  replace Z := hideIt (Z.out.grows g)
  rw [EY.out]
  clear g
  have kA_0 : u11.cell? ⟨u1.heap.size, 0, none⟩ = some (.int .i64 a1) := A.out.cell 0
  have kA_1 : u11.cell? ⟨u1.heap.size, 1, none⟩ = some (.int .i64 a2) := A.out.cell 1
  have fA := A.out.frozen
  have lA : u1.heap.size < u11.heap.size := A.out.lt
  have kB_0 : u11.cell? ⟨u1.heap.size + 1, 0, none⟩ = some (.int .i64 b1) := B.out.cell 0
  have kB_1 : u11.cell? ⟨u1.heap.size + 1, 1, none⟩ = some (.int .i64 b2) := B.out.cell 1
  have fB := B.out.frozen
  have lB : u1.heap.size + 1 < u11.heap.size := B.out.lt
  have kC_0 : u11.cell? ⟨u3.heap.size, 0, none⟩ = some (.int .i64 c1) := C.out.cell 0
  have kC_1 : u11.cell? ⟨u3.heap.size, 1, none⟩ = some (.int .i64 c2) := C.out.cell 1
  have fC := C.out.frozen
  have lC : u3.heap.size < u11.heap.size := C.out.lt
  have kD_0 : u11.cell? ⟨u3.heap.size + 1, 0, none⟩ = some (.int .i64 d1) := D.out.cell 0
  have kD_1 : u11.cell? ⟨u3.heap.size + 1, 1, none⟩ = some (.int .i64 d2) := D.out.cell 1
  have fD := D.out.frozen
  have lD : u3.heap.size + 1 < u11.heap.size := D.out.lt
  have kQ_0 : u11.cell? ⟨u3.heap.size + 1 + 1, 0, none⟩ = some (.int .i64 a1) := Q.out.cell 0
  have kQ_1 : u11.cell? ⟨u3.heap.size + 1 + 1, 1, none⟩ = some (.int .i64 a2) := Q.out.cell 1
  have kQ_2 : u11.cell? ⟨u3.heap.size + 1 + 1, 2, none⟩ = some (.int .i64 b1) := Q.out.cell 2
  have kQ_3 : u11.cell? ⟨u3.heap.size + 1 + 1, 3, none⟩ = some (.int .i64 b2) := Q.out.cell 3
  have fQ := Q.out.frozen
  have lQ : u3.heap.size + 1 + 1 < u11.heap.size := Q.out.lt
  have kH_0 : u11.cell? ⟨u4.heap.size, 0, none⟩ = some (.int .i64 h1) := H.out.cell 0
  have kH_1 : u11.cell? ⟨u4.heap.size, 1, none⟩ = some (.int .i64 h2) := H.out.cell 1
  have fH := H.out.frozen
  have lH : u4.heap.size < u11.heap.size := H.out.lt
  have kX_0 : u11.cell? ⟨u7.heap.size, 0, none⟩ = some (.int .i64 x1) := X.out.cell 0
  have kX_1 : u11.cell? ⟨u7.heap.size, 1, none⟩ = some (.int .i64 x2) := X.out.cell 1
  have fX := X.out.frozen
  have lX : u7.heap.size < u11.heap.size := X.out.lt
  have kY_0 : u11.cell? ⟨u8.heap.size, 0, none⟩ = some (.int .i64 y1) := Y.out.cell 0
  have kY_1 : u11.cell? ⟨u8.heap.size, 1, none⟩ = some (.int .i64 y2) := Y.out.cell 1
  have fY := Y.out.frozen
  have lY : u8.heap.size < u11.heap.size := Y.out.lt
  have kZ_0 : u11.cell? ⟨u9.heap.size, 0, none⟩ = some (.int .i64 z1) := Z.out.cell 0
  have kZ_1 : u11.cell? ⟨u9.heap.size, 1, none⟩ = some (.int .i64 z2) := Z.out.cell 1
  have fZ := Z.out.frozen
  have lZ : u9.heap.size < u11.heap.size := Z.out.lt
  go_wp2_with fail
  clear kA_0 kA_1 fA lA kB_0 kB_1 fB lB kC_0 kC_1 fC lC kD_0 kD_1 fD lD kQ_0 kQ_1 kQ_2 kQ_3 fQ lQ kH_0 kH_1 fH lH kX_0 kX_1 fX lX kY_0 kY_1 fY lY kZ_0 kZ_1 fZ lZ
  refine (w5Sum_any _ _ _ _ _).mono ?_
  rintro e u12 ⟨rfl, g⟩
  replace G := hideIt (G.out.trans g)
  replace A := hideIt (A.out.grows g)
  replace B := hideIt (B.out.grows g)
  replace C := hideIt (C.out.grows g)
  replace D := hideIt (D.out.grows g)
  replace Q := hideIt (Q.out.grows g)
  replace H := hideIt (H.out.grows g)
  replace X := hideIt (X.out.grows g)
  replace Y := hideIt (Y.out.grows g)
  replace Z := hideIt (Z.out.grows g)
  rw [EZ.out]
  clear g
  have kA_0 : u12.cell? ⟨u1.heap.size, 0, none⟩ = some (.int .i64 a1) := A.out.cell 0
  have kA_1 : u12.cell? ⟨u1.heap.size, 1, none⟩ = some (.int .i64 a2) := A.out.cell 1
  have fA := A.out.frozen
  have lA : u1.heap.size < u12.heap.size := A.out.lt
  have kB_0 : u12.cell? ⟨u1.heap.size + 1, 0, none⟩ = some (.int .i64 b1) := B.out.cell 0
  have kB_1 : u12.cell? ⟨u1.heap.size + 1, 1, none⟩ = some (.int .i64 b2) := B.out.cell 1
  have fB := B.out.frozen
  have lB : u1.heap.size + 1 < u12.heap.size := B.out.lt
  have kC_0 : u12.cell? ⟨u3.heap.size, 0, none⟩ = some (.int .i64 c1) := C.out.cell 0
  have kC_1 : u12.cell? ⟨u3.heap.size, 1, none⟩ = some (.int .i64 c2) := C.out.cell 1
  have fC := C.out.frozen
  have lC : u3.heap.size < u12.heap.size := C.out.lt
  have kD_0 : u12.cell? ⟨u3.heap.size + 1, 0, none⟩ = some (.int .i64 d1) := D.out.cell 0
  have kD_1 : u12.cell? ⟨u3.heap.size + 1, 1, none⟩ = some (.int .i64 d2) := D.out.cell 1
  have fD := D.out.frozen
  have lD : u3.heap.size + 1 < u12.heap.size := D.out.lt
  have kQ_0 : u12.cell? ⟨u3.heap.size + 1 + 1, 0, none⟩ = some (.int .i64 a1) := Q.out.cell 0
  have kQ_1 : u12.cell? ⟨u3.heap.size + 1 + 1, 1, none⟩ = some (.int .i64 a2) := Q.out.cell 1
  have kQ_2 : u12.cell? ⟨u3.heap.size + 1 + 1, 2, none⟩ = some (.int .i64 b1) := Q.out.cell 2
  have kQ_3 : u12.cell? ⟨u3.heap.size + 1 + 1, 3, none⟩ = some (.int .i64 b2) := Q.out.cell 3
  have fQ := Q.out.frozen
  have lQ : u3.heap.size + 1 + 1 < u12.heap.size := Q.out.lt
  have kH_0 : u12.cell? ⟨u4.heap.size, 0, none⟩ = some (.int .i64 h1) := H.out.cell 0
  have kH_1 : u12.cell? ⟨u4.heap.size, 1, none⟩ = some (.int .i64 h2) := H.out.cell 1
  have fH := H.out.frozen
  have lH : u4.heap.size < u12.heap.size := H.out.lt
  have kX_0 : u12.cell? ⟨u7.heap.size, 0, none⟩ = some (.int .i64 x1) := X.out.cell 0
  have kX_1 : u12.cell? ⟨u7.heap.size, 1, none⟩ = some (.int .i64 x2) := X.out.cell 1
  have fX := X.out.frozen
  have lX : u7.heap.size < u12.heap.size := X.out.lt
  have kY_0 : u12.cell? ⟨u8.heap.size, 0, none⟩ = some (.int .i64 y1) := Y.out.cell 0
  have kY_1 : u12.cell? ⟨u8.heap.size, 1, none⟩ = some (.int .i64 y2) := Y.out.cell 1
  have fY := Y.out.frozen
  have lY : u8.heap.size < u12.heap.size := Y.out.lt
  have kZ_0 : u12.cell? ⟨u9.heap.size, 0, none⟩ = some (.int .i64 z1) := Z.out.cell 0
  have kZ_1 : u12.cell? ⟨u9.heap.size, 1, none⟩ = some (.int .i64 z2) := Z.out.cell 1
  have fZ := Z.out.frozen
  have lZ : u9.heap.size < u12.heap.size := Z.out.lt
  by_cases nkx : kx = 0
  rotate_left
  · go_wp2
    go_ret
    exact ⟨rfl, G.out.below⟩
  by_cases nky : ky = 0
  rotate_left
  · go_wp2
    go_ret
    exact ⟨rfl, G.out.below⟩
  by_cases nkz : kz = 0
  rotate_left
  · go_wp2
    go_ret
    exact ⟨rfl, G.out.below⟩
  subst nkx nky nkz
  obtain ⟨rfl, rfl, sx⟩ := addV_zero EX.out
  obtain ⟨rfl, rfl, sy⟩ := addV_zero EY.out
  obtain ⟨rfl, rfl, sz⟩ := addV_zero EZ.out
  have EH := hideIt (hull2_uniq (h1 := h1 + c1) (h2 := h2 + c2) sx sy (by omega) (by omega) (by omega) (by omega) (by have := PQ.out; omega) (by have := PQ.out; omega))
  have gl : Grows u12 (u12.alloc (.cells #[.int .i64 (a1 + c1), .int .i64 (a2 + c2), .int .i64 (b1 + c1), .int .i64 (b2 + c2)] 29)) := (Grows.refl _).alloc _
  replace G := hideIt (G.out.trans gl)
  replace A := hideIt (A.out.grows gl)
  replace B := hideIt (B.out.grows gl)
  replace C := hideIt (C.out.grows gl)
  replace D := hideIt (D.out.grows gl)
  replace Q := hideIt (Q.out.grows gl)
  replace H := hideIt (H.out.grows gl)
  replace X := hideIt (X.out.grows gl)
  replace Y := hideIt (Y.out.grows gl)
  replace Z := hideIt (Z.out.grows gl)
  have R := hideIt (Blk.new u12 29 #[.int .i64 (a1 + c1), .int .i64 (a2 + c2), .int .i64 (b1 + c1), .int .i64 (b2 + c2)])
  clear gl
  go_wp2_with fail
  clear kA_0 kA_1 fA lA kB_0 kB_1 fB lB kC_0 kC_1 fC lC kD_0 kD_1 fD lD kQ_0 kQ_1 kQ_2 kQ_3 fQ lQ kH_0 kH_1 fH lH kX_0 kX_1 fX lX kY_0 kY_1 fY lY kZ_0 kZ_1 fZ lZ
  refine (iHull_any _ (two_spans R.out)).mono ?_
  rintro e u13 ⟨rfl, g⟩
  replace G := hideIt (G.out.trans g)
  replace A := hideIt (A.out.grows g)
  replace B := hideIt (B.out.grows g)
  replace C := hideIt (C.out.grows g)
  replace D := hideIt (D.out.grows g)
  replace Q := hideIt (Q.out.grows g)
  replace H := hideIt (H.out.grows g)
  replace X := hideIt (X.out.grows g)
  replace Y := hideIt (Y.out.grows g)
  replace Z := hideIt (Z.out.grows g)
  replace R := hideIt (R.out.grows g)
  rw [EH.out]
  clear g
  have kA_0 : u13.cell? ⟨u1.heap.size, 0, none⟩ = some (.int .i64 a1) := A.out.cell 0
  have kA_1 : u13.cell? ⟨u1.heap.size, 1, none⟩ = some (.int .i64 a2) := A.out.cell 1
  have fA := A.out.frozen
  have lA : u1.heap.size < u13.heap.size := A.out.lt
  have kB_0 : u13.cell? ⟨u1.heap.size + 1, 0, none⟩ = some (.int .i64 b1) := B.out.cell 0
  have kB_1 : u13.cell? ⟨u1.heap.size + 1, 1, none⟩ = some (.int .i64 b2) := B.out.cell 1
  have fB := B.out.frozen
  have lB : u1.heap.size + 1 < u13.heap.size := B.out.lt
  have kC_0 : u13.cell? ⟨u3.heap.size, 0, none⟩ = some (.int .i64 c1) := C.out.cell 0
  have kC_1 : u13.cell? ⟨u3.heap.size, 1, none⟩ = some (.int .i64 c2) := C.out.cell 1
  have fC := C.out.frozen
  have lC : u3.heap.size < u13.heap.size := C.out.lt
  have kD_0 : u13.cell? ⟨u3.heap.size + 1, 0, none⟩ = some (.int .i64 d1) := D.out.cell 0
  have kD_1 : u13.cell? ⟨u3.heap.size + 1, 1, none⟩ = some (.int .i64 d2) := D.out.cell 1
  have fD := D.out.frozen
  have lD : u3.heap.size + 1 < u13.heap.size := D.out.lt
  have kQ_0 : u13.cell? ⟨u3.heap.size + 1 + 1, 0, none⟩ = some (.int .i64 a1) := Q.out.cell 0
  have kQ_1 : u13.cell? ⟨u3.heap.size + 1 + 1, 1, none⟩ = some (.int .i64 a2) := Q.out.cell 1
  have kQ_2 : u13.cell? ⟨u3.heap.size + 1 + 1, 2, none⟩ = some (.int .i64 b1) := Q.out.cell 2
  have kQ_3 : u13.cell? ⟨u3.heap.size + 1 + 1, 3, none⟩ = some (.int .i64 b2) := Q.out.cell 3
  have fQ := Q.out.frozen
  have lQ : u3.heap.size + 1 + 1 < u13.heap.size := Q.out.lt
  have kH_0 : u13.cell? ⟨u4.heap.size, 0, none⟩ = some (.int .i64 h1) := H.out.cell 0
  have kH_1 : u13.cell? ⟨u4.heap.size, 1, none⟩ = some (.int .i64 h2) := H.out.cell 1
  have fH := H.out.frozen
  have lH : u4.heap.size < u13.heap.size := H.out.lt
  have kX_0 : u13.cell? ⟨u7.heap.size, 0, none⟩ = some (.int .i64 (a1 + c1)) := X.out.cell 0
  have kX_1 : u13.cell? ⟨u7.heap.size, 1, none⟩ = some (.int .i64 (a2 + c2)) := X.out.cell 1
  have fX := X.out.frozen
  have lX : u7.heap.size < u13.heap.size := X.out.lt
  have kY_0 : u13.cell? ⟨u8.heap.size, 0, none⟩ = some (.int .i64 (b1 + c1)) := Y.out.cell 0
  have kY_1 : u13.cell? ⟨u8.heap.size, 1, none⟩ = some (.int .i64 (b2 + c2)) := Y.out.cell 1
  have fY := Y.out.frozen
  have lY : u8.heap.size < u13.heap.size := Y.out.lt
  have kZ_0 : u13.cell? ⟨u9.heap.size, 0, none⟩ = some (.int .i64 (h1 + c1)) := Z.out.cell 0
  have kZ_1 : u13.cell? ⟨u9.heap.size, 1, none⟩ = some (.int .i64 (h2 + c2)) := Z.out.cell 1
  have fZ := Z.out.frozen
  have lZ : u9.heap.size < u13.heap.size := Z.out.lt
  have kR_0 : u13.cell? ⟨u12.heap.size, 0, none⟩ = some (.int .i64 (a1 + c1)) := R.out.cell 0
  have kR_1 : u13.cell? ⟨u12.heap.size, 1, none⟩ = some (.int .i64 (a2 + c2)) := R.out.cell 1
  have kR_2 : u13.cell? ⟨u12.heap.size, 2, none⟩ = some (.int .i64 (b1 + c1)) := R.out.cell 2
  have kR_3 : u13.cell? ⟨u12.heap.size, 3, none⟩ = some (.int .i64 (b2 + c2)) := R.out.cell 3
  have fR := R.out.frozen
  have lR : u12.heap.size < u13.heap.size := R.out.lt
  go_wp2
  go_ret
  exact ⟨rfl, (G.out.alloc _).below⟩
end Go.Proofs.Ytciflcnfimpfgaa
