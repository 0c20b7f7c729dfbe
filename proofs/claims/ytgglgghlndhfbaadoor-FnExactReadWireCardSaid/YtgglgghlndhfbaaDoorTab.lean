/-
  Contracts of IsTable, the reference's and the program's, and of what they call.
-/
import Derived.Test.YtgglgghlndhfbaaDoorNum
import Derived.Test.YtgglgghlndhfbaaDoorInts
import Derived.Test.YtgglgghlndhfbaaDoorFind
import Derived.Test.YtgglgghlndhfbaaDoorOwn
namespace Go.Proofs.YtgglgghlndhfbaaDoor
open Go.RowKit

theorem quietL {P : Program} {f : FuncId} {args : Array Value} {w : World} {n : Nat} {v : Value}
    (h : Calls P f args (w.drewN n) fun e w' => e = .returned v ∧ w.drewN n = w') : Calls P f args (w.drewN n) fun e w'' => e = .returned v ∧ ∃ m, w'' = w.drewN m :=
  h.mono fun _ _ ⟨he, hm⟩ => ⟨he, n, hm.symm⟩

def wiB (xs : List Int) (lo hi : Int) : Bool := xs.all fun x => inB x lo hi
/-- strictly increasing -/
def incB (xs : List Int) : Bool := (List.range (xs.length - 1)).all fun j => decide (xs.getD j 0 < xs.getD (j + 1) 0)
theorem incB_at {xs : List Int} {j : Nat} {x y : Int} (h : incB xs = true) (hx : xs[j]? = some x) (hy : xs[j + 1]? = some y) : x < y := by
  have hj : j + 1 < xs.length := (List.getElem?_eq_some_iff.1 hy).1
  have := (List.all_eq_true.1 h) j (List.mem_range.2 (by omega))
  simpa [List.getD, hx, hy] using this
theorem incB_mk {xs : List Int} (h : ∀ (j : Nat) (x y : Int), xs[j]? = some x → xs[j + 1]? = some y → x < y) : incB xs = true := by
  refine List.all_eq_true.2 fun j hj => ?_
  have hj' : j + 1 < xs.length := by have := List.mem_range.1 hj; omega
  have h1 : xs[j]? = some xs[j] := List.getElem?_eq_getElem (by omega)
  have h2 : xs[j + 1]? = some xs[j + 1] := List.getElem?_eq_getElem hj'
  have := h j _ _ h1 h2
  simpa [List.getD, h1, h2] using this
theorem incB_no {xs : List Int} {j : Nat} {x y : Int} (hx : xs[j]? = some x) (hy : xs[j + 1]? = some y) (h : y ≤ x) : incB xs = false := by
  cases hb : incB xs with
  | false => rfl
  | true => have := incB_at hb hx hy; omega
theorem wiB_no {xs : List Int} {lo hi : Int} {j : Nat} {x : Int} (hx : xs[j]? = some x) (h : inB x lo hi = false) : wiB xs lo hi = false := by
  unfold wiB
  rw [List.all_eq_false]
  exact ⟨x, List.mem_of_getElem? hx, by simp [h]⟩
theorem wiB_mk {xs : List Int} {lo hi : Int} (h : ∀ (j : Nat) (x : Int), xs[j]? = some x → inB x lo hi = true) : wiB xs lo hi = true := by
  refine List.all_eq_true.2 fun x hx => ?_
  obtain ⟨j, hj⟩ := List.getElem?_of_mem hx
  exact h j x hj
theorem wiB_at {xs : List Int} {lo hi : Int} {j : Nat} {x : Int} (h : wiB xs lo hi = true) (hx : xs[j]? = some x) : lo ≤ x ∧ x ≤ hi :=
  inB_true ((List.all_eq_true.1 h) x (List.mem_of_getElem? hx))
theorem wiB_any (xs : List Int) (lo hi : Int) : (!(xs.any fun x => !inB x lo hi)) = wiB xs lo hi := by
  unfold wiB
  induction xs with
  | nil => rfl
  | cons a r ih => simp only [List.any_cons, List.all_cons, Bool.not_or, Bool.not_not, ih]
def axB (xs : List Int) : Bool := inB xs.length 1 4 && wiB xs 0 100000 && incB xs
def tabB (t : TableD) : Bool := axB t.slews && axB t.loads && decide (t.values.length = t.slews.length * t.loads.length) && wiB t.values (-1000000) 1000000

theorem axB_len {xs : List Int} (h : axB xs = true) : 1 ≤ xs.length ∧ xs.length ≤ 4 := by
  simp only [axB, Bool.and_eq_true] at h
  have := inB_true h.1.1
  omega
theorem tabB_parts {t : TableD} (h : tabB t = true) : axB t.slews = true ∧ axB t.loads = true ∧ t.values.length = t.slews.length * t.loads.length ∧ wiB t.values (-1000000) 1000000 = true := by
  simp only [tabB, Bool.and_eq_true, decide_eq_true_eq] at h
  exact ⟨h.1.1.1, h.1.1.2, h.1.2, h.2⟩
set_option maxHeartbeats 400000 in
theorem areWithin1_any (x lo hi : Int) (b1 b2 : Nat) (W : World) (h1 : W.cell? ⟨b1, 0, none⟩ = some (.int .i64 lo)) (h2 : W.cell? ⟨b2, 0, none⟩ = some (.int .i64 hi)) :
    Calls Tryd.prog 85 #[.int .i64 x, .pointer (some ⟨b1, 0, none⟩), .pointer (some ⟨b2, 0, none⟩)] W fun e W' => e = .returned (.bool (!inB x lo hi)) ∧ Grows W W' := by
  go_enter Tryd.func85, Tryd.ntmps85
  go_wp2_with (go_at_call 45; refine (within_any _ _ _ _).mono ?_; rintro e w' ⟨rfl, rfl⟩)
  go_ret
  exact ⟨rfl, Grows.refl _⟩
set_option maxHeartbeats 400000 in
theorem areWithin_any {v : Value} {xs : List Int} (lo hi : Int) (w : World) (h : RInts w v xs) :
    Calls Tryd.prog 62 #[v, .int .i64 lo, .int .i64 hi] w fun e w' => e = .returned (.bool (wiB xs lo hi)) ∧ Grows w w' := by
  have E := hideIt (wiB_any xs lo hi)
  have H := hideIt h
  clear h
  go_enter Tryd.func62, Tryd.ntmps62
  go_wp2_with fail
  have g0 : Grows w ((w.alloc (.cells #[.int .i64 lo] 2)).alloc (.cells #[.int .i64 hi] 2)) := ((Grows.refl _).alloc _).alloc _
  refine (containsFuncI64_any 85 _ (fun args W => enters_of Tryd.func85 (by kernel_rfl) rfl args W) (fun x => !inB x lo hi) _ (H.out.keep g0.keeps) ?_).mono ?_
  · intro x c0 W _ gw hr
    unfold RI at hr
    injection hr with hr
    subst hr
    exact areWithin1_any _ _ _ _ _ W (gw.keeps _ _ (by simp)) (gw.keeps _ _ (by simp))
  rintro e w1 ⟨rfl, g1⟩
  go_wp2
  go_ret
  exact ⟨ret_bool E.out, g0.trans g1⟩
set_option maxHeartbeats 400000 in
theorem lengthI64_any {v : Value} {xs : List Int} (w : World) (h : RInts w v xs) :
    Calls Tryd.prog 64 #[v] w fun e w' => e = .returned (.int .i64 (xs.length : Int)) ∧ w = w' := by
  have hl := h.len
  obtain ⟨A, c, rfl, hle, hc, hx⟩ := h.form
  clear hx h hle hc
  go_enter Tryd.func64, Tryd.ntmps64
  go_wp2
  go_ret
  exact ⟨rfl, rfl⟩
set_option maxHeartbeats 1000000 in
theorem isInc_any {v : Value} {xs : List Int} (w : World) (h : RInts w v xs) :
    Calls Tryd.prog 83 #[v] w fun e w' => e = .returned (.bool (incB xs)) ∧ Grows w w' := by
  have hl := h.len
  obtain ⟨A, c, rfl, hle, hc, hx⟩ := h.form
  have HX := hideIt hx
  clear hx h
  go_enter Tryd.func83, Tryd.ntmps83
  go_wp2
  go_loopw [3] (fun i wr => ∃ k : Nat, (k = 0 ∨ k < xs.length) ∧ i = .int .i64 ((k : Int) + 1) ∧ Hid (∀ (j : Nat) (x y : Int), j < k → xs[j]? = some x → xs[j + 1]? = some y → x < y) ∧ Grows w wr) (fun i _ => xs.length + 1 - (intOf i).toNat)
  case atStart => exact ⟨0, .inl rfl, rfl, fun i x y hi => absurd hi (by omega), Grows.refl _⟩
  case round =>
    obtain ⟨k, hk, rfl, hco, hg⟩ := hrel
    by_cases hlt : k + 1 < xs.length
    · obtain ⟨x, hx⟩ : ∃ x, xs[k]? = some x := ⟨_, List.getElem?_eq_getElem (by omega)⟩
      obtain ⟨y, hy⟩ : ∃ y, xs[k + 1]? = some y := ⟨_, List.getElem?_eq_getElem hlt⟩
      obtain ⟨b, off, rfl, cs, hl1, hcs, hr⟩ := HX.out k x hx
      obtain ⟨b', off', he, cs2, hl2, hcs2, hr2⟩ := HX.out (k + 1) y hy
      injection he with he
      injection he with he1 he2
      subst he1 he2
      unfold RI at hr hr2
      subst hr hr2
      have hs : wr.cell? ⟨b, off + k, none⟩ = some (.int .i64 x) := by simpa using hg.keeps _ _ (hcs 0 _ rfl)
      have hs2 : wr.cell? ⟨b, off + (k + 1), none⟩ = some (.int .i64 y) := by simpa using hg.keeps _ _ (hcs2 0 _ rfl)
      have X1 := hideIt hx
      have Y1 := hideIt hy
      clear hcs hcs2 hl1 hl2 hx hy hk
      by_cases hxy : y ≤ x
      · have XY := hideIt hxy
        go_wp2
        go_quiet (fail)
        go_wp2
        go_ret
        exact ⟨ret_bool (incB_no X1.out Y1.out XY.out).symm, by first | exact hg.drewN _ | exact (hg.drewN _).drewN _⟩
      · have hxy' : x < y := by omega
        have XY := hideIt hxy'
        go_wp2
        go_quiet (fail)
        go_wp2
        go_roundw
        case rel => exact ⟨k + 1, by omega, by go_num, fun j x' y' hj hx' hy' => by
          by_cases e : j = k
          · subst e
            rw [X1.out] at hx'
            rw [Y1.out] at hy'
            injection hx' with hx'
            injection hy' with hy'
            rw [← hx', ← hy']
            exact XY.out
          · exact hco.out j x' y' (by omega) hx' hy', by first | exact hg.drewN _ | exact (hg.drewN _).drewN _⟩
        case measure => simp [intOf]; omega
    · have HK := hideIt hk
      clear hk
      go_wp2
      go_ret
      exact ⟨ret_bool (incB_mk fun j x y hx hy => hco.out j x y (by have := (List.getElem?_eq_some_iff.1 hy).1; omega) hx hy).symm, hg⟩
set_option maxHeartbeats 1000000 in
theorem isAxis_any {v : Value} {xs : List Int} (w : World) (h : RInts w v xs) :
    Calls Tryd.prog 61 #[v] w fun e w' => e = .returned (.bool (axB xs)) ∧ Grows w w' := by
  have E : Hid (axB xs = (inB xs.length 1 4 && wiB xs 0 100000 && incB xs)) := rfl
  have H := hideIt h
  clear h
  cases h1 : inB xs.length 1 4
  · go_enter Tryd.func61, Tryd.ntmps61
    go_wp2_with (first | (go_at_call 64; refine (lengthI64_any _ H.out).mono ?_; rintro e w' ⟨rfl, rfl⟩) | (go_at_call 45; refine (within_any _ _ _ _).mono ?_; rintro e w' ⟨rfl, rfl⟩; rw [h1]))
    go_ret
    exact ⟨ret_bool (by rw [E.out, h1]; rfl), Grows.refl _⟩
  · cases h2 : wiB xs 0 100000
    · go_enter Tryd.func61, Tryd.ntmps61
      go_wp2_with (first | (go_at_call 64; refine (lengthI64_any _ H.out).mono ?_; rintro e w' ⟨rfl, rfl⟩) | (go_at_call 45; refine (within_any _ _ _ _).mono ?_; rintro e w' ⟨rfl, rfl⟩; rw [h1]) | (go_at_call 62; refine (areWithin_any _ _ _ H.out).mono ?_; rintro e w1 ⟨rfl, g1⟩; rw [h2]))
      go_ret
      exact ⟨ret_bool (by rw [E.out, h1, h2]; rfl), by assumption⟩
    · go_enter Tryd.func61, Tryd.ntmps61
      go_wp2_with (first | (go_at_call 64; refine (lengthI64_any _ H.out).mono ?_; rintro e w' ⟨rfl, rfl⟩) | (go_at_call 45; refine (within_any _ _ _ _).mono ?_; rintro e w' ⟨rfl, rfl⟩; rw [h1]))
      refine (areWithin_any _ _ _ H.out).mono ?_
      rintro e w1 ⟨rfl, g1⟩
      rw [h2]
      go_wp2_with (go_at_call 83; refine (isInc_any _ (H.out.keep g1.keeps)).mono ?_; rintro e w2 ⟨rfl, g2⟩)
      go_ret
      exact ⟨ret_bool (by rw [E.out, h1, h2]; rfl), g1.trans (by assumption)⟩
theorem prod_bd {a b : Nat} (ha : a ≤ 4) (hb : b ≤ 4) : 0 ≤ (a : Int) * b ∧ (a : Int) * b ≤ 16 := by
  have h := Nat.mul_le_mul ha hb
  refine ⟨by rw [← Int.natCast_mul]; omega, by rw [← Int.natCast_mul]; omega⟩
set_option maxHeartbeats 2000000 in
theorem iIsTable_any {a b c : Value} {t : TableD} (w : World) (h : RTable w [a, b, c] t) :
    Calls Tryd.prog 36 #[.agg #[a, b, c]] w fun e w' => e = .returned (.bool (tabB t)) ∧ Grows w w' := by
  have E : Hid (tabB t = (axB t.slews && axB t.loads && decide (t.values.length = t.slews.length * t.loads.length) && wiB t.values (-1000000) 1000000)) := rfl
  obtain ⟨a', b', c', he, ha, hb, hc⟩ := h
  injection he with e1 he
  injection he with e2 he
  injection he with e3 he
  subst e1 e2 e3
  clear he
  have g0 := (Grows.refl w).alloc (.cells #[a, b, c] 29)
  have HA := hideIt (ha.keep g0.keeps)
  have HB := hideIt (hb.keep g0.keeps)
  have HC := hideIt (hc.keep g0.keeps)
  have G0 := hideIt g0
  clear g0
  cases h1 : axB t.slews
  · clear ha hb hc
    go_enter Tryd.func36, Tryd.ntmps36
    go_wp2_with (go_at_call 61; refine (isAxis_any _ HA.out).mono ?_; rintro e w1 ⟨rfl, g1⟩; rw [h1])
    go_ret
    exact ⟨ret_bool (by rw [E.out, h1]; rfl), G0.out.trans (by assumption)⟩
  cases h2 : axB t.loads
  · clear ha hb hc
    go_enter Tryd.func36, Tryd.ntmps36
    go_wp2_with fail
    refine (isAxis_any _ HA.out).mono ?_
    rintro e w1 ⟨rfl, g1⟩
    rw [h1]
    obtain ⟨c1, f1⟩ := g1.cells
    have z1 : w.heap.size < w1.heap.size := by have := g1.size; simp at this; omega
    go_wp2_with (go_at_call 61; refine (isAxis_any _ (HB.out.keep g1.keeps)).mono ?_; rintro e w2 ⟨rfl, g2⟩; rw [h2])
    go_ret
    exact ⟨ret_bool (by rw [E.out, h1, h2]; rfl), (G0.out.trans g1).trans (by assumption)⟩
  have l1 := axB_len h1
  have l2 := axB_len h2
  have l3 := hc.len
  obtain ⟨A1, n1, rfl, -, -, -⟩ := ha.form
  obtain ⟨A2, n2, rfl, -, -, -⟩ := hb.form
  obtain ⟨A3, n3, rfl, -, -, -⟩ := hc.form
  clear ha hb hc
  obtain ⟨pb1, pb2⟩ := prod_bd l1.2 l2.2
  by_cases h3 : t.values.length = t.slews.length * t.loads.length
  · have hb3 : ((t.values.length : Int) == (t.slews.length : Int) * (t.loads.length : Int)) = true := by rw [beq_iff_eq, h3]; simp
    have H3 := hideIt h3
    clear h3
    go_enter Tryd.func36, Tryd.ntmps36
    go_wp2_with fail
    refine (isAxis_any _ HA.out).mono ?_
    rintro e w1 ⟨rfl, g1⟩
    rw [h1]
    obtain ⟨c1, f1⟩ := g1.cells
    have z1 : w.heap.size < w1.heap.size := by have := g1.size; simp at this; omega
    go_wp2_with fail
    refine (isAxis_any _ (HB.out.keep g1.keeps)).mono ?_
    rintro e w2 ⟨rfl, g2⟩
    rw [h2]
    obtain ⟨c2, f2⟩ := g2.cells
    have z2 : w.heap.size < w2.heap.size := by have := g2.size; omega
    go_wp2_with (go_at_call 62; refine (areWithin_any _ _ _ ((HC.out.keep g1.keeps).keep g2.keeps)).mono ?_; rintro e w3 ⟨rfl, g3⟩)
    go_ret
    exact ⟨ret_bool (by rw [E.out, h1, h2, decide_eq_true H3.out]; rfl), ((G0.out.trans g1).trans g2).trans (by assumption)⟩
  · have hb3 : ((t.values.length : Int) == (t.slews.length : Int) * (t.loads.length : Int)) = false := by
      rw [beq_eq_false_iff_ne]; intro he; apply h3; rw [← Int.natCast_mul] at he; omega
    have H3 := hideIt h3
    clear h3
    go_enter Tryd.func36, Tryd.ntmps36
    go_wp2_with fail
    refine (isAxis_any _ HA.out).mono ?_
    rintro e w1 ⟨rfl, g1⟩
    rw [h1]
    obtain ⟨c1, f1⟩ := g1.cells
    have z1 : w.heap.size < w1.heap.size := by have := g1.size; simp at this; omega
    go_wp2_with fail
    refine (isAxis_any _ (HB.out.keep g1.keeps)).mono ?_
    rintro e w2 ⟨rfl, g2⟩
    rw [h2]
    obtain ⟨c2, f2⟩ := g2.cells
    have z2 : w.heap.size < w2.heap.size := by have := g2.size; omega
    go_wp2_with fail
    go_ret
    exact ⟨ret_bool (by rw [E.out, h1, h2, decide_eq_false H3.out]; rfl), (G0.out.trans g1).trans g2⟩
theorem RTable.open_ {w : World} {a b c : Value} {t : TableD} (h : RTable w [a, b, c] t) : RInts w a t.slews ∧ RInts w b t.loads ∧ RInts w c t.values := by
  obtain ⟨a', b', c', he, ha, hb, hc⟩ := h
  injection he with e1 he
  injection he with e2 he
  injection he with e3 he
  subst e1 e2 e3
  clear he
  exact ⟨ha, hb, hc⟩
theorem RInts.shape {w : World} {v : Value} {xs : List Int} (h : RInts w v xs) : ∃ (A : Option Addr) (n : Nat), v = .slice A xs.length n := by
  obtain ⟨A, c, hv, _⟩ := h
  exact ⟨A, c, hv⟩
theorem RTable.shape {w : World} {a b c : Value} {t : TableD} (h : RTable w [a, b, c] t) :
    (∃ (A : Option Addr) (n : Nat), a = .slice A t.slews.length n) ∧ (∃ (A : Option Addr) (n : Nat), b = .slice A t.loads.length n) ∧ (∃ (A : Option Addr) (n : Nat), c = .slice A t.values.length n) :=
  ⟨h.open_.1.shape, h.open_.2.1.shape, h.open_.2.2.shape⟩
set_option maxHeartbeats 1000000 in
theorem eqTable_same {a b c a2 b2 c2 : Value} {t : TableD} (w : World) (h : RTable w [a, b, c] t) (h2 : RTable w [a2, b2, c2] t) :
    Calls Tryd.prog 14 #[.agg #[a, b, c], .agg #[a2, b2, c2]] w fun e w' => e = .returned (.bool true) ∧ Grows w w' := by
  obtain ⟨ha, hb, hc⟩ := h.open_
  obtain ⟨ka, kb, kc⟩ := h2.open_
  have H0 := hideIt ha
  have H1 := hideIt hb
  have H2 := hideIt hc
  have M0 := hideIt ka
  have M1 := hideIt kb
  have M2 := hideIt kc
  clear ha hb hc ka kb kc h h2
  have g0 : Grows w ((w.alloc (.cells #[a, b, c] 29)).alloc (.cells #[a2, b2, c2] 29)) := ((Grows.refl w).alloc _).alloc _
  have s0 : Blk ((w.alloc (.cells #[a, b, c] 29)).alloc (.cells #[a2, b2, c2] 29)) (w.heap.size) 29 #[a, b, c] := (Blk.new w _ _).grows ((Grows.refl _).alloc _)
  have r0 : Blk ((w.alloc (.cells #[a, b, c] 29)).alloc (.cells #[a2, b2, c2] 29)) (w.heap.size + 1) 29 #[a2, b2, c2] := by have := Blk.new (w.alloc (.cells #[a, b, c] 29)) 29 #[a2, b2, c2]; simpa using this
  have G0 := hideIt g0
  have S0 := hideIt s0
  have R0 := hideIt r0
  clear g0 s0 r0
  go_enter Tryd.func14, Tryd.ntmps14
  go_wp2_with fail
  refine (eqInts_same _ (H0.out.keep G0.out.keeps) (M0.out.keep G0.out.keeps)).mono ?_
  rintro e u0 ⟨rfl, g0⟩
  have s1 := S0.out.grows g0
  have ks0_0 : u0.cell? ⟨w.heap.size, 0, none⟩ = some (a) := s1.cell 0
  have ks0_1 : u0.cell? ⟨w.heap.size, 1, none⟩ = some (b) := s1.cell 1
  have ks0_2 : u0.cell? ⟨w.heap.size, 2, none⟩ = some (c) := s1.cell 2
  have r1 := R0.out.grows g0
  have kr0_0 : u0.cell? ⟨w.heap.size + 1, 0, none⟩ = some (a2) := r1.cell 0
  have kr0_1 : u0.cell? ⟨w.heap.size + 1, 1, none⟩ = some (b2) := r1.cell 1
  have kr0_2 : u0.cell? ⟨w.heap.size + 1, 2, none⟩ = some (c2) := r1.cell 2
  have G1 := hideIt (G0.out.trans g0)
  have S1 := hideIt s1
  have R1 := hideIt r1
  clear s1 r1 g0
  go_wp2_with fail
  clear ks0_0 kr0_0 ks0_1 kr0_1 ks0_2 kr0_2
  refine (eqInts_same _ (H1.out.keep G1.out.keeps) (M1.out.keep G1.out.keeps)).mono ?_
  rintro e u1 ⟨rfl, g1⟩
  have s2 := S1.out.grows g1
  have ks1_0 : u1.cell? ⟨w.heap.size, 0, none⟩ = some (a) := s2.cell 0
  have ks1_1 : u1.cell? ⟨w.heap.size, 1, none⟩ = some (b) := s2.cell 1
  have ks1_2 : u1.cell? ⟨w.heap.size, 2, none⟩ = some (c) := s2.cell 2
  have r2 := R1.out.grows g1
  have kr1_0 : u1.cell? ⟨w.heap.size + 1, 0, none⟩ = some (a2) := r2.cell 0
  have kr1_1 : u1.cell? ⟨w.heap.size + 1, 1, none⟩ = some (b2) := r2.cell 1
  have kr1_2 : u1.cell? ⟨w.heap.size + 1, 2, none⟩ = some (c2) := r2.cell 2
  have G2 := hideIt (G1.out.trans g1)
  have S2 := hideIt s2
  have R2 := hideIt r2
  clear s2 r2 g1
  go_wp2_with fail
  clear ks1_0 kr1_0 ks1_1 kr1_1 ks1_2 kr1_2
  refine (eqInts_same _ (H2.out.keep G2.out.keeps) (M2.out.keep G2.out.keeps)).mono ?_
  rintro e u2 ⟨rfl, g2⟩
  have s3 := S2.out.grows g2
  have ks2_0 : u2.cell? ⟨w.heap.size, 0, none⟩ = some (a) := s3.cell 0
  have ks2_1 : u2.cell? ⟨w.heap.size, 1, none⟩ = some (b) := s3.cell 1
  have ks2_2 : u2.cell? ⟨w.heap.size, 2, none⟩ = some (c) := s3.cell 2
  have r3 := R2.out.grows g2
  have kr2_0 : u2.cell? ⟨w.heap.size + 1, 0, none⟩ = some (a2) := r3.cell 0
  have kr2_1 : u2.cell? ⟨w.heap.size + 1, 1, none⟩ = some (b2) := r3.cell 1
  have kr2_2 : u2.cell? ⟨w.heap.size + 1, 2, none⟩ = some (c2) := r3.cell 2
  have G3 := hideIt (G2.out.trans g2)
  have S3 := hideIt s3
  have R3 := hideIt r3
  clear s3 r3 g2
  go_wp2
  go_ret
  exact ⟨rfl, G3.out⟩
set_option maxHeartbeats 2000000 in
theorem l02Axis_any {v : Value} {xs : List Int} (w : World) (h : RInts w v xs) :
    Calls Tryd.prog 81 #[v] w fun e w' => e = .returned (.bool (axB xs)) ∧ Grows w w' := by
  have E : Hid (axB xs = (inB xs.length 1 4 && wiB xs 0 100000 && incB xs)) := rfl
  have hl := h.len
  obtain ⟨A, c, rfl, hle, hc, hx⟩ := h.form
  have HX := hideIt hx
  clear hx h hle hc
  go_enter Tryd.func81, Tryd.ntmps81
  go_wp2
  go_loopw [3] (fun i wr => ∃ k : Nat, k ≤ xs.length ∧ i = .int .i64 (k : Int) ∧ Hid ((∀ (j : Nat) (x : Int), j < k → xs[j]? = some x → inB x 0 100000 = true) ∧ ∀ (j : Nat) (x y : Int), j + 1 < k → xs[j]? = some x → xs[j + 1]? = some y → x < y) ∧ Grows w wr) (fun i _ => xs.length - (intOf i).toNat)
  case atStart => exact ⟨0, Nat.zero_le _, rfl, ⟨fun i x hi => absurd hi (by omega), fun i x y hi => absurd hi (by omega)⟩, Grows.refl _⟩
  case round =>
    obtain ⟨k, hk, rfl, hco, hg⟩ := hrel
    by_cases hlt : k < xs.length
    · obtain ⟨x, hx⟩ : ∃ x, xs[k]? = some x := ⟨_, List.getElem?_eq_getElem (by omega)⟩
      obtain ⟨b, off, rfl, cs, hl1, hcs, hr⟩ := HX.out k x hx
      unfold RI at hr
      subst hr
      have hs : wr.cell? ⟨b, off + k, none⟩ = some (.int .i64 x) := by simpa using hg.keeps _ _ (hcs 0 _ rfl)
      have X1 := hideIt hx
      clear hcs hl1 hx
      cases hin : inB x 0 100000
      · have HI := hideIt hin
        go_wp2
        go_quiet ((go_at_call 25; first | exact quietL (HI.out ▸ l01In_any _ _ _ _)))
        go_wp2
        go_ret
        exact ⟨ret_bool (by rw [E.out, wiB_no X1.out HI.out]; simp), by first | exact hg.drewN _ | exact (hg.drewN _).drewN _⟩
      · have HI := hideIt hin
        rcases k with _ | m
        · simp only [Nat.add_zero] at hs
          go_wp2
          go_quiet ((go_at_call 25; first | exact quietL (HI.out ▸ l01In_any _ _ _ _)))
          go_wp2
          go_roundw
          case rel => exact ⟨1, by omega, by go_num, ⟨fun j x' hj hx' => by
            obtain rfl : j = 0 := by omega
            rw [X1.out] at hx'; injection hx' with hx'; rw [← hx']; exact HI.out, fun j x y hj => absurd hj (by omega)⟩, by first | exact hg.drewN _ | exact (hg.drewN _).drewN _⟩
          case measure => simp [intOf]; omega
        · obtain ⟨y, hy⟩ : ∃ y, xs[m]? = some y := ⟨_, List.getElem?_eq_getElem (by omega)⟩
          obtain ⟨b', off', he, cs2, hl2, hcs2, hr2⟩ := HX.out m y hy
          injection he with he
          injection he with he1 he2
          subst he1 he2
          unfold RI at hr2
          subst hr2
          have hs2 : wr.cell? ⟨b, off + m, none⟩ = some (.int .i64 y) := by simpa using hg.keeps _ _ (hcs2 0 _ rfl)
          have Y1 := hideIt hy
          clear hcs2 hl2 hy
          by_cases hxy : x ≤ y
          · have XY := hideIt hxy
            go_wp2
            go_quiet ((go_at_call 25; first | exact quietL (HI.out ▸ l01In_any _ _ _ _)))
            go_wp2
            go_ret
            exact ⟨ret_bool (by rw [E.out, incB_no Y1.out X1.out XY.out]; simp), by first | exact hg.drewN _ | exact (hg.drewN _).drewN _⟩
          · have hxy' : y < x := by omega
            have XY := hideIt hxy'
            go_wp2
            go_quiet ((go_at_call 25; first | exact quietL (HI.out ▸ l01In_any _ _ _ _)))
            go_wp2
            go_roundw
            case rel => exact ⟨m + 1 + 1, by omega, by go_num, ⟨fun j x' hj hx' => by
              by_cases e : j = m + 1
              · subst e; rw [X1.out] at hx'; injection hx' with hx'; rw [← hx']; exact HI.out
              · exact hco.out.1 j x' (by omega) hx', fun j x' y' hj hx' hy' => by
              by_cases e : j = m
              · subst e
                rw [Y1.out] at hx'
                rw [X1.out] at hy'
                injection hx' with hx'
                injection hy' with hy'
                rw [← hx', ← hy']
                exact XY.out
              · exact hco.out.2 j x' y' (by omega) hx' hy'⟩, by first | exact hg.drewN _ | exact (hg.drewN _).drewN _⟩
            case measure => simp [intOf]; omega
    · have hk2 : k = xs.length := by omega
      subst hk2
      have E2 : Hid (axB xs = inB xs.length 1 4) := by
        show axB xs = inB xs.length 1 4
        rw [E.out, wiB_mk fun j x hx => hco.out.1 j x (List.getElem?_eq_some_iff.1 hx).1 hx, incB_mk fun j x y hx hy => hco.out.2 j x y (List.getElem?_eq_some_iff.1 hy).1 hx hy]
        simp
      by_cases hn1 : 1 ≤ xs.length <;> by_cases hn2 : xs.length ≤ 4
      all_goals go_wp2
      all_goals go_ret
      all_goals exact ⟨ret_bool (by rw [E2.out]; simp [inB]; omega), hg⟩
set_option maxHeartbeats 2000000 in
theorem sIsTable_any {a b c : Value} {t : TableD} (w : World) (h : RTable w [a, b, c] t) :
    Calls Tryd.prog 57 #[.agg #[a, b, c]] w fun e w' => e = .returned (.bool (tabB t)) ∧ Grows w w' := by
  have E : Hid (tabB t = (axB t.slews && axB t.loads && decide (t.values.length = t.slews.length * t.loads.length) && wiB t.values (-1000000) 1000000)) := rfl
  obtain ⟨ha, hb, hc⟩ := h.open_
  have g0 := (Grows.refl w).alloc (.cells #[a, b, c] 29)
  have HA := hideIt (ha.keep g0.keeps)
  have HB := hideIt (hb.keep g0.keeps)
  have HC := hideIt (hc.keep g0.keeps)
  have G0 := hideIt g0
  clear g0 h
  cases h1 : axB t.slews
  · clear ha hb hc
    go_enter Tryd.func57, Tryd.ntmps57
    go_wp2_with (go_at_call 81; refine (l02Axis_any _ HA.out).mono ?_; rintro e w1 ⟨rfl, g1⟩; rw [h1])
    go_ret
    exact ⟨ret_bool (by rw [E.out, h1]; rfl), G0.out.trans (by assumption)⟩
  cases h2 : axB t.loads
  · clear ha hb hc
    go_enter Tryd.func57, Tryd.ntmps57
    go_wp2_with fail
    refine (l02Axis_any _ HA.out).mono ?_
    rintro e w1 ⟨rfl, g1⟩
    rw [h1]
    obtain ⟨c1, f1⟩ := g1.cells
    have z1 : w.heap.size < w1.heap.size := by have := g1.size; simp at this; omega
    go_wp2_with (go_at_call 81; refine (l02Axis_any _ (HB.out.keep g1.keeps)).mono ?_; rintro e w2 ⟨rfl, g2⟩; rw [h2])
    go_ret
    exact ⟨ret_bool (by rw [E.out, h1, h2]; rfl), (G0.out.trans g1).trans (by assumption)⟩
  have l1 := axB_len h1
  have l2 := axB_len h2
  have l3 := hc.len
  obtain ⟨A1, n1, rfl, -, -, -⟩ := ha.form
  obtain ⟨A2, n2, rfl, -, -, -⟩ := hb.form
  obtain ⟨A3, n3, rfl, -, -, hx⟩ := hc.form
  have HX := hideIt hx
  clear ha hb hc hx
  obtain ⟨pb1, pb2⟩ := prod_bd l1.2 l2.2
  by_cases h3 : t.values.length = t.slews.length * t.loads.length
  · have hb3 : ((t.values.length : Int) != (t.slews.length : Int) * (t.loads.length : Int)) = false := by simp [h3]
    have H3 := hideIt h3
    clear h3
    go_enter Tryd.func57, Tryd.ntmps57
    go_wp2_with fail
    refine (l02Axis_any _ HA.out).mono ?_
    rintro e w1 ⟨rfl, g1⟩
    rw [h1]
    obtain ⟨c1, f1⟩ := g1.cells
    have z1 : w.heap.size < w1.heap.size := by have := g1.size; simp at this; omega
    go_wp2_with fail
    refine (l02Axis_any _ (HB.out.keep g1.keeps)).mono ?_
    rintro e w2 ⟨rfl, g2⟩
    rw [h2]
    have gw : Grows w w2 := (G0.out.trans g1).trans g2
    have k2 : w2.cell? ⟨w.heap.size, 2, none⟩ = some (.slice A3 t.values.length n3) := (g2.cells.1 _ _ z1).trans ((c1 _ _ (by simp)).trans (by simp))
    have k1 : w2.cell? ⟨w.heap.size, 1, none⟩ = some (.slice A2 t.loads.length n2) := (g2.cells.1 _ _ z1).trans ((c1 _ _ (by simp)).trans (by simp))
    have k0 : w2.cell? ⟨w.heap.size, 0, none⟩ = some (.slice A1 t.slews.length n1) := (g2.cells.1 _ _ z1).trans ((c1 _ _ (by simp)).trans (by simp))
    have GW := hideIt gw
    clear c1 f1 g1 g2 gw z1
    go_wp2_with fail
    go_loopw [3] (fun i wr => ∃ k : Nat, k ≤ t.values.length ∧ i = .int .i64 (k : Int) ∧ Hid (∀ (j : Nat) (x : Int), j < k → t.values[j]? = some x → inB x (-1000000) 1000000 = true) ∧ wr = w2) (fun i _ => t.values.length - (intOf i).toNat)
    case atStart => exact ⟨0, Nat.zero_le _, rfl, fun i x hi => absurd hi (by omega), rfl⟩
    case round =>
      obtain ⟨k, hk, rfl, hco, rfl⟩ := hrel
      by_cases hlt : k < t.values.length
      · obtain ⟨x, hx⟩ : ∃ x, t.values[k]? = some x := ⟨_, List.getElem?_eq_getElem (by omega)⟩
        obtain ⟨b, off, rfl, cs, hl1, hcs, hr⟩ := HX.out k x hx
        unfold RI at hr
        subst hr
        have hs : wr.cell? ⟨b, off + k, none⟩ = some (.int .i64 x) := by simpa using GW.out.keeps _ _ (hcs 0 _ rfl)
        have X1 := hideIt hx
        clear hcs hl1 hx
        cases hin : inB x (-1000000) 1000000
        · have HI := hideIt hin
          go_wp2_with (go_at_call 25; refine (l01In_any _ _ _ _).mono ?_; rintro e w3 ⟨rfl, rfl⟩; rw [HI.out])
          go_ret
          exact ⟨ret_bool (by rw [E.out, wiB_no X1.out HI.out]; simp), GW.out⟩
        · have HI := hideIt hin
          go_wp2_with (go_at_call 25; refine (l01In_any _ _ _ _).mono ?_; rintro e w3 ⟨rfl, rfl⟩; rw [HI.out])
          go_roundw
          case rel => exact ⟨k + 1, by omega, by go_num, fun j x' hj hx' => by
            by_cases e : j = k
            · subst e; rw [X1.out] at hx'; injection hx' with hx'; rw [← hx']; exact HI.out
            · exact hco.out j x' (by omega) hx', by trivial⟩
          case measure => simp [intOf]; omega
      · have hk2 : k = t.values.length := by omega
        subst hk2
        go_wp2
        go_ret
        exact ⟨ret_bool (by rw [E.out, h1, h2, decide_eq_true H3.out, wiB_mk fun j x hx => hco.out j x (List.getElem?_eq_some_iff.1 hx).1 hx]; rfl), GW.out⟩
  · have hb3 : ((t.values.length : Int) != (t.slews.length : Int) * (t.loads.length : Int)) = true := by
      rw [bne_iff_ne]; intro he; apply h3; rw [← Int.natCast_mul] at he; omega
    have H3 := hideIt h3
    clear h3
    go_enter Tryd.func57, Tryd.ntmps57
    go_wp2_with fail
    refine (l02Axis_any _ HA.out).mono ?_
    rintro e w1 ⟨rfl, g1⟩
    rw [h1]
    obtain ⟨c1, f1⟩ := g1.cells
    have z1 : w.heap.size < w1.heap.size := by have := g1.size; simp at this; omega
    go_wp2_with fail
    refine (l02Axis_any _ (HB.out.keep g1.keeps)).mono ?_
    rintro e w2 ⟨rfl, g2⟩
    rw [h2]
    obtain ⟨c2, f2⟩ := g2.cells
    have z2 : w.heap.size < w2.heap.size := by have := g2.size; omega
    go_wp2_with fail
    go_ret
    exact ⟨ret_bool (by rw [E.out, h1, h2, decide_eq_false H3.out]; rfl), (G0.out.trans g1).trans g2⟩
end Go.Proofs.YtgglgghlndhfbaaDoor
