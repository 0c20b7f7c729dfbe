/-
  Contract of ScaleTable, the program's.
-/
import Derived.Test.YtgglgghlndhfbaaScaleB
import Derived.Test.YtgglgghlndhfbaaReg3
import Derived.Test.YtgglgghlndhfbaaRound
namespace Go.Proofs.Ytgglgghlndhfbaa
open Go.RowKit
theorem ints_cell {w : World} {A : Option Addr} {n m i : Nat} {xs : List Int} {x : Int} (h : RInts w (.slice A n m) xs) (hx : xs[i]? = some x) : ∃ b off : Nat, A = some ⟨b, off, none⟩ ∧ w.cell? ⟨b, off + i, none⟩ = some (.int .i64 x) := by
  obtain ⟨A', c', e, -, -, h3⟩ := h
  injection e with e1
  subst e1
  rcases h3 with rfl | ⟨b, off, hA, h4⟩
  · simp at hx
  · obtain ⟨cs, hl, hc, hr⟩ := h4 i x hx
    have hr' : cs = [.int .i64 x] := hr
    subst hr'
    exact ⟨b, off, hA, by simpa using hc 0 _ rfl⟩
/-- the first j elements turned, the others still 0 -/
def midS (xs : List Int) (f : Int → Int) (j : Nat) : List Int := (xs.take j).map f ++ List.replicate (xs.length - j) 0
theorem midS_zero {xs : List Int} {f : Int → Int} : midS xs f 0 = List.replicate xs.length 0 := by simp [midS]
theorem midS_all {xs : List Int} {f : Int → Int} : midS xs f xs.length = xs.map f := by simp [midS]
theorem midS_len (xs : List Int) (f : Int → Int) {j : Nat} (h : j ≤ xs.length) : (midS xs f j).length = xs.length := by simp [midS]; omega
theorem midS_step {xs : List Int} {f : Int → Int} {j : Nat} {x : Int} (h : xs[j]? = some x) : (midS xs f j).set j (f x) = midS xs f (j + 1) := by
  have hj := (List.getElem?_eq_some_iff.1 h).1
  have hl : ((xs.take j).map f).length = j := by simp; omega
  unfold midS
  rw [List.set_append_right _ _ (by omega), hl, Nat.sub_self, show xs.length - j = (xs.length - (j + 1)) + 1 by omega, List.replicate_succ, List.set_cons_zero, List.take_add_one, h, List.map_append, List.append_assoc]
  rfl
theorem made_oints {w : World} (n : Nat) (hn : n ≤ 16) : OInts (w.alloc (.cells (madeCells #[.int .i64 0] n) 2)) (.slice (some ⟨w.heap.size, 0, none⟩) n n) (List.replicate n 0) [w.heap.size] := by
  have key := OInts.of_row (w := w.alloc (.cells (madeCells #[.int .i64 0] n) 2)) (g := w.heap.size) (c := n) (xs := List.replicate n 0) (by simp) (by unfold maxLen; omega) (Blk.new w _ _) (fun i x hx => by
    rw [List.getElem?_replicate] at hx
    split at hx
    · rename_i hi
      injection hx with hx
      subst hx
      simp [madeCells, hi, Nat.mod_one]
    · cases hx)
  rwa [List.length_replicate] at key
theorem OInts.drew {w : World} {v : Value} {xs : List Int} {bs : List Nat} (h : OInts w v xs bs) : OInts w.drew v xs bs := h.same (fun _ _ => rfl)
theorem OInts.drewN {w : World} {v : Value} {xs : List Int} {bs : List Nat} (h : OInts w v xs bs) (n : Nat) : OInts (w.drewN n) v xs bs := h.same (fun _ _ => rfl)
set_option maxHeartbeats 400000000 in
set_option maxRecDepth 10000 in
theorem iScale_any {a b c : Value} {t : TableD} (k m : Int) (w : World) (h : RTable w [a, b, c] t) :
    Calls Try.prog 9 #[.agg #[a, b, c], .int .i64 k, .int .i64 m] w (RetTable (scTV t k m) (scTC t k m) w) := by
  cases hv : tabB t
  · have g : Grows w w := Grows.refl w
    have G : Hid (Grows w ((w.alloc (.cells #[a, b, c] 26)).alloc (.cells #[.slice none 0 0, .slice none 0 0, .slice none 0 0] 26))) := hideIt (((Grows.refl w).alloc _).alloc _)
    clear g
    have S : Hid (Blk ((w.alloc (.cells #[a, b, c] 26)).alloc (.cells #[.slice none 0 0, .slice none 0 0, .slice none 0 0] 26)) (w.heap.size) 26 #[a, b, c]) := by
      have := (Blk.new w 26 #[a, b, c]).grows ((Grows.refl (w.alloc (.cells #[a, b, c] 26))).alloc (.cells #[.slice none 0 0, .slice none 0 0, .slice none 0 0] 26))
      exact hideIt (by simpa using this)
    have R : Hid (Blk ((w.alloc (.cells #[a, b, c] 26)).alloc (.cells #[.slice none 0 0, .slice none 0 0, .slice none 0 0] 26)) (w.heap.size + 1) 26 #[.slice none 0 0, .slice none 0 0, .slice none 0 0]) := by
      have := (Blk.new (w.alloc (.cells #[a, b, c] 26)) 26 #[.slice none 0 0, .slice none 0 0, .slice none 0 0]).grows (Grows.refl ((w.alloc (.cells #[a, b, c] 26)).alloc (.cells #[.slice none 0 0, .slice none 0 0, .slice none 0 0] 26)))
      exact hideIt (by simpa using this)
    replace h := hideIt (h.keep G.out.keeps)
    go_enter Try.func9, Try.ntmps9
    go_wp2_with fail
    refine (iIsTable_any _ h.out).mono ?_
    rintro e u1 ⟨rfl, g⟩
    replace G := hideIt (G.out.trans g)
    replace h := hideIt (h.out.keep g.keeps)
    replace S := hideIt (S.out.grows g)
    replace R := hideIt (R.out.grows g)
    rw [hv]
    clear g
    have kS_0 : u1.cell? ⟨w.heap.size, 0, none⟩ = some (a) := S.out.cell 0
    have kS_1 : u1.cell? ⟨w.heap.size, 1, none⟩ = some (b) := S.out.cell 1
    have kS_2 : u1.cell? ⟨w.heap.size, 2, none⟩ = some (c) := S.out.cell 2
    have fS := S.out.frozen
    have lS : w.heap.size < u1.heap.size := S.out.lt
    have kR_0 : u1.cell? ⟨w.heap.size + 1, 0, none⟩ = some (.slice none 0 0) := R.out.cell 0
    have kR_1 : u1.cell? ⟨w.heap.size + 1, 1, none⟩ = some (.slice none 0 0) := R.out.cell 1
    have kR_2 : u1.cell? ⟨w.heap.size + 1, 2, none⟩ = some (.slice none 0 0) := R.out.cell 2
    have fR := R.out.frozen
    have lR : w.heap.size + 1 < u1.heap.size := R.out.lt
    have EV := hideIt (show scTV t k m = ⟨[], [], []⟩ by unfold scTV; rw [if_neg (by simp [hv])])
    have EC := hideIt (show scTC t k m = 1 by unfold scTC; simp [hv])
    go_wp2
    refine bodyPost_ret (by simp [*, results, Try.results9, go_sem]; try rfl) rfl ?_
    rw [EV.out, EC.out]
    exact ret_nil (by repeat (first | exact G.out | refine Grows.setCell ?_ (by simp <;> omega) _ | refine Grows.drewN ?_ _ | refine Grows.drew ?_))
  by_cases hkm : inB k 0 10000 = true ∧ isM m = true
  rotate_left
  · have g : Grows w w := Grows.refl w
    have G : Hid (Grows w ((w.alloc (.cells #[a, b, c] 26)).alloc (.cells #[.slice none 0 0, .slice none 0 0, .slice none 0 0] 26))) := hideIt (((Grows.refl w).alloc _).alloc _)
    clear g
    have S : Hid (Blk ((w.alloc (.cells #[a, b, c] 26)).alloc (.cells #[.slice none 0 0, .slice none 0 0, .slice none 0 0] 26)) (w.heap.size) 26 #[a, b, c]) := by
      have := (Blk.new w 26 #[a, b, c]).grows ((Grows.refl (w.alloc (.cells #[a, b, c] 26))).alloc (.cells #[.slice none 0 0, .slice none 0 0, .slice none 0 0] 26))
      exact hideIt (by simpa using this)
    have R : Hid (Blk ((w.alloc (.cells #[a, b, c] 26)).alloc (.cells #[.slice none 0 0, .slice none 0 0, .slice none 0 0] 26)) (w.heap.size + 1) 26 #[.slice none 0 0, .slice none 0 0, .slice none 0 0]) := by
      have := (Blk.new (w.alloc (.cells #[a, b, c] 26)) 26 #[.slice none 0 0, .slice none 0 0, .slice none 0 0]).grows (Grows.refl ((w.alloc (.cells #[a, b, c] 26)).alloc (.cells #[.slice none 0 0, .slice none 0 0, .slice none 0 0] 26)))
      exact hideIt (by simpa using this)
    replace h := hideIt (h.keep G.out.keeps)
    go_enter Try.func9, Try.ntmps9
    go_wp2_with fail
    refine (iIsTable_any _ h.out).mono ?_
    rintro e u1 ⟨rfl, g⟩
    replace G := hideIt (G.out.trans g)
    replace h := hideIt (h.out.keep g.keeps)
    replace S := hideIt (S.out.grows g)
    replace R := hideIt (R.out.grows g)
    rw [hv]
    clear g
    have kS_0 : u1.cell? ⟨w.heap.size, 0, none⟩ = some (a) := S.out.cell 0
    have kS_1 : u1.cell? ⟨w.heap.size, 1, none⟩ = some (b) := S.out.cell 1
    have kS_2 : u1.cell? ⟨w.heap.size, 2, none⟩ = some (c) := S.out.cell 2
    have fS := S.out.frozen
    have lS : w.heap.size < u1.heap.size := S.out.lt
    have kR_0 : u1.cell? ⟨w.heap.size + 1, 0, none⟩ = some (.slice none 0 0) := R.out.cell 0
    have kR_1 : u1.cell? ⟨w.heap.size + 1, 1, none⟩ = some (.slice none 0 0) := R.out.cell 1
    have kR_2 : u1.cell? ⟨w.heap.size + 1, 2, none⟩ = some (.slice none 0 0) := R.out.cell 2
    have fR := R.out.frozen
    have lR : w.heap.size + 1 < u1.heap.size := R.out.lt
    cases h1 : inB k 0 10000
    · have E1 := hideIt h1
      go_wp2_with (go_at_call 30; refine (isFactor_any _ _).mono ?_; rintro e w' ⟨rfl, rfl⟩; rw [E1.out])
      have EV := hideIt (show scTV t k m = ⟨[], [], []⟩ by unfold scTV; rw [if_neg (by simp [hv, h1])])
      have EC := hideIt (show scTC t k m = 2 by unfold scTC; simp [hv, h1])
      go_wp2
      refine bodyPost_ret (by simp [*, results, Try.results9, go_sem]; try rfl) rfl ?_
      rw [EV.out, EC.out]
      exact ret_nil (by repeat (first | exact G.out | refine Grows.setCell ?_ (by simp <;> omega) _ | refine Grows.drewN ?_ _ | refine Grows.drew ?_))
    · have h2 : isM m = false := by
        cases hm : isM m with
        | false => rfl
        | true => exact absurd ⟨h1, hm⟩ hkm
      have E1 := hideIt h1
      have E2 := hideIt h2
      go_wp2_with (first | (go_at_call 30; refine (isFactor_any _ _).mono ?_; rintro e w' ⟨rfl, rfl⟩; rw [E1.out]) | (go_at_call 31; refine (isMode_any _ _).mono ?_; rintro e w' ⟨rfl, rfl⟩; rw [E2.out]))
      have EV := hideIt (show scTV t k m = ⟨[], [], []⟩ by unfold scTV; rw [if_neg (by simp [hv, h1, h2])])
      have EC := hideIt (show scTC t k m = 2 by unfold scTC; simp [hv, h1, h2])
      go_wp2
      refine bodyPost_ret (by simp [*, results, Try.results9, go_sem]; try rfl) rfl ?_
      rw [EV.out, EC.out]
      exact ret_nil (by repeat (first | exact G.out | refine Grows.setCell ?_ (by simp <;> omega) _ | refine Grows.drewN ?_ _ | refine Grows.drew ?_))
  obtain ⟨h1, h2⟩ := hkm
  have HV := hideIt hv
  have E1 := hideIt h1
  have E2 := hideIt h2
  obtain ⟨⟨A1, n1, rfl⟩, ⟨A2, n2, rfl⟩, ⟨A3, n3, rfl⟩⟩ := h.shape
  have g : Grows w w := Grows.refl w
  have G : Hid (Grows w ((w.alloc (.cells #[.slice A1 t.slews.length n1, .slice A2 t.loads.length n2, .slice A3 t.values.length n3] 26)).alloc (.cells #[.slice none 0 0, .slice none 0 0, .slice none 0 0] 26))) := hideIt (((Grows.refl w).alloc _).alloc _)
  clear g
  have S : Hid (Blk ((w.alloc (.cells #[.slice A1 t.slews.length n1, .slice A2 t.loads.length n2, .slice A3 t.values.length n3] 26)).alloc (.cells #[.slice none 0 0, .slice none 0 0, .slice none 0 0] 26)) (w.heap.size) 26 #[.slice A1 t.slews.length n1, .slice A2 t.loads.length n2, .slice A3 t.values.length n3]) := by
    have := (Blk.new w 26 #[.slice A1 t.slews.length n1, .slice A2 t.loads.length n2, .slice A3 t.values.length n3]).grows ((Grows.refl (w.alloc (.cells #[.slice A1 t.slews.length n1, .slice A2 t.loads.length n2, .slice A3 t.values.length n3] 26))).alloc (.cells #[.slice none 0 0, .slice none 0 0, .slice none 0 0] 26))
    exact hideIt (by simpa using this)
  have R : Hid (Blk ((w.alloc (.cells #[.slice A1 t.slews.length n1, .slice A2 t.loads.length n2, .slice A3 t.values.length n3] 26)).alloc (.cells #[.slice none 0 0, .slice none 0 0, .slice none 0 0] 26)) (w.heap.size + 1) 26 #[.slice none 0 0, .slice none 0 0, .slice none 0 0]) := by
    have := (Blk.new (w.alloc (.cells #[.slice A1 t.slews.length n1, .slice A2 t.loads.length n2, .slice A3 t.values.length n3] 26)) 26 #[.slice none 0 0, .slice none 0 0, .slice none 0 0]).grows (Grows.refl ((w.alloc (.cells #[.slice A1 t.slews.length n1, .slice A2 t.loads.length n2, .slice A3 t.values.length n3] 26)).alloc (.cells #[.slice none 0 0, .slice none 0 0, .slice none 0 0] 26)))
    exact hideIt (by simpa using this)
  replace h := hideIt (h.keep G.out.keeps)
  go_enter Try.func9, Try.ntmps9
  go_wp2_with fail
  refine (iIsTable_any _ h.out).mono ?_
  rintro e u1 ⟨rfl, g⟩
  replace G := hideIt (G.out.trans g)
  replace h := hideIt (h.out.keep g.keeps)
  replace S := hideIt (S.out.grows g)
  replace R := hideIt (R.out.grows g)
  rw [hv]
  clear g
  have kS_0 : u1.cell? ⟨w.heap.size, 0, none⟩ = some (.slice A1 t.slews.length n1) := S.out.cell 0
  have kS_1 : u1.cell? ⟨w.heap.size, 1, none⟩ = some (.slice A2 t.loads.length n2) := S.out.cell 1
  have kS_2 : u1.cell? ⟨w.heap.size, 2, none⟩ = some (.slice A3 t.values.length n3) := S.out.cell 2
  have fS := S.out.frozen
  have lS : w.heap.size < u1.heap.size := S.out.lt
  have kR_0 : u1.cell? ⟨w.heap.size + 1, 0, none⟩ = some (.slice none 0 0) := R.out.cell 0
  have kR_1 : u1.cell? ⟨w.heap.size + 1, 1, none⟩ = some (.slice none 0 0) := R.out.cell 1
  have kR_2 : u1.cell? ⟨w.heap.size + 1, 2, none⟩ = some (.slice none 0 0) := R.out.cell 2
  have fR := R.out.frozen
  have lR : w.heap.size + 1 < u1.heap.size := R.out.lt
  clear hv h1 h2
  go_wp2_with (first | (go_at_call 30; refine (isFactor_any _ _).mono ?_; rintro e w' ⟨rfl, rfl⟩; rw [E1.out]) | (go_at_call 31; refine (isMode_any _ _).mono ?_; rintro e w' ⟨rfl, rfl⟩; rw [E2.out]))
  obtain ⟨⟨s1, t1⟩, ⟨s2, t2⟩, ⟨s3, t3⟩⟩ := tabB_small HV.out
  have lv : t.values.length ≤ 16 := by
    obtain ⟨q1, q2, q3, -⟩ := tabB_parts HV.out
    have := Nat.mul_le_mul (axB_len q1).2 (axB_len q2).2
    omega
  have M := hideIt (And.intro (And.intro s1 t1) (And.intro s2 t2))
  have lR1 : w.heap.size + 1 < u1.heap.size := lR
  clear s1 t1 s2 t2 t3
  have hmk := fun w => run_make_row' (P := Try.prog) 22 2 (.int .i64 0) 8 Try.underlying22 info_i64 rfl .i64 .i64 t.values.length (by omega) (by omega) w
  have K0 : ∀ w', Grows u1 w' → w'.cell? ⟨w.heap.size, 0, none⟩ = some (.slice A1 t.slews.length n1) ∧ w'.cell? ⟨w.heap.size, 1, none⟩ = some (.slice A2 t.loads.length n2) ∧ w'.cell? ⟨w.heap.size, 2, none⟩ = some (.slice A3 t.values.length n3) := fun w' G => ⟨(G.cells.1 _ _ S.out.lt).trans (S.out.cell 0), (G.cells.1 _ _ S.out.lt).trans (S.out.cell 1), (G.cells.1 _ _ S.out.lt).trans (S.out.cell 2)⟩
  have HK := hideIt K0
  clear K0
  have gg : Grows u1 u1 := Grows.refl u1
  have VB := hideIt (tabB_parts HV.out).2.2.2
  have KB := inB_true E1.out
  clear kS_0 kS_1 kS_2 fS lS kR_0 kR_1 kR_2 fR lR
  refine Code.wp_mono (Q := Exit.then (fun (a : Act) (W : World) => ∃ (B1 B2 : Option Addr) (c1 c2 gO gM : Nat) (b1 b2 : List Nat), a = { tmps := #[.agg #[.slice A1 t.slews.length n1, .slice A2 t.loads.length n2, .slice A3 t.values.length n3], .int .i64 k, .int .i64 m, .pointer (some ⟨w.heap.size, 0, none⟩), undef, undef, .pointer (some ⟨w.heap.size + 1, 0, none⟩), .int .i64 0, .pointer (some ⟨gO, 0, none⟩), undef, undef, .bool false, .agg #[.slice A1 t.slews.length n1, .slice A2 t.loads.length n2, .slice A3 t.values.length n3], .bool true, .bool false, undef, .bool false, .int .i64 k, .bool true, .bool false, .bool false, .int .i64 m, .bool true, .bool false, .bool false, undef, .pointer (some ⟨w.heap.size, 0, none⟩), .slice A1 t.slews.length n1, .slice B1 t.slews.length c1, .pointer (some ⟨w.heap.size, 1, none⟩), .slice A2 t.loads.length n2, .slice B2 t.loads.length c2, .pointer (some ⟨w.heap.size, 2, none⟩), .slice A3 t.values.length n3, .int .i64 (t.values.length : Int), .slice (some ⟨gM, 0, none⟩) t.values.length t.values.length, .agg #[.slice B1 t.slews.length c1, .slice B2 t.loads.length c2, .slice (some ⟨gM, 0, none⟩) t.values.length t.values.length], undef, undef, undef, undef, undef, undef, undef, undef, undef, undef, undef, undef, undef, undef, undef, undef, undef, undef, undef, undef, undef, undef], defers := [] } ∧ Grows u1 W ∧ Blk W gO 26 #[.slice B1 t.slews.length c1, .slice B2 t.loads.length c2, .slice (some ⟨gM, 0, none⟩) t.values.length t.values.length] ∧ OInts W (.slice B1 t.slews.length c1) t.slews b1 ∧ OInts W (.slice B2 t.loads.length c2) t.loads b2 ∧ OInts W (.slice (some ⟨gM, 0, none⟩) t.values.length t.values.length) (List.replicate t.values.length 0) [gM] ∧ (b1.Nodup ∧ b2.Nodup ∧ ∀ q ∈ b1, q ∉ b2) ∧ (gO ∉ b1 ∧ gO ∉ b2 ∧ gO ≠ gM ∧ gM ∉ b1 ∧ gM ∉ b2) ∧ ((∀ q ∈ b1, w.heap.size + 1 < q) ∧ (∀ q ∈ b2, w.heap.size + 1 < q) ∧ w.heap.size + 1 < gM ∧ w.heap.size + 1 < gO) ∧ u1.heap.size ≤ gM) (fun _ _ _ => False)) (fun e act y5 h9 => ?_) ?_
  · cases e with
    | normal =>
      obtain ⟨B1, B2, c1, c2, gO, gM, b1, b2, rfl, gg, bo_, o1_, o2_, o3_, nd_, dd_, bb_, lm_⟩ := h9
      have BO := hideIt bo_
      have O1 := hideIt o1_
      have O2 := hideIt o2_
      have O3 := hideIt o3_
      have ND := hideIt nd_
      have DD := hideIt dd_
      have BB := hideIt bb_
      have lowM := hideIt lm_
      clear bo_ o1_ o2_ o3_ nd_ dd_ bb_ lm_
      have S5 := hideIt (S.out.grows gg)
      have R5 := hideIt (R.out.grows gg)
      have GG := hideIt gg
      clear gg
      have kS2 : y5.cell? ⟨w.heap.size, 2, none⟩ = some (.slice A3 t.values.length n3) := S5.out.cell 2
      obtain ⟨b9, o9, e9, -⟩ := ints_cell (i := 0) h.out.open_.2.2 (List.getElem?_eq_getElem s3)
      subst e9
      go_wp2
      clear kS2
      go_loopw [40, 9, 10] (fun i _ _ wr => ∃ j : Nat, j ≤ t.values.length ∧ i = .int .i64 (j : Int) ∧ Hid (OInts wr (.slice (some ⟨gM, 0, none⟩) t.values.length t.values.length) (midS t.values (fun v => rdv (v * k) 1000 m) j) [gM]) ∧ Hid (Chg [gM] y5 wr)) (fun i _ _ _ => t.values.length - (intOf i).toNat)
      case atStart => exact ⟨0, Nat.zero_le _, rfl, hideIt (by rw [midS_zero]; exact O3.out), hideIt (Chg.refl _ _)⟩
      case round =>
        clear O3
        obtain ⟨j, hj, rfl, O3, CH⟩ := hrel
        have GW := hideIt (GG.out.chg CH.out (fun q hq => by have := lowM.out; simp at hq; omega))
        have BT := hideIt (BO.out.chg CH.out (by have := DD.out.2.2.1; simpa using this))
        have kO0 : wr.cell? ⟨gO, 0, none⟩ = some (.slice B1 t.slews.length c1) := BT.out.cell 0
        have kO1 : wr.cell? ⟨gO, 1, none⟩ = some (.slice B2 t.loads.length c2) := BT.out.cell 1
        have kO2 : wr.cell? ⟨gO, 2, none⟩ = some (.slice (some ⟨gM, 0, none⟩) t.values.length t.values.length) := BT.out.cell 2
        have fO := BT.out.frozen
        have lO := BT.out.lt
        by_cases hlt : j < t.values.length
        · obtain ⟨v, hv_⟩ : ∃ v, t.values[j]? = some v := ⟨_, List.getElem?_eq_getElem hlt⟩
          obtain ⟨b8, o8, e8, q8⟩ := ints_cell h.out.open_.2.2 hv_
          injection e8 with e8
          injection e8 with e8 e8b
          subst e8 e8b
          have kv : wr.cell? ⟨b9, o9 + j, none⟩ = some (.int .i64 v) := GW.out.keeps _ _ q8
          have vb := wiB_at VB.out hv_
          have hml := midS_len t.values (fun v => rdv (v * k) 1000 m) hj
          obtain ⟨old, ho_⟩ : ∃ old, (midS t.values (fun v => rdv (v * k) 1000 m) j)[j]? = some old := ⟨_, List.getElem?_eq_getElem (by omega)⟩
          have kc := O3.out.at ho_
          have kf := O3.out.fr (by omega)
          have kl := O3.out.lt gM (by simp)
          have NX := hideIt (O3.out.set_ (i := j) (by omega) (rdv (v * k) 1000 m))
          rw [midS_step hv_] at NX
          clear hv_ ho_ q8 hml
          have KK : Hid (∀ w', Chg [gM] wr w' → w'.cell? ⟨gO, 2, none⟩ = some (.slice (some ⟨gM, 0, none⟩) t.values.length t.values.length)) := hideIt (fun w' c => c.cell kO2 (by have := DD.out.2.2.1; simpa using this))
          go_wp2
          refine wp_region_held_drew (S := (fun w' => w'.cell? ⟨gO, 2, none⟩ = some (.slice (some ⟨gM, 0, none⟩) t.values.length t.values.length))) (by kernel_rfl) ?_ (fun hh0 => ?_)
          · (try dsimp only); refine KK.out _ ?_; (repeat (first | exact Chg.refl _ _ | refine Chg.drew ?_ | refine Chg.drewN ?_ _ | refine Chg.setCell ?_ (by simp) _))
          refine regTake 0 (v := ?_) ?_ hh0 ?_
          rotate_left
          · intro w hw; (try dsimp only at hw); go_simp; (try with_reducible rfl)
          try simp only [Act.put, List.setIfInBounds_toArray, List.set_cons_zero, List.set_cons_succ]
          refine regTake 1 (v := ?_) ?_ hh0 ?_
          rotate_left
          · intro w hw; (try dsimp only at hw); go_simp; (try with_reducible rfl)
          try simp only [Act.put, List.setIfInBounds_toArray, List.set_cons_zero, List.set_cons_succ]
          refine regTake 2 (v := ?_) ?_ hh0 ?_
          rotate_left
          · intro w hw; (try dsimp only at hw); go_simp; (try with_reducible rfl)
          try simp only [Act.put, List.setIfInBounds_toArray, List.set_cons_zero, List.set_cons_succ]
          refine regTake 3 (v := ?_) ?_ hh0 ?_
          rotate_left
          · intro w hw; (try dsimp only at hw); go_simp; (try with_reducible rfl)
          try simp only [Act.put, List.setIfInBounds_toArray, List.set_cons_zero, List.set_cons_succ]
          refine regTake 4 (v := ?_) ?_ hh0 ?_
          rotate_left
          · intro w hw; (try dsimp only at hw); go_simp; (try with_reducible rfl)
          try simp only [Act.put, List.setIfInBounds_toArray, List.set_cons_zero, List.set_cons_succ]
          refine regTake 5 (v := ?_) ?_ hh0 ?_
          rotate_left
          · intro w hw; (try dsimp only at hw); go_simp; (try with_reducible rfl)
          try simp only [Act.put, List.setIfInBounds_toArray, List.set_cons_zero, List.set_cons_succ]
          refine regCall 6 (fun K hK => ?_)
          go_simp
          refine (scale_any v k m _ (by omega) (by omega) KB.1 KB.2).mono ?_
          rintro e z1 ⟨rfl, nq, rfl⟩
          (try go_wp2_with fail)
          refine hK.out _ _ ?_ (fun hh1 => ?_)
          · (try dsimp only); refine KK.out _ ?_; (repeat (first | exact Chg.refl _ _ | refine Chg.drew ?_ | refine Chg.drewN ?_ _ | refine Chg.setCell ?_ (by simp) _))
          clear hK K hh0
          try simp only [Act.put, List.setIfInBounds_toArray, List.set_cons_zero, List.set_cons_succ]
          refine regTake 7 (v := ?_) ?_ hh1 ?_
          rotate_left
          · intro w hw; (try dsimp only at hw); go_simp; (try with_reducible rfl)
          try simp only [Act.put, List.setIfInBounds_toArray, List.set_cons_zero, List.set_cons_succ]
          refine regCall 8 (fun K hK => ?_)
          go_simp
          
          (try go_wp2_with fail)
          refine hK.out _ _ ?_ (fun hh2 => ?_)
          · (try dsimp only); refine KK.out _ ?_; (repeat (first | exact Chg.refl _ _ | refine Chg.drew ?_ | refine Chg.drewN ?_ _ | refine Chg.setCell ?_ (by simp) _))
          clear hK K hh1
          try simp only [Act.put, List.setIfInBounds_toArray, List.set_cons_zero, List.set_cons_succ]
          refine wpAnyH_done (by kernel_rfl) ?_ _
          clear hh2
          go_wp2
          go_roundw
          case rel => exact ⟨j + 1, by omega, by go_num, hideIt (by repeat (first | exact NX.out | refine OInts.drew ?_ | refine OInts.drewN ?_ _)), hideIt (by repeat (first | exact CH.out | refine Chg.drew ?_ | refine Chg.drewN ?_ _ | refine Chg.setCell ?_ (by simp) _))⟩
          case measure => simp [intOf]; omega
        · obtain rfl : j = t.values.length := by omega
          rw [midS_all] at O3
          have Q1 := hideIt (O1.out.chg CH.out (fun q hq hm => by simp at hm; subst hm; exact DD.out.2.2.2.1 hq))
          have Q2 := hideIt (O2.out.chg CH.out (fun q hq hm => by simp at hm; subst hm; exact DD.out.2.2.2.2 hq))
          have RD : Hid (RTable wr [.slice B1 t.slews.length c1, .slice B2 t.loads.length c2, .slice (some ⟨gM, 0, none⟩) t.values.length t.values.length] (scT t k m)) := hideIt ⟨_, _, _, rfl, Q1.out.reads, Q2.out.reads, O3.out.reads⟩
          have R6 := hideIt (R5.out.chg CH.out (by have := BB.out.2.2.1; simp; omega))
          go_wp2_with fail
          clear kO0 kO1 kO2 fO lO
          refine (iIsTable_any _ RD.out).mono ?_
          rintro e u9 ⟨rfl, g⟩
          have G9 := hideIt ((G.out.trans GW.out).trans g)
          have P1 := hideIt (Q1.out.chg (cs := []) (Chg.of_grows g) (fun _ _ h => by cases h))
          have P2 := hideIt (Q2.out.chg (cs := []) (Chg.of_grows g) (fun _ _ h => by cases h))
          have P3 := hideIt (O3.out.chg (cs := []) (Chg.of_grows g) (fun _ _ h => by cases h))
          have bT := BT.out.grows g
          have bR := R6.out.grows g
          clear g
          have kO0 : u9.cell? ⟨gO, 0, none⟩ = some (.slice B1 t.slews.length c1) := bT.cell 0
          have kO1 : u9.cell? ⟨gO, 1, none⟩ = some (.slice B2 t.loads.length c2) := bT.cell 1
          have kO2 : u9.cell? ⟨gO, 2, none⟩ = some (.slice (some ⟨gM, 0, none⟩) t.values.length t.values.length) := bT.cell 2
          have fO := bT.frozen
          have lO := bT.lt
          have kR0 : u9.cell? ⟨w.heap.size + 1, 0, none⟩ = some (.slice none 0 0) := bR.cell 0
          have kR1 : u9.cell? ⟨w.heap.size + 1, 1, none⟩ = some (.slice none 0 0) := bR.cell 1
          have kR2 : u9.cell? ⟨w.heap.size + 1, 2, none⟩ = some (.slice none 0 0) := bR.cell 2
          have fR := bR.frozen
          have lR := bR.lt
          clear bT bR
          cases hs : tabB (scT t k m)
          · have EV := hideIt (show scTV t k m = ⟨[], [], []⟩ by unfold scTV; rw [if_neg (by simp [hs])])
            have EC := hideIt (show scTC t k m = 2 by unfold scTC; rw [if_pos HV.out, if_neg (by simp [hs])])
            go_wp2
            refine bodyPost_ret (by simp [*, results, Try.results9, go_sem]; try rfl) rfl ?_
            rw [EV.out, EC.out]
            exact ret_nil (by repeat (first | exact G9.out | refine Grows.setCell ?_ (by simp <;> omega) _ | refine Grows.drewN ?_ _ | refine Grows.drew ?_))
          · have EV := hideIt (show scTV t k m = scT t k m by unfold scTV; rw [if_pos ⟨HV.out, E1.out, E2.out, hs⟩])
            have EC := hideIt (show scTC t k m = 0 by unfold scTC; rw [if_pos HV.out, if_pos ⟨E1.out, E2.out, hs⟩])
            go_wp2
            refine bodyPost_ret (by simp [*, results, Try.results9, go_sem]; try rfl) rfl ?_
            rw [EV.out, EC.out]
            have fin : ∀ w9, Chg [w.heap.size + 1] u9 w9 → u9.heap.size ≤ w9.heap.size → Grows w w9 → RetTable (scT t k m) 0 w (.returned (.tuple #[.agg #[.slice B1 t.slews.length c1, .slice B2 t.loads.length c2, .slice (some ⟨gM, 0, none⟩) t.values.length t.values.length], .int .i64 0])) w9 := fun w9 c9 hsz gw => by
              obtain ⟨bn1, bn2, bnM, bnO⟩ := BB.out
              refine ⟨B1, c1, B2, c2, some ⟨gM, 0, none⟩, t.values.length, b1 ++ b2 ++ [gM], by simp [scT], ⟨_, _, _, b1, b2, [gM], rfl, ?_, ?_, ?_, rfl⟩, ?_, gw⟩
              · exact P1.out.chg c9 (fun q hq hm => by have := bn1 q hq; simp at hm; omega)
              · exact P2.out.chg c9 (fun q hq hm => by have := bn2 q hq; simp at hm; omega)
              · have z := P3.out.chg c9 (fun q hq hm => by simp at hm hq; omega)
                simpa [scT] using z
              · refine ⟨?_, fun q hq => ?_⟩
                · obtain ⟨n1, n2, n3⟩ := ND.out
                  rw [List.nodup_append, List.nodup_append]
                  exact ⟨⟨n1, n2, fun a ha b hb e => n3 a ha (e ▸ hb)⟩, by simp, fun a ha b hb e => by
                    simp at hb
                    subst hb
                    subst e
                    rcases List.mem_append.1 ha with ha | ha
                    · exact DD.out.2.2.2.1 ha
                    · exact DD.out.2.2.2.2 ha⟩
                · have l1 := P1.out.lt
                  have l2 := P2.out.lt
                  have l3 := P3.out.lt gM (by simp)
                  simp only [List.mem_append, List.mem_singleton] at hq
                  rcases hq with (hq | hq) | hq
                  · have := bn1 q hq; have := l1 q hq; omega
                  · have := bn2 q hq; have := l2 q hq; omega
                  · omega
            refine fin _ ?_ ?_ ?_
            · repeat (first | exact Chg.refl _ _ | refine Chg.drew ?_ | refine Chg.drewN ?_ _ | refine Chg.setCell ?_ (by simp) _)
            · simp [World.setCell]
            · repeat (first | exact G9.out | refine Grows.setCell ?_ (by simp <;> omega) _ | refine Grows.drewN ?_ _ | refine Grows.drew ?_)
    | _ => exact h9.elim
  refine wp_region_held_drew (S := (fun w' => w'.cell? ⟨w.heap.size, 0, none⟩ = some (.slice A1 t.slews.length n1) ∧ w'.cell? ⟨w.heap.size, 1, none⟩ = some (.slice A2 t.loads.length n2) ∧ w'.cell? ⟨w.heap.size, 2, none⟩ = some (.slice A3 t.values.length n3))) (by kernel_rfl) ?_ (fun hh0 => ?_)
  · (try dsimp only); refine HK.out _ ?_; (repeat (first | exact gg | refine Grows.drew ?_ | refine Grows.drewN ?_ _ | refine Grows.alloc ?_ _ | refine Grows.setCell ?_ (by simp <;> omega) _))
  refine regTake 0 (v := ?_) ?_ hh0 ?_
  rotate_left
  · intro w hw; (try dsimp only at hw); go_simp; (try with_reducible rfl)
  try simp only [Act.put, List.setIfInBounds_toArray, List.set_cons_zero, List.set_cons_succ]
  refine regTake 1 (v := ?_) ?_ hh0 ?_
  rotate_left
  · intro w hw; (try dsimp only at hw); go_simp; (try with_reducible rfl)
  try simp only [Act.put, List.setIfInBounds_toArray, List.set_cons_zero, List.set_cons_succ]
  refine regTake 3 (v := ?_) ?_ hh0 ?_
  rotate_left
  · intro w hw; (try dsimp only at hw); go_simp; (try with_reducible rfl)
  try simp only [Act.put, List.setIfInBounds_toArray, List.set_cons_zero, List.set_cons_succ]
  refine regTake 4 (v := ?_) ?_ hh0 ?_
  rotate_left
  · intro w hw; (try dsimp only at hw); go_simp; (try with_reducible rfl)
  try simp only [Act.put, List.setIfInBounds_toArray, List.set_cons_zero, List.set_cons_succ]
  refine regTake 6 (v := ?_) ?_ hh0 ?_
  rotate_left
  · intro w hw; (try dsimp only at hw); go_simp; (try with_reducible rfl)
  try simp only [Act.put, List.setIfInBounds_toArray, List.set_cons_zero, List.set_cons_succ]
  refine regTake 7 (v := ?_) ?_ hh0 ?_
  rotate_left
  · intro w hw; (try dsimp only at hw); go_simp; (try with_reducible rfl)
  try simp only [Act.put, List.setIfInBounds_toArray, List.set_cons_zero, List.set_cons_succ]
  refine regTake 8 (v := ?_) ?_ hh0 ?_
  rotate_left
  · intro w hw; (try dsimp only at hw); go_simp; (try with_reducible rfl)
  try simp only [Act.put, List.setIfInBounds_toArray, List.set_cons_zero, List.set_cons_succ]
  refine regCall3 2 9 11 (fun K hK => ?_) (fun K hK => ?_) (fun K hK => ?_)
  · go_simp
    refine (clone_any _ (RInts.keep h.out.open_.1 (show Grows u1 _ from Grows.trans gg (by repeat (first | exact Grows.refl _ | refine Grows.drew ?_ | refine Grows.drewN ?_ _))).keeps) M.out.1.1 M.out.1.2).mono ?_
    rintro e y1 ⟨B1, c1, b1, rfl, o_, ow_, g_⟩
    have g9 : Grows u1 y1 := (show Grows u1 _ from (by repeat (first | exact Grows.refl _ | refine Grows.drew ?_ | refine Grows.drewN ?_ _))).trans g_
    have O1 := hideIt o_
    have OW1 : Hid (Own u1.heap.size y1.heap.size b1) := hideIt (by simpa using ow_)
    clear o_ ow_ g_
    have sz1 := g9.size
    replace gg := Grows.trans gg g9
    clear g9
    (try go_wp2_with fail)
    refine hK.out _ _ ?_ (fun hh1 => ?_)
    · (try dsimp only); refine HK.out _ ?_; (repeat (first | exact gg | refine Grows.drew ?_ | refine Grows.drewN ?_ _ | refine Grows.alloc ?_ _ | refine Grows.setCell ?_ (by simp <;> omega) _))
    clear hK K hh0
    try simp only [Act.put, List.setIfInBounds_toArray, List.set_cons_zero, List.set_cons_succ]
    refine regCall3 5 9 11 (fun K hK => ?_) (fun K hK => ?_) (fun K hK => ?_)
    · go_simp
      refine (clone_any _ (RInts.keep h.out.open_.2.1 (show Grows u1 _ from Grows.trans gg (by repeat (first | exact Grows.refl _ | refine Grows.drew ?_ | refine Grows.drewN ?_ _))).keeps) M.out.2.1 M.out.2.2).mono ?_
      rintro e y2 ⟨B2, c2, b2, rfl, o_, ow_, g_⟩
      have g9 : Grows y1 y2 := (show Grows y1 _ from (by repeat (first | exact Grows.refl _ | refine Grows.drew ?_ | refine Grows.drewN ?_ _))).trans g_
      replace O1 := hideIt (O1.out.chg (cs := []) (Chg.of_grows g9) (fun _ _ h => by cases h))
      have O2 := hideIt o_
      have OW2 : Hid (Own y1.heap.size y2.heap.size b2) := hideIt (by simpa using ow_)
      clear o_ ow_ g_
      have sz2 := g9.size
      replace gg := Grows.trans gg g9
      clear g9
      (try go_wp2_with fail)
      refine hK.out _ _ ?_ (fun hh2 => ?_)
      · (try dsimp only); refine HK.out _ ?_; (repeat (first | exact gg | refine Grows.drew ?_ | refine Grows.drewN ?_ _ | refine Grows.alloc ?_ _ | refine Grows.setCell ?_ (by simp <;> omega) _))
      clear hK K hh1
      try simp only [Act.put, List.setIfInBounds_toArray, List.set_cons_zero, List.set_cons_succ]
      refine regCall2 9 11 (fun K hK => ?_) (fun K hK => ?_)
      · go_simp
        have g9 : Grows y2 (y2.alloc (.cells (madeCells #[.int .i64 0] t.values.length) 2)) := (Grows.refl _).alloc _
        have O3 := hideIt (made_oints (w := y2) t.values.length (by omega))
        generalize y2.alloc (.cells (madeCells #[.int .i64 0] t.values.length) 2) = y3 at g9 O3 ⊢
        replace O1 := hideIt (O1.out.chg (cs := []) (Chg.of_grows g9) (fun _ _ h => by cases h))
        replace O2 := hideIt (O2.out.chg (cs := []) (Chg.of_grows g9) (fun _ _ h => by cases h))
        have lM : y2.heap.size < y3.heap.size := O3.out.lt _ (by simp)
        have sz3 := g9.size
        replace gg := Grows.trans gg g9
        clear g9
        (try go_wp2_with fail)
        refine hK.out _ _ ?_ (fun hh3 => ?_)
        · (try dsimp only); refine HK.out _ ?_; (repeat (first | exact gg | refine Grows.drew ?_ | refine Grows.drewN ?_ _ | refine Grows.alloc ?_ _ | refine Grows.setCell ?_ (by simp <;> omega) _))
        clear hK K hh2
        try simp only [Act.put, List.setIfInBounds_toArray, List.set_cons_zero, List.set_cons_succ]
        refine regTake 10 (v := ?_) ?_ hh3 ?_
        rotate_left
        · intro w hw; (try dsimp only at hw); go_simp; (try with_reducible rfl)
        try simp only [Act.put, List.setIfInBounds_toArray, List.set_cons_zero, List.set_cons_succ]
        refine regCall 11 (fun K hK => ?_)
        go_simp
        have g9 : Grows y3 (y3.alloc (.cells #[.slice none 0 0, .slice none 0 0, .slice none 0 0] 26)) := (Grows.refl _).alloc _
        have BO := hideIt (Blk.new y3 26 #[.slice none 0 0, .slice none 0 0, .slice none 0 0])
        generalize y3.alloc (.cells #[.slice none 0 0, .slice none 0 0, .slice none 0 0] 26) = y4 at g9 BO ⊢
        replace O1 := hideIt (O1.out.chg (cs := []) (Chg.of_grows g9) (fun _ _ h => by cases h))
        replace O2 := hideIt (O2.out.chg (cs := []) (Chg.of_grows g9) (fun _ _ h => by cases h))
        replace O3 := hideIt (O3.out.chg (cs := []) (Chg.of_grows g9) (fun _ _ h => by cases h))
        have lQ : y3.heap.size < y4.heap.size := BO.out.lt
        have sz4 := g9.size
        replace gg := Grows.trans gg g9
        clear g9
        have kO0 : y4.cell? ⟨y3.heap.size, 0, none⟩ = some (.slice none 0 0) := BO.out.cell 0
        have kO1 : y4.cell? ⟨y3.heap.size, 1, none⟩ = some (.slice none 0 0) := BO.out.cell 1
        have kO2 : y4.cell? ⟨y3.heap.size, 2, none⟩ = some (.slice none 0 0) := BO.out.cell 2
        have fO := BO.out.frozen
        have lO := BO.out.lt
        (try go_wp2_with fail)
        refine hK.out _ _ ?_ (fun hh4 => ?_)
        · (try dsimp only); refine HK.out _ ?_; (repeat (first | exact gg | refine Grows.drew ?_ | refine Grows.drewN ?_ _ | refine Grows.alloc ?_ _ | refine Grows.setCell ?_ (by simp <;> omega) _))
        clear hK K hh3
        try simp only [Act.put, List.setIfInBounds_toArray, List.set_cons_zero, List.set_cons_succ]
        refine regCall 12 (fun K hK => ?_)
        go_simp
        have cset : Chg [y3.heap.size] y4 (((y4.setCell ⟨y3.heap.size, 0, none⟩ (.slice B1 t.slews.length c1)).setCell ⟨y3.heap.size, 1, none⟩ (.slice B2 t.loads.length c2)).setCell ⟨y3.heap.size, 2, none⟩ (.slice (some ⟨y2.heap.size, 0, none⟩) t.values.length t.values.length)) := (((Chg.refl _ _).setCell (by simp) _).setCell (by simp) _).setCell (by simp) _
        replace BO := hideIt (((BO.out.set_ 0 (.slice B1 t.slews.length c1)).set_ 1 (.slice B2 t.loads.length c2)).set_ 2 (.slice (some ⟨y2.heap.size, 0, none⟩) t.values.length t.values.length))
        have D1 : y3.heap.size ∉ b1 := fun hq => by have := OW1.out.2 _ hq; omega
        have D2 : y3.heap.size ∉ b2 := fun hq => by have := OW2.out.2 _ hq; omega
        have D3 : y3.heap.size ≠ y2.heap.size := by omega
        have D4 : y2.heap.size ∉ b1 := fun hq => by have := OW1.out.2 _ hq; omega
        have D5 : y2.heap.size ∉ b2 := fun hq => by have := OW2.out.2 _ hq; omega
        have D6 : ∀ q ∈ b1, q ∉ b2 := fun q h1 h2 => by have := OW1.out.2 _ h1; have := OW2.out.2 _ h2; omega
        have bnd1 : ∀ q ∈ b1, w.heap.size + 1 < q := fun q hq => by have := OW1.out.2 _ hq; omega
        have bnd2 : ∀ q ∈ b2, w.heap.size + 1 < q := fun q hq => by have := OW2.out.2 _ hq; omega
        have bndM : w.heap.size + 1 < y2.heap.size := by omega
        have bndO : w.heap.size + 1 < y3.heap.size := by omega
        have low : u1.heap.size ≤ y3.heap.size := by omega
        replace O1 := hideIt (O1.out.chg cset (fun q hq hm => by simp at hm; subst hm; exact D1 hq))
        replace O2 := hideIt (O2.out.chg cset (fun q hq hm => by simp at hm; subst hm; exact D2 hq))
        replace O3 := hideIt (O3.out.chg cset (fun q hq hm => by simp at hm hq; omega))
        replace gg : Grows u1 (((y4.setCell ⟨y3.heap.size, 0, none⟩ (.slice B1 t.slews.length c1)).setCell ⟨y3.heap.size, 1, none⟩ (.slice B2 t.loads.length c2)).setCell ⟨y3.heap.size, 2, none⟩ (.slice (some ⟨y2.heap.size, 0, none⟩) t.values.length t.values.length)) := Grows.chg gg cset (fun q hq => by simp at hq; omega)
        have ND := hideIt (And.intro OW1.out.1 (And.intro OW2.out.1 D6))
        have DD := hideIt (And.intro D1 (And.intro D2 (And.intro D3 (And.intro D4 D5))))
        have BB := hideIt (And.intro bnd1 (And.intro bnd2 (And.intro bndM bndO)))
        generalize ((y4.setCell ⟨y3.heap.size, 0, none⟩ (.slice B1 t.slews.length c1)).setCell ⟨y3.heap.size, 1, none⟩ (.slice B2 t.loads.length c2)).setCell ⟨y3.heap.size, 2, none⟩ (.slice (some ⟨y2.heap.size, 0, none⟩) t.values.length t.values.length) = y5 at cset BO O1 O2 O3 gg ⊢
        clear kO0 kO1 kO2 fO lO cset D1 D2 D3 D4 D5 D6 bnd1 bnd2 bndM bndO low OW1 OW2
        (try go_wp2_with fail)
        refine hK.out _ _ ?_ (fun hh5 => ?_)
        · (try dsimp only); refine HK.out _ ?_; (repeat (first | exact gg | refine Grows.drew ?_ | refine Grows.drewN ?_ _ | refine Grows.alloc ?_ _ | refine Grows.setCell ?_ (by simp <;> omega) _))
        clear hK K hh4
        try simp only [Act.put, List.setIfInBounds_toArray, List.set_cons_zero, List.set_cons_succ]
        refine wpAnyH_done (by kernel_rfl) ?_ _
        have lowM : u1.heap.size ≤ y2.heap.size := by omega
        exact ⟨B1, B2, c1, c2, y3.heap.size, y2.heap.size, b1, b2, rfl, gg, BO.out, O1.out, O2.out, O3.out, ND.out, DD.out, BB.out, lowM⟩
      · go_simp
        have g9 : Grows y2 (y2.alloc (.cells #[.slice none 0 0, .slice none 0 0, .slice none 0 0] 26)) := (Grows.refl _).alloc _
        have BO := hideIt (Blk.new y2 26 #[.slice none 0 0, .slice none 0 0, .slice none 0 0])
        generalize y2.alloc (.cells #[.slice none 0 0, .slice none 0 0, .slice none 0 0] 26) = y3 at g9 BO ⊢
        replace O1 := hideIt (O1.out.chg (cs := []) (Chg.of_grows g9) (fun _ _ h => by cases h))
        replace O2 := hideIt (O2.out.chg (cs := []) (Chg.of_grows g9) (fun _ _ h => by cases h))
        have lQ : y2.heap.size < y3.heap.size := BO.out.lt
        have sz3 := g9.size
        replace gg := Grows.trans gg g9
        clear g9
        have kO0 : y3.cell? ⟨y2.heap.size, 0, none⟩ = some (.slice none 0 0) := BO.out.cell 0
        have kO1 : y3.cell? ⟨y2.heap.size, 1, none⟩ = some (.slice none 0 0) := BO.out.cell 1
        have kO2 : y3.cell? ⟨y2.heap.size, 2, none⟩ = some (.slice none 0 0) := BO.out.cell 2
        have fO := BO.out.frozen
        have lO := BO.out.lt
        (try go_wp2_with fail)
        refine hK.out _ _ ?_ (fun hh3 => ?_)
        · (try dsimp only); refine HK.out _ ?_; (repeat (first | exact gg | refine Grows.drew ?_ | refine Grows.drewN ?_ _ | refine Grows.alloc ?_ _ | refine Grows.setCell ?_ (by simp <;> omega) _))
        clear hK K hh2
        try simp only [Act.put, List.setIfInBounds_toArray, List.set_cons_zero, List.set_cons_succ]
        refine regCall 9 (fun K hK => ?_)
        go_simp
        have g9 : Grows y3 (y3.alloc (.cells (madeCells #[.int .i64 0] t.values.length) 2)) := (Grows.refl _).alloc _
        have O3 := hideIt (made_oints (w := y3) t.values.length (by omega))
        generalize y3.alloc (.cells (madeCells #[.int .i64 0] t.values.length) 2) = y4 at g9 O3 ⊢
        replace O1 := hideIt (O1.out.chg (cs := []) (Chg.of_grows g9) (fun _ _ h => by cases h))
        replace O2 := hideIt (O2.out.chg (cs := []) (Chg.of_grows g9) (fun _ _ h => by cases h))
        replace BO := hideIt (BO.out.grows g9)
        have lM : y3.heap.size < y4.heap.size := O3.out.lt _ (by simp)
        clear kO0 kO1 kO2 fO lO
        have sz4 := g9.size
        replace gg := Grows.trans gg g9
        clear g9
        have kO0 : y4.cell? ⟨y2.heap.size, 0, none⟩ = some (.slice none 0 0) := BO.out.cell 0
        have kO1 : y4.cell? ⟨y2.heap.size, 1, none⟩ = some (.slice none 0 0) := BO.out.cell 1
        have kO2 : y4.cell? ⟨y2.heap.size, 2, none⟩ = some (.slice none 0 0) := BO.out.cell 2
        have fO := BO.out.frozen
        have lO := BO.out.lt
        (try go_wp2_with fail)
        refine hK.out _ _ ?_ (fun hh4 => ?_)
        · (try dsimp only); refine HK.out _ ?_; (repeat (first | exact gg | refine Grows.drew ?_ | refine Grows.drewN ?_ _ | refine Grows.alloc ?_ _ | refine Grows.setCell ?_ (by simp <;> omega) _))
        clear hK K hh3
        try simp only [Act.put, List.setIfInBounds_toArray, List.set_cons_zero, List.set_cons_succ]
        refine regTake 10 (v := ?_) ?_ hh4 ?_
        rotate_left
        · intro w hw; (try dsimp only at hw); go_simp; (try with_reducible rfl)
        try simp only [Act.put, List.setIfInBounds_toArray, List.set_cons_zero, List.set_cons_succ]
        refine regCall 12 (fun K hK => ?_)
        go_simp
        have cset : Chg [y2.heap.size] y4 (((y4.setCell ⟨y2.heap.size, 0, none⟩ (.slice B1 t.slews.length c1)).setCell ⟨y2.heap.size, 1, none⟩ (.slice B2 t.loads.length c2)).setCell ⟨y2.heap.size, 2, none⟩ (.slice (some ⟨y3.heap.size, 0, none⟩) t.values.length t.values.length)) := (((Chg.refl _ _).setCell (by simp) _).setCell (by simp) _).setCell (by simp) _
        replace BO := hideIt (((BO.out.set_ 0 (.slice B1 t.slews.length c1)).set_ 1 (.slice B2 t.loads.length c2)).set_ 2 (.slice (some ⟨y3.heap.size, 0, none⟩) t.values.length t.values.length))
        have D1 : y2.heap.size ∉ b1 := fun hq => by have := OW1.out.2 _ hq; omega
        have D2 : y2.heap.size ∉ b2 := fun hq => by have := OW2.out.2 _ hq; omega
        have D3 : y2.heap.size ≠ y3.heap.size := by omega
        have D4 : y3.heap.size ∉ b1 := fun hq => by have := OW1.out.2 _ hq; omega
        have D5 : y3.heap.size ∉ b2 := fun hq => by have := OW2.out.2 _ hq; omega
        have D6 : ∀ q ∈ b1, q ∉ b2 := fun q h1 h2 => by have := OW1.out.2 _ h1; have := OW2.out.2 _ h2; omega
        have bnd1 : ∀ q ∈ b1, w.heap.size + 1 < q := fun q hq => by have := OW1.out.2 _ hq; omega
        have bnd2 : ∀ q ∈ b2, w.heap.size + 1 < q := fun q hq => by have := OW2.out.2 _ hq; omega
        have bndM : w.heap.size + 1 < y3.heap.size := by omega
        have bndO : w.heap.size + 1 < y2.heap.size := by omega
        have low : u1.heap.size ≤ y2.heap.size := by omega
        replace O1 := hideIt (O1.out.chg cset (fun q hq hm => by simp at hm; subst hm; exact D1 hq))
        replace O2 := hideIt (O2.out.chg cset (fun q hq hm => by simp at hm; subst hm; exact D2 hq))
        replace O3 := hideIt (O3.out.chg cset (fun q hq hm => by simp at hm hq; omega))
        replace gg : Grows u1 (((y4.setCell ⟨y2.heap.size, 0, none⟩ (.slice B1 t.slews.length c1)).setCell ⟨y2.heap.size, 1, none⟩ (.slice B2 t.loads.length c2)).setCell ⟨y2.heap.size, 2, none⟩ (.slice (some ⟨y3.heap.size, 0, none⟩) t.values.length t.values.length)) := Grows.chg gg cset (fun q hq => by simp at hq; omega)
        have ND := hideIt (And.intro OW1.out.1 (And.intro OW2.out.1 D6))
        have DD := hideIt (And.intro D1 (And.intro D2 (And.intro D3 (And.intro D4 D5))))
        have BB := hideIt (And.intro bnd1 (And.intro bnd2 (And.intro bndM bndO)))
        generalize ((y4.setCell ⟨y2.heap.size, 0, none⟩ (.slice B1 t.slews.length c1)).setCell ⟨y2.heap.size, 1, none⟩ (.slice B2 t.loads.length c2)).setCell ⟨y2.heap.size, 2, none⟩ (.slice (some ⟨y3.heap.size, 0, none⟩) t.values.length t.values.length) = y5 at cset BO O1 O2 O3 gg ⊢
        clear kO0 kO1 kO2 fO lO cset D1 D2 D3 D4 D5 D6 bnd1 bnd2 bndM bndO low OW1 OW2
        (try go_wp2_with fail)
        refine hK.out _ _ ?_ (fun hh5 => ?_)
        · (try dsimp only); refine HK.out _ ?_; (repeat (first | exact gg | refine Grows.drew ?_ | refine Grows.drewN ?_ _ | refine Grows.alloc ?_ _ | refine Grows.setCell ?_ (by simp <;> omega) _))
        clear hK K hh4
        try simp only [Act.put, List.setIfInBounds_toArray, List.set_cons_zero, List.set_cons_succ]
        refine wpAnyH_done (by kernel_rfl) ?_ _
        have lowM : u1.heap.size ≤ y3.heap.size := by omega
        exact ⟨B1, B2, c1, c2, y2.heap.size, y3.heap.size, b1, b2, rfl, gg, BO.out, O1.out, O2.out, O3.out, ND.out, DD.out, BB.out, lowM⟩
    · go_simp
      have g9 : Grows y1 (y1.alloc (.cells (madeCells #[.int .i64 0] t.values.length) 2)) := (Grows.refl _).alloc _
      have O3 := hideIt (made_oints (w := y1) t.values.length (by omega))
      generalize y1.alloc (.cells (madeCells #[.int .i64 0] t.values.length) 2) = y2 at g9 O3 ⊢
      replace O1 := hideIt (O1.out.chg (cs := []) (Chg.of_grows g9) (fun _ _ h => by cases h))
      have lM : y1.heap.size < y2.heap.size := O3.out.lt _ (by simp)
      have sz2 := g9.size
      replace gg := Grows.trans gg g9
      clear g9
      (try go_wp2_with fail)
      refine hK.out _ _ ?_ (fun hh2 => ?_)
      · (try dsimp only); refine HK.out _ ?_; (repeat (first | exact gg | refine Grows.drew ?_ | refine Grows.drewN ?_ _ | refine Grows.alloc ?_ _ | refine Grows.setCell ?_ (by simp <;> omega) _))
      clear hK K hh1
      try simp only [Act.put, List.setIfInBounds_toArray, List.set_cons_zero, List.set_cons_succ]
      refine regCall2 5 11 (fun K hK => ?_) (fun K hK => ?_)
      · go_simp
        refine (clone_any _ (RInts.keep h.out.open_.2.1 (show Grows u1 _ from Grows.trans gg (by repeat (first | exact Grows.refl _ | refine Grows.drew ?_ | refine Grows.drewN ?_ _))).keeps) M.out.2.1 M.out.2.2).mono ?_
        rintro e y3 ⟨B2, c2, b2, rfl, o_, ow_, g_⟩
        have g9 : Grows y2 y3 := (show Grows y2 _ from (by repeat (first | exact Grows.refl _ | refine Grows.drew ?_ | refine Grows.drewN ?_ _))).trans g_
        replace O1 := hideIt (O1.out.chg (cs := []) (Chg.of_grows g9) (fun _ _ h => by cases h))
        replace O3 := hideIt (O3.out.chg (cs := []) (Chg.of_grows g9) (fun _ _ h => by cases h))
        have O2 := hideIt o_
        have OW2 : Hid (Own y2.heap.size y3.heap.size b2) := hideIt (by simpa using ow_)
        clear o_ ow_ g_
        have sz3 := g9.size
        replace gg := Grows.trans gg g9
        clear g9
        (try go_wp2_with fail)
        refine hK.out _ _ ?_ (fun hh3 => ?_)
        · (try dsimp only); refine HK.out _ ?_; (repeat (first | exact gg | refine Grows.drew ?_ | refine Grows.drewN ?_ _ | refine Grows.alloc ?_ _ | refine Grows.setCell ?_ (by simp <;> omega) _))
        clear hK K hh2
        try simp only [Act.put, List.setIfInBounds_toArray, List.set_cons_zero, List.set_cons_succ]
        refine regTake 10 (v := ?_) ?_ hh3 ?_
        rotate_left
        · intro w hw; (try dsimp only at hw); go_simp; (try with_reducible rfl)
        try simp only [Act.put, List.setIfInBounds_toArray, List.set_cons_zero, List.set_cons_succ]
        refine regCall 11 (fun K hK => ?_)
        go_simp
        have g9 : Grows y3 (y3.alloc (.cells #[.slice none 0 0, .slice none 0 0, .slice none 0 0] 26)) := (Grows.refl _).alloc _
        have BO := hideIt (Blk.new y3 26 #[.slice none 0 0, .slice none 0 0, .slice none 0 0])
        generalize y3.alloc (.cells #[.slice none 0 0, .slice none 0 0, .slice none 0 0] 26) = y4 at g9 BO ⊢
        replace O1 := hideIt (O1.out.chg (cs := []) (Chg.of_grows g9) (fun _ _ h => by cases h))
        replace O3 := hideIt (O3.out.chg (cs := []) (Chg.of_grows g9) (fun _ _ h => by cases h))
        replace O2 := hideIt (O2.out.chg (cs := []) (Chg.of_grows g9) (fun _ _ h => by cases h))
        have lQ : y3.heap.size < y4.heap.size := BO.out.lt
        have sz4 := g9.size
        replace gg := Grows.trans gg g9
        clear g9
        have kO0 : y4.cell? ⟨y3.heap.size, 0, none⟩ = some (.slice none 0 0) := BO.out.cell 0
        have kO1 : y4.cell? ⟨y3.heap.size, 1, none⟩ = some (.slice none 0 0) := BO.out.cell 1
        have kO2 : y4.cell? ⟨y3.heap.size, 2, none⟩ = some (.slice none 0 0) := BO.out.cell 2
        have fO := BO.out.frozen
        have lO := BO.out.lt
        (try go_wp2_with fail)
        refine hK.out _ _ ?_ (fun hh4 => ?_)
        · (try dsimp only); refine HK.out _ ?_; (repeat (first | exact gg | refine Grows.drew ?_ | refine Grows.drewN ?_ _ | refine Grows.alloc ?_ _ | refine Grows.setCell ?_ (by simp <;> omega) _))
        clear hK K hh3
        try simp only [Act.put, List.setIfInBounds_toArray, List.set_cons_zero, List.set_cons_succ]
        refine regCall 12 (fun K hK => ?_)
        go_simp
        have cset : Chg [y3.heap.size] y4 (((y4.setCell ⟨y3.heap.size, 0, none⟩ (.slice B1 t.slews.length c1)).setCell ⟨y3.heap.size, 1, none⟩ (.slice B2 t.loads.length c2)).setCell ⟨y3.heap.size, 2, none⟩ (.slice (some ⟨y1.heap.size, 0, none⟩) t.values.length t.values.length)) := (((Chg.refl _ _).setCell (by simp) _).setCell (by simp) _).setCell (by simp) _
        replace BO := hideIt (((BO.out.set_ 0 (.slice B1 t.slews.length c1)).set_ 1 (.slice B2 t.loads.length c2)).set_ 2 (.slice (some ⟨y1.heap.size, 0, none⟩) t.values.length t.values.length))
        have D1 : y3.heap.size ∉ b1 := fun hq => by have := OW1.out.2 _ hq; omega
        have D2 : y3.heap.size ∉ b2 := fun hq => by have := OW2.out.2 _ hq; omega
        have D3 : y3.heap.size ≠ y1.heap.size := by omega
        have D4 : y1.heap.size ∉ b1 := fun hq => by have := OW1.out.2 _ hq; omega
        have D5 : y1.heap.size ∉ b2 := fun hq => by have := OW2.out.2 _ hq; omega
        have D6 : ∀ q ∈ b1, q ∉ b2 := fun q h1 h2 => by have := OW1.out.2 _ h1; have := OW2.out.2 _ h2; omega
        have bnd1 : ∀ q ∈ b1, w.heap.size + 1 < q := fun q hq => by have := OW1.out.2 _ hq; omega
        have bnd2 : ∀ q ∈ b2, w.heap.size + 1 < q := fun q hq => by have := OW2.out.2 _ hq; omega
        have bndM : w.heap.size + 1 < y1.heap.size := by omega
        have bndO : w.heap.size + 1 < y3.heap.size := by omega
        have low : u1.heap.size ≤ y3.heap.size := by omega
        replace O1 := hideIt (O1.out.chg cset (fun q hq hm => by simp at hm; subst hm; exact D1 hq))
        replace O2 := hideIt (O2.out.chg cset (fun q hq hm => by simp at hm; subst hm; exact D2 hq))
        replace O3 := hideIt (O3.out.chg cset (fun q hq hm => by simp at hm hq; omega))
        replace gg : Grows u1 (((y4.setCell ⟨y3.heap.size, 0, none⟩ (.slice B1 t.slews.length c1)).setCell ⟨y3.heap.size, 1, none⟩ (.slice B2 t.loads.length c2)).setCell ⟨y3.heap.size, 2, none⟩ (.slice (some ⟨y1.heap.size, 0, none⟩) t.values.length t.values.length)) := Grows.chg gg cset (fun q hq => by simp at hq; omega)
        have ND := hideIt (And.intro OW1.out.1 (And.intro OW2.out.1 D6))
        have DD := hideIt (And.intro D1 (And.intro D2 (And.intro D3 (And.intro D4 D5))))
        have BB := hideIt (And.intro bnd1 (And.intro bnd2 (And.intro bndM bndO)))
        generalize ((y4.setCell ⟨y3.heap.size, 0, none⟩ (.slice B1 t.slews.length c1)).setCell ⟨y3.heap.size, 1, none⟩ (.slice B2 t.loads.length c2)).setCell ⟨y3.heap.size, 2, none⟩ (.slice (some ⟨y1.heap.size, 0, none⟩) t.values.length t.values.length) = y5 at cset BO O1 O2 O3 gg ⊢
        clear kO0 kO1 kO2 fO lO cset D1 D2 D3 D4 D5 D6 bnd1 bnd2 bndM bndO low OW1 OW2
        (try go_wp2_with fail)
        refine hK.out _ _ ?_ (fun hh5 => ?_)
        · (try dsimp only); refine HK.out _ ?_; (repeat (first | exact gg | refine Grows.drew ?_ | refine Grows.drewN ?_ _ | refine Grows.alloc ?_ _ | refine Grows.setCell ?_ (by simp <;> omega) _))
        clear hK K hh4
        try simp only [Act.put, List.setIfInBounds_toArray, List.set_cons_zero, List.set_cons_succ]
        refine wpAnyH_done (by kernel_rfl) ?_ _
        have lowM : u1.heap.size ≤ y1.heap.size := by omega
        exact ⟨B1, B2, c1, c2, y3.heap.size, y1.heap.size, b1, b2, rfl, gg, BO.out, O1.out, O2.out, O3.out, ND.out, DD.out, BB.out, lowM⟩
      · go_simp
        have g9 : Grows y2 (y2.alloc (.cells #[.slice none 0 0, .slice none 0 0, .slice none 0 0] 26)) := (Grows.refl _).alloc _
        have BO := hideIt (Blk.new y2 26 #[.slice none 0 0, .slice none 0 0, .slice none 0 0])
        generalize y2.alloc (.cells #[.slice none 0 0, .slice none 0 0, .slice none 0 0] 26) = y3 at g9 BO ⊢
        replace O1 := hideIt (O1.out.chg (cs := []) (Chg.of_grows g9) (fun _ _ h => by cases h))
        replace O3 := hideIt (O3.out.chg (cs := []) (Chg.of_grows g9) (fun _ _ h => by cases h))
        have lQ : y2.heap.size < y3.heap.size := BO.out.lt
        have sz3 := g9.size
        replace gg := Grows.trans gg g9
        clear g9
        have kO0 : y3.cell? ⟨y2.heap.size, 0, none⟩ = some (.slice none 0 0) := BO.out.cell 0
        have kO1 : y3.cell? ⟨y2.heap.size, 1, none⟩ = some (.slice none 0 0) := BO.out.cell 1
        have kO2 : y3.cell? ⟨y2.heap.size, 2, none⟩ = some (.slice none 0 0) := BO.out.cell 2
        have fO := BO.out.frozen
        have lO := BO.out.lt
        (try go_wp2_with fail)
        refine hK.out _ _ ?_ (fun hh3 => ?_)
        · (try dsimp only); refine HK.out _ ?_; (repeat (first | exact gg | refine Grows.drew ?_ | refine Grows.drewN ?_ _ | refine Grows.alloc ?_ _ | refine Grows.setCell ?_ (by simp <;> omega) _))
        clear hK K hh2
        try simp only [Act.put, List.setIfInBounds_toArray, List.set_cons_zero, List.set_cons_succ]
        refine regCall 5 (fun K hK => ?_)
        go_simp
        refine (clone_any _ (RInts.keep h.out.open_.2.1 (show Grows u1 _ from Grows.trans gg (by repeat (first | exact Grows.refl _ | refine Grows.drew ?_ | refine Grows.drewN ?_ _))).keeps) M.out.2.1 M.out.2.2).mono ?_
        rintro e y4 ⟨B2, c2, b2, rfl, o_, ow_, g_⟩
        have g9 : Grows y3 y4 := (show Grows y3 _ from (by repeat (first | exact Grows.refl _ | refine Grows.drew ?_ | refine Grows.drewN ?_ _))).trans g_
        replace O1 := hideIt (O1.out.chg (cs := []) (Chg.of_grows g9) (fun _ _ h => by cases h))
        replace O3 := hideIt (O3.out.chg (cs := []) (Chg.of_grows g9) (fun _ _ h => by cases h))
        replace BO := hideIt (BO.out.grows g9)
        have O2 := hideIt o_
        have OW2 : Hid (Own y3.heap.size y4.heap.size b2) := hideIt (by simpa using ow_)
        clear o_ ow_ g_
        clear kO0 kO1 kO2 fO lO
        have sz4 := g9.size
        replace gg := Grows.trans gg g9
        clear g9
        have kO0 : y4.cell? ⟨y2.heap.size, 0, none⟩ = some (.slice none 0 0) := BO.out.cell 0
        have kO1 : y4.cell? ⟨y2.heap.size, 1, none⟩ = some (.slice none 0 0) := BO.out.cell 1
        have kO2 : y4.cell? ⟨y2.heap.size, 2, none⟩ = some (.slice none 0 0) := BO.out.cell 2
        have fO := BO.out.frozen
        have lO := BO.out.lt
        (try go_wp2_with fail)
        refine hK.out _ _ ?_ (fun hh4 => ?_)
        · (try dsimp only); refine HK.out _ ?_; (repeat (first | exact gg | refine Grows.drew ?_ | refine Grows.drewN ?_ _ | refine Grows.alloc ?_ _ | refine Grows.setCell ?_ (by simp <;> omega) _))
        clear hK K hh3
        try simp only [Act.put, List.setIfInBounds_toArray, List.set_cons_zero, List.set_cons_succ]
        refine regTake 10 (v := ?_) ?_ hh4 ?_
        rotate_left
        · intro w hw; (try dsimp only at hw); go_simp; (try with_reducible rfl)
        try simp only [Act.put, List.setIfInBounds_toArray, List.set_cons_zero, List.set_cons_succ]
        refine regCall 12 (fun K hK => ?_)
        go_simp
        have cset : Chg [y2.heap.size] y4 (((y4.setCell ⟨y2.heap.size, 0, none⟩ (.slice B1 t.slews.length c1)).setCell ⟨y2.heap.size, 1, none⟩ (.slice B2 t.loads.length c2)).setCell ⟨y2.heap.size, 2, none⟩ (.slice (some ⟨y1.heap.size, 0, none⟩) t.values.length t.values.length)) := (((Chg.refl _ _).setCell (by simp) _).setCell (by simp) _).setCell (by simp) _
        replace BO := hideIt (((BO.out.set_ 0 (.slice B1 t.slews.length c1)).set_ 1 (.slice B2 t.loads.length c2)).set_ 2 (.slice (some ⟨y1.heap.size, 0, none⟩) t.values.length t.values.length))
        have D1 : y2.heap.size ∉ b1 := fun hq => by have := OW1.out.2 _ hq; omega
        have D2 : y2.heap.size ∉ b2 := fun hq => by have := OW2.out.2 _ hq; omega
        have D3 : y2.heap.size ≠ y1.heap.size := by omega
        have D4 : y1.heap.size ∉ b1 := fun hq => by have := OW1.out.2 _ hq; omega
        have D5 : y1.heap.size ∉ b2 := fun hq => by have := OW2.out.2 _ hq; omega
        have D6 : ∀ q ∈ b1, q ∉ b2 := fun q h1 h2 => by have := OW1.out.2 _ h1; have := OW2.out.2 _ h2; omega
        have bnd1 : ∀ q ∈ b1, w.heap.size + 1 < q := fun q hq => by have := OW1.out.2 _ hq; omega
        have bnd2 : ∀ q ∈ b2, w.heap.size + 1 < q := fun q hq => by have := OW2.out.2 _ hq; omega
        have bndM : w.heap.size + 1 < y1.heap.size := by omega
        have bndO : w.heap.size + 1 < y2.heap.size := by omega
        have low : u1.heap.size ≤ y2.heap.size := by omega
        replace O1 := hideIt (O1.out.chg cset (fun q hq hm => by simp at hm; subst hm; exact D1 hq))
        replace O2 := hideIt (O2.out.chg cset (fun q hq hm => by simp at hm; subst hm; exact D2 hq))
        replace O3 := hideIt (O3.out.chg cset (fun q hq hm => by simp at hm hq; omega))
        replace gg : Grows u1 (((y4.setCell ⟨y2.heap.size, 0, none⟩ (.slice B1 t.slews.length c1)).setCell ⟨y2.heap.size, 1, none⟩ (.slice B2 t.loads.length c2)).setCell ⟨y2.heap.size, 2, none⟩ (.slice (some ⟨y1.heap.size, 0, none⟩) t.values.length t.values.length)) := Grows.chg gg cset (fun q hq => by simp at hq; omega)
        have ND := hideIt (And.intro OW1.out.1 (And.intro OW2.out.1 D6))
        have DD := hideIt (And.intro D1 (And.intro D2 (And.intro D3 (And.intro D4 D5))))
        have BB := hideIt (And.intro bnd1 (And.intro bnd2 (And.intro bndM bndO)))
        generalize ((y4.setCell ⟨y2.heap.size, 0, none⟩ (.slice B1 t.slews.length c1)).setCell ⟨y2.heap.size, 1, none⟩ (.slice B2 t.loads.length c2)).setCell ⟨y2.heap.size, 2, none⟩ (.slice (some ⟨y1.heap.size, 0, none⟩) t.values.length t.values.length) = y5 at cset BO O1 O2 O3 gg ⊢
        clear kO0 kO1 kO2 fO lO cset D1 D2 D3 D4 D5 D6 bnd1 bnd2 bndM bndO low OW1 OW2
        (try go_wp2_with fail)
        refine hK.out _ _ ?_ (fun hh5 => ?_)
        · (try dsimp only); refine HK.out _ ?_; (repeat (first | exact gg | refine Grows.drew ?_ | refine Grows.drewN ?_ _ | refine Grows.alloc ?_ _ | refine Grows.setCell ?_ (by simp <;> omega) _))
        clear hK K hh4
        try simp only [Act.put, List.setIfInBounds_toArray, List.set_cons_zero, List.set_cons_succ]
        refine wpAnyH_done (by kernel_rfl) ?_ _
        have lowM : u1.heap.size ≤ y1.heap.size := by omega
        exact ⟨B1, B2, c1, c2, y2.heap.size, y1.heap.size, b1, b2, rfl, gg, BO.out, O1.out, O2.out, O3.out, ND.out, DD.out, BB.out, lowM⟩
    · go_simp
      have g9 : Grows y1 (y1.alloc (.cells #[.slice none 0 0, .slice none 0 0, .slice none 0 0] 26)) := (Grows.refl _).alloc _
      have BO := hideIt (Blk.new y1 26 #[.slice none 0 0, .slice none 0 0, .slice none 0 0])
      generalize y1.alloc (.cells #[.slice none 0 0, .slice none 0 0, .slice none 0 0] 26) = y2 at g9 BO ⊢
      replace O1 := hideIt (O1.out.chg (cs := []) (Chg.of_grows g9) (fun _ _ h => by cases h))
      have lQ : y1.heap.size < y2.heap.size := BO.out.lt
      have sz2 := g9.size
      replace gg := Grows.trans gg g9
      clear g9
      have kO0 : y2.cell? ⟨y1.heap.size, 0, none⟩ = some (.slice none 0 0) := BO.out.cell 0
      have kO1 : y2.cell? ⟨y1.heap.size, 1, none⟩ = some (.slice none 0 0) := BO.out.cell 1
      have kO2 : y2.cell? ⟨y1.heap.size, 2, none⟩ = some (.slice none 0 0) := BO.out.cell 2
      have fO := BO.out.frozen
      have lO := BO.out.lt
      (try go_wp2_with fail)
      refine hK.out _ _ ?_ (fun hh2 => ?_)
      · (try dsimp only); refine HK.out _ ?_; (repeat (first | exact gg | refine Grows.drew ?_ | refine Grows.drewN ?_ _ | refine Grows.alloc ?_ _ | refine Grows.setCell ?_ (by simp <;> omega) _))
      clear hK K hh1
      try simp only [Act.put, List.setIfInBounds_toArray, List.set_cons_zero, List.set_cons_succ]
      refine regCall2 5 9 (fun K hK => ?_) (fun K hK => ?_)
      · go_simp
        refine (clone_any _ (RInts.keep h.out.open_.2.1 (show Grows u1 _ from Grows.trans gg (by repeat (first | exact Grows.refl _ | refine Grows.drew ?_ | refine Grows.drewN ?_ _))).keeps) M.out.2.1 M.out.2.2).mono ?_
        rintro e y3 ⟨B2, c2, b2, rfl, o_, ow_, g_⟩
        have g9 : Grows y2 y3 := (show Grows y2 _ from (by repeat (first | exact Grows.refl _ | refine Grows.drew ?_ | refine Grows.drewN ?_ _))).trans g_
        replace O1 := hideIt (O1.out.chg (cs := []) (Chg.of_grows g9) (fun _ _ h => by cases h))
        replace BO := hideIt (BO.out.grows g9)
        have O2 := hideIt o_
        have OW2 : Hid (Own y2.heap.size y3.heap.size b2) := hideIt (by simpa using ow_)
        clear o_ ow_ g_
        clear kO0 kO1 kO2 fO lO
        have sz3 := g9.size
        replace gg := Grows.trans gg g9
        clear g9
        have kO0 : y3.cell? ⟨y1.heap.size, 0, none⟩ = some (.slice none 0 0) := BO.out.cell 0
        have kO1 : y3.cell? ⟨y1.heap.size, 1, none⟩ = some (.slice none 0 0) := BO.out.cell 1
        have kO2 : y3.cell? ⟨y1.heap.size, 2, none⟩ = some (.slice none 0 0) := BO.out.cell 2
        have fO := BO.out.frozen
        have lO := BO.out.lt
        (try go_wp2_with fail)
        refine hK.out _ _ ?_ (fun hh3 => ?_)
        · (try dsimp only); refine HK.out _ ?_; (repeat (first | exact gg | refine Grows.drew ?_ | refine Grows.drewN ?_ _ | refine Grows.alloc ?_ _ | refine Grows.setCell ?_ (by simp <;> omega) _))
        clear hK K hh2
        try simp only [Act.put, List.setIfInBounds_toArray, List.set_cons_zero, List.set_cons_succ]
        refine regCall 9 (fun K hK => ?_)
        go_simp
        have g9 : Grows y3 (y3.alloc (.cells (madeCells #[.int .i64 0] t.values.length) 2)) := (Grows.refl _).alloc _
        have O3 := hideIt (made_oints (w := y3) t.values.length (by omega))
        generalize y3.alloc (.cells (madeCells #[.int .i64 0] t.values.length) 2) = y4 at g9 O3 ⊢
        replace O1 := hideIt (O1.out.chg (cs := []) (Chg.of_grows g9) (fun _ _ h => by cases h))
        replace BO := hideIt (BO.out.grows g9)
        replace O2 := hideIt (O2.out.chg (cs := []) (Chg.of_grows g9) (fun _ _ h => by cases h))
        have lM : y3.heap.size < y4.heap.size := O3.out.lt _ (by simp)
        clear kO0 kO1 kO2 fO lO
        have sz4 := g9.size
        replace gg := Grows.trans gg g9
        clear g9
        have kO0 : y4.cell? ⟨y1.heap.size, 0, none⟩ = some (.slice none 0 0) := BO.out.cell 0
        have kO1 : y4.cell? ⟨y1.heap.size, 1, none⟩ = some (.slice none 0 0) := BO.out.cell 1
        have kO2 : y4.cell? ⟨y1.heap.size, 2, none⟩ = some (.slice none 0 0) := BO.out.cell 2
        have fO := BO.out.frozen
        have lO := BO.out.lt
        (try go_wp2_with fail)
        refine hK.out _ _ ?_ (fun hh4 => ?_)
        · (try dsimp only); refine HK.out _ ?_; (repeat (first | exact gg | refine Grows.drew ?_ | refine Grows.drewN ?_ _ | refine Grows.alloc ?_ _ | refine Grows.setCell ?_ (by simp <;> omega) _))
        clear hK K hh3
        try simp only [Act.put, List.setIfInBounds_toArray, List.set_cons_zero, List.set_cons_succ]
        refine regTake 10 (v := ?_) ?_ hh4 ?_
        rotate_left
        · intro w hw; (try dsimp only at hw); go_simp; (try with_reducible rfl)
        try simp only [Act.put, List.setIfInBounds_toArray, List.set_cons_zero, List.set_cons_succ]
        refine regCall 12 (fun K hK => ?_)
        go_simp
        have cset : Chg [y1.heap.size] y4 (((y4.setCell ⟨y1.heap.size, 0, none⟩ (.slice B1 t.slews.length c1)).setCell ⟨y1.heap.size, 1, none⟩ (.slice B2 t.loads.length c2)).setCell ⟨y1.heap.size, 2, none⟩ (.slice (some ⟨y3.heap.size, 0, none⟩) t.values.length t.values.length)) := (((Chg.refl _ _).setCell (by simp) _).setCell (by simp) _).setCell (by simp) _
        replace BO := hideIt (((BO.out.set_ 0 (.slice B1 t.slews.length c1)).set_ 1 (.slice B2 t.loads.length c2)).set_ 2 (.slice (some ⟨y3.heap.size, 0, none⟩) t.values.length t.values.length))
        have D1 : y1.heap.size ∉ b1 := fun hq => by have := OW1.out.2 _ hq; omega
        have D2 : y1.heap.size ∉ b2 := fun hq => by have := OW2.out.2 _ hq; omega
        have D3 : y1.heap.size ≠ y3.heap.size := by omega
        have D4 : y3.heap.size ∉ b1 := fun hq => by have := OW1.out.2 _ hq; omega
        have D5 : y3.heap.size ∉ b2 := fun hq => by have := OW2.out.2 _ hq; omega
        have D6 : ∀ q ∈ b1, q ∉ b2 := fun q h1 h2 => by have := OW1.out.2 _ h1; have := OW2.out.2 _ h2; omega
        have bnd1 : ∀ q ∈ b1, w.heap.size + 1 < q := fun q hq => by have := OW1.out.2 _ hq; omega
        have bnd2 : ∀ q ∈ b2, w.heap.size + 1 < q := fun q hq => by have := OW2.out.2 _ hq; omega
        have bndM : w.heap.size + 1 < y3.heap.size := by omega
        have bndO : w.heap.size + 1 < y1.heap.size := by omega
        have low : u1.heap.size ≤ y1.heap.size := by omega
        replace O1 := hideIt (O1.out.chg cset (fun q hq hm => by simp at hm; subst hm; exact D1 hq))
        replace O2 := hideIt (O2.out.chg cset (fun q hq hm => by simp at hm; subst hm; exact D2 hq))
        replace O3 := hideIt (O3.out.chg cset (fun q hq hm => by simp at hm hq; omega))
        replace gg : Grows u1 (((y4.setCell ⟨y1.heap.size, 0, none⟩ (.slice B1 t.slews.length c1)).setCell ⟨y1.heap.size, 1, none⟩ (.slice B2 t.loads.length c2)).setCell ⟨y1.heap.size, 2, none⟩ (.slice (some ⟨y3.heap.size, 0, none⟩) t.values.length t.values.length)) := Grows.chg gg cset (fun q hq => by simp at hq; omega)
        have ND := hideIt (And.intro OW1.out.1 (And.intro OW2.out.1 D6))
        have DD := hideIt (And.intro D1 (And.intro D2 (And.intro D3 (And.intro D4 D5))))
        have BB := hideIt (And.intro bnd1 (And.intro bnd2 (And.intro bndM bndO)))
        generalize ((y4.setCell ⟨y1.heap.size, 0, none⟩ (.slice B1 t.slews.length c1)).setCell ⟨y1.heap.size, 1, none⟩ (.slice B2 t.loads.length c2)).setCell ⟨y1.heap.size, 2, none⟩ (.slice (some ⟨y3.heap.size, 0, none⟩) t.values.length t.values.length) = y5 at cset BO O1 O2 O3 gg ⊢
        clear kO0 kO1 kO2 fO lO cset D1 D2 D3 D4 D5 D6 bnd1 bnd2 bndM bndO low OW1 OW2
        (try go_wp2_with fail)
        refine hK.out _ _ ?_ (fun hh5 => ?_)
        · (try dsimp only); refine HK.out _ ?_; (repeat (first | exact gg | refine Grows.drew ?_ | refine Grows.drewN ?_ _ | refine Grows.alloc ?_ _ | refine Grows.setCell ?_ (by simp <;> omega) _))
        clear hK K hh4
        try simp only [Act.put, List.setIfInBounds_toArray, List.set_cons_zero, List.set_cons_succ]
        refine wpAnyH_done (by kernel_rfl) ?_ _
        have lowM : u1.heap.size ≤ y3.heap.size := by omega
        exact ⟨B1, B2, c1, c2, y1.heap.size, y3.heap.size, b1, b2, rfl, gg, BO.out, O1.out, O2.out, O3.out, ND.out, DD.out, BB.out, lowM⟩
      · go_simp
        have g9 : Grows y2 (y2.alloc (.cells (madeCells #[.int .i64 0] t.values.length) 2)) := (Grows.refl _).alloc _
        have O3 := hideIt (made_oints (w := y2) t.values.length (by omega))
        generalize y2.alloc (.cells (madeCells #[.int .i64 0] t.values.length) 2) = y3 at g9 O3 ⊢
        replace O1 := hideIt (O1.out.chg (cs := []) (Chg.of_grows g9) (fun _ _ h => by cases h))
        replace BO := hideIt (BO.out.grows g9)
        have lM : y2.heap.size < y3.heap.size := O3.out.lt _ (by simp)
        clear kO0 kO1 kO2 fO lO
        have sz3 := g9.size
        replace gg := Grows.trans gg g9
        clear g9
        have kO0 : y3.cell? ⟨y1.heap.size, 0, none⟩ = some (.slice none 0 0) := BO.out.cell 0
        have kO1 : y3.cell? ⟨y1.heap.size, 1, none⟩ = some (.slice none 0 0) := BO.out.cell 1
        have kO2 : y3.cell? ⟨y1.heap.size, 2, none⟩ = some (.slice none 0 0) := BO.out.cell 2
        have fO := BO.out.frozen
        have lO := BO.out.lt
        (try go_wp2_with fail)
        refine hK.out _ _ ?_ (fun hh3 => ?_)
        · (try dsimp only); refine HK.out _ ?_; (repeat (first | exact gg | refine Grows.drew ?_ | refine Grows.drewN ?_ _ | refine Grows.alloc ?_ _ | refine Grows.setCell ?_ (by simp <;> omega) _))
        clear hK K hh2
        try simp only [Act.put, List.setIfInBounds_toArray, List.set_cons_zero, List.set_cons_succ]
        refine regCall 5 (fun K hK => ?_)
        go_simp
        refine (clone_any _ (RInts.keep h.out.open_.2.1 (show Grows u1 _ from Grows.trans gg (by repeat (first | exact Grows.refl _ | refine Grows.drew ?_ | refine Grows.drewN ?_ _))).keeps) M.out.2.1 M.out.2.2).mono ?_
        rintro e y4 ⟨B2, c2, b2, rfl, o_, ow_, g_⟩
        have g9 : Grows y3 y4 := (show Grows y3 _ from (by repeat (first | exact Grows.refl _ | refine Grows.drew ?_ | refine Grows.drewN ?_ _))).trans g_
        replace O1 := hideIt (O1.out.chg (cs := []) (Chg.of_grows g9) (fun _ _ h => by cases h))
        replace BO := hideIt (BO.out.grows g9)
        replace O3 := hideIt (O3.out.chg (cs := []) (Chg.of_grows g9) (fun _ _ h => by cases h))
        have O2 := hideIt o_
        have OW2 : Hid (Own y3.heap.size y4.heap.size b2) := hideIt (by simpa using ow_)
        clear o_ ow_ g_
        clear kO0 kO1 kO2 fO lO
        have sz4 := g9.size
        replace gg := Grows.trans gg g9
        clear g9
        have kO0 : y4.cell? ⟨y1.heap.size, 0, none⟩ = some (.slice none 0 0) := BO.out.cell 0
        have kO1 : y4.cell? ⟨y1.heap.size, 1, none⟩ = some (.slice none 0 0) := BO.out.cell 1
        have kO2 : y4.cell? ⟨y1.heap.size, 2, none⟩ = some (.slice none 0 0) := BO.out.cell 2
        have fO := BO.out.frozen
        have lO := BO.out.lt
        (try go_wp2_with fail)
        refine hK.out _ _ ?_ (fun hh4 => ?_)
        · (try dsimp only); refine HK.out _ ?_; (repeat (first | exact gg | refine Grows.drew ?_ | refine Grows.drewN ?_ _ | refine Grows.alloc ?_ _ | refine Grows.setCell ?_ (by simp <;> omega) _))
        clear hK K hh3
        try simp only [Act.put, List.setIfInBounds_toArray, List.set_cons_zero, List.set_cons_succ]
        refine regTake 10 (v := ?_) ?_ hh4 ?_
        rotate_left
        · intro w hw; (try dsimp only at hw); go_simp; (try with_reducible rfl)
        try simp only [Act.put, List.setIfInBounds_toArray, List.set_cons_zero, List.set_cons_succ]
        refine regCall 12 (fun K hK => ?_)
        go_simp
        have cset : Chg [y1.heap.size] y4 (((y4.setCell ⟨y1.heap.size, 0, none⟩ (.slice B1 t.slews.length c1)).setCell ⟨y1.heap.size, 1, none⟩ (.slice B2 t.loads.length c2)).setCell ⟨y1.heap.size, 2, none⟩ (.slice (some ⟨y2.heap.size, 0, none⟩) t.values.length t.values.length)) := (((Chg.refl _ _).setCell (by simp) _).setCell (by simp) _).setCell (by simp) _
        replace BO := hideIt (((BO.out.set_ 0 (.slice B1 t.slews.length c1)).set_ 1 (.slice B2 t.loads.length c2)).set_ 2 (.slice (some ⟨y2.heap.size, 0, none⟩) t.values.length t.values.length))
        have D1 : y1.heap.size ∉ b1 := fun hq => by have := OW1.out.2 _ hq; omega
        have D2 : y1.heap.size ∉ b2 := fun hq => by have := OW2.out.2 _ hq; omega
        have D3 : y1.heap.size ≠ y2.heap.size := by omega
        have D4 : y2.heap.size ∉ b1 := fun hq => by have := OW1.out.2 _ hq; omega
        have D5 : y2.heap.size ∉ b2 := fun hq => by have := OW2.out.2 _ hq; omega
        have D6 : ∀ q ∈ b1, q ∉ b2 := fun q h1 h2 => by have := OW1.out.2 _ h1; have := OW2.out.2 _ h2; omega
        have bnd1 : ∀ q ∈ b1, w.heap.size + 1 < q := fun q hq => by have := OW1.out.2 _ hq; omega
        have bnd2 : ∀ q ∈ b2, w.heap.size + 1 < q := fun q hq => by have := OW2.out.2 _ hq; omega
        have bndM : w.heap.size + 1 < y2.heap.size := by omega
        have bndO : w.heap.size + 1 < y1.heap.size := by omega
        have low : u1.heap.size ≤ y1.heap.size := by omega
        replace O1 := hideIt (O1.out.chg cset (fun q hq hm => by simp at hm; subst hm; exact D1 hq))
        replace O2 := hideIt (O2.out.chg cset (fun q hq hm => by simp at hm; subst hm; exact D2 hq))
        replace O3 := hideIt (O3.out.chg cset (fun q hq hm => by simp at hm hq; omega))
        replace gg : Grows u1 (((y4.setCell ⟨y1.heap.size, 0, none⟩ (.slice B1 t.slews.length c1)).setCell ⟨y1.heap.size, 1, none⟩ (.slice B2 t.loads.length c2)).setCell ⟨y1.heap.size, 2, none⟩ (.slice (some ⟨y2.heap.size, 0, none⟩) t.values.length t.values.length)) := Grows.chg gg cset (fun q hq => by simp at hq; omega)
        have ND := hideIt (And.intro OW1.out.1 (And.intro OW2.out.1 D6))
        have DD := hideIt (And.intro D1 (And.intro D2 (And.intro D3 (And.intro D4 D5))))
        have BB := hideIt (And.intro bnd1 (And.intro bnd2 (And.intro bndM bndO)))
        generalize ((y4.setCell ⟨y1.heap.size, 0, none⟩ (.slice B1 t.slews.length c1)).setCell ⟨y1.heap.size, 1, none⟩ (.slice B2 t.loads.length c2)).setCell ⟨y1.heap.size, 2, none⟩ (.slice (some ⟨y2.heap.size, 0, none⟩) t.values.length t.values.length) = y5 at cset BO O1 O2 O3 gg ⊢
        clear kO0 kO1 kO2 fO lO cset D1 D2 D3 D4 D5 D6 bnd1 bnd2 bndM bndO low OW1 OW2
        (try go_wp2_with fail)
        refine hK.out _ _ ?_ (fun hh5 => ?_)
        · (try dsimp only); refine HK.out _ ?_; (repeat (first | exact gg | refine Grows.drew ?_ | refine Grows.drewN ?_ _ | refine Grows.alloc ?_ _ | refine Grows.setCell ?_ (by simp <;> omega) _))
        clear hK K hh4
        try simp only [Act.put, List.setIfInBounds_toArray, List.set_cons_zero, List.set_cons_succ]
        refine wpAnyH_done (by kernel_rfl) ?_ _
        have lowM : u1.heap.size ≤ y2.heap.size := by omega
        exact ⟨B1, B2, c1, c2, y1.heap.size, y2.heap.size, b1, b2, rfl, gg, BO.out, O1.out, O2.out, O3.out, ND.out, DD.out, BB.out, lowM⟩
  · go_simp
    have g9 : Grows u1 (u1.alloc (.cells (madeCells #[.int .i64 0] t.values.length) 2)) := (Grows.refl _).alloc _
    have O3 := hideIt (made_oints (w := u1) t.values.length (by omega))
    generalize u1.alloc (.cells (madeCells #[.int .i64 0] t.values.length) 2) = y1 at g9 O3 ⊢
    have lM : u1.heap.size < y1.heap.size := O3.out.lt _ (by simp)
    have sz1 := g9.size
    replace gg := Grows.trans gg g9
    clear g9
    (try go_wp2_with fail)
    refine hK.out _ _ ?_ (fun hh1 => ?_)
    · (try dsimp only); refine HK.out _ ?_; (repeat (first | exact gg | refine Grows.drew ?_ | refine Grows.drewN ?_ _ | refine Grows.alloc ?_ _ | refine Grows.setCell ?_ (by simp <;> omega) _))
    clear hK K hh0
    try simp only [Act.put, List.setIfInBounds_toArray, List.set_cons_zero, List.set_cons_succ]
    refine regCall2 2 11 (fun K hK => ?_) (fun K hK => ?_)
    · go_simp
      refine (clone_any _ (RInts.keep h.out.open_.1 (show Grows u1 _ from Grows.trans gg (by repeat (first | exact Grows.refl _ | refine Grows.drew ?_ | refine Grows.drewN ?_ _))).keeps) M.out.1.1 M.out.1.2).mono ?_
      rintro e y2 ⟨B1, c1, b1, rfl, o_, ow_, g_⟩
      have g9 : Grows y1 y2 := (show Grows y1 _ from (by repeat (first | exact Grows.refl _ | refine Grows.drew ?_ | refine Grows.drewN ?_ _))).trans g_
      replace O3 := hideIt (O3.out.chg (cs := []) (Chg.of_grows g9) (fun _ _ h => by cases h))
      have O1 := hideIt o_
      have OW1 : Hid (Own y1.heap.size y2.heap.size b1) := hideIt (by simpa using ow_)
      clear o_ ow_ g_
      have sz2 := g9.size
      replace gg := Grows.trans gg g9
      clear g9
      (try go_wp2_with fail)
      refine hK.out _ _ ?_ (fun hh2 => ?_)
      · (try dsimp only); refine HK.out _ ?_; (repeat (first | exact gg | refine Grows.drew ?_ | refine Grows.drewN ?_ _ | refine Grows.alloc ?_ _ | refine Grows.setCell ?_ (by simp <;> omega) _))
      clear hK K hh1
      try simp only [Act.put, List.setIfInBounds_toArray, List.set_cons_zero, List.set_cons_succ]
      refine regCall2 5 11 (fun K hK => ?_) (fun K hK => ?_)
      · go_simp
        refine (clone_any _ (RInts.keep h.out.open_.2.1 (show Grows u1 _ from Grows.trans gg (by repeat (first | exact Grows.refl _ | refine Grows.drew ?_ | refine Grows.drewN ?_ _))).keeps) M.out.2.1 M.out.2.2).mono ?_
        rintro e y3 ⟨B2, c2, b2, rfl, o_, ow_, g_⟩
        have g9 : Grows y2 y3 := (show Grows y2 _ from (by repeat (first | exact Grows.refl _ | refine Grows.drew ?_ | refine Grows.drewN ?_ _))).trans g_
        replace O3 := hideIt (O3.out.chg (cs := []) (Chg.of_grows g9) (fun _ _ h => by cases h))
        replace O1 := hideIt (O1.out.chg (cs := []) (Chg.of_grows g9) (fun _ _ h => by cases h))
        have O2 := hideIt o_
        have OW2 : Hid (Own y2.heap.size y3.heap.size b2) := hideIt (by simpa using ow_)
        clear o_ ow_ g_
        have sz3 := g9.size
        replace gg := Grows.trans gg g9
        clear g9
        (try go_wp2_with fail)
        refine hK.out _ _ ?_ (fun hh3 => ?_)
        · (try dsimp only); refine HK.out _ ?_; (repeat (first | exact gg | refine Grows.drew ?_ | refine Grows.drewN ?_ _ | refine Grows.alloc ?_ _ | refine Grows.setCell ?_ (by simp <;> omega) _))
        clear hK K hh2
        try simp only [Act.put, List.setIfInBounds_toArray, List.set_cons_zero, List.set_cons_succ]
        refine regTake 10 (v := ?_) ?_ hh3 ?_
        rotate_left
        · intro w hw; (try dsimp only at hw); go_simp; (try with_reducible rfl)
        try simp only [Act.put, List.setIfInBounds_toArray, List.set_cons_zero, List.set_cons_succ]
        refine regCall 11 (fun K hK => ?_)
        go_simp
        have g9 : Grows y3 (y3.alloc (.cells #[.slice none 0 0, .slice none 0 0, .slice none 0 0] 26)) := (Grows.refl _).alloc _
        have BO := hideIt (Blk.new y3 26 #[.slice none 0 0, .slice none 0 0, .slice none 0 0])
        generalize y3.alloc (.cells #[.slice none 0 0, .slice none 0 0, .slice none 0 0] 26) = y4 at g9 BO ⊢
        replace O3 := hideIt (O3.out.chg (cs := []) (Chg.of_grows g9) (fun _ _ h => by cases h))
        replace O1 := hideIt (O1.out.chg (cs := []) (Chg.of_grows g9) (fun _ _ h => by cases h))
        replace O2 := hideIt (O2.out.chg (cs := []) (Chg.of_grows g9) (fun _ _ h => by cases h))
        have lQ : y3.heap.size < y4.heap.size := BO.out.lt
        have sz4 := g9.size
        replace gg := Grows.trans gg g9
        clear g9
        have kO0 : y4.cell? ⟨y3.heap.size, 0, none⟩ = some (.slice none 0 0) := BO.out.cell 0
        have kO1 : y4.cell? ⟨y3.heap.size, 1, none⟩ = some (.slice none 0 0) := BO.out.cell 1
        have kO2 : y4.cell? ⟨y3.heap.size, 2, none⟩ = some (.slice none 0 0) := BO.out.cell 2
        have fO := BO.out.frozen
        have lO := BO.out.lt
        (try go_wp2_with fail)
        refine hK.out _ _ ?_ (fun hh4 => ?_)
        · (try dsimp only); refine HK.out _ ?_; (repeat (first | exact gg | refine Grows.drew ?_ | refine Grows.drewN ?_ _ | refine Grows.alloc ?_ _ | refine Grows.setCell ?_ (by simp <;> omega) _))
        clear hK K hh3
        try simp only [Act.put, List.setIfInBounds_toArray, List.set_cons_zero, List.set_cons_succ]
        refine regCall 12 (fun K hK => ?_)
        go_simp
        have cset : Chg [y3.heap.size] y4 (((y4.setCell ⟨y3.heap.size, 0, none⟩ (.slice B1 t.slews.length c1)).setCell ⟨y3.heap.size, 1, none⟩ (.slice B2 t.loads.length c2)).setCell ⟨y3.heap.size, 2, none⟩ (.slice (some ⟨u1.heap.size, 0, none⟩) t.values.length t.values.length)) := (((Chg.refl _ _).setCell (by simp) _).setCell (by simp) _).setCell (by simp) _
        replace BO := hideIt (((BO.out.set_ 0 (.slice B1 t.slews.length c1)).set_ 1 (.slice B2 t.loads.length c2)).set_ 2 (.slice (some ⟨u1.heap.size, 0, none⟩) t.values.length t.values.length))
        have D1 : y3.heap.size ∉ b1 := fun hq => by have := OW1.out.2 _ hq; omega
        have D2 : y3.heap.size ∉ b2 := fun hq => by have := OW2.out.2 _ hq; omega
        have D3 : y3.heap.size ≠ u1.heap.size := by omega
        have D4 : u1.heap.size ∉ b1 := fun hq => by have := OW1.out.2 _ hq; omega
        have D5 : u1.heap.size ∉ b2 := fun hq => by have := OW2.out.2 _ hq; omega
        have D6 : ∀ q ∈ b1, q ∉ b2 := fun q h1 h2 => by have := OW1.out.2 _ h1; have := OW2.out.2 _ h2; omega
        have bnd1 : ∀ q ∈ b1, w.heap.size + 1 < q := fun q hq => by have := OW1.out.2 _ hq; omega
        have bnd2 : ∀ q ∈ b2, w.heap.size + 1 < q := fun q hq => by have := OW2.out.2 _ hq; omega
        have bndM : w.heap.size + 1 < u1.heap.size := by omega
        have bndO : w.heap.size + 1 < y3.heap.size := by omega
        have low : u1.heap.size ≤ y3.heap.size := by omega
        replace O1 := hideIt (O1.out.chg cset (fun q hq hm => by simp at hm; subst hm; exact D1 hq))
        replace O2 := hideIt (O2.out.chg cset (fun q hq hm => by simp at hm; subst hm; exact D2 hq))
        replace O3 := hideIt (O3.out.chg cset (fun q hq hm => by simp at hm hq; omega))
        replace gg : Grows u1 (((y4.setCell ⟨y3.heap.size, 0, none⟩ (.slice B1 t.slews.length c1)).setCell ⟨y3.heap.size, 1, none⟩ (.slice B2 t.loads.length c2)).setCell ⟨y3.heap.size, 2, none⟩ (.slice (some ⟨u1.heap.size, 0, none⟩) t.values.length t.values.length)) := Grows.chg gg cset (fun q hq => by simp at hq; omega)
        have ND := hideIt (And.intro OW1.out.1 (And.intro OW2.out.1 D6))
        have DD := hideIt (And.intro D1 (And.intro D2 (And.intro D3 (And.intro D4 D5))))
        have BB := hideIt (And.intro bnd1 (And.intro bnd2 (And.intro bndM bndO)))
        generalize ((y4.setCell ⟨y3.heap.size, 0, none⟩ (.slice B1 t.slews.length c1)).setCell ⟨y3.heap.size, 1, none⟩ (.slice B2 t.loads.length c2)).setCell ⟨y3.heap.size, 2, none⟩ (.slice (some ⟨u1.heap.size, 0, none⟩) t.values.length t.values.length) = y5 at cset BO O1 O2 O3 gg ⊢
        clear kO0 kO1 kO2 fO lO cset D1 D2 D3 D4 D5 D6 bnd1 bnd2 bndM bndO low OW1 OW2
        (try go_wp2_with fail)
        refine hK.out _ _ ?_ (fun hh5 => ?_)
        · (try dsimp only); refine HK.out _ ?_; (repeat (first | exact gg | refine Grows.drew ?_ | refine Grows.drewN ?_ _ | refine Grows.alloc ?_ _ | refine Grows.setCell ?_ (by simp <;> omega) _))
        clear hK K hh4
        try simp only [Act.put, List.setIfInBounds_toArray, List.set_cons_zero, List.set_cons_succ]
        refine wpAnyH_done (by kernel_rfl) ?_ _
        have lowM : u1.heap.size ≤ u1.heap.size := by omega
        exact ⟨B1, B2, c1, c2, y3.heap.size, u1.heap.size, b1, b2, rfl, gg, BO.out, O1.out, O2.out, O3.out, ND.out, DD.out, BB.out, lowM⟩
      · go_simp
        have g9 : Grows y2 (y2.alloc (.cells #[.slice none 0 0, .slice none 0 0, .slice none 0 0] 26)) := (Grows.refl _).alloc _
        have BO := hideIt (Blk.new y2 26 #[.slice none 0 0, .slice none 0 0, .slice none 0 0])
        generalize y2.alloc (.cells #[.slice none 0 0, .slice none 0 0, .slice none 0 0] 26) = y3 at g9 BO ⊢
        replace O3 := hideIt (O3.out.chg (cs := []) (Chg.of_grows g9) (fun _ _ h => by cases h))
        replace O1 := hideIt (O1.out.chg (cs := []) (Chg.of_grows g9) (fun _ _ h => by cases h))
        have lQ : y2.heap.size < y3.heap.size := BO.out.lt
        have sz3 := g9.size
        replace gg := Grows.trans gg g9
        clear g9
        have kO0 : y3.cell? ⟨y2.heap.size, 0, none⟩ = some (.slice none 0 0) := BO.out.cell 0
        have kO1 : y3.cell? ⟨y2.heap.size, 1, none⟩ = some (.slice none 0 0) := BO.out.cell 1
        have kO2 : y3.cell? ⟨y2.heap.size, 2, none⟩ = some (.slice none 0 0) := BO.out.cell 2
        have fO := BO.out.frozen
        have lO := BO.out.lt
        (try go_wp2_with fail)
        refine hK.out _ _ ?_ (fun hh3 => ?_)
        · (try dsimp only); refine HK.out _ ?_; (repeat (first | exact gg | refine Grows.drew ?_ | refine Grows.drewN ?_ _ | refine Grows.alloc ?_ _ | refine Grows.setCell ?_ (by simp <;> omega) _))
        clear hK K hh2
        try simp only [Act.put, List.setIfInBounds_toArray, List.set_cons_zero, List.set_cons_succ]
        refine regCall 5 (fun K hK => ?_)
        go_simp
        refine (clone_any _ (RInts.keep h.out.open_.2.1 (show Grows u1 _ from Grows.trans gg (by repeat (first | exact Grows.refl _ | refine Grows.drew ?_ | refine Grows.drewN ?_ _))).keeps) M.out.2.1 M.out.2.2).mono ?_
        rintro e y4 ⟨B2, c2, b2, rfl, o_, ow_, g_⟩
        have g9 : Grows y3 y4 := (show Grows y3 _ from (by repeat (first | exact Grows.refl _ | refine Grows.drew ?_ | refine Grows.drewN ?_ _))).trans g_
        replace O3 := hideIt (O3.out.chg (cs := []) (Chg.of_grows g9) (fun _ _ h => by cases h))
        replace O1 := hideIt (O1.out.chg (cs := []) (Chg.of_grows g9) (fun _ _ h => by cases h))
        replace BO := hideIt (BO.out.grows g9)
        have O2 := hideIt o_
        have OW2 : Hid (Own y3.heap.size y4.heap.size b2) := hideIt (by simpa using ow_)
        clear o_ ow_ g_
        clear kO0 kO1 kO2 fO lO
        have sz4 := g9.size
        replace gg := Grows.trans gg g9
        clear g9
        have kO0 : y4.cell? ⟨y2.heap.size, 0, none⟩ = some (.slice none 0 0) := BO.out.cell 0
        have kO1 : y4.cell? ⟨y2.heap.size, 1, none⟩ = some (.slice none 0 0) := BO.out.cell 1
        have kO2 : y4.cell? ⟨y2.heap.size, 2, none⟩ = some (.slice none 0 0) := BO.out.cell 2
        have fO := BO.out.frozen
        have lO := BO.out.lt
        (try go_wp2_with fail)
        refine hK.out _ _ ?_ (fun hh4 => ?_)
        · (try dsimp only); refine HK.out _ ?_; (repeat (first | exact gg | refine Grows.drew ?_ | refine Grows.drewN ?_ _ | refine Grows.alloc ?_ _ | refine Grows.setCell ?_ (by simp <;> omega) _))
        clear hK K hh3
        try simp only [Act.put, List.setIfInBounds_toArray, List.set_cons_zero, List.set_cons_succ]
        refine regTake 10 (v := ?_) ?_ hh4 ?_
        rotate_left
        · intro w hw; (try dsimp only at hw); go_simp; (try with_reducible rfl)
        try simp only [Act.put, List.setIfInBounds_toArray, List.set_cons_zero, List.set_cons_succ]
        refine regCall 12 (fun K hK => ?_)
        go_simp
        have cset : Chg [y2.heap.size] y4 (((y4.setCell ⟨y2.heap.size, 0, none⟩ (.slice B1 t.slews.length c1)).setCell ⟨y2.heap.size, 1, none⟩ (.slice B2 t.loads.length c2)).setCell ⟨y2.heap.size, 2, none⟩ (.slice (some ⟨u1.heap.size, 0, none⟩) t.values.length t.values.length)) := (((Chg.refl _ _).setCell (by simp) _).setCell (by simp) _).setCell (by simp) _
        replace BO := hideIt (((BO.out.set_ 0 (.slice B1 t.slews.length c1)).set_ 1 (.slice B2 t.loads.length c2)).set_ 2 (.slice (some ⟨u1.heap.size, 0, none⟩) t.values.length t.values.length))
        have D1 : y2.heap.size ∉ b1 := fun hq => by have := OW1.out.2 _ hq; omega
        have D2 : y2.heap.size ∉ b2 := fun hq => by have := OW2.out.2 _ hq; omega
        have D3 : y2.heap.size ≠ u1.heap.size := by omega
        have D4 : u1.heap.size ∉ b1 := fun hq => by have := OW1.out.2 _ hq; omega
        have D5 : u1.heap.size ∉ b2 := fun hq => by have := OW2.out.2 _ hq; omega
        have D6 : ∀ q ∈ b1, q ∉ b2 := fun q h1 h2 => by have := OW1.out.2 _ h1; have := OW2.out.2 _ h2; omega
        have bnd1 : ∀ q ∈ b1, w.heap.size + 1 < q := fun q hq => by have := OW1.out.2 _ hq; omega
        have bnd2 : ∀ q ∈ b2, w.heap.size + 1 < q := fun q hq => by have := OW2.out.2 _ hq; omega
        have bndM : w.heap.size + 1 < u1.heap.size := by omega
        have bndO : w.heap.size + 1 < y2.heap.size := by omega
        have low : u1.heap.size ≤ y2.heap.size := by omega
        replace O1 := hideIt (O1.out.chg cset (fun q hq hm => by simp at hm; subst hm; exact D1 hq))
        replace O2 := hideIt (O2.out.chg cset (fun q hq hm => by simp at hm; subst hm; exact D2 hq))
        replace O3 := hideIt (O3.out.chg cset (fun q hq hm => by simp at hm hq; omega))
        replace gg : Grows u1 (((y4.setCell ⟨y2.heap.size, 0, none⟩ (.slice B1 t.slews.length c1)).setCell ⟨y2.heap.size, 1, none⟩ (.slice B2 t.loads.length c2)).setCell ⟨y2.heap.size, 2, none⟩ (.slice (some ⟨u1.heap.size, 0, none⟩) t.values.length t.values.length)) := Grows.chg gg cset (fun q hq => by simp at hq; omega)
        have ND := hideIt (And.intro OW1.out.1 (And.intro OW2.out.1 D6))
        have DD := hideIt (And.intro D1 (And.intro D2 (And.intro D3 (And.intro D4 D5))))
        have BB := hideIt (And.intro bnd1 (And.intro bnd2 (And.intro bndM bndO)))
        generalize ((y4.setCell ⟨y2.heap.size, 0, none⟩ (.slice B1 t.slews.length c1)).setCell ⟨y2.heap.size, 1, none⟩ (.slice B2 t.loads.length c2)).setCell ⟨y2.heap.size, 2, none⟩ (.slice (some ⟨u1.heap.size, 0, none⟩) t.values.length t.values.length) = y5 at cset BO O1 O2 O3 gg ⊢
        clear kO0 kO1 kO2 fO lO cset D1 D2 D3 D4 D5 D6 bnd1 bnd2 bndM bndO low OW1 OW2
        (try go_wp2_with fail)
        refine hK.out _ _ ?_ (fun hh5 => ?_)
        · (try dsimp only); refine HK.out _ ?_; (repeat (first | exact gg | refine Grows.drew ?_ | refine Grows.drewN ?_ _ | refine Grows.alloc ?_ _ | refine Grows.setCell ?_ (by simp <;> omega) _))
        clear hK K hh4
        try simp only [Act.put, List.setIfInBounds_toArray, List.set_cons_zero, List.set_cons_succ]
        refine wpAnyH_done (by kernel_rfl) ?_ _
        have lowM : u1.heap.size ≤ u1.heap.size := by omega
        exact ⟨B1, B2, c1, c2, y2.heap.size, u1.heap.size, b1, b2, rfl, gg, BO.out, O1.out, O2.out, O3.out, ND.out, DD.out, BB.out, lowM⟩
    · go_simp
      have g9 : Grows y1 (y1.alloc (.cells #[.slice none 0 0, .slice none 0 0, .slice none 0 0] 26)) := (Grows.refl _).alloc _
      have BO := hideIt (Blk.new y1 26 #[.slice none 0 0, .slice none 0 0, .slice none 0 0])
      generalize y1.alloc (.cells #[.slice none 0 0, .slice none 0 0, .slice none 0 0] 26) = y2 at g9 BO ⊢
      replace O3 := hideIt (O3.out.chg (cs := []) (Chg.of_grows g9) (fun _ _ h => by cases h))
      have lQ : y1.heap.size < y2.heap.size := BO.out.lt
      have sz2 := g9.size
      replace gg := Grows.trans gg g9
      clear g9
      have kO0 : y2.cell? ⟨y1.heap.size, 0, none⟩ = some (.slice none 0 0) := BO.out.cell 0
      have kO1 : y2.cell? ⟨y1.heap.size, 1, none⟩ = some (.slice none 0 0) := BO.out.cell 1
      have kO2 : y2.cell? ⟨y1.heap.size, 2, none⟩ = some (.slice none 0 0) := BO.out.cell 2
      have fO := BO.out.frozen
      have lO := BO.out.lt
      (try go_wp2_with fail)
      refine hK.out _ _ ?_ (fun hh2 => ?_)
      · (try dsimp only); refine HK.out _ ?_; (repeat (first | exact gg | refine Grows.drew ?_ | refine Grows.drewN ?_ _ | refine Grows.alloc ?_ _ | refine Grows.setCell ?_ (by simp <;> omega) _))
      clear hK K hh1
      try simp only [Act.put, List.setIfInBounds_toArray, List.set_cons_zero, List.set_cons_succ]
      refine regCall 2 (fun K hK => ?_)
      go_simp
      refine (clone_any _ (RInts.keep h.out.open_.1 (show Grows u1 _ from Grows.trans gg (by repeat (first | exact Grows.refl _ | refine Grows.drew ?_ | refine Grows.drewN ?_ _))).keeps) M.out.1.1 M.out.1.2).mono ?_
      rintro e y3 ⟨B1, c1, b1, rfl, o_, ow_, g_⟩
      have g9 : Grows y2 y3 := (show Grows y2 _ from (by repeat (first | exact Grows.refl _ | refine Grows.drew ?_ | refine Grows.drewN ?_ _))).trans g_
      replace O3 := hideIt (O3.out.chg (cs := []) (Chg.of_grows g9) (fun _ _ h => by cases h))
      replace BO := hideIt (BO.out.grows g9)
      have O1 := hideIt o_
      have OW1 : Hid (Own y2.heap.size y3.heap.size b1) := hideIt (by simpa using ow_)
      clear o_ ow_ g_
      clear kO0 kO1 kO2 fO lO
      have sz3 := g9.size
      replace gg := Grows.trans gg g9
      clear g9
      have kO0 : y3.cell? ⟨y1.heap.size, 0, none⟩ = some (.slice none 0 0) := BO.out.cell 0
      have kO1 : y3.cell? ⟨y1.heap.size, 1, none⟩ = some (.slice none 0 0) := BO.out.cell 1
      have kO2 : y3.cell? ⟨y1.heap.size, 2, none⟩ = some (.slice none 0 0) := BO.out.cell 2
      have fO := BO.out.frozen
      have lO := BO.out.lt
      (try go_wp2_with fail)
      refine hK.out _ _ ?_ (fun hh3 => ?_)
      · (try dsimp only); refine HK.out _ ?_; (repeat (first | exact gg | refine Grows.drew ?_ | refine Grows.drewN ?_ _ | refine Grows.alloc ?_ _ | refine Grows.setCell ?_ (by simp <;> omega) _))
      clear hK K hh2
      try simp only [Act.put, List.setIfInBounds_toArray, List.set_cons_zero, List.set_cons_succ]
      refine regCall 5 (fun K hK => ?_)
      go_simp
      refine (clone_any _ (RInts.keep h.out.open_.2.1 (show Grows u1 _ from Grows.trans gg (by repeat (first | exact Grows.refl _ | refine Grows.drew ?_ | refine Grows.drewN ?_ _))).keeps) M.out.2.1 M.out.2.2).mono ?_
      rintro e y4 ⟨B2, c2, b2, rfl, o_, ow_, g_⟩
      have g9 : Grows y3 y4 := (show Grows y3 _ from (by repeat (first | exact Grows.refl _ | refine Grows.drew ?_ | refine Grows.drewN ?_ _))).trans g_
      replace O3 := hideIt (O3.out.chg (cs := []) (Chg.of_grows g9) (fun _ _ h => by cases h))
      replace BO := hideIt (BO.out.grows g9)
      replace O1 := hideIt (O1.out.chg (cs := []) (Chg.of_grows g9) (fun _ _ h => by cases h))
      have O2 := hideIt o_
      have OW2 : Hid (Own y3.heap.size y4.heap.size b2) := hideIt (by simpa using ow_)
      clear o_ ow_ g_
      clear kO0 kO1 kO2 fO lO
      have sz4 := g9.size
      replace gg := Grows.trans gg g9
      clear g9
      have kO0 : y4.cell? ⟨y1.heap.size, 0, none⟩ = some (.slice none 0 0) := BO.out.cell 0
      have kO1 : y4.cell? ⟨y1.heap.size, 1, none⟩ = some (.slice none 0 0) := BO.out.cell 1
      have kO2 : y4.cell? ⟨y1.heap.size, 2, none⟩ = some (.slice none 0 0) := BO.out.cell 2
      have fO := BO.out.frozen
      have lO := BO.out.lt
      (try go_wp2_with fail)
      refine hK.out _ _ ?_ (fun hh4 => ?_)
      · (try dsimp only); refine HK.out _ ?_; (repeat (first | exact gg | refine Grows.drew ?_ | refine Grows.drewN ?_ _ | refine Grows.alloc ?_ _ | refine Grows.setCell ?_ (by simp <;> omega) _))
      clear hK K hh3
      try simp only [Act.put, List.setIfInBounds_toArray, List.set_cons_zero, List.set_cons_succ]
      refine regTake 10 (v := ?_) ?_ hh4 ?_
      rotate_left
      · intro w hw; (try dsimp only at hw); go_simp; (try with_reducible rfl)
      try simp only [Act.put, List.setIfInBounds_toArray, List.set_cons_zero, List.set_cons_succ]
      refine regCall 12 (fun K hK => ?_)
      go_simp
      have cset : Chg [y1.heap.size] y4 (((y4.setCell ⟨y1.heap.size, 0, none⟩ (.slice B1 t.slews.length c1)).setCell ⟨y1.heap.size, 1, none⟩ (.slice B2 t.loads.length c2)).setCell ⟨y1.heap.size, 2, none⟩ (.slice (some ⟨u1.heap.size, 0, none⟩) t.values.length t.values.length)) := (((Chg.refl _ _).setCell (by simp) _).setCell (by simp) _).setCell (by simp) _
      replace BO := hideIt (((BO.out.set_ 0 (.slice B1 t.slews.length c1)).set_ 1 (.slice B2 t.loads.length c2)).set_ 2 (.slice (some ⟨u1.heap.size, 0, none⟩) t.values.length t.values.length))
      have D1 : y1.heap.size ∉ b1 := fun hq => by have := OW1.out.2 _ hq; omega
      have D2 : y1.heap.size ∉ b2 := fun hq => by have := OW2.out.2 _ hq; omega
      have D3 : y1.heap.size ≠ u1.heap.size := by omega
      have D4 : u1.heap.size ∉ b1 := fun hq => by have := OW1.out.2 _ hq; omega
      have D5 : u1.heap.size ∉ b2 := fun hq => by have := OW2.out.2 _ hq; omega
      have D6 : ∀ q ∈ b1, q ∉ b2 := fun q h1 h2 => by have := OW1.out.2 _ h1; have := OW2.out.2 _ h2; omega
      have bnd1 : ∀ q ∈ b1, w.heap.size + 1 < q := fun q hq => by have := OW1.out.2 _ hq; omega
      have bnd2 : ∀ q ∈ b2, w.heap.size + 1 < q := fun q hq => by have := OW2.out.2 _ hq; omega
      have bndM : w.heap.size + 1 < u1.heap.size := by omega
      have bndO : w.heap.size + 1 < y1.heap.size := by omega
      have low : u1.heap.size ≤ y1.heap.size := by omega
      replace O1 := hideIt (O1.out.chg cset (fun q hq hm => by simp at hm; subst hm; exact D1 hq))
      replace O2 := hideIt (O2.out.chg cset (fun q hq hm => by simp at hm; subst hm; exact D2 hq))
      replace O3 := hideIt (O3.out.chg cset (fun q hq hm => by simp at hm hq; omega))
      replace gg : Grows u1 (((y4.setCell ⟨y1.heap.size, 0, none⟩ (.slice B1 t.slews.length c1)).setCell ⟨y1.heap.size, 1, none⟩ (.slice B2 t.loads.length c2)).setCell ⟨y1.heap.size, 2, none⟩ (.slice (some ⟨u1.heap.size, 0, none⟩) t.values.length t.values.length)) := Grows.chg gg cset (fun q hq => by simp at hq; omega)
      have ND := hideIt (And.intro OW1.out.1 (And.intro OW2.out.1 D6))
      have DD := hideIt (And.intro D1 (And.intro D2 (And.intro D3 (And.intro D4 D5))))
      have BB := hideIt (And.intro bnd1 (And.intro bnd2 (And.intro bndM bndO)))
      generalize ((y4.setCell ⟨y1.heap.size, 0, none⟩ (.slice B1 t.slews.length c1)).setCell ⟨y1.heap.size, 1, none⟩ (.slice B2 t.loads.length c2)).setCell ⟨y1.heap.size, 2, none⟩ (.slice (some ⟨u1.heap.size, 0, none⟩) t.values.length t.values.length) = y5 at cset BO O1 O2 O3 gg ⊢
      clear kO0 kO1 kO2 fO lO cset D1 D2 D3 D4 D5 D6 bnd1 bnd2 bndM bndO low OW1 OW2
      (try go_wp2_with fail)
      refine hK.out _ _ ?_ (fun hh5 => ?_)
      · (try dsimp only); refine HK.out _ ?_; (repeat (first | exact gg | refine Grows.drew ?_ | refine Grows.drewN ?_ _ | refine Grows.alloc ?_ _ | refine Grows.setCell ?_ (by simp <;> omega) _))
      clear hK K hh4
      try simp only [Act.put, List.setIfInBounds_toArray, List.set_cons_zero, List.set_cons_succ]
      refine wpAnyH_done (by kernel_rfl) ?_ _
      have lowM : u1.heap.size ≤ u1.heap.size := by omega
      exact ⟨B1, B2, c1, c2, y1.heap.size, u1.heap.size, b1, b2, rfl, gg, BO.out, O1.out, O2.out, O3.out, ND.out, DD.out, BB.out, lowM⟩
  · go_simp
    have g9 : Grows u1 (u1.alloc (.cells #[.slice none 0 0, .slice none 0 0, .slice none 0 0] 26)) := (Grows.refl _).alloc _
    have BO := hideIt (Blk.new u1 26 #[.slice none 0 0, .slice none 0 0, .slice none 0 0])
    generalize u1.alloc (.cells #[.slice none 0 0, .slice none 0 0, .slice none 0 0] 26) = y1 at g9 BO ⊢
    have lQ : u1.heap.size < y1.heap.size := BO.out.lt
    have sz1 := g9.size
    replace gg := Grows.trans gg g9
    clear g9
    have kO0 : y1.cell? ⟨u1.heap.size, 0, none⟩ = some (.slice none 0 0) := BO.out.cell 0
    have kO1 : y1.cell? ⟨u1.heap.size, 1, none⟩ = some (.slice none 0 0) := BO.out.cell 1
    have kO2 : y1.cell? ⟨u1.heap.size, 2, none⟩ = some (.slice none 0 0) := BO.out.cell 2
    have fO := BO.out.frozen
    have lO := BO.out.lt
    (try go_wp2_with fail)
    refine hK.out _ _ ?_ (fun hh1 => ?_)
    · (try dsimp only); refine HK.out _ ?_; (repeat (first | exact gg | refine Grows.drew ?_ | refine Grows.drewN ?_ _ | refine Grows.alloc ?_ _ | refine Grows.setCell ?_ (by simp <;> omega) _))
    clear hK K hh0
    try simp only [Act.put, List.setIfInBounds_toArray, List.set_cons_zero, List.set_cons_succ]
    refine regCall2 2 9 (fun K hK => ?_) (fun K hK => ?_)
    · go_simp
      refine (clone_any _ (RInts.keep h.out.open_.1 (show Grows u1 _ from Grows.trans gg (by repeat (first | exact Grows.refl _ | refine Grows.drew ?_ | refine Grows.drewN ?_ _))).keeps) M.out.1.1 M.out.1.2).mono ?_
      rintro e y2 ⟨B1, c1, b1, rfl, o_, ow_, g_⟩
      have g9 : Grows y1 y2 := (show Grows y1 _ from (by repeat (first | exact Grows.refl _ | refine Grows.drew ?_ | refine Grows.drewN ?_ _))).trans g_
      replace BO := hideIt (BO.out.grows g9)
      have O1 := hideIt o_
      have OW1 : Hid (Own y1.heap.size y2.heap.size b1) := hideIt (by simpa using ow_)
      clear o_ ow_ g_
      clear kO0 kO1 kO2 fO lO
      have sz2 := g9.size
      replace gg := Grows.trans gg g9
      clear g9
      have kO0 : y2.cell? ⟨u1.heap.size, 0, none⟩ = some (.slice none 0 0) := BO.out.cell 0
      have kO1 : y2.cell? ⟨u1.heap.size, 1, none⟩ = some (.slice none 0 0) := BO.out.cell 1
      have kO2 : y2.cell? ⟨u1.heap.size, 2, none⟩ = some (.slice none 0 0) := BO.out.cell 2
      have fO := BO.out.frozen
      have lO := BO.out.lt
      (try go_wp2_with fail)
      refine hK.out _ _ ?_ (fun hh2 => ?_)
      · (try dsimp only); refine HK.out _ ?_; (repeat (first | exact gg | refine Grows.drew ?_ | refine Grows.drewN ?_ _ | refine Grows.alloc ?_ _ | refine Grows.setCell ?_ (by simp <;> omega) _))
      clear hK K hh1
      try simp only [Act.put, List.setIfInBounds_toArray, List.set_cons_zero, List.set_cons_succ]
      refine regCall2 5 9 (fun K hK => ?_) (fun K hK => ?_)
      · go_simp
        refine (clone_any _ (RInts.keep h.out.open_.2.1 (show Grows u1 _ from Grows.trans gg (by repeat (first | exact Grows.refl _ | refine Grows.drew ?_ | refine Grows.drewN ?_ _))).keeps) M.out.2.1 M.out.2.2).mono ?_
        rintro e y3 ⟨B2, c2, b2, rfl, o_, ow_, g_⟩
        have g9 : Grows y2 y3 := (show Grows y2 _ from (by repeat (first | exact Grows.refl _ | refine Grows.drew ?_ | refine Grows.drewN ?_ _))).trans g_
        replace BO := hideIt (BO.out.grows g9)
        replace O1 := hideIt (O1.out.chg (cs := []) (Chg.of_grows g9) (fun _ _ h => by cases h))
        have O2 := hideIt o_
        have OW2 : Hid (Own y2.heap.size y3.heap.size b2) := hideIt (by simpa using ow_)
        clear o_ ow_ g_
        clear kO0 kO1 kO2 fO lO
        have sz3 := g9.size
        replace gg := Grows.trans gg g9
        clear g9
        have kO0 : y3.cell? ⟨u1.heap.size, 0, none⟩ = some (.slice none 0 0) := BO.out.cell 0
        have kO1 : y3.cell? ⟨u1.heap.size, 1, none⟩ = some (.slice none 0 0) := BO.out.cell 1
        have kO2 : y3.cell? ⟨u1.heap.size, 2, none⟩ = some (.slice none 0 0) := BO.out.cell 2
        have fO := BO.out.frozen
        have lO := BO.out.lt
        (try go_wp2_with fail)
        refine hK.out _ _ ?_ (fun hh3 => ?_)
        · (try dsimp only); refine HK.out _ ?_; (repeat (first | exact gg | refine Grows.drew ?_ | refine Grows.drewN ?_ _ | refine Grows.alloc ?_ _ | refine Grows.setCell ?_ (by simp <;> omega) _))
        clear hK K hh2
        try simp only [Act.put, List.setIfInBounds_toArray, List.set_cons_zero, List.set_cons_succ]
        refine regCall 9 (fun K hK => ?_)
        go_simp
        have g9 : Grows y3 (y3.alloc (.cells (madeCells #[.int .i64 0] t.values.length) 2)) := (Grows.refl _).alloc _
        have O3 := hideIt (made_oints (w := y3) t.values.length (by omega))
        generalize y3.alloc (.cells (madeCells #[.int .i64 0] t.values.length) 2) = y4 at g9 O3 ⊢
        replace BO := hideIt (BO.out.grows g9)
        replace O1 := hideIt (O1.out.chg (cs := []) (Chg.of_grows g9) (fun _ _ h => by cases h))
        replace O2 := hideIt (O2.out.chg (cs := []) (Chg.of_grows g9) (fun _ _ h => by cases h))
        have lM : y3.heap.size < y4.heap.size := O3.out.lt _ (by simp)
        clear kO0 kO1 kO2 fO lO
        have sz4 := g9.size
        replace gg := Grows.trans gg g9
        clear g9
        have kO0 : y4.cell? ⟨u1.heap.size, 0, none⟩ = some (.slice none 0 0) := BO.out.cell 0
        have kO1 : y4.cell? ⟨u1.heap.size, 1, none⟩ = some (.slice none 0 0) := BO.out.cell 1
        have kO2 : y4.cell? ⟨u1.heap.size, 2, none⟩ = some (.slice none 0 0) := BO.out.cell 2
        have fO := BO.out.frozen
        have lO := BO.out.lt
        (try go_wp2_with fail)
        refine hK.out _ _ ?_ (fun hh4 => ?_)
        · (try dsimp only); refine HK.out _ ?_; (repeat (first | exact gg | refine Grows.drew ?_ | refine Grows.drewN ?_ _ | refine Grows.alloc ?_ _ | refine Grows.setCell ?_ (by simp <;> omega) _))
        clear hK K hh3
        try simp only [Act.put, List.setIfInBounds_toArray, List.set_cons_zero, List.set_cons_succ]
        refine regTake 10 (v := ?_) ?_ hh4 ?_
        rotate_left
        · intro w hw; (try dsimp only at hw); go_simp; (try with_reducible rfl)
        try simp only [Act.put, List.setIfInBounds_toArray, List.set_cons_zero, List.set_cons_succ]
        refine regCall 12 (fun K hK => ?_)
        go_simp
        have cset : Chg [u1.heap.size] y4 (((y4.setCell ⟨u1.heap.size, 0, none⟩ (.slice B1 t.slews.length c1)).setCell ⟨u1.heap.size, 1, none⟩ (.slice B2 t.loads.length c2)).setCell ⟨u1.heap.size, 2, none⟩ (.slice (some ⟨y3.heap.size, 0, none⟩) t.values.length t.values.length)) := (((Chg.refl _ _).setCell (by simp) _).setCell (by simp) _).setCell (by simp) _
        replace BO := hideIt (((BO.out.set_ 0 (.slice B1 t.slews.length c1)).set_ 1 (.slice B2 t.loads.length c2)).set_ 2 (.slice (some ⟨y3.heap.size, 0, none⟩) t.values.length t.values.length))
        have D1 : u1.heap.size ∉ b1 := fun hq => by have := OW1.out.2 _ hq; omega
        have D2 : u1.heap.size ∉ b2 := fun hq => by have := OW2.out.2 _ hq; omega
        have D3 : u1.heap.size ≠ y3.heap.size := by omega
        have D4 : y3.heap.size ∉ b1 := fun hq => by have := OW1.out.2 _ hq; omega
        have D5 : y3.heap.size ∉ b2 := fun hq => by have := OW2.out.2 _ hq; omega
        have D6 : ∀ q ∈ b1, q ∉ b2 := fun q h1 h2 => by have := OW1.out.2 _ h1; have := OW2.out.2 _ h2; omega
        have bnd1 : ∀ q ∈ b1, w.heap.size + 1 < q := fun q hq => by have := OW1.out.2 _ hq; omega
        have bnd2 : ∀ q ∈ b2, w.heap.size + 1 < q := fun q hq => by have := OW2.out.2 _ hq; omega
        have bndM : w.heap.size + 1 < y3.heap.size := by omega
        have bndO : w.heap.size + 1 < u1.heap.size := by omega
        have low : u1.heap.size ≤ u1.heap.size := by omega
        replace O1 := hideIt (O1.out.chg cset (fun q hq hm => by simp at hm; subst hm; exact D1 hq))
        replace O2 := hideIt (O2.out.chg cset (fun q hq hm => by simp at hm; subst hm; exact D2 hq))
        replace O3 := hideIt (O3.out.chg cset (fun q hq hm => by simp at hm hq; omega))
        replace gg : Grows u1 (((y4.setCell ⟨u1.heap.size, 0, none⟩ (.slice B1 t.slews.length c1)).setCell ⟨u1.heap.size, 1, none⟩ (.slice B2 t.loads.length c2)).setCell ⟨u1.heap.size, 2, none⟩ (.slice (some ⟨y3.heap.size, 0, none⟩) t.values.length t.values.length)) := Grows.chg gg cset (fun q hq => by simp at hq; omega)
        have ND := hideIt (And.intro OW1.out.1 (And.intro OW2.out.1 D6))
        have DD := hideIt (And.intro D1 (And.intro D2 (And.intro D3 (And.intro D4 D5))))
        have BB := hideIt (And.intro bnd1 (And.intro bnd2 (And.intro bndM bndO)))
        generalize ((y4.setCell ⟨u1.heap.size, 0, none⟩ (.slice B1 t.slews.length c1)).setCell ⟨u1.heap.size, 1, none⟩ (.slice B2 t.loads.length c2)).setCell ⟨u1.heap.size, 2, none⟩ (.slice (some ⟨y3.heap.size, 0, none⟩) t.values.length t.values.length) = y5 at cset BO O1 O2 O3 gg ⊢
        clear kO0 kO1 kO2 fO lO cset D1 D2 D3 D4 D5 D6 bnd1 bnd2 bndM bndO low OW1 OW2
        (try go_wp2_with fail)
        refine hK.out _ _ ?_ (fun hh5 => ?_)
        · (try dsimp only); refine HK.out _ ?_; (repeat (first | exact gg | refine Grows.drew ?_ | refine Grows.drewN ?_ _ | refine Grows.alloc ?_ _ | refine Grows.setCell ?_ (by simp <;> omega) _))
        clear hK K hh4
        try simp only [Act.put, List.setIfInBounds_toArray, List.set_cons_zero, List.set_cons_succ]
        refine wpAnyH_done (by kernel_rfl) ?_ _
        have lowM : u1.heap.size ≤ y3.heap.size := by omega
        exact ⟨B1, B2, c1, c2, u1.heap.size, y3.heap.size, b1, b2, rfl, gg, BO.out, O1.out, O2.out, O3.out, ND.out, DD.out, BB.out, lowM⟩
      · go_simp
        have g9 : Grows y2 (y2.alloc (.cells (madeCells #[.int .i64 0] t.values.length) 2)) := (Grows.refl _).alloc _
        have O3 := hideIt (made_oints (w := y2) t.values.length (by omega))
        generalize y2.alloc (.cells (madeCells #[.int .i64 0] t.values.length) 2) = y3 at g9 O3 ⊢
        replace BO := hideIt (BO.out.grows g9)
        replace O1 := hideIt (O1.out.chg (cs := []) (Chg.of_grows g9) (fun _ _ h => by cases h))
        have lM : y2.heap.size < y3.heap.size := O3.out.lt _ (by simp)
        clear kO0 kO1 kO2 fO lO
        have sz3 := g9.size
        replace gg := Grows.trans gg g9
        clear g9
        have kO0 : y3.cell? ⟨u1.heap.size, 0, none⟩ = some (.slice none 0 0) := BO.out.cell 0
        have kO1 : y3.cell? ⟨u1.heap.size, 1, none⟩ = some (.slice none 0 0) := BO.out.cell 1
        have kO2 : y3.cell? ⟨u1.heap.size, 2, none⟩ = some (.slice none 0 0) := BO.out.cell 2
        have fO := BO.out.frozen
        have lO := BO.out.lt
        (try go_wp2_with fail)
        refine hK.out _ _ ?_ (fun hh3 => ?_)
        · (try dsimp only); refine HK.out _ ?_; (repeat (first | exact gg | refine Grows.drew ?_ | refine Grows.drewN ?_ _ | refine Grows.alloc ?_ _ | refine Grows.setCell ?_ (by simp <;> omega) _))
        clear hK K hh2
        try simp only [Act.put, List.setIfInBounds_toArray, List.set_cons_zero, List.set_cons_succ]
        refine regCall 5 (fun K hK => ?_)
        go_simp
        refine (clone_any _ (RInts.keep h.out.open_.2.1 (show Grows u1 _ from Grows.trans gg (by repeat (first | exact Grows.refl _ | refine Grows.drew ?_ | refine Grows.drewN ?_ _))).keeps) M.out.2.1 M.out.2.2).mono ?_
        rintro e y4 ⟨B2, c2, b2, rfl, o_, ow_, g_⟩
        have g9 : Grows y3 y4 := (show Grows y3 _ from (by repeat (first | exact Grows.refl _ | refine Grows.drew ?_ | refine Grows.drewN ?_ _))).trans g_
        replace BO := hideIt (BO.out.grows g9)
        replace O1 := hideIt (O1.out.chg (cs := []) (Chg.of_grows g9) (fun _ _ h => by cases h))
        replace O3 := hideIt (O3.out.chg (cs := []) (Chg.of_grows g9) (fun _ _ h => by cases h))
        have O2 := hideIt o_
        have OW2 : Hid (Own y3.heap.size y4.heap.size b2) := hideIt (by simpa using ow_)
        clear o_ ow_ g_
        clear kO0 kO1 kO2 fO lO
        have sz4 := g9.size
        replace gg := Grows.trans gg g9
        clear g9
        have kO0 : y4.cell? ⟨u1.heap.size, 0, none⟩ = some (.slice none 0 0) := BO.out.cell 0
        have kO1 : y4.cell? ⟨u1.heap.size, 1, none⟩ = some (.slice none 0 0) := BO.out.cell 1
        have kO2 : y4.cell? ⟨u1.heap.size, 2, none⟩ = some (.slice none 0 0) := BO.out.cell 2
        have fO := BO.out.frozen
        have lO := BO.out.lt
        (try go_wp2_with fail)
        refine hK.out _ _ ?_ (fun hh4 => ?_)
        · (try dsimp only); refine HK.out _ ?_; (repeat (first | exact gg | refine Grows.drew ?_ | refine Grows.drewN ?_ _ | refine Grows.alloc ?_ _ | refine Grows.setCell ?_ (by simp <;> omega) _))
        clear hK K hh3
        try simp only [Act.put, List.setIfInBounds_toArray, List.set_cons_zero, List.set_cons_succ]
        refine regTake 10 (v := ?_) ?_ hh4 ?_
        rotate_left
        · intro w hw; (try dsimp only at hw); go_simp; (try with_reducible rfl)
        try simp only [Act.put, List.setIfInBounds_toArray, List.set_cons_zero, List.set_cons_succ]
        refine regCall 12 (fun K hK => ?_)
        go_simp
        have cset : Chg [u1.heap.size] y4 (((y4.setCell ⟨u1.heap.size, 0, none⟩ (.slice B1 t.slews.length c1)).setCell ⟨u1.heap.size, 1, none⟩ (.slice B2 t.loads.length c2)).setCell ⟨u1.heap.size, 2, none⟩ (.slice (some ⟨y2.heap.size, 0, none⟩) t.values.length t.values.length)) := (((Chg.refl _ _).setCell (by simp) _).setCell (by simp) _).setCell (by simp) _
        replace BO := hideIt (((BO.out.set_ 0 (.slice B1 t.slews.length c1)).set_ 1 (.slice B2 t.loads.length c2)).set_ 2 (.slice (some ⟨y2.heap.size, 0, none⟩) t.values.length t.values.length))
        have D1 : u1.heap.size ∉ b1 := fun hq => by have := OW1.out.2 _ hq; omega
        have D2 : u1.heap.size ∉ b2 := fun hq => by have := OW2.out.2 _ hq; omega
        have D3 : u1.heap.size ≠ y2.heap.size := by omega
        have D4 : y2.heap.size ∉ b1 := fun hq => by have := OW1.out.2 _ hq; omega
        have D5 : y2.heap.size ∉ b2 := fun hq => by have := OW2.out.2 _ hq; omega
        have D6 : ∀ q ∈ b1, q ∉ b2 := fun q h1 h2 => by have := OW1.out.2 _ h1; have := OW2.out.2 _ h2; omega
        have bnd1 : ∀ q ∈ b1, w.heap.size + 1 < q := fun q hq => by have := OW1.out.2 _ hq; omega
        have bnd2 : ∀ q ∈ b2, w.heap.size + 1 < q := fun q hq => by have := OW2.out.2 _ hq; omega
        have bndM : w.heap.size + 1 < y2.heap.size := by omega
        have bndO : w.heap.size + 1 < u1.heap.size := by omega
        have low : u1.heap.size ≤ u1.heap.size := by omega
        replace O1 := hideIt (O1.out.chg cset (fun q hq hm => by simp at hm; subst hm; exact D1 hq))
        replace O2 := hideIt (O2.out.chg cset (fun q hq hm => by simp at hm; subst hm; exact D2 hq))
        replace O3 := hideIt (O3.out.chg cset (fun q hq hm => by simp at hm hq; omega))
        replace gg : Grows u1 (((y4.setCell ⟨u1.heap.size, 0, none⟩ (.slice B1 t.slews.length c1)).setCell ⟨u1.heap.size, 1, none⟩ (.slice B2 t.loads.length c2)).setCell ⟨u1.heap.size, 2, none⟩ (.slice (some ⟨y2.heap.size, 0, none⟩) t.values.length t.values.length)) := Grows.chg gg cset (fun q hq => by simp at hq; omega)
        have ND := hideIt (And.intro OW1.out.1 (And.intro OW2.out.1 D6))
        have DD := hideIt (And.intro D1 (And.intro D2 (And.intro D3 (And.intro D4 D5))))
        have BB := hideIt (And.intro bnd1 (And.intro bnd2 (And.intro bndM bndO)))
        generalize ((y4.setCell ⟨u1.heap.size, 0, none⟩ (.slice B1 t.slews.length c1)).setCell ⟨u1.heap.size, 1, none⟩ (.slice B2 t.loads.length c2)).setCell ⟨u1.heap.size, 2, none⟩ (.slice (some ⟨y2.heap.size, 0, none⟩) t.values.length t.values.length) = y5 at cset BO O1 O2 O3 gg ⊢
        clear kO0 kO1 kO2 fO lO cset D1 D2 D3 D4 D5 D6 bnd1 bnd2 bndM bndO low OW1 OW2
        (try go_wp2_with fail)
        refine hK.out _ _ ?_ (fun hh5 => ?_)
        · (try dsimp only); refine HK.out _ ?_; (repeat (first | exact gg | refine Grows.drew ?_ | refine Grows.drewN ?_ _ | refine Grows.alloc ?_ _ | refine Grows.setCell ?_ (by simp <;> omega) _))
        clear hK K hh4
        try simp only [Act.put, List.setIfInBounds_toArray, List.set_cons_zero, List.set_cons_succ]
        refine wpAnyH_done (by kernel_rfl) ?_ _
        have lowM : u1.heap.size ≤ y2.heap.size := by omega
        exact ⟨B1, B2, c1, c2, u1.heap.size, y2.heap.size, b1, b2, rfl, gg, BO.out, O1.out, O2.out, O3.out, ND.out, DD.out, BB.out, lowM⟩
    · go_simp
      have g9 : Grows y1 (y1.alloc (.cells (madeCells #[.int .i64 0] t.values.length) 2)) := (Grows.refl _).alloc _
      have O3 := hideIt (made_oints (w := y1) t.values.length (by omega))
      generalize y1.alloc (.cells (madeCells #[.int .i64 0] t.values.length) 2) = y2 at g9 O3 ⊢
      replace BO := hideIt (BO.out.grows g9)
      have lM : y1.heap.size < y2.heap.size := O3.out.lt _ (by simp)
      clear kO0 kO1 kO2 fO lO
      have sz2 := g9.size
      replace gg := Grows.trans gg g9
      clear g9
      have kO0 : y2.cell? ⟨u1.heap.size, 0, none⟩ = some (.slice none 0 0) := BO.out.cell 0
      have kO1 : y2.cell? ⟨u1.heap.size, 1, none⟩ = some (.slice none 0 0) := BO.out.cell 1
      have kO2 : y2.cell? ⟨u1.heap.size, 2, none⟩ = some (.slice none 0 0) := BO.out.cell 2
      have fO := BO.out.frozen
      have lO := BO.out.lt
      (try go_wp2_with fail)
      refine hK.out _ _ ?_ (fun hh2 => ?_)
      · (try dsimp only); refine HK.out _ ?_; (repeat (first | exact gg | refine Grows.drew ?_ | refine Grows.drewN ?_ _ | refine Grows.alloc ?_ _ | refine Grows.setCell ?_ (by simp <;> omega) _))
      clear hK K hh1
      try simp only [Act.put, List.setIfInBounds_toArray, List.set_cons_zero, List.set_cons_succ]
      refine regCall 2 (fun K hK => ?_)
      go_simp
      refine (clone_any _ (RInts.keep h.out.open_.1 (show Grows u1 _ from Grows.trans gg (by repeat (first | exact Grows.refl _ | refine Grows.drew ?_ | refine Grows.drewN ?_ _))).keeps) M.out.1.1 M.out.1.2).mono ?_
      rintro e y3 ⟨B1, c1, b1, rfl, o_, ow_, g_⟩
      have g9 : Grows y2 y3 := (show Grows y2 _ from (by repeat (first | exact Grows.refl _ | refine Grows.drew ?_ | refine Grows.drewN ?_ _))).trans g_
      replace BO := hideIt (BO.out.grows g9)
      replace O3 := hideIt (O3.out.chg (cs := []) (Chg.of_grows g9) (fun _ _ h => by cases h))
      have O1 := hideIt o_
      have OW1 : Hid (Own y2.heap.size y3.heap.size b1) := hideIt (by simpa using ow_)
      clear o_ ow_ g_
      clear kO0 kO1 kO2 fO lO
      have sz3 := g9.size
      replace gg := Grows.trans gg g9
      clear g9
      have kO0 : y3.cell? ⟨u1.heap.size, 0, none⟩ = some (.slice none 0 0) := BO.out.cell 0
      have kO1 : y3.cell? ⟨u1.heap.size, 1, none⟩ = some (.slice none 0 0) := BO.out.cell 1
      have kO2 : y3.cell? ⟨u1.heap.size, 2, none⟩ = some (.slice none 0 0) := BO.out.cell 2
      have fO := BO.out.frozen
      have lO := BO.out.lt
      (try go_wp2_with fail)
      refine hK.out _ _ ?_ (fun hh3 => ?_)
      · (try dsimp only); refine HK.out _ ?_; (repeat (first | exact gg | refine Grows.drew ?_ | refine Grows.drewN ?_ _ | refine Grows.alloc ?_ _ | refine Grows.setCell ?_ (by simp <;> omega) _))
      clear hK K hh2
      try simp only [Act.put, List.setIfInBounds_toArray, List.set_cons_zero, List.set_cons_succ]
      refine regCall 5 (fun K hK => ?_)
      go_simp
      refine (clone_any _ (RInts.keep h.out.open_.2.1 (show Grows u1 _ from Grows.trans gg (by repeat (first | exact Grows.refl _ | refine Grows.drew ?_ | refine Grows.drewN ?_ _))).keeps) M.out.2.1 M.out.2.2).mono ?_
      rintro e y4 ⟨B2, c2, b2, rfl, o_, ow_, g_⟩
      have g9 : Grows y3 y4 := (show Grows y3 _ from (by repeat (first | exact Grows.refl _ | refine Grows.drew ?_ | refine Grows.drewN ?_ _))).trans g_
      replace BO := hideIt (BO.out.grows g9)
      replace O3 := hideIt (O3.out.chg (cs := []) (Chg.of_grows g9) (fun _ _ h => by cases h))
      replace O1 := hideIt (O1.out.chg (cs := []) (Chg.of_grows g9) (fun _ _ h => by cases h))
      have O2 := hideIt o_
      have OW2 : Hid (Own y3.heap.size y4.heap.size b2) := hideIt (by simpa using ow_)
      clear o_ ow_ g_
      clear kO0 kO1 kO2 fO lO
      have sz4 := g9.size
      replace gg := Grows.trans gg g9
      clear g9
      have kO0 : y4.cell? ⟨u1.heap.size, 0, none⟩ = some (.slice none 0 0) := BO.out.cell 0
      have kO1 : y4.cell? ⟨u1.heap.size, 1, none⟩ = some (.slice none 0 0) := BO.out.cell 1
      have kO2 : y4.cell? ⟨u1.heap.size, 2, none⟩ = some (.slice none 0 0) := BO.out.cell 2
      have fO := BO.out.frozen
      have lO := BO.out.lt
      (try go_wp2_with fail)
      refine hK.out _ _ ?_ (fun hh4 => ?_)
      · (try dsimp only); refine HK.out _ ?_; (repeat (first | exact gg | refine Grows.drew ?_ | refine Grows.drewN ?_ _ | refine Grows.alloc ?_ _ | refine Grows.setCell ?_ (by simp <;> omega) _))
      clear hK K hh3
      try simp only [Act.put, List.setIfInBounds_toArray, List.set_cons_zero, List.set_cons_succ]
      refine regTake 10 (v := ?_) ?_ hh4 ?_
      rotate_left
      · intro w hw; (try dsimp only at hw); go_simp; (try with_reducible rfl)
      try simp only [Act.put, List.setIfInBounds_toArray, List.set_cons_zero, List.set_cons_succ]
      refine regCall 12 (fun K hK => ?_)
      go_simp
      have cset : Chg [u1.heap.size] y4 (((y4.setCell ⟨u1.heap.size, 0, none⟩ (.slice B1 t.slews.length c1)).setCell ⟨u1.heap.size, 1, none⟩ (.slice B2 t.loads.length c2)).setCell ⟨u1.heap.size, 2, none⟩ (.slice (some ⟨y1.heap.size, 0, none⟩) t.values.length t.values.length)) := (((Chg.refl _ _).setCell (by simp) _).setCell (by simp) _).setCell (by simp) _
      replace BO := hideIt (((BO.out.set_ 0 (.slice B1 t.slews.length c1)).set_ 1 (.slice B2 t.loads.length c2)).set_ 2 (.slice (some ⟨y1.heap.size, 0, none⟩) t.values.length t.values.length))
      have D1 : u1.heap.size ∉ b1 := fun hq => by have := OW1.out.2 _ hq; omega
      have D2 : u1.heap.size ∉ b2 := fun hq => by have := OW2.out.2 _ hq; omega
      have D3 : u1.heap.size ≠ y1.heap.size := by omega
      have D4 : y1.heap.size ∉ b1 := fun hq => by have := OW1.out.2 _ hq; omega
      have D5 : y1.heap.size ∉ b2 := fun hq => by have := OW2.out.2 _ hq; omega
      have D6 : ∀ q ∈ b1, q ∉ b2 := fun q h1 h2 => by have := OW1.out.2 _ h1; have := OW2.out.2 _ h2; omega
      have bnd1 : ∀ q ∈ b1, w.heap.size + 1 < q := fun q hq => by have := OW1.out.2 _ hq; omega
      have bnd2 : ∀ q ∈ b2, w.heap.size + 1 < q := fun q hq => by have := OW2.out.2 _ hq; omega
      have bndM : w.heap.size + 1 < y1.heap.size := by omega
      have bndO : w.heap.size + 1 < u1.heap.size := by omega
      have low : u1.heap.size ≤ u1.heap.size := by omega
      replace O1 := hideIt (O1.out.chg cset (fun q hq hm => by simp at hm; subst hm; exact D1 hq))
      replace O2 := hideIt (O2.out.chg cset (fun q hq hm => by simp at hm; subst hm; exact D2 hq))
      replace O3 := hideIt (O3.out.chg cset (fun q hq hm => by simp at hm hq; omega))
      replace gg : Grows u1 (((y4.setCell ⟨u1.heap.size, 0, none⟩ (.slice B1 t.slews.length c1)).setCell ⟨u1.heap.size, 1, none⟩ (.slice B2 t.loads.length c2)).setCell ⟨u1.heap.size, 2, none⟩ (.slice (some ⟨y1.heap.size, 0, none⟩) t.values.length t.values.length)) := Grows.chg gg cset (fun q hq => by simp at hq; omega)
      have ND := hideIt (And.intro OW1.out.1 (And.intro OW2.out.1 D6))
      have DD := hideIt (And.intro D1 (And.intro D2 (And.intro D3 (And.intro D4 D5))))
      have BB := hideIt (And.intro bnd1 (And.intro bnd2 (And.intro bndM bndO)))
      generalize ((y4.setCell ⟨u1.heap.size, 0, none⟩ (.slice B1 t.slews.length c1)).setCell ⟨u1.heap.size, 1, none⟩ (.slice B2 t.loads.length c2)).setCell ⟨u1.heap.size, 2, none⟩ (.slice (some ⟨y1.heap.size, 0, none⟩) t.values.length t.values.length) = y5 at cset BO O1 O2 O3 gg ⊢
      clear kO0 kO1 kO2 fO lO cset D1 D2 D3 D4 D5 D6 bnd1 bnd2 bndM bndO low OW1 OW2
      (try go_wp2_with fail)
      refine hK.out _ _ ?_ (fun hh5 => ?_)
      · (try dsimp only); refine HK.out _ ?_; (repeat (first | exact gg | refine Grows.drew ?_ | refine Grows.drewN ?_ _ | refine Grows.alloc ?_ _ | refine Grows.setCell ?_ (by simp <;> omega) _))
      clear hK K hh4
      try simp only [Act.put, List.setIfInBounds_toArray, List.set_cons_zero, List.set_cons_succ]
      refine wpAnyH_done (by kernel_rfl) ?_ _
      have lowM : u1.heap.size ≤ y1.heap.size := by omega
      exact ⟨B1, B2, c1, c2, u1.heap.size, y1.heap.size, b1, b2, rfl, gg, BO.out, O1.out, O2.out, O3.out, ND.out, DD.out, BB.out, lowM⟩
end Go.Proofs.Ytgglgghlndhfbaa
