/-
  Contract of ScaleTable, the reference's.
-/
import Derived.Test.YtgglgghlndhfbaaScaleB
namespace Go.Proofs.Ytgglgghlndhfbaa
open Go.RowKit
set_option maxHeartbeats 4000000 in
theorem sScale_any {a b c : Value} {t : TableD} (k m : Int) (w : World) (h : RTable w [a, b, c] t) :
    Calls Try.prog 7 #[.agg #[a, b, c], .int .i64 k, .int .i64 m] w (RetTable (scTV t k m) (scTC t k m) w) := by
  cases hv : tabB t
  · have g : Grows w w := Grows.refl w
    have G : Hid (Grows w ((w.alloc (.cells #[a, b, c] 26)).alloc (.cells #[.slice none 0 0, .slice none 0 0, .slice none 0 0] 26))) := hideIt (((Grows.refl w).alloc _).alloc _)
    clear g
    have S : Hid (Blk ((w.alloc (.cells #[a, b, c] 26)).alloc (.cells #[.slice none 0 0, .slice none 0 0, .slice none 0 0] 26)) (w.heap.size) 26 #[a, b, c]) := by
      have := (Blk.new w 26 #[a, b, c]).grows ((Grows.refl (w.alloc (.cells #[a, b, c] 26))).alloc (.cells #[.slice none 0 0, .slice none 0 0, .slice none 0 0] 26))
      exact hideIt (by simpa using this)
    have R : Hid (Blk ((w.alloc (.cells #[a, b, c] 26)).alloc (.cells #[.slice none 0 0, .slice none 0 0, .slice none 0 0] 26)) (w.heap.size + 1) 26 #[.slice none 0 0, .slice none 0 0, .slice none 0 0]) := by
      have := (Blk.new (w.alloc (.cells #[a, b, c] 26)) 26 #[.slice none 0 0, .slice none 0 0, .slice none 0 0]).grows (Grows.refl ((w.alloc (.cells #[a, b, c] 26)).alloc (.cells #[.slice none 0 0, .slice none 0 0, .slice none 0 0] 26)))
      exact hideIt (by simpa using this)
    replace h := hideIt (h.keep G.out.keeps)
    go_enter Try.func7, Try.ntmps7
    go_wp2_with fail
    refine (sIsTable_any _ h.out).mono ?_
    rintro e u1 ⟨rfl, g⟩
    replace G := hideIt (G.out.trans g)
    replace h := hideIt (h.out.keep g.keeps)
    replace S := hideIt (S.out.grows g)
    replace R := hideIt (R.out.grows g)
    rw [hv]
    clear g
    have kS_0 : u1.cell? ⟨w.heap.size, 0, none⟩ = some (a) := S.out.cell 0
    have kS_1 : u1.cell? ⟨w.heap.size, 1, none⟩ = some (b) := S.out.cell 1
    have kS_2 : u1.cell? ⟨w.heap.size, 2, none⟩ = some (c) := S.out.cell 2
    have fS := S.out.frozen
    have lS : w.heap.size < u1.heap.size := S.out.lt
    have kR_0 : u1.cell? ⟨w.heap.size + 1, 0, none⟩ = some (.slice none 0 0) := R.out.cell 0
    have kR_1 : u1.cell? ⟨w.heap.size + 1, 1, none⟩ = some (.slice none 0 0) := R.out.cell 1
    have kR_2 : u1.cell? ⟨w.heap.size + 1, 2, none⟩ = some (.slice none 0 0) := R.out.cell 2
    have fR := R.out.frozen
    have lR : w.heap.size + 1 < u1.heap.size := R.out.lt
    have EV := hideIt (show scTV t k m = ⟨[], [], []⟩ by unfold scTV; rw [if_neg (by simp [hv])])
    have EC := hideIt (show scTC t k m = 1 by unfold scTC; simp [hv])
    go_wp2
    refine bodyPost_ret (by simp [*, results, Try.results7, go_sem]; try rfl) rfl ?_
    rw [EV.out, EC.out]
    exact ret_nil (by repeat (first | exact G.out | refine Grows.setCell ?_ (by simp <;> omega) _ | refine Grows.drewN ?_ _ | refine Grows.drew ?_))
  by_cases hkm : inB k 0 10000 = true ∧ isM m = true
  rotate_left
  · have g : Grows w w := Grows.refl w
    have G : Hid (Grows w ((w.alloc (.cells #[a, b, c] 26)).alloc (.cells #[.slice none 0 0, .slice none 0 0, .slice none 0 0] 26))) := hideIt (((Grows.refl w).alloc _).alloc _)
    clear g
    have S : Hid (Blk ((w.alloc (.cells #[a, b, c] 26)).alloc (.cells #[.slice none 0 0, .slice none 0 0, .slice none 0 0] 26)) (w.heap.size) 26 #[a, b, c]) := by
      have := (Blk.new w 26 #[a, b, c]).grows ((Grows.refl (w.alloc (.cells #[a, b, c] 26))).alloc (.cells #[.slice none 0 0, .slice none 0 0, .slice none 0 0] 26))
      exact hideIt (by simpa using this)
    have R : Hid (Blk ((w.alloc (.cells #[a, b, c] 26)).alloc (.cells #[.slice none 0 0, .slice none 0 0, .slice none 0 0] 26)) (w.heap.size + 1) 26 #[.slice none 0 0, .slice none 0 0, .slice none 0 0]) := by
      have := (Blk.new (w.alloc (.cells #[a, b, c] 26)) 26 #[.slice none 0 0, .slice none 0 0, .slice none 0 0]).grows (Grows.refl ((w.alloc (.cells #[a, b, c] 26)).alloc (.cells #[.slice none 0 0, .slice none 0 0, .slice none 0 0] 26)))
      exact hideIt (by simpa using this)
    replace h := hideIt (h.keep G.out.keeps)
    go_enter Try.func7, Try.ntmps7
    go_wp2_with fail
    refine (sIsTable_any _ h.out).mono ?_
    rintro e u1 ⟨rfl, g⟩
    replace G := hideIt (G.out.trans g)
    replace h := hideIt (h.out.keep g.keeps)
    replace S := hideIt (S.out.grows g)
    replace R := hideIt (R.out.grows g)
    rw [hv]
    clear g
    have kS_0 : u1.cell? ⟨w.heap.size, 0, none⟩ = some (a) := S.out.cell 0
    have kS_1 : u1.cell? ⟨w.heap.size, 1, none⟩ = some (b) := S.out.cell 1
    have kS_2 : u1.cell? ⟨w.heap.size, 2, none⟩ = some (c) := S.out.cell 2
    have fS := S.out.frozen
    have lS : w.heap.size < u1.heap.size := S.out.lt
    have kR_0 : u1.cell? ⟨w.heap.size + 1, 0, none⟩ = some (.slice none 0 0) := R.out.cell 0
    have kR_1 : u1.cell? ⟨w.heap.size + 1, 1, none⟩ = some (.slice none 0 0) := R.out.cell 1
    have kR_2 : u1.cell? ⟨w.heap.size + 1, 2, none⟩ = some (.slice none 0 0) := R.out.cell 2
    have fR := R.out.frozen
    have lR : w.heap.size + 1 < u1.heap.size := R.out.lt
    cases h1 : inB k 0 10000
    · have E1 := hideIt h1
      go_wp2_with (go_at_call 24; refine (l01In_any _ _ _ _).mono ?_; rintro e w' ⟨rfl, rfl⟩; rw [E1.out])
      have EV := hideIt (show scTV t k m = ⟨[], [], []⟩ by unfold scTV; rw [if_neg (by simp [hv, h1])])
      have EC := hideIt (show scTC t k m = 2 by unfold scTC; simp [hv, h1])
      go_wp2
      refine bodyPost_ret (by simp [*, results, Try.results7, go_sem]; try rfl) rfl ?_
      rw [EV.out, EC.out]
      exact ret_nil (by repeat (first | exact G.out | refine Grows.setCell ?_ (by simp <;> omega) _ | refine Grows.drewN ?_ _ | refine Grows.drew ?_))
    · have h2 : isM m = false := by
        cases hm : isM m with
        | false => rfl
        | true => exact absurd ⟨h1, hm⟩ hkm
      have E1 := hideIt h1
      have E2 := hideIt h2
      go_wp2_with (first | (go_at_call 24; refine (l01In_any _ _ _ _).mono ?_; rintro e w' ⟨rfl, rfl⟩; rw [E1.out]) | (go_at_call 25; refine (l01Mode_any _ _).mono ?_; rintro e w' ⟨rfl, rfl⟩; rw [E2.out]))
      have EV := hideIt (show scTV t k m = ⟨[], [], []⟩ by unfold scTV; rw [if_neg (by simp [hv, h1, h2])])
      have EC := hideIt (show scTC t k m = 2 by unfold scTC; simp [hv, h1, h2])
      go_wp2
      refine bodyPost_ret (by simp [*, results, Try.results7, go_sem]; try rfl) rfl ?_
      rw [EV.out, EC.out]
      exact ret_nil (by repeat (first | exact G.out | refine Grows.setCell ?_ (by simp <;> omega) _ | refine Grows.drewN ?_ _ | refine Grows.drew ?_))
  obtain ⟨h1, h2⟩ := hkm
  have HV := hideIt hv
  have K1 := hideIt h1
  have K2 := hideIt h2
  have g : Grows w w := Grows.refl w
  have G : Hid (Grows w ((w.alloc (.cells #[a, b, c] 26)).alloc (.cells #[.slice none 0 0, .slice none 0 0, .slice none 0 0] 26))) := hideIt (((Grows.refl w).alloc _).alloc _)
  clear g
  have S : Hid (Blk ((w.alloc (.cells #[a, b, c] 26)).alloc (.cells #[.slice none 0 0, .slice none 0 0, .slice none 0 0] 26)) (w.heap.size) 26 #[a, b, c]) := by
    have := (Blk.new w 26 #[a, b, c]).grows ((Grows.refl (w.alloc (.cells #[a, b, c] 26))).alloc (.cells #[.slice none 0 0, .slice none 0 0, .slice none 0 0] 26))
    exact hideIt (by simpa using this)
  have R : Hid (Blk ((w.alloc (.cells #[a, b, c] 26)).alloc (.cells #[.slice none 0 0, .slice none 0 0, .slice none 0 0] 26)) (w.heap.size + 1) 26 #[.slice none 0 0, .slice none 0 0, .slice none 0 0]) := by
    have := (Blk.new (w.alloc (.cells #[a, b, c] 26)) 26 #[.slice none 0 0, .slice none 0 0, .slice none 0 0]).grows (Grows.refl ((w.alloc (.cells #[a, b, c] 26)).alloc (.cells #[.slice none 0 0, .slice none 0 0, .slice none 0 0] 26)))
    exact hideIt (by simpa using this)
  replace h := hideIt (h.keep G.out.keeps)
  go_enter Try.func7, Try.ntmps7
  go_wp2_with fail
  refine (sIsTable_any _ h.out).mono ?_
  rintro e u1 ⟨rfl, g⟩
  replace G := hideIt (G.out.trans g)
  replace h := hideIt (h.out.keep g.keeps)
  replace S := hideIt (S.out.grows g)
  replace R := hideIt (R.out.grows g)
  rw [hv]
  clear g
  have kS_0 : u1.cell? ⟨w.heap.size, 0, none⟩ = some (a) := S.out.cell 0
  have kS_1 : u1.cell? ⟨w.heap.size, 1, none⟩ = some (b) := S.out.cell 1
  have kS_2 : u1.cell? ⟨w.heap.size, 2, none⟩ = some (c) := S.out.cell 2
  have fS := S.out.frozen
  have lS : w.heap.size < u1.heap.size := S.out.lt
  have kR_0 : u1.cell? ⟨w.heap.size + 1, 0, none⟩ = some (.slice none 0 0) := R.out.cell 0
  have kR_1 : u1.cell? ⟨w.heap.size + 1, 1, none⟩ = some (.slice none 0 0) := R.out.cell 1
  have kR_2 : u1.cell? ⟨w.heap.size + 1, 2, none⟩ = some (.slice none 0 0) := R.out.cell 2
  have fR := R.out.frozen
  have lR : w.heap.size + 1 < u1.heap.size := R.out.lt
  clear hv h1 h2
  go_wp2_with (first | (go_at_call 24; refine (l01In_any _ _ _ _).mono ?_; rintro e w' ⟨rfl, rfl⟩; rw [K1.out]) | (go_at_call 25; refine (l01Mode_any _ _).mono ?_; rintro e w' ⟨rfl, rfl⟩; rw [K2.out]))
  have lR1 : w.heap.size + 1 < u1.heap.size := R.out.lt
  clear kS_0 kS_1 kS_2 fS lS kR_0 kR_1 kR_2 fR lR
  refine (l02Own_any _ h.out HV.out).mono ?_
  rintro e u2 ⟨x, y, z, bs, rfl, o, ow, g⟩
  replace G := hideIt (G.out.trans g)
  replace h := hideIt (h.out.keep g.keeps)
  replace S := hideIt (S.out.grows g)
  replace R := hideIt (R.out.grows g)
  clear g
  obtain ⟨x', y', z', b1, b2, b3, he, o1, o2, o3, rfl⟩ := o
  injection he with ex he
  injection he with ey he
  injection he with ez he
  subst ex ey ez
  clear he
  obtain ⟨⟨A1, n1, rfl⟩, ⟨A2, n2, rfl⟩⟩ := And.intro o1.reads.shape o2.reads.shape
  have tv := tabB_val HV.out
  have lv : t.values.length ≤ 16 := by
    obtain ⟨q1, q2, q3, -⟩ := tabB_parts HV.out
    have := Nat.mul_le_mul (axB_len q1).2 (axB_len q2).2
    omega
  obtain ⟨g3, c3, cs3, rfl, rfl, hc1, hc2, hb3, hs3, hx3⟩ := o3.row tv
  have lg1 : u1.heap.size ≤ g3 := (ow.2 g3 (by simp)).1
  have lg2 : g3 < u2.heap.size := (ow.2 g3 (by simp)).2
  have O1 := hideIt o1
  have O2 := hideIt o2
  have OW := hideIt ow
  clear o1 o2 o3 ow h
  have kb1 := tabB_parts HV.out
  have NDb : Hid (g3 ∉ b1 ∧ g3 ∉ b2) := hideIt (by
    have hn := OW.out.1
    rw [List.nodup_append] at hn
    exact ⟨fun hm => hn.2.2 g3 (List.mem_append_left _ hm) g3 (by simp) rfl, fun hm => hn.2.2 g3 (List.mem_append_right _ hm) g3 (by simp) rfl⟩)
  replace hb3 := hideIt hb3
  have gl : Grows u2 (u2.alloc (.cells #[.slice A1 t.slews.length n1, .slice A2 t.loads.length n2, .slice (some ⟨g3, 0, none⟩) t.values.length c3] 26)) := (Grows.refl _).alloc _
  replace G := hideIt (G.out.trans gl)
  replace S := hideIt (S.out.grows gl)
  replace R := hideIt (R.out.grows gl)
  have T := hideIt (Blk.new u2 26 #[.slice A1 t.slews.length n1, .slice A2 t.loads.length n2, .slice (some ⟨g3, 0, none⟩) t.values.length c3])
  clear gl
  have HS := hideIt (show ScSt (u2.alloc (.cells #[.slice A1 t.slews.length n1, .slice A2 t.loads.length n2, .slice (some ⟨g3, 0, none⟩) t.values.length c3] 26)) (u2.alloc (.cells #[.slice A1 t.slews.length n1, .slice A2 t.loads.length n2, .slice (some ⟨g3, 0, none⟩) t.values.length c3] 26)) g3 t.values (fun v => rdv (v * k) 1000 m) 0 from ⟨cs3, hb3.out.grows ((Grows.refl _).alloc _), hs3, fun j x hx => by rw [if_neg (by omega)]; exact hx3 j x hx, Chg.refl _ _⟩)
  have VB := hideIt kb1.2.2.2
  have KB := inB_true K1.out
  have KL := hideIt (And.intro hc1 hc2)
  clear hx3 hs3 kb1 hb3 hc1 hc2
  obtain ⟨W2, eW2⟩ : ∃ W2 : World, W2 = (u2.alloc (.cells #[.slice A1 t.slews.length n1, .slice A2 t.loads.length n2, .slice (some ⟨g3, 0, none⟩) t.values.length c3] 26)) := ⟨_, rfl⟩
  have sW2 : W2.heap.size = u2.heap.size + 1 := by rw [eW2]; simp
  rw [← eW2] at G
  rw [← eW2] at S
  rw [← eW2] at R
  rw [← eW2] at T
  rw [← eW2] at HS
  have SO : Hid (SameOn b1 u2 W2 ∧ SameOn b2 u2 W2) := by
    rw [eW2]
    exact hideIt ⟨(SameOn.refl _ _).grows O1.out.lt ((Grows.refl _).alloc _), (SameOn.refl _ _).grows O2.out.lt ((Grows.refl _).alloc _)⟩
  have kS_0 : W2.cell? ⟨w.heap.size, 0, none⟩ = some (a) := S.out.cell 0
  have kS_1 : W2.cell? ⟨w.heap.size, 1, none⟩ = some (b) := S.out.cell 1
  have kS_2 : W2.cell? ⟨w.heap.size, 2, none⟩ = some (c) := S.out.cell 2
  have fS := S.out.frozen
  have lS : w.heap.size < W2.heap.size := S.out.lt
  have kR_0 : W2.cell? ⟨w.heap.size + 1, 0, none⟩ = some (.slice none 0 0) := R.out.cell 0
  have kR_1 : W2.cell? ⟨w.heap.size + 1, 1, none⟩ = some (.slice none 0 0) := R.out.cell 1
  have kR_2 : W2.cell? ⟨w.heap.size + 1, 2, none⟩ = some (.slice none 0 0) := R.out.cell 2
  have fR := R.out.frozen
  have lR : w.heap.size + 1 < W2.heap.size := R.out.lt
  have kT_0 : W2.cell? ⟨u2.heap.size, 0, none⟩ = some (.slice A1 t.slews.length n1) := T.out.cell 0
  have kT_1 : W2.cell? ⟨u2.heap.size, 1, none⟩ = some (.slice A2 t.loads.length n2) := T.out.cell 1
  have kT_2 : W2.cell? ⟨u2.heap.size, 2, none⟩ = some (.slice (some ⟨g3, 0, none⟩) t.values.length c3) := T.out.cell 2
  have fT := T.out.frozen
  have lT : u2.heap.size < W2.heap.size := T.out.lt
  go_wp2_with fail
  rw [← eW2]
  clear eW2
  clear kS_0 kS_1 kS_2 fS lS kR_0 kR_1 kR_2 fR lR kT_0 kT_1 kT_2 fT lT
  go_wp2
  go_loopw [9] (fun i wr => ∃ j : Nat, j ≤ t.values.length ∧ i = .int .i64 (j : Int) ∧ ScSt W2 wr g3 t.values (fun v => rdv (v * k) 1000 m) j) (fun i _ => t.values.length - (intOf i).toNat)
  case atStart => exact ⟨0, by omega, rfl, HS.out⟩
  case round =>
    obtain ⟨j, hj, rfl, hm⟩ := hrel
    have ch : Chg [g3] W2 wr := by obtain ⟨_, _, _, _, h⟩ := hm; exact h
    have bT := T.out.chg ch (by simp; omega)
    have bR := R.out.chg ch (by simp; omega)
    have kT0 : wr.cell? ⟨u2.heap.size, 0, none⟩ = some (.slice A1 t.slews.length n1) := bT.cell 0
    have kT1 : wr.cell? ⟨u2.heap.size, 1, none⟩ = some (.slice A2 t.loads.length n2) := bT.cell 1
    have kT2 : wr.cell? ⟨u2.heap.size, 2, none⟩ = some (.slice (some ⟨g3, 0, none⟩) t.values.length c3) := bT.cell 2
    have BR := hideIt bR
    have CH := hideIt ch
    clear bT bR ch
    by_cases hlt : j < t.values.length
    · obtain ⟨v, hv⟩ : ∃ v, t.values[j]? = some v := ⟨_, List.getElem?_eq_getElem hlt⟩
      have hst := hideIt (hm.step hv)
      obtain ⟨ds, hb, hsz, hc, -⟩ := hm
      have kv : wr.cell? ⟨g3, j, none⟩ = some (.int .i64 v) := by
        have := hc j v hv
        rw [if_neg (by omega)] at this
        rw [hb.cell]
        exact this
      have hf := hb.frozen
      have vb := wiB_at VB.out hv
      have vk := sc_mul vb.1 vb.2 KB.1 KB.2
      obtain ⟨vk1, vk2⟩ := vk
      have wk : IntKind.i64.wrap (v * k) = v * k := IntWalk.i64_in _ (by omega)
      clear hb hsz hc hv vb
      go_wp2
      go_region_with (go_at_call 27; refine (l01Div_any _ _ _ _ (by omega) (by omega) (by omega)).mono ?_; rintro e w' ⟨rfl, rfl⟩)
      all_goals go_wp2
      all_goals go_roundw
      all_goals first | exact ⟨j + 1, by omega, by go_num, by repeat (first | exact hst.out | exact hst.out.drew | refine ScSt.drew ?_ | refine ScSt.drewN ?_ _)⟩ | (simp [intOf]; omega)
    · obtain rfl : j = t.values.length := by omega
      have OZ := hideIt (hm.end_ KL.out.1 KL.out.2)
      have RD := hideIt (show RTable wr [.slice A1 t.slews.length n1, .slice A2 t.loads.length n2, .slice (some ⟨g3, 0, none⟩) t.values.length c3] (scT t k m) from
        ⟨_, _, _, rfl, (O1.out.same (SO.out.1.trans (CH.out.same (by have := O1.out.lt; intro q hq; have := this q hq; omega) (by simp; exact fun g hg e => NDb.out.1 (e ▸ hg))))).reads,
          (O2.out.same (SO.out.2.trans (CH.out.same (by have := O2.out.lt; intro q hq; have := this q hq; omega) (by simp; exact fun g hg e => NDb.out.2 (e ▸ hg))))).reads, OZ.out.reads⟩)
      have CO := hideIt (And.intro (CH.out.same (bs := [g3]) (cs := b1) (by have := O1.out.lt; intro q hq; have := this q hq; omega) (by simp; exact fun g hg e => NDb.out.1 (e ▸ hg))) (CH.out.same (bs := [g3]) (cs := b2) (by have := O2.out.lt; intro q hq; have := this q hq; omega) (by simp; exact fun g hg e => NDb.out.2 (e ▸ hg))))
      clear hm
      go_wp2_with fail
      refine (sIsTable_any _ RD.out).mono ?_
      rintro e u3 ⟨rfl, g⟩
      have G3 := hideIt ((G.out.chg CH.out (by simp; omega)).trans g)
      have g3l : g3 < wr.heap.size := by have := OZ.out.lt g3 (by simp); exact this
      have bR := BR.out.grows g
      have bT := (T.out.chg CH.out (by simp; omega)).grows g
      clear kT0 kT1 kT2
      have kT0 : u3.cell? ⟨u2.heap.size, 0, none⟩ = some (.slice A1 t.slews.length n1) := bT.cell 0
      have kT1 : u3.cell? ⟨u2.heap.size, 1, none⟩ = some (.slice A2 t.loads.length n2) := bT.cell 1
      have kT2 : u3.cell? ⟨u2.heap.size, 2, none⟩ = some (.slice (some ⟨g3, 0, none⟩) t.values.length c3) := bT.cell 2
      have kR0 : u3.cell? ⟨w.heap.size + 1, 0, none⟩ = some (.slice none 0 0) := bR.cell 0
      have kR1 : u3.cell? ⟨w.heap.size + 1, 1, none⟩ = some (.slice none 0 0) := bR.cell 1
      have kR2 : u3.cell? ⟨w.heap.size + 1, 2, none⟩ = some (.slice none 0 0) := bR.cell 2
      have fR := bR.frozen
      have lu3 : u2.heap.size ≤ u3.heap.size := by have := bT.lt; omega
      have GQ := hideIt g
      clear bR bT g
      cases hs : tabB (scT t k m)
      · have EV := hideIt (show scTV t k m = ⟨[], [], []⟩ by unfold scTV; rw [if_neg (by simp [hs])])
        have EC := hideIt (show scTC t k m = 2 by unfold scTC; rw [if_pos HV.out, if_neg (by simp [hs])])
        go_wp2
        refine bodyPost_ret (by simp [*, results, Try.results7, go_sem]; try rfl) rfl ?_
        rw [EV.out, EC.out]
        exact ret_nil (by repeat (first | exact G3.out | refine Grows.setCell ?_ (by simp <;> omega) _ | refine Grows.drewN ?_ _ | refine Grows.drew ?_))
      · have EV := hideIt (show scTV t k m = scT t k m by unfold scTV; rw [if_pos ⟨HV.out, K1.out, K2.out, hs⟩])
        have EC := hideIt (show scTC t k m = 0 by unfold scTC; rw [if_pos HV.out, if_pos ⟨K1.out, K2.out, hs⟩])
        go_wp2
        refine bodyPost_ret (by simp [*, results, Try.results7, go_sem]; try rfl) rfl ?_
        rw [EV.out, EC.out]
        have gt : ∀ q ∈ b1 ++ b2 ++ [g3], w.heap.size + 1 < q := fun q hq => by have := (OW.out.2 q hq).1; omega
        refine ⟨A1, n1, A2, n2, some ⟨g3, 0, none⟩, c3, b1 ++ b2 ++ [g3], by simp [scT], ⟨_, _, _, b1, b2, [g3], rfl, ?_, ?_, ?_, rfl⟩, ?_, ?_⟩
        · exact O1.out.same (((((SO.out.1.trans CO.out.1).grows (fun q hq => by have := O1.out.lt q hq; have := CH.out.size; omega) GQ.out).set (fun q hq => by have := gt q (by simp [hq]); simp; omega) _).set (fun q hq => by have := gt q (by simp [hq]); simp; omega) _).set (fun q hq => by have := gt q (by simp [hq]); simp; omega) _)
        · exact O2.out.same (((((SO.out.2.trans CO.out.2).grows (fun q hq => by have := O2.out.lt q hq; have := CH.out.size; omega) GQ.out).set (fun q hq => by have := gt q (by simp [hq]); simp; omega) _).set (fun q hq => by have := gt q (by simp [hq]); simp; omega) _).set (fun q hq => by have := gt q (by simp [hq]); simp; omega) _)
        · have z := OZ.out.same (((((SameOn.refl [g3] wr).grows OZ.out.lt GQ.out).set (p := ⟨w.heap.size + 1, 0, none⟩) (fun q hq => by have := gt q (by simp at hq; simp [hq]); simp; omega) (.slice A1 t.slews.length n1)).set (p := ⟨w.heap.size + 1, 1, none⟩) (fun q hq => by have := gt q (by simp at hq; simp [hq]); simp; omega) (.slice A2 t.loads.length n2)).set (p := ⟨w.heap.size + 1, 2, none⟩) (fun q hq => by have := gt q (by simp at hq; simp [hq]); simp; omega) (.slice (some ⟨g3, 0, none⟩) t.values.length c3))
          simpa [scT] using z
        · exact OW.out.mono (by omega) (by simp; omega)
        · exact ((G3.out.setCell (by simp <;> omega) _).setCell (by simp <;> omega) _).setCell (by simp <;> omega) _
end Go.Proofs.Ytgglgghlndhfbaa
