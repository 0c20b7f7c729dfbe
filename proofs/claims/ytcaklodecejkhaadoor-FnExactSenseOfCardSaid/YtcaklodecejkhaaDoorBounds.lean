/-
  Contracts of TableBounds, the reference's and the program's.
-/
import Derived.Test.YtcaklodecejkhaaDoorMinMax
namespace Go.Proofs.YtcaklodecejkhaaDoor
open Go.RowKit

def bndV (t : TableD) : Int × Int × Int := if tabB t = true then (minL t.values, maxL t.values, 0) else (0, 0, 1)
theorem tabB_val {t : TableD} (h : tabB t = true) : 1 ≤ t.values.length := by
  simp only [tabB, Bool.and_eq_true, decide_eq_true_eq] at h
  have h1 := axB_len h.1.1.1
  have h2 := axB_len h.1.1.2
  have := Nat.mul_le_mul h1.1 h2.1
  omega
theorem Blk.drew_ {w : World} {g : Nat} {t : TypeId} {cs : Array Value} (h : Blk w g t cs) : Blk w.drew g t cs := h.grows (Grows.refl _).drew
theorem Blk.set' {w : World} {g : Nat} {t : TypeId} {cs ds : Array Value} {i : Nat} {u : Value} (h : Blk w g t cs) (e : ds = cs.setIfInBounds i u) : Blk (w.setCell ⟨g, i, none⟩ u) g t ds := by subst e; exact h.set_ i u
set_option maxHeartbeats 4000000 in
theorem sBounds_any {a b c : Value} {t : TableD} (w : World) (h : RTable w [a, b, c] t) :
    Calls Tryd.prog 76 #[.agg #[a, b, c]] w fun e w' => e = .returned (.tuple #[.agg #[.int .i64 (bndV t).1, .int .i64 (bndV t).2.1], .int .i64 (bndV t).2.2]) ∧ Grows w w' := by
  obtain ⟨A3, n3, rfl⟩ := h.open_.2.2.shape
  have hr := h
  clear h
  have g : Grows w w := Grows.refl w
  have G : Hid (Grows w ((w.alloc (.cells #[a, b, .slice A3 t.values.length n3] 101)).alloc (.cells #[.int .i64 0, .int .i64 0] 97))) := hideIt (((Grows.refl w).alloc _).alloc _)
  clear g
  have S : Hid (Blk ((w.alloc (.cells #[a, b, .slice A3 t.values.length n3] 101)).alloc (.cells #[.int .i64 0, .int .i64 0] 97)) (w.heap.size) 101 #[a, b, .slice A3 t.values.length n3]) := by
    have := (Blk.new w 101 #[a, b, .slice A3 t.values.length n3]).grows ((Grows.refl (w.alloc (.cells #[a, b, .slice A3 t.values.length n3] 101))).alloc (.cells #[.int .i64 0, .int .i64 0] 97))
    exact hideIt (by simpa using this)
  have R : Hid (Blk ((w.alloc (.cells #[a, b, .slice A3 t.values.length n3] 101)).alloc (.cells #[.int .i64 0, .int .i64 0] 97)) (w.heap.size + 1) 97 #[.int .i64 0, .int .i64 0]) := by
    have := (Blk.new (w.alloc (.cells #[a, b, .slice A3 t.values.length n3] 101)) 97 #[.int .i64 0, .int .i64 0]).grows (Grows.refl ((w.alloc (.cells #[a, b, .slice A3 t.values.length n3] 101)).alloc (.cells #[.int .i64 0, .int .i64 0] 97)))
    exact hideIt (by simpa using this)
  replace hr := hideIt (hr.keep G.out.keeps)
  go_enter Tryd.func76, Tryd.ntmps76
  go_wp2_with fail
  refine (sIsTable_any _ hr.out).mono ?_
  rintro e u1 ⟨rfl, g⟩
  replace G := hideIt (G.out.trans g)
  replace hr := hideIt (hr.out.keep g.keeps)
  replace S := hideIt (S.out.grows g)
  replace R := hideIt (R.out.grows g)
  clear g
  have kS_0 : u1.cell? ⟨w.heap.size, 0, none⟩ = some (a) := S.out.cell 0
  have kS_1 : u1.cell? ⟨w.heap.size, 1, none⟩ = some (b) := S.out.cell 1
  have kS_2 : u1.cell? ⟨w.heap.size, 2, none⟩ = some (.slice A3 t.values.length n3) := S.out.cell 2
  have fS := S.out.frozen
  have lS : w.heap.size < u1.heap.size := S.out.lt
  have kR_0 : u1.cell? ⟨w.heap.size + 1, 0, none⟩ = some (.int .i64 0) := R.out.cell 0
  have kR_1 : u1.cell? ⟨w.heap.size + 1, 1, none⟩ = some (.int .i64 0) := R.out.cell 1
  have fR := R.out.frozen
  have lR : w.heap.size + 1 < u1.heap.size := R.out.lt
  cases h1 : tabB t
  · have E : Hid (bndV t = (0, 0, 1)) := by unfold Hid bndV; rw [h1]; rfl
    go_wp2
    refine bodyPost_ret (by simp [*, results, Tryd.results76, go_sem]; try rfl) rfl ?_
    exact ⟨by rw [E.out], (G.out.setCell (by simp <;> omega) _).setCell (by simp <;> omega) _⟩
  · have E : Hid (bndV t = (minTo t.values t.values.length, maxTo t.values t.values.length, 0)) := by unfold Hid bndV; rw [h1]; rfl
    have hv := tabB_val h1
    have hl := hr.out.open_.2.2.len
    obtain ⟨x0, h0⟩ : ∃ x, t.values[0]? = some x := ⟨_, List.getElem?_eq_getElem (by omega)⟩
    obtain ⟨A3q, n3q, hvq, -, -, hx⟩ := hr.out.open_.2.2.form
    injection hvq with e1 e2 e3
    subst e1 e3
    have HX := hideIt hx
    obtain ⟨bb, off, rfl, cs, hl1, hcs, hrr⟩ := hx 0 x0 h0
    unfold RI at hrr
    subst hrr
    have hs : u1.cell? ⟨bb, off, none⟩ = some (.int .i64 x0) := by simpa using hcs 0 _ rfl
    have X0 := hideIt h0
    clear hx h0 hcs hl1 e2
    have hv0 : 0 < t.values.length := hv
    have lb : bb < u1.heap.size := cell_lt hs
    go_wp2_with fail
    go_region
    go_wp2
    go_loopw [5] (fun i wr => ∃ k : Nat, 1 ≤ k ∧ k ≤ t.values.length ∧ i = .int .i64 (k : Int) ∧ Grows u1 wr ∧ Blk wr u1.heap.size 97 #[.int .i64 (minTo t.values k), .int .i64 (maxTo t.values k)]) (fun i _ => t.values.length - (intOf i).toNat)
    case atStart => exact ⟨1, Nat.le_refl _, hv, rfl, ((Grows.refl u1).alloc _).drew, by rw [minTo_one X0.out, maxTo_one X0.out]; exact (Blk.new u1 _ _).grows (Grows.refl _).drew⟩
    case round =>
      obtain ⟨k, hk0, hk, rfl, hg, hO⟩ := hrel
      have z2 := hg.keeps _ _ kS_2
      have zR0 := hg.keeps _ _ kR_0
      have zR1 := hg.keeps _ _ kR_1
      have zf := (R.out.grows hg).frozen
      have zl := (R.out.grows hg).lt
      have zO0 : wr.cell? ⟨u1.heap.size, 0, none⟩ = some (.int .i64 (minTo t.values k)) := hO.cell 0
      have zO1 : wr.cell? ⟨u1.heap.size, 1, none⟩ = some (.int .i64 (maxTo t.values k)) := hO.cell 1
      have zOf := hO.frozen
      have zOl := hO.lt
      have n1 : ¬ bb = u1.heap.size := by omega
      have n2 : ¬ w.heap.size = u1.heap.size := by omega
      have n3' : ¬ u1.heap.size = w.heap.size + 1 := by omega
      clear kS_0 kS_1 kS_2 kR_0 kR_1 fS fR hs
      have HO := hideIt hO
      have HG := hideIt hg
      clear hO hg
      by_cases hlt : k < t.values.length
      · obtain ⟨x, hx⟩ : ∃ x, t.values[k]? = some x := ⟨_, List.getElem?_eq_getElem hlt⟩
        obtain ⟨bq, oq, heq, cs, hl1, hcs, hr1⟩ := HX.out k x hx
        injection heq with heq
        injection heq with e1 e2
        subst e1 e2
        unfold RI at hr1
        subst hr1
        have hs : wr.cell? ⟨bb, off + k, none⟩ = some (.int .i64 x) := by simpa using HG.out.keeps _ _ (hcs 0 _ rfl)
        have X1 := hideIt hx
        clear hcs hl1 hx
        go_wp2_with fail
        by_cases hmin : x < minTo t.values k
        · by_cases hmax : maxTo t.values k < x
          · go_region
            go_wp2_with fail
            go_region
            go_wp2
            go_roundw
            case rel =>
              refine ⟨k + 1, by omega, by omega, by go_num, by repeat (first | exact HG.out | refine Grows.drew ?_ | refine Grows.setCell ?_ (by simp <;> omega) _), ?_⟩
              rw [minTo_succ X1.out, maxTo_succ X1.out, if_pos hmin, if_pos hmax]
              exact Blk.drew_ ((HO.out.set_ 0 _).drew_.set_ 1 _)
            case measure => simp [intOf]; omega
          · go_region
            go_wp2_with fail
            go_region
            go_wp2
            go_roundw
            case rel =>
              refine ⟨k + 1, by omega, by omega, by go_num, by repeat (first | exact HG.out | refine Grows.drew ?_ | refine Grows.setCell ?_ (by simp <;> omega) _), ?_⟩
              rw [minTo_succ X1.out, maxTo_succ X1.out, if_pos hmin, if_neg (show ¬ maxTo t.values k < x by omega)]
              exact Blk.drew_ ((HO.out.set_ 0 _).drew_.set_ 1 _)
            case measure => simp [intOf]; omega
        · by_cases hmax : maxTo t.values k < x
          · go_region
            go_wp2_with fail
            go_region
            go_wp2
            go_roundw
            case rel =>
              refine ⟨k + 1, by omega, by omega, by go_num, by repeat (first | exact HG.out | refine Grows.drew ?_ | refine Grows.setCell ?_ (by simp <;> omega) _), ?_⟩
              rw [minTo_succ X1.out, maxTo_succ X1.out, if_neg (show ¬ x < minTo t.values k by omega), if_pos hmax]
              exact Blk.drew_ ((HO.out.set_ 0 _).drew_.set_ 1 _)
            case measure => simp [intOf]; omega
          · go_region
            go_wp2_with fail
            go_region
            go_wp2
            go_roundw
            case rel =>
              refine ⟨k + 1, by omega, by omega, by go_num, by repeat (first | exact HG.out | refine Grows.drew ?_ | refine Grows.setCell ?_ (by simp <;> omega) _), ?_⟩
              rw [minTo_succ X1.out, maxTo_succ X1.out, if_neg (show ¬ x < minTo t.values k by omega), if_neg (show ¬ maxTo t.values k < x by omega)]
              exact Blk.drew_ ((HO.out.set_ 0 _).drew_.set_ 1 _)
            case measure => simp [intOf]; omega
      · have hk2 : k = t.values.length := by omega
        subst hk2
        go_wp2
        refine bodyPost_ret (by simp [*, results, Tryd.results76, go_sem]; try rfl) rfl ?_
        exact ⟨by rw [E.out], ((G.out.trans HG.out).setCell (by simp <;> omega) _).setCell (by simp <;> omega) _⟩
end Go.Proofs.YtcaklodecejkhaaDoor
