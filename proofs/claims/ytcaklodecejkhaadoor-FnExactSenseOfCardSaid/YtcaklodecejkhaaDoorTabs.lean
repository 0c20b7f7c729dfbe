/-
  Contracts of the tests of two tables, the reference's and the program's.
-/
import Derived.Test.YtcaklodecejkhaaDoorBounds
import Derived.Test.YtcaklodecejkhaaDoorTablesT
namespace Go.Proofs.YtcaklodecejkhaaDoor
open Go.RowKit

def tabOk (pos : Bool) (t : TableD) : Bool := tabB t && (!pos || decide (0 ≤ minL t.values))
def tablesB (ts : List TableD) (pos : Bool) : Bool := decide (ts.length = 2) && ts.all (tabOk pos)
theorem tablesB_no {ts : List TableD} {pos : Bool} {k : Nat} {t : TableD} (hk : ts[k]? = some t) (h : tabOk pos t = false) : tablesB ts pos = false := by
  unfold tablesB
  have : ts.all (tabOk pos) = false := by
    rw [List.all_eq_false]
    exact ⟨t, List.mem_of_getElem? hk, by simp [h]⟩
  rw [this, Bool.and_false]
set_option maxHeartbeats 2000000 in
theorem l03Tables_f {v : Value} {ts : List TableD} (w : World) (h : RTables w v ts) :
    Calls Tryd.prog 57 #[v, .bool false] w fun e w' => e = .returned (.bool (tablesB ts false)) ∧ Grows w w' := by
  have hl := RList.len h
  obtain ⟨A, c, ev, -, -, hx⟩ := RList.form h
  have HX := hideIt hx
  clear hx h
  by_cases h2 : ts.length = 2
  rotate_left
  · subst ev
    have E := hideIt (show tablesB ts false = false by unfold tablesB; rw [decide_eq_false h2]; rfl)
    go_enter Tryd.func57, Tryd.ntmps57
    go_wp2
    go_ret
    exact ⟨ret_bool E.out.symm, Grows.refl _⟩
  rw [h2] at ev
  subst ev
  have la : 2 ≤ ts.length := by omega
  have lb : ts.length ≤ 2 := by omega
  have H2 := hideIt h2
  clear h2 hl
  go_enter Tryd.func57, Tryd.ntmps57
  go_wp2
  go_loopw [5] (fun i wr => ∃ k : Nat, k ≤ 2 ∧ i = .int .i64 (k : Int) ∧ Hid (∀ (j : Nat) (t : TableD), j < k → ts[j]? = some t → tabOk false t = true) ∧ Grows w wr) (fun i _ => 2 - (intOf i).toNat)
  case atStart => exact ⟨0, by omega, rfl, fun j t hj => absurd hj (by omega), Grows.refl _⟩
  case round =>
    obtain ⟨k, hk, rfl, hco, hg⟩ := hrel
    have HG := hideIt hg
    by_cases hlt : k < 2
    · obtain ⟨t, ht⟩ : ∃ t, ts[k]? = some t := ⟨_, List.getElem?_eq_getElem (by omega)⟩
      obtain ⟨b, off, rfl, cs, hl1, hcs, hr⟩ := HX.out k t ht
      obtain ⟨c0, c1, c2, rfl⟩ := list3 hl1
      have HR := hideIt (hr.keep hg.keeps)
      have hs0 : wr.cell? ⟨b, off + k * 3, none⟩ = some c0 := by simpa [Nat.add_assoc] using hg.keeps _ _ (hcs 0 _ rfl)
      have hs1 : wr.cell? ⟨b, off + k * 3 + 1, none⟩ = some c1 := by simpa [Nat.add_assoc] using hg.keeps _ _ (hcs 1 _ rfl)
      have hs2 : wr.cell? ⟨b, off + k * 3 + 2, none⟩ = some c2 := by simpa [Nat.add_assoc] using hg.keeps _ _ (hcs 2 _ rfl)
      have T1 := hideIt ht
      clear hcs hl1 hr ht hg
      go_wp2_with fail
      refine (sBounds_any _ HR.out).mono ?_
      rintro e u ⟨rfl, g⟩
      have G1 := hideIt (HG.out.trans g)
      clear g
      cases hb : tabB t
      · have E := hideIt (tablesB_no (pos := false) T1.out (by unfold tabOk; rw [hb]; rfl))
        have EB := hideIt (show bndV t = (0, 0, 1) by unfold bndV; rw [if_neg (by simp [hb])])
        rw [EB.out]
        clear hb
        go_wp2
        go_ret
        exact ⟨ret_bool E.out.symm, G1.out.alloc _⟩
      have EB := hideIt (show bndV t = (minL t.values, maxL t.values, 0) by unfold bndV; rw [if_pos hb])
      rw [EB.out]
      have HB := hideIt hb
      clear hb EB
      obtain ⟨mn, emn⟩ : ∃ mn, minL t.values = mn := ⟨_, rfl⟩
      have EM := hideIt emn
      rw [emn]
      clear emn
      have OK : Hid (tabOk false t = true) := hideIt (by unfold tabOk; rw [HB.out]; rfl)
      go_wp2
      go_roundw
      case rel => exact ⟨k + 1, by omega, by go_num, fun j s hj hs => by
        by_cases ej : j = k
        · subst ej; rw [T1.out] at hs; injection hs with hs; rw [← hs]; exact OK.out
        · exact hco.out j s (by omega) hs, G1.out.alloc _⟩
      case measure => simp [intOf]; omega
    · obtain rfl : k = 2 := by omega
      have E := hideIt (show tablesB ts false = true by
        unfold tablesB
        rw [decide_eq_true H2.out, Bool.true_and, List.all_eq_true]
        intro t ht
        obtain ⟨j, hj⟩ := List.getElem?_of_mem ht
        exact hco.out j t (by have := (List.getElem?_eq_some_iff.1 hj).1; omega) hj)
      go_wp2
      go_ret
      exact ⟨ret_bool E.out.symm, HG.out⟩
set_option maxHeartbeats 2000000 in
theorem l03Tables_t {v : Value} {ts : List TableD} (w : World) (h : RTables w v ts) :
    Calls Tryd.prog 57 #[v, .bool true] w fun e w' => e = .returned (.bool (tablesB ts true)) ∧ Grows w w' := by
  have hl := RList.len h
  obtain ⟨A, c, ev, -, -, hx⟩ := RList.form h
  have HX := hideIt hx
  clear hx h
  by_cases h2 : ts.length = 2
  rotate_left
  · subst ev
    have E := hideIt (show tablesB ts true = false by unfold tablesB; rw [decide_eq_false h2]; rfl)
    go_enter Tryd.func57, Tryd.ntmps57
    go_wp2
    go_ret
    exact ⟨ret_bool E.out.symm, Grows.refl _⟩
  rw [h2] at ev
  subst ev
  have la : 2 ≤ ts.length := by omega
  have lb : ts.length ≤ 2 := by omega
  have H2 := hideIt h2
  clear h2 hl
  go_enter Tryd.func57, Tryd.ntmps57
  go_wp2
  go_loopw [5] (fun i wr => ∃ k : Nat, k ≤ 2 ∧ i = .int .i64 (k : Int) ∧ Hid (∀ (j : Nat) (t : TableD), j < k → ts[j]? = some t → tabOk true t = true) ∧ Grows w wr) (fun i _ => 2 - (intOf i).toNat)
  case atStart => exact ⟨0, by omega, rfl, fun j t hj => absurd hj (by omega), Grows.refl _⟩
  case round =>
    obtain ⟨k, hk, rfl, hco, hg⟩ := hrel
    have HG := hideIt hg
    by_cases hlt : k < 2
    · obtain ⟨t, ht⟩ : ∃ t, ts[k]? = some t := ⟨_, List.getElem?_eq_getElem (by omega)⟩
      obtain ⟨b, off, rfl, cs, hl1, hcs, hr⟩ := HX.out k t ht
      obtain ⟨c0, c1, c2, rfl⟩ := list3 hl1
      have HR := hideIt (hr.keep hg.keeps)
      have hs0 : wr.cell? ⟨b, off + k * 3, none⟩ = some c0 := by simpa [Nat.add_assoc] using hg.keeps _ _ (hcs 0 _ rfl)
      have hs1 : wr.cell? ⟨b, off + k * 3 + 1, none⟩ = some c1 := by simpa [Nat.add_assoc] using hg.keeps _ _ (hcs 1 _ rfl)
      have hs2 : wr.cell? ⟨b, off + k * 3 + 2, none⟩ = some c2 := by simpa [Nat.add_assoc] using hg.keeps _ _ (hcs 2 _ rfl)
      have T1 := hideIt ht
      clear hcs hl1 hr ht hg
      go_wp2_with fail
      refine (sBounds_any _ HR.out).mono ?_
      rintro e u ⟨rfl, g⟩
      have G1 := hideIt (HG.out.trans g)
      clear g
      cases hb : tabB t
      · have E := hideIt (tablesB_no (pos := true) T1.out (by unfold tabOk; rw [hb]; rfl))
        have EB := hideIt (show bndV t = (0, 0, 1) by unfold bndV; rw [if_neg (by simp [hb])])
        rw [EB.out]
        clear hb
        go_wp2
        go_ret
        exact ⟨ret_bool E.out.symm, G1.out.alloc _⟩
      have EB := hideIt (show bndV t = (minL t.values, maxL t.values, 0) by unfold bndV; rw [if_pos hb])
      rw [EB.out]
      have HB := hideIt hb
      clear hb EB
      obtain ⟨mn, emn⟩ : ∃ mn, minL t.values = mn := ⟨_, rfl⟩
      have EM := hideIt emn
      rw [emn]
      clear emn
      by_cases hm : mn < 0
      · have E := hideIt (tablesB_no (pos := true) T1.out (by unfold tabOk; rw [HB.out, EM.out, decide_eq_false (by omega)]; rfl))
        go_wp2
        go_ret
        exact ⟨ret_bool E.out.symm, G1.out.alloc _⟩
      · have OK : Hid (tabOk true t = true) := hideIt (by unfold tabOk; rw [HB.out, EM.out, decide_eq_true (by omega)]; rfl)
        go_wp2
        go_roundw
        case rel => exact ⟨k + 1, by omega, by go_num, fun j s hj hs => by
          by_cases ej : j = k
          · subst ej; rw [T1.out] at hs; injection hs with hs; rw [← hs]; exact OK.out
          · exact hco.out j s (by omega) hs, G1.out.alloc _⟩
        case measure => simp [intOf]; omega
    · obtain rfl : k = 2 := by omega
      have E := hideIt (show tablesB ts true = true by
        unfold tablesB
        rw [decide_eq_true H2.out, Bool.true_and, List.all_eq_true]
        intro t ht
        obtain ⟨j, hj⟩ := List.getElem?_of_mem ht
        exact hco.out j t (by have := (List.getElem?_eq_some_iff.1 hj).1; omega) hj)
      go_wp2
      go_ret
      exact ⟨ret_bool E.out.symm, HG.out⟩
theorem l03Tables_any {v : Value} {ts : List TableD} (pos : Bool) (w : World) (h : RTables w v ts) :
    Calls Tryd.prog 57 #[v, .bool pos] w fun e w' => e = .returned (.bool (tablesB ts pos)) ∧ Grows w w' := by
  cases pos
  · exact l03Tables_f w h
  · exact l03Tables_t w h
set_option maxHeartbeats 1000000 in
theorem areTables1_any {a b c : Value} {t : TableD} (pos : Bool) (g : Nat) (W : World) (hr : RTable W [a, b, c] t) (hb : W.cell? ⟨g, 0, none⟩ = some (.bool pos)) :
    Calls Tryd.prog 102 #[.agg #[a, b, c], .pointer (some ⟨g, 0, none⟩)] W fun e W' => e = .returned (.bool (!tabOk pos t)) ∧ Grows W W' := by
  have lb := cell_lt hb
  simp at lb
  have g0 := (Grows.refl W).alloc (.cells #[a, b, c] 101)
  have S := hideIt (Blk.new W 101 #[a, b, c])
  have H := hideIt (hr.keep g0.keeps)
  have G := hideIt g0
  have HB := hideIt hb
  clear g0 hr
  cases ht : tabB t
  · have E := hideIt (show (!tabOk pos t) = true by unfold tabOk; rw [ht]; rfl)
    go_enter Tryd.func102, Tryd.ntmps102
    go_wp2_with fail
    refine (iIsTable_any _ H.out).mono ?_
    rintro e u ⟨rfl, g1⟩
    rw [ht]
    have G1 := hideIt (G.out.trans g1)
    clear g1 hb
    go_wp2
    go_ret
    exact ⟨ret_bool E.out.symm, G1.out⟩
  have tv := tabB_val ht
  go_enter Tryd.func102, Tryd.ntmps102
  go_wp2_with fail
  refine (iIsTable_any _ H.out).mono ?_
  rintro e u ⟨rfl, g1⟩
  rw [ht]
  have HT := hideIt ht
  have G1 := hideIt (G.out.trans g1)
  have H1 := hideIt (H.out.keep g1.keeps)
  have kb : u.cell? ⟨g, 0, none⟩ = some (.bool pos) := G1.out.keeps _ _ HB.out
  have k2 : u.cell? ⟨W.heap.size, 2, none⟩ = some c := (S.out.grows g1).cell 2
  have lu : W.heap.size < u.heap.size := (S.out.grows g1).lt
  clear g1 hb ht
  cases pos
  · have E := hideIt (show (!tabOk false t) = false by unfold tabOk; rw [HT.out]; rfl)
    go_wp2
    go_ret
    exact ⟨ret_bool E.out.symm, G1.out⟩
  · go_wp2_with fail
    refine (min_any _ H1.out.open_.2.2 tv).mono ?_
    rintro e u2 ⟨rfl, rfl⟩
    obtain ⟨mn, emn⟩ : ∃ mn, minL t.values = mn := ⟨_, rfl⟩
    rw [emn]
    by_cases hm : mn < 0
    · have E := hideIt (show (!tabOk true t) = true by unfold tabOk; rw [HT.out, emn, decide_eq_false (by omega)]; rfl)
      clear emn
      go_wp2
      go_ret
      exact ⟨ret_bool E.out.symm, G1.out⟩
    · have E := hideIt (show (!tabOk true t) = false by unfold tabOk; rw [HT.out, emn, decide_eq_true (by omega)]; rfl)
      clear emn
      go_wp2
      go_ret
      exact ⟨ret_bool (by rw [E.out]; exact decide_eq_false (by omega)), G1.out⟩
theorem any_not {ts : List TableD} {pos : Bool} : (!(ts.any fun t => !tabOk pos t)) = ts.all (tabOk pos) := by
  induction ts with
  | nil => rfl
  | cons a r ih => simp only [List.any_cons, List.all_cons, Bool.not_or, Bool.not_not, ih]
set_option maxHeartbeats 1000000 in
theorem areTables_any {v : Value} {ts : List TableD} (pos : Bool) (w : World) (h : RTables w v ts) :
    Calls Tryd.prog 88 #[v, .bool pos] w fun e w' => e = .returned (.bool (tablesB ts pos)) ∧ Grows w w' := by
  have hl := RList.len h
  obtain ⟨A, c, rfl⟩ : ∃ (A : Option Addr) (c : Nat), v = .slice A ts.length c := by obtain ⟨A, c, e, -⟩ := RList.form h; exact ⟨A, c, e⟩
  have H := hideIt h
  clear h
  by_cases h2 : ts.length = 2
  rotate_left
  · have E := hideIt (show tablesB ts pos = false by unfold tablesB; rw [decide_eq_false h2]; rfl)
    have hd : ((ts.length : Int) == 2) = false := by simp; omega
    go_enter Tryd.func88, Tryd.ntmps88
    go_wp2
    go_ret
    exact ⟨ret_bool E.out.symm, (Grows.refl _).alloc _⟩
  have E := hideIt (show tablesB ts pos = !(ts.any fun t => !tabOk pos t) by unfold tablesB; rw [decide_eq_true h2, Bool.true_and, any_not])
  have hd : ((ts.length : Int) == 2) = true := by simp; omega
  clear h2
  go_enter Tryd.func88, Tryd.ntmps88
  go_wp2_with fail
  have g0 : Grows w (w.alloc (.cells #[.bool pos] 4)) := (Grows.refl _).alloc _
  refine (containsFuncTable_any 102 _ (fun args W => enters_of Tryd.func102 (by kernel_rfl) rfl args W) (fun t => !tabOk pos t) _ (RList.keep H.out g0.keeps fun _ _ h => h.keep g0.keeps) ?_).mono ?_
  · intro t c0 c1 c2 W _ gw hr
    exact areTables1_any pos _ W hr (gw.keeps _ _ (by simp))
  rintro e w1 ⟨rfl, g1⟩
  obtain ⟨q, eq⟩ : ∃ q, q = ts.any (fun t => !tabOk pos t) := ⟨_, rfl⟩
  rw [← eq]
  have EQ := hideIt (E.out.trans (by rw [← eq]))
  clear eq
  have G1 := hideIt (g0.trans g1)
  clear g1 g0
  go_wp2
  go_ret
  exact ⟨ret_bool EQ.out.symm, G1.out⟩
end Go.Proofs.YtcaklodecejkhaaDoor
