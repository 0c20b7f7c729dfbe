/-
  A table's text and the table read from it, the reference's.
-/
import Derived.Test.YtgglgghlndhfbaaDoorSRead
namespace Go.Proofs.YtgglgghlndhfbaaDoor
open Go.RowKit
def textB (t : TableD) : ByteArray := if tabB t = true then ⟨(tableL t).toArray⟩ else ⟨#[]⟩
theorem text_cat {t : TableD} (h : tabB t = true) : listB t.slews ++ (⟨#[124]⟩ : ByteArray) ++ listB t.loads ++ (⟨#[124]⟩ : ByteArray) ++ listB t.values = textB t := by
  unfold textB
  rw [if_pos h]
  unfold listB tableL
  apply ByteArray.ext
  simp [joinL, ByteArray.data_append]
theorem table_of {s : ByteArray} {p q r : List UInt8} {a b c : List Int} (hs : splitL 124 s.data.toList = [p, q, r]) (h1 : ∀ ys, ys ≠ [] → (∀ y ∈ ys, okN y) → p = listL ys → a = ys) (h2 : ∀ ys, ys ≠ [] → (∀ y ∈ ys, okN y) → q = listL ys → b = ys) (h3 : ∀ ys, ys ≠ [] → (∀ y ∈ ys, okN y) → r = listL ys → c = ys) {u : TableD} (hu : tabB u = true) (e : s.data.toList = tableL u) : u = ⟨a, b, c⟩ := by
  rw [e, tableL_parts] at hs
  simp only [List.cons.injEq, and_true] at hs
  obtain ⟨b1, b2, b3⟩ := tab_ok hu
  have y1 := h1 _ b1.1 b1.2 hs.1.symm
  have y2 := h2 _ b2.1 b2.2 hs.2.1.symm
  have y3 := h3 _ b3.1 b3.2 hs.2.2.symm
  cases u
  simp only at y1 y2 y3
  subst y1 y2 y3
  rfl
theorem text_yes {s : ByteArray} {t : TableD} {p q r : List UInt8} (h : textB t = s) (hs : splitL 124 s.data.toList = [p, q, r]) : RT s t true := by
  unfold textB at h
  split at h
  · rename_i ht
    exact .inl ⟨rfl, ht, by rw [← h]⟩
  · rw [← h] at hs
    cases hs
theorem text_no {s : ByteArray} {t : TableD} (h : textB t ≠ s) (hp : ∀ u, tabB u = true → s.data.toList = tableL u → u = t) : RT s ⟨[], [], []⟩ false :=
  .inr ⟨rfl, rfl, fun u hu e => h (by
    have h1 := hp u hu e
    subst h1
    unfold textB
    rw [if_pos hu]
    apply ByteArray.ext
    apply Array.ext'
    exact e.symm)⟩
set_option maxHeartbeats 8000000 in
set_option maxRecDepth 10000 in
theorem sText_any {a b c : Value} {t : TableD} (w : World) (h : RTable w [a, b, c] t) : Calls Tryd.prog 33 #[.agg #[a, b, c]] w fun e w' => e = .returned (.string (textB t)) ∧ Grows w w' := by
  obtain ⟨⟨A1, m1, rfl⟩, ⟨A2, m2, rfl⟩, ⟨A3, m3, rfl⟩⟩ := h.shape
  have gal : Grows w (w.alloc (.cells #[.slice A1 t.slews.length m1, .slice A2 t.loads.length m2, .slice A3 t.values.length m3] 29)) := (Grows.refl _).alloc _
  have GA := hideIt gal
  have B := hideIt (Blk.new w 29 #[.slice A1 t.slews.length m1, .slice A2 t.loads.length m2, .slice A3 t.values.length m3])
  have HR := hideIt (h.keep gal.keeps)
  clear h gal
  cases ht : tabB t
  · have E := hideIt (show textB t = ⟨#[]⟩ by unfold textB; rw [if_neg (by rw [ht]; decide)])
    go_enter Tryd.func33, Tryd.ntmps33
    go_wp2_with fail
    refine (sIsTable_any _ HR.out).mono ?_
    rintro e u1 ⟨rfl, g⟩
    rw [ht]
    replace GA := hideIt (GA.out.trans g)
    clear g
    go_wp2
    go_ret
    exact ⟨by rw [E.out]; rfl, GA.out⟩
  · have E := hideIt (text_cat ht)
    obtain ⟨ok1, ok2, ok3⟩ := tab_ok ht
    have HN := hideIt (And.intro ok1.2 (And.intro ok2.2 ok3.2))
    obtain ⟨q1, q2, q3, -⟩ := tabB_parts ht
    have l1 := axB_len q1
    have l2 := axB_len q2
    have l3 : t.values.length ≤ 16 := by rw [q3]; exact Nat.mul_le_mul l1.2 l2.2
    have z1 := listB_size ok1.2
    have z2 := listB_size ok2.2
    have z3 := listB_size ok3.2
    have l1' : t.slews.length ≤ 16 := by omega
    have l2' : t.loads.length ≤ 16 := by omega
    have y1 : ¬ 9223372036854775807 < (listB t.slews).size + 1 := by omega
    have y2 : ¬ 9223372036854775807 < (listB t.slews).size + 1 + (listB t.loads).size := by omega
    have y3 : ¬ 9223372036854775807 < (listB t.slews).size + 1 + (listB t.loads).size + 1 := by omega
    have y4 : ¬ 9223372036854775807 < (listB t.slews).size + 1 + (listB t.loads).size + 1 + (listB t.values).size := by omega
    have HT := hideIt ht
    clear ok1 ok2 ok3 q1 q2 q3 l1 l2
    go_enter Tryd.func33, Tryd.ntmps33
    go_wp2_with fail
    refine (sIsTable_any _ HR.out).mono ?_
    rintro e u1 ⟨rfl, g⟩
    rw [ht]
    clear ht
    replace GA := hideIt (GA.out.trans g)
    replace B := hideIt (B.out.grows g)
    replace HR := hideIt (HR.out.keep g.keeps)
    have HR1 := hideIt HR.out.open_.1
    have HR2 := hideIt HR.out.open_.2.1
    have HR3 := hideIt HR.out.open_.2.2
    have gg : Grows u1 u1 := Grows.refl _
    have HK : Hid (∀ w', Grows u1 w' → w'.cell? ⟨w.heap.size, 0, none⟩ = some (.slice A1 t.slews.length m1) ∧ w'.cell? ⟨w.heap.size, 1, none⟩ = some (.slice A2 t.loads.length m2) ∧ w'.cell? ⟨w.heap.size, 2, none⟩ = some (.slice A3 t.values.length m3)) := hideIt (fun w' g => ⟨(B.out.grows g).cell 0, (B.out.grows g).cell 1, (B.out.grows g).cell 2⟩)
    clear g
    go_wp2
    refine wp_region_held_drew (S := (fun w' => w'.cell? ⟨w.heap.size, 0, none⟩ = some (.slice A1 t.slews.length m1) ∧ w'.cell? ⟨w.heap.size, 1, none⟩ = some (.slice A2 t.loads.length m2) ∧ w'.cell? ⟨w.heap.size, 2, none⟩ = some (.slice A3 t.values.length m3))) (by kernel_rfl) ?_ (fun hh0 => ?_)
    · (try dsimp only); refine HK.out _ ?_; (repeat (first | exact gg | refine Grows.drew ?_ | refine Grows.drewN ?_ _))
    refine regTake 0 (v := ?_) ?_ hh0 ?_
    rotate_left
    · intro w hw; (try dsimp only at hw); go_simp; (try with_reducible rfl)
    try simp only [Act.put, List.setIfInBounds_toArray, List.set_cons_zero, List.set_cons_succ]
    refine regTake 1 (v := ?_) ?_ hh0 ?_
    rotate_left
    · intro w hw; (try dsimp only at hw); go_simp; (try with_reducible rfl)
    try simp only [Act.put, List.setIfInBounds_toArray, List.set_cons_zero, List.set_cons_succ]
    refine regTake 4 (v := ?_) ?_ hh0 ?_
    rotate_left
    · intro w hw; (try dsimp only at hw); go_simp; (try with_reducible rfl)
    try simp only [Act.put, List.setIfInBounds_toArray, List.set_cons_zero, List.set_cons_succ]
    refine regTake 5 (v := ?_) ?_ hh0 ?_
    rotate_left
    · intro w hw; (try dsimp only at hw); go_simp; (try with_reducible rfl)
    try simp only [Act.put, List.setIfInBounds_toArray, List.set_cons_zero, List.set_cons_succ]
    refine regTake 9 (v := ?_) ?_ hh0 ?_
    rotate_left
    · intro w hw; (try dsimp only at hw); go_simp; (try with_reducible rfl)
    try simp only [Act.put, List.setIfInBounds_toArray, List.set_cons_zero, List.set_cons_succ]
    refine regTake 10 (v := ?_) ?_ hh0 ?_
    rotate_left
    · intro w hw; (try dsimp only at hw); go_simp; (try with_reducible rfl)
    try simp only [Act.put, List.setIfInBounds_toArray, List.set_cons_zero, List.set_cons_succ]
    refine regCall 2 (fun K hK => ?_)
    go_simp
    refine (sList_any _ (RInts.keep HR1.out (show Grows u1 _ from (by repeat (first | exact gg | refine Grows.drew ?_ | refine Grows.drewN ?_ _ | refine Grows.alloc ?_ _))).keeps) HN.out.1 (by omega)).mono ?_
    rintro e v1 ⟨rfl, g_⟩
    have gg := (show Grows u1 _ from (by repeat (first | exact gg | refine Grows.drew ?_ | refine Grows.drewN ?_ _ | refine Grows.alloc ?_ _))).trans g_
    clear g_
    (try go_wp2_with fail)
    refine hK.out _ _ ?_ (fun hh1 => ?_)
    · (try dsimp only); refine HK.out _ ?_; (repeat (first | exact gg | refine Grows.drew ?_ | refine Grows.drewN ?_ _))
    clear hK K hh0
    try simp only [Act.put, List.setIfInBounds_toArray, List.set_cons_zero, List.set_cons_succ]
    refine regTake 3 (v := ?_) ?_ hh1 ?_
    rotate_left
    · intro w hw; (try dsimp only at hw); go_simp; (try with_reducible rfl)
    try simp only [Act.put, List.setIfInBounds_toArray, List.set_cons_zero, List.set_cons_succ]
    refine regCall 6 (fun K hK => ?_)
    go_simp
    refine (sList_any _ (RInts.keep HR2.out (show Grows u1 _ from (by repeat (first | exact gg | refine Grows.drew ?_ | refine Grows.drewN ?_ _ | refine Grows.alloc ?_ _))).keeps) HN.out.2.1 (by omega)).mono ?_
    rintro e v2 ⟨rfl, g_⟩
    have gg := (show Grows u1 _ from (by repeat (first | exact gg | refine Grows.drew ?_ | refine Grows.drewN ?_ _ | refine Grows.alloc ?_ _))).trans g_
    clear g_
    (try go_wp2_with fail)
    refine hK.out _ _ ?_ (fun hh2 => ?_)
    · (try dsimp only); refine HK.out _ ?_; (repeat (first | exact gg | refine Grows.drew ?_ | refine Grows.drewN ?_ _))
    clear hK K hh1
    try simp only [Act.put, List.setIfInBounds_toArray, List.set_cons_zero, List.set_cons_succ]
    refine regTake 7 (v := ?_) ?_ hh2 ?_
    rotate_left
    · intro w hw; (try dsimp only at hw); go_simp; (try with_reducible rfl)
    try simp only [Act.put, List.setIfInBounds_toArray, List.set_cons_zero, List.set_cons_succ]
    refine regTake 8 (v := ?_) ?_ hh2 ?_
    rotate_left
    · intro w hw; (try dsimp only at hw); go_simp; (try with_reducible rfl)
    try simp only [Act.put, List.setIfInBounds_toArray, List.set_cons_zero, List.set_cons_succ]
    refine regCall 11 (fun K hK => ?_)
    go_simp
    refine (sList_any _ (RInts.keep HR3.out (show Grows u1 _ from (by repeat (first | exact gg | refine Grows.drew ?_ | refine Grows.drewN ?_ _ | refine Grows.alloc ?_ _))).keeps) HN.out.2.2 (by omega)).mono ?_
    rintro e v3 ⟨rfl, g_⟩
    have gg := (show Grows u1 _ from (by repeat (first | exact gg | refine Grows.drew ?_ | refine Grows.drewN ?_ _ | refine Grows.alloc ?_ _))).trans g_
    clear g_
    (try go_wp2_with fail)
    refine hK.out _ _ ?_ (fun hh3 => ?_)
    · (try dsimp only); refine HK.out _ ?_; (repeat (first | exact gg | refine Grows.drew ?_ | refine Grows.drewN ?_ _))
    clear hK K hh2
    try simp only [Act.put, List.setIfInBounds_toArray, List.set_cons_zero, List.set_cons_succ]
    refine regTake 12 (v := ?_) ?_ hh3 ?_
    rotate_left
    · intro w hw; (try dsimp only at hw); go_simp; (try with_reducible rfl)
    try simp only [Act.put, List.setIfInBounds_toArray, List.set_cons_zero, List.set_cons_succ]
    refine regTake 13 (v := ?_) ?_ hh3 ?_
    rotate_left
    · intro w hw; (try dsimp only at hw); go_simp; (try with_reducible rfl)
    try simp only [Act.put, List.setIfInBounds_toArray, List.set_cons_zero, List.set_cons_succ]
    refine wpAnyH_done (by kernel_rfl) ?_ _
    clear hh3 HK
    go_wp2
    go_ret
    exact ⟨by rw [← E.out]; rfl, GA.out.trans (by repeat (first | exact gg | refine Grows.drew ?_))⟩
set_option maxHeartbeats 64000000 in
set_option maxRecDepth 10000 in
theorem sReadTable_any (s : ByteArray) (w : World) (hs : s.size ≤ 1048576) : Calls Tryd.prog 12 #[.string s] w (ReadPost s w) := by
  have GA : Hid (Grows w (w.alloc (.cells #[.slice none 0 0, .slice none 0 0, .slice none 0 0] 29))) := hideIt ((Grows.refl w).alloc _)
  have R := hideIt (Blk.new w 29 #[.slice none 0 0, .slice none 0 0, .slice none 0 0])
  go_enter Tryd.func12, Tryd.ntmps12
  go_wp2_with fail
  refine (split_any s 124 124 rfl _ hs).mono ?_
  rintro e u1 ⟨v, ws, rfl, sa, pe, pl, g⟩
  obtain ⟨gW, cW, rfl, hcell⟩ := sa
  have PE := hideIt pe
  have CE := hideIt hcell
  have szw : w.heap.size < u1.heap.size := by have := g.size; simp at this; omega
  replace GA := hideIt (GA.out.trans g)
  replace R := hideIt (R.out.grows g)
  clear pe hcell g
  by_cases h3 : ws.length = 3
  rotate_left
  · have PN : Hid (RT s ⟨[], [], []⟩ false) := hideIt (RT.few (by rw [← PE.out, List.length_map]; exact h3))
    have h3' : ((ws.length : Int) == 3) = false := by simp; omega
    have kR0 := R.out.cell 0
    have kR1 := R.out.cell 1
    have kR2 := R.out.cell 2
    simp at kR0 kR1 kR2
    have fR := R.out.frozen
    have lR := R.out.lt
    go_wp2
    refine bodyPost_ret (by simp [*, results, Tryd.results12, go_sem]; try rfl) rfl ?_
    exact .no PN.out (by repeat (first | exact GA.out | refine Grows.setCell ?_ (by simp) _))
  obtain ⟨p, q, r, rfl⟩ := list3' h3
  have PS : Hid (splitL 124 s.data.toList = [p.data.toList, q.data.toList, r.data.toList]) := hideIt PE.out.symm
  have zp : p.size ≤ 1048576 := Nat.le_trans (piece_size (c := 124) (by rw [PS.out]; simp)) hs
  have zq : q.size ≤ 1048576 := Nat.le_trans (piece_size (c := 124) (by rw [PS.out]; simp)) hs
  have zr : r.size ≤ 1048576 := Nat.le_trans (piece_size (c := 124) (by rw [PS.out]; simp)) hs
  have q0 := CE.out 0 p rfl
  have q1 := CE.out 1 q rfl
  have q2 := CE.out 2 r rfl
  have HK : Hid (∀ w', Grows u1 w' → w'.cell? ⟨gW, 0, none⟩ = some (.string p) ∧ w'.cell? ⟨gW, 1, none⟩ = some (.string q) ∧ w'.cell? ⟨gW, 2, none⟩ = some (.string r)) := hideIt (fun w' g => ⟨g.keeps _ _ q0, g.keeps _ _ q1, g.keeps _ _ q2⟩)
  have gg : Grows u1 u1 := Grows.refl _
  clear h3 PE pl q0 q1 q2 CE
  go_wp2
  refine wp_region_held_drew (S := (fun w' => w'.cell? ⟨gW, 0, none⟩ = some (.string p) ∧ w'.cell? ⟨gW, 1, none⟩ = some (.string q) ∧ w'.cell? ⟨gW, 2, none⟩ = some (.string r))) (by kernel_rfl) ?_ (fun hh0 => ?_)
  · (try dsimp only); refine HK.out _ ?_; (repeat (first | exact gg | refine Grows.drew ?_ | refine Grows.drewN ?_ _ | refine Grows.alloc ?_ _ | refine Grows.setCell ?_ (by simp; omega) _))
  refine regTake 0 (v := ?_) ?_ hh0 ?_
  rotate_left
  · intro w hw; (try dsimp only at hw); go_simp; (try with_reducible rfl)
  try simp only [Act.put, List.setIfInBounds_toArray, List.set_cons_zero, List.set_cons_succ]
  refine regTake 1 (v := ?_) ?_ hh0 ?_
  rotate_left
  · intro w hw; (try dsimp only at hw); go_simp; (try with_reducible rfl)
  try simp only [Act.put, List.setIfInBounds_toArray, List.set_cons_zero, List.set_cons_succ]
  refine regTake 2 (v := ?_) ?_ hh0 ?_
  rotate_left
  · intro w hw; (try dsimp only at hw); go_simp; (try with_reducible rfl)
  try simp only [Act.put, List.setIfInBounds_toArray, List.set_cons_zero, List.set_cons_succ]
  refine regTake 4 (v := ?_) ?_ hh0 ?_
  rotate_left
  · intro w hw; (try dsimp only at hw); go_simp; (try with_reducible rfl)
  try simp only [Act.put, List.setIfInBounds_toArray, List.set_cons_zero, List.set_cons_succ]
  refine regTake 5 (v := ?_) ?_ hh0 ?_
  rotate_left
  · intro w hw; (try dsimp only at hw); go_simp; (try with_reducible rfl)
  try simp only [Act.put, List.setIfInBounds_toArray, List.set_cons_zero, List.set_cons_succ]
  refine regTake 6 (v := ?_) ?_ hh0 ?_
  rotate_left
  · intro w hw; (try dsimp only at hw); go_simp; (try with_reducible rfl)
  try simp only [Act.put, List.setIfInBounds_toArray, List.set_cons_zero, List.set_cons_succ]
  refine regTake 8 (v := ?_) ?_ hh0 ?_
  rotate_left
  · intro w hw; (try dsimp only at hw); go_simp; (try with_reducible rfl)
  try simp only [Act.put, List.setIfInBounds_toArray, List.set_cons_zero, List.set_cons_succ]
  refine regTake 9 (v := ?_) ?_ hh0 ?_
  rotate_left
  · intro w hw; (try dsimp only at hw); go_simp; (try with_reducible rfl)
  try simp only [Act.put, List.setIfInBounds_toArray, List.set_cons_zero, List.set_cons_succ]
  refine regTake 10 (v := ?_) ?_ hh0 ?_
  rotate_left
  · intro w hw; (try dsimp only at hw); go_simp; (try with_reducible rfl)
  try simp only [Act.put, List.setIfInBounds_toArray, List.set_cons_zero, List.set_cons_succ]
  refine regCall2 3 13 (fun K hK => ?_) (fun K hK => ?_)
  · go_simp
    refine (sReads_any p _ zp).mono ?_
    rintro e y1 ⟨A1, c1, xs1, b1, rfl, o_, ow_, uq_, g_⟩
    have g9 : Grows u1 y1 := (show Grows u1 _ from (by repeat (first | exact Grows.refl _ | refine Grows.drew ?_ | refine Grows.drewN ?_ _))).trans g_
    have O1 := hideIt o_
    have W1 : Hid (Own u1.heap.size y1.heap.size b1) := hideIt (by simpa using ow_)
    have U1 := hideIt uq_
    clear o_ ow_ uq_ g_
    have sz1 := g9.size
    replace gg := Grows.trans gg g9
    clear g9
    (try go_wp2_with fail)
    refine hK.out _ _ ?_ (fun hh1 => ?_)
    · (try dsimp only); refine HK.out _ ?_; (repeat (first | exact gg | refine Grows.drew ?_ | refine Grows.drewN ?_ _ | refine Grows.alloc ?_ _ | refine Grows.setCell ?_ (by simp; omega) _))
    clear hK K hh0
    try simp only [Act.put, List.setIfInBounds_toArray, List.set_cons_zero, List.set_cons_succ]
    refine regCall2 7 13 (fun K hK => ?_) (fun K hK => ?_)
    · go_simp
      refine (sReads_any q _ zq).mono ?_
      rintro e y2 ⟨A2, c2, xs2, b2, rfl, o_, ow_, uq_, g_⟩
      have g9 : Grows y1 y2 := (show Grows y1 _ from (by repeat (first | exact Grows.refl _ | refine Grows.drew ?_ | refine Grows.drewN ?_ _))).trans g_
      replace O1 := hideIt (OInts.chg (cs := []) O1.out (Chg.of_grows g9) (fun _ _ h => by cases h))
      have O2 := hideIt o_
      have W2 : Hid (Own y1.heap.size y2.heap.size b2) := hideIt (by simpa using ow_)
      have U2 := hideIt uq_
      clear o_ ow_ uq_ g_
      have sz2 := g9.size
      replace gg := Grows.trans gg g9
      clear g9
      (try go_wp2_with fail)
      refine hK.out _ _ ?_ (fun hh2 => ?_)
      · (try dsimp only); refine HK.out _ ?_; (repeat (first | exact gg | refine Grows.drew ?_ | refine Grows.drewN ?_ _ | refine Grows.alloc ?_ _ | refine Grows.setCell ?_ (by simp; omega) _))
      clear hK K hh1
      try simp only [Act.put, List.setIfInBounds_toArray, List.set_cons_zero, List.set_cons_succ]
      refine regCall2 11 13 (fun K hK => ?_) (fun K hK => ?_)
      · go_simp
        refine (sReads_any r _ zr).mono ?_
        rintro e y3 ⟨A3, c3, xs3, b3, rfl, o_, ow_, uq_, g_⟩
        have g9 : Grows y2 y3 := (show Grows y2 _ from (by repeat (first | exact Grows.refl _ | refine Grows.drew ?_ | refine Grows.drewN ?_ _))).trans g_
        replace O1 := hideIt (OInts.chg (cs := []) O1.out (Chg.of_grows g9) (fun _ _ h => by cases h))
        replace O2 := hideIt (OInts.chg (cs := []) O2.out (Chg.of_grows g9) (fun _ _ h => by cases h))
        have O3 := hideIt o_
        have W3 : Hid (Own y2.heap.size y3.heap.size b3) := hideIt (by simpa using ow_)
        have U3 := hideIt uq_
        clear o_ ow_ uq_ g_
        have sz3 := g9.size
        replace gg := Grows.trans gg g9
        clear g9
        (try go_wp2_with fail)
        refine hK.out _ _ ?_ (fun hh3 => ?_)
        · (try dsimp only); refine HK.out _ ?_; (repeat (first | exact gg | refine Grows.drew ?_ | refine Grows.drewN ?_ _ | refine Grows.alloc ?_ _ | refine Grows.setCell ?_ (by simp; omega) _))
        clear hK K hh2
        try simp only [Act.put, List.setIfInBounds_toArray, List.set_cons_zero, List.set_cons_succ]
        refine regTake 12 (v := ?_) ?_ hh3 ?_
        rotate_left
        · intro w hw; (try dsimp only at hw); go_simp; (try with_reducible rfl)
        try simp only [Act.put, List.setIfInBounds_toArray, List.set_cons_zero, List.set_cons_succ]
        refine regCall 13 (fun K hK => ?_)
        go_simp
        have g9 : Grows y3 (y3.alloc (.cells #[.slice none 0 0, .slice none 0 0, .slice none 0 0] 29)) := (Grows.refl _).alloc _
        have BO := hideIt (Blk.new y3 29 #[.slice none 0 0, .slice none 0 0, .slice none 0 0])
        generalize y3.alloc (.cells #[.slice none 0 0, .slice none 0 0, .slice none 0 0] 29) = y4 at g9 BO ⊢
        replace O1 := hideIt (OInts.chg (cs := []) O1.out (Chg.of_grows g9) (fun _ _ h => by cases h))
        replace O2 := hideIt (OInts.chg (cs := []) O2.out (Chg.of_grows g9) (fun _ _ h => by cases h))
        replace O3 := hideIt (OInts.chg (cs := []) O3.out (Chg.of_grows g9) (fun _ _ h => by cases h))
        have lQ : y3.heap.size < y4.heap.size := BO.out.lt
        have sz4 := g9.size
        replace gg := Grows.trans gg g9
        clear g9
        have kO0 : y4.cell? ⟨y3.heap.size, 0, none⟩ = some (.slice none 0 0) := BO.out.cell 0
        have kO1 : y4.cell? ⟨y3.heap.size, 1, none⟩ = some (.slice none 0 0) := BO.out.cell 1
        have kO2 : y4.cell? ⟨y3.heap.size, 2, none⟩ = some (.slice none 0 0) := BO.out.cell 2
        have fO := BO.out.frozen
        have lO := BO.out.lt
        (try go_wp2_with fail)
        refine hK.out _ _ ?_ (fun hh4 => ?_)
        · (try dsimp only); refine HK.out _ ?_; (repeat (first | exact gg | refine Grows.drew ?_ | refine Grows.drewN ?_ _ | refine Grows.alloc ?_ _ | refine Grows.setCell ?_ (by simp; omega) _))
        clear hK K hh3
        try simp only [Act.put, List.setIfInBounds_toArray, List.set_cons_zero, List.set_cons_succ]
        refine regCall 14 (fun K hK => ?_)
        go_simp
        have cset : Chg [y3.heap.size] y4 (((y4.setCell ⟨y3.heap.size, 0, none⟩ (.slice A1 xs1.length c1)).setCell ⟨y3.heap.size, 1, none⟩ (.slice A2 xs2.length c2)).setCell ⟨y3.heap.size, 2, none⟩ (.slice A3 xs3.length c3)) := (((Chg.refl _ _).setCell (by simp) _).setCell (by simp) _).setCell (by simp) _
        replace BO := hideIt (((BO.out.set_ 0 (.slice A1 xs1.length c1)).set_ 1 (.slice A2 xs2.length c2)).set_ 2 (.slice A3 xs3.length c3))
        replace O1 := hideIt (OInts.chg O1.out cset (fun q hq hm => by have := W1.out.2 q hq; simp at hm; omega))
        replace O2 := hideIt (OInts.chg O2.out cset (fun q hq hm => by have := W2.out.2 q hq; simp at hm; omega))
        replace O3 := hideIt (OInts.chg O3.out cset (fun q hq hm => by have := W3.out.2 q hq; simp at hm; omega))
        replace gg : Grows u1 (((y4.setCell ⟨y3.heap.size, 0, none⟩ (.slice A1 xs1.length c1)).setCell ⟨y3.heap.size, 1, none⟩ (.slice A2 xs2.length c2)).setCell ⟨y3.heap.size, 2, none⟩ (.slice A3 xs3.length c3)) := Grows.chg gg cset (fun q hq => by simp at hq; omega)
        have sz5 := cset.size
        generalize ((y4.setCell ⟨y3.heap.size, 0, none⟩ (.slice A1 xs1.length c1)).setCell ⟨y3.heap.size, 1, none⟩ (.slice A2 xs2.length c2)).setCell ⟨y3.heap.size, 2, none⟩ (.slice A3 xs3.length c3) = y5 at cset BO O1 O2 O3 gg sz5 ⊢
        clear kO0 kO1 kO2 fO lO cset
        (try go_wp2_with fail)
        refine hK.out _ _ ?_ (fun hh5 => ?_)
        · (try dsimp only); refine HK.out _ ?_; (repeat (first | exact gg | refine Grows.drew ?_ | refine Grows.drewN ?_ _ | refine Grows.alloc ?_ _ | refine Grows.setCell ?_ (by simp; omega) _))
        clear hK K hh4
        try simp only [Act.put, List.setIfInBounds_toArray, List.set_cons_zero, List.set_cons_succ]
        refine wpAnyH_done (by kernel_rfl) ?_ _
        clear hh5 HK
        have kV0 : y5.cell? ⟨y3.heap.size, 0, none⟩ = some (.slice A1 xs1.length c1) := BO.out.cell 0
        have kV1 : y5.cell? ⟨y3.heap.size, 1, none⟩ = some (.slice A2 xs2.length c2) := BO.out.cell 1
        have kV2 : y5.cell? ⟨y3.heap.size, 2, none⟩ = some (.slice A3 xs3.length c3) := BO.out.cell 2
        have fV := BO.out.frozen
        have lV := BO.out.lt
        have RD : Hid (RTable y5 [.slice A1 xs1.length c1, .slice A2 xs2.length c2, .slice A3 xs3.length c3] ⟨xs1, xs2, xs3⟩) := hideIt ⟨_, _, _, rfl, OInts.reads O1.out, OInts.reads O2.out, OInts.reads O3.out⟩
        have PT : Hid (∀ u, tabB u = true → s.data.toList = tableL u → u = ⟨xs1, xs2, xs3⟩) := hideIt (fun u hu e => table_of PS.out U1.out U2.out U3.out hu e)
        go_wp2_with fail
        clear kV0 kV1 kV2 fV lV
        refine (sText_any _ RD.out).mono ?_
        rintro e y6 ⟨rfl, g_⟩
        have R5 := hideIt (R.out.grows (gg.trans g_))
        have GF := hideIt ((GA.out.trans gg).trans g_)
        have T5 := hideIt (BO.out.grows g_)
        replace O1 := hideIt (OInts.chg (cs := []) O1.out (Chg.of_grows g_) (fun _ _ h => by cases h))
        replace O2 := hideIt (OInts.chg (cs := []) O2.out (Chg.of_grows g_) (fun _ _ h => by cases h))
        replace O3 := hideIt (OInts.chg (cs := []) O3.out (Chg.of_grows g_) (fun _ _ h => by cases h))
        have sz6 := g_.size
        clear g_ RD
        have kV0 : y6.cell? ⟨y3.heap.size, 0, none⟩ = some (.slice A1 xs1.length c1) := T5.out.cell 0
        have kV1 : y6.cell? ⟨y3.heap.size, 1, none⟩ = some (.slice A2 xs2.length c2) := T5.out.cell 1
        have kV2 : y6.cell? ⟨y3.heap.size, 2, none⟩ = some (.slice A3 xs3.length c3) := T5.out.cell 2
        have fV := T5.out.frozen
        have lV := T5.out.lt
        have kR0 := R5.out.cell 0
        have kR1 := R5.out.cell 1
        have kR2 := R5.out.cell 2
        simp at kR0 kR1 kR2
        have fR := R5.out.frozen
        have lR := R5.out.lt
        by_cases hf : textB ⟨xs1, xs2, xs3⟩ = s
        · have PY : Hid (RT s ⟨xs1, xs2, xs3⟩ true) := hideIt (text_yes hf PS.out)
          have hee : ((textB ⟨xs1, xs2, xs3⟩).toList == s.toList) = true := by rw [hf]; exact beq_self_eq_true _
          clear hf
          go_wp2
          refine bodyPost_ret (by simp [*, results, Tryd.results12, go_sem]; try rfl) rfl ?_
          have key : ∀ w9, Chg [w.heap.size] y6 w9 → Grows w w9 → ReadPost s w (.returned (.tuple #[.agg #[.slice A1 xs1.length c1, .slice A2 xs2.length c2, .slice A3 xs3.length c3], .bool true])) w9 := fun w9 c9 h9 =>
            ReadPost.yes (lo := u1.heap.size) (m1 := y1.heap.size) (m2 := y2.heap.size) (by omega) (by omega) (by omega) (by have := c9.size; omega)
              (OInts.chg O1.out c9 (fun q hq => by have := W1.out.2 q hq; simp; omega)) (OInts.chg O2.out c9 (fun q hq => by have := W2.out.2 q hq; simp; omega)) (OInts.chg O3.out c9 (fun q hq => by have := W3.out.2 q hq; simp; omega))
              (W1.out.mono (Nat.le_refl _) (by omega)) (W2.out.mono (Nat.le_refl _) (by omega)) (W3.out.mono (Nat.le_refl _) (by have := c9.size; omega)) PY.out h9
          refine key _ ?_ ?_
          · repeat (first | exact Chg.refl _ _ | refine Chg.drew ?_ | refine Chg.setCell ?_ (by simp) _)
          · repeat (first | exact GF.out | refine Grows.drew ?_ | refine Grows.setCell ?_ (by simp) _)
        · have PN : Hid (RT s ⟨[], [], []⟩ false) := hideIt (text_no hf PT.out)
          have hd := strDif hf
          clear hf
          go_wp2
          refine bodyPost_ret (by simp [*, results, Tryd.results12, go_sem]; try rfl) rfl ?_
          exact .no PN.out (by repeat (first | exact GF.out | refine Grows.drew ?_ | refine Grows.setCell ?_ (by simp) _))
      · go_simp
        have g9 : Grows y2 (y2.alloc (.cells #[.slice none 0 0, .slice none 0 0, .slice none 0 0] 29)) := (Grows.refl _).alloc _
        have BO := hideIt (Blk.new y2 29 #[.slice none 0 0, .slice none 0 0, .slice none 0 0])
        generalize y2.alloc (.cells #[.slice none 0 0, .slice none 0 0, .slice none 0 0] 29) = y3 at g9 BO ⊢
        replace O1 := hideIt (OInts.chg (cs := []) O1.out (Chg.of_grows g9) (fun _ _ h => by cases h))
        replace O2 := hideIt (OInts.chg (cs := []) O2.out (Chg.of_grows g9) (fun _ _ h => by cases h))
        have lQ : y2.heap.size < y3.heap.size := BO.out.lt
        have sz3 := g9.size
        replace gg := Grows.trans gg g9
        clear g9
        have kO0 : y3.cell? ⟨y2.heap.size, 0, none⟩ = some (.slice none 0 0) := BO.out.cell 0
        have kO1 : y3.cell? ⟨y2.heap.size, 1, none⟩ = some (.slice none 0 0) := BO.out.cell 1
        have kO2 : y3.cell? ⟨y2.heap.size, 2, none⟩ = some (.slice none 0 0) := BO.out.cell 2
        have fO := BO.out.frozen
        have lO := BO.out.lt
        (try go_wp2_with fail)
        refine hK.out _ _ ?_ (fun hh3 => ?_)
        · (try dsimp only); refine HK.out _ ?_; (repeat (first | exact gg | refine Grows.drew ?_ | refine Grows.drewN ?_ _ | refine Grows.alloc ?_ _ | refine Grows.setCell ?_ (by simp; omega) _))
        clear hK K hh2
        try simp only [Act.put, List.setIfInBounds_toArray, List.set_cons_zero, List.set_cons_succ]
        refine regCall 11 (fun K hK => ?_)
        go_simp
        refine (sReads_any r _ zr).mono ?_
        rintro e y4 ⟨A3, c3, xs3, b3, rfl, o_, ow_, uq_, g_⟩
        have g9 : Grows y3 y4 := (show Grows y3 _ from (by repeat (first | exact Grows.refl _ | refine Grows.drew ?_ | refine Grows.drewN ?_ _))).trans g_
        replace O1 := hideIt (OInts.chg (cs := []) O1.out (Chg.of_grows g9) (fun _ _ h => by cases h))
        replace O2 := hideIt (OInts.chg (cs := []) O2.out (Chg.of_grows g9) (fun _ _ h => by cases h))
        replace BO := hideIt (BO.out.grows g9)
        have O3 := hideIt o_
        have W3 : Hid (Own y3.heap.size y4.heap.size b3) := hideIt (by simpa using ow_)
        have U3 := hideIt uq_
        clear o_ ow_ uq_ g_
        clear kO0 kO1 kO2 fO lO
        have sz4 := g9.size
        replace gg := Grows.trans gg g9
        clear g9
        have kO0 : y4.cell? ⟨y2.heap.size, 0, none⟩ = some (.slice none 0 0) := BO.out.cell 0
        have kO1 : y4.cell? ⟨y2.heap.size, 1, none⟩ = some (.slice none 0 0) := BO.out.cell 1
        have kO2 : y4.cell? ⟨y2.heap.size, 2, none⟩ = some (.slice none 0 0) := BO.out.cell 2
        have fO := BO.out.frozen
        have lO := BO.out.lt
        (try go_wp2_with fail)
        refine hK.out _ _ ?_ (fun hh4 => ?_)
        · (try dsimp only); refine HK.out _ ?_; (repeat (first | exact gg | refine Grows.drew ?_ | refine Grows.drewN ?_ _ | refine Grows.alloc ?_ _ | refine Grows.setCell ?_ (by simp; omega) _))
        clear hK K hh3
        try simp only [Act.put, List.setIfInBounds_toArray, List.set_cons_zero, List.set_cons_succ]
        refine regTake 12 (v := ?_) ?_ hh4 ?_
        rotate_left
        · intro w hw; (try dsimp only at hw); go_simp; (try with_reducible rfl)
        try simp only [Act.put, List.setIfInBounds_toArray, List.set_cons_zero, List.set_cons_succ]
        refine regCall 14 (fun K hK => ?_)
        go_simp
        have cset : Chg [y2.heap.size] y4 (((y4.setCell ⟨y2.heap.size, 0, none⟩ (.slice A1 xs1.length c1)).setCell ⟨y2.heap.size, 1, none⟩ (.slice A2 xs2.length c2)).setCell ⟨y2.heap.size, 2, none⟩ (.slice A3 xs3.length c3)) := (((Chg.refl _ _).setCell (by simp) _).setCell (by simp) _).setCell (by simp) _
        replace BO := hideIt (((BO.out.set_ 0 (.slice A1 xs1.length c1)).set_ 1 (.slice A2 xs2.length c2)).set_ 2 (.slice A3 xs3.length c3))
        replace O1 := hideIt (OInts.chg O1.out cset (fun q hq hm => by have := W1.out.2 q hq; simp at hm; omega))
        replace O2 := hideIt (OInts.chg O2.out cset (fun q hq hm => by have := W2.out.2 q hq; simp at hm; omega))
        replace O3 := hideIt (OInts.chg O3.out cset (fun q hq hm => by have := W3.out.2 q hq; simp at hm; omega))
        replace gg : Grows u1 (((y4.setCell ⟨y2.heap.size, 0, none⟩ (.slice A1 xs1.length c1)).setCell ⟨y2.heap.size, 1, none⟩ (.slice A2 xs2.length c2)).setCell ⟨y2.heap.size, 2, none⟩ (.slice A3 xs3.length c3)) := Grows.chg gg cset (fun q hq => by simp at hq; omega)
        have sz5 := cset.size
        generalize ((y4.setCell ⟨y2.heap.size, 0, none⟩ (.slice A1 xs1.length c1)).setCell ⟨y2.heap.size, 1, none⟩ (.slice A2 xs2.length c2)).setCell ⟨y2.heap.size, 2, none⟩ (.slice A3 xs3.length c3) = y5 at cset BO O1 O2 O3 gg sz5 ⊢
        clear kO0 kO1 kO2 fO lO cset
        (try go_wp2_with fail)
        refine hK.out _ _ ?_ (fun hh5 => ?_)
        · (try dsimp only); refine HK.out _ ?_; (repeat (first | exact gg | refine Grows.drew ?_ | refine Grows.drewN ?_ _ | refine Grows.alloc ?_ _ | refine Grows.setCell ?_ (by simp; omega) _))
        clear hK K hh4
        try simp only [Act.put, List.setIfInBounds_toArray, List.set_cons_zero, List.set_cons_succ]
        refine wpAnyH_done (by kernel_rfl) ?_ _
        clear hh5 HK
        have kV0 : y5.cell? ⟨y2.heap.size, 0, none⟩ = some (.slice A1 xs1.length c1) := BO.out.cell 0
        have kV1 : y5.cell? ⟨y2.heap.size, 1, none⟩ = some (.slice A2 xs2.length c2) := BO.out.cell 1
        have kV2 : y5.cell? ⟨y2.heap.size, 2, none⟩ = some (.slice A3 xs3.length c3) := BO.out.cell 2
        have fV := BO.out.frozen
        have lV := BO.out.lt
        have RD : Hid (RTable y5 [.slice A1 xs1.length c1, .slice A2 xs2.length c2, .slice A3 xs3.length c3] ⟨xs1, xs2, xs3⟩) := hideIt ⟨_, _, _, rfl, OInts.reads O1.out, OInts.reads O2.out, OInts.reads O3.out⟩
        have PT : Hid (∀ u, tabB u = true → s.data.toList = tableL u → u = ⟨xs1, xs2, xs3⟩) := hideIt (fun u hu e => table_of PS.out U1.out U2.out U3.out hu e)
        go_wp2_with fail
        clear kV0 kV1 kV2 fV lV
        refine (sText_any _ RD.out).mono ?_
        rintro e y6 ⟨rfl, g_⟩
        have R5 := hideIt (R.out.grows (gg.trans g_))
        have GF := hideIt ((GA.out.trans gg).trans g_)
        have T5 := hideIt (BO.out.grows g_)
        replace O1 := hideIt (OInts.chg (cs := []) O1.out (Chg.of_grows g_) (fun _ _ h => by cases h))
        replace O2 := hideIt (OInts.chg (cs := []) O2.out (Chg.of_grows g_) (fun _ _ h => by cases h))
        replace O3 := hideIt (OInts.chg (cs := []) O3.out (Chg.of_grows g_) (fun _ _ h => by cases h))
        have sz6 := g_.size
        clear g_ RD
        have kV0 : y6.cell? ⟨y2.heap.size, 0, none⟩ = some (.slice A1 xs1.length c1) := T5.out.cell 0
        have kV1 : y6.cell? ⟨y2.heap.size, 1, none⟩ = some (.slice A2 xs2.length c2) := T5.out.cell 1
        have kV2 : y6.cell? ⟨y2.heap.size, 2, none⟩ = some (.slice A3 xs3.length c3) := T5.out.cell 2
        have fV := T5.out.frozen
        have lV := T5.out.lt
        have kR0 := R5.out.cell 0
        have kR1 := R5.out.cell 1
        have kR2 := R5.out.cell 2
        simp at kR0 kR1 kR2
        have fR := R5.out.frozen
        have lR := R5.out.lt
        by_cases hf : textB ⟨xs1, xs2, xs3⟩ = s
        · have PY : Hid (RT s ⟨xs1, xs2, xs3⟩ true) := hideIt (text_yes hf PS.out)
          have hee : ((textB ⟨xs1, xs2, xs3⟩).toList == s.toList) = true := by rw [hf]; exact beq_self_eq_true _
          clear hf
          go_wp2
          refine bodyPost_ret (by simp [*, results, Tryd.results12, go_sem]; try rfl) rfl ?_
          have key : ∀ w9, Chg [w.heap.size] y6 w9 → Grows w w9 → ReadPost s w (.returned (.tuple #[.agg #[.slice A1 xs1.length c1, .slice A2 xs2.length c2, .slice A3 xs3.length c3], .bool true])) w9 := fun w9 c9 h9 =>
            ReadPost.yes (lo := u1.heap.size) (m1 := y1.heap.size) (m2 := y3.heap.size) (by omega) (by omega) (by omega) (by have := c9.size; omega)
              (OInts.chg O1.out c9 (fun q hq => by have := W1.out.2 q hq; simp; omega)) (OInts.chg O2.out c9 (fun q hq => by have := W2.out.2 q hq; simp; omega)) (OInts.chg O3.out c9 (fun q hq => by have := W3.out.2 q hq; simp; omega))
              (W1.out.mono (Nat.le_refl _) (by omega)) (W2.out.mono (Nat.le_refl _) (by omega)) (W3.out.mono (Nat.le_refl _) (by have := c9.size; omega)) PY.out h9
          refine key _ ?_ ?_
          · repeat (first | exact Chg.refl _ _ | refine Chg.drew ?_ | refine Chg.setCell ?_ (by simp) _)
          · repeat (first | exact GF.out | refine Grows.drew ?_ | refine Grows.setCell ?_ (by simp) _)
        · have PN : Hid (RT s ⟨[], [], []⟩ false) := hideIt (text_no hf PT.out)
          have hd := strDif hf
          clear hf
          go_wp2
          refine bodyPost_ret (by simp [*, results, Tryd.results12, go_sem]; try rfl) rfl ?_
          exact .no PN.out (by repeat (first | exact GF.out | refine Grows.drew ?_ | refine Grows.setCell ?_ (by simp) _))
    · go_simp
      have g9 : Grows y1 (y1.alloc (.cells #[.slice none 0 0, .slice none 0 0, .slice none 0 0] 29)) := (Grows.refl _).alloc _
      have BO := hideIt (Blk.new y1 29 #[.slice none 0 0, .slice none 0 0, .slice none 0 0])
      generalize y1.alloc (.cells #[.slice none 0 0, .slice none 0 0, .slice none 0 0] 29) = y2 at g9 BO ⊢
      replace O1 := hideIt (OInts.chg (cs := []) O1.out (Chg.of_grows g9) (fun _ _ h => by cases h))
      have lQ : y1.heap.size < y2.heap.size := BO.out.lt
      have sz2 := g9.size
      replace gg := Grows.trans gg g9
      clear g9
      have kO0 : y2.cell? ⟨y1.heap.size, 0, none⟩ = some (.slice none 0 0) := BO.out.cell 0
      have kO1 : y2.cell? ⟨y1.heap.size, 1, none⟩ = some (.slice none 0 0) := BO.out.cell 1
      have kO2 : y2.cell? ⟨y1.heap.size, 2, none⟩ = some (.slice none 0 0) := BO.out.cell 2
      have fO := BO.out.frozen
      have lO := BO.out.lt
      (try go_wp2_with fail)
      refine hK.out _ _ ?_ (fun hh2 => ?_)
      · (try dsimp only); refine HK.out _ ?_; (repeat (first | exact gg | refine Grows.drew ?_ | refine Grows.drewN ?_ _ | refine Grows.alloc ?_ _ | refine Grows.setCell ?_ (by simp; omega) _))
      clear hK K hh1
      try simp only [Act.put, List.setIfInBounds_toArray, List.set_cons_zero, List.set_cons_succ]
      refine regCall 7 (fun K hK => ?_)
      go_simp
      refine (sReads_any q _ zq).mono ?_
      rintro e y3 ⟨A2, c2, xs2, b2, rfl, o_, ow_, uq_, g_⟩
      have g9 : Grows y2 y3 := (show Grows y2 _ from (by repeat (first | exact Grows.refl _ | refine Grows.drew ?_ | refine Grows.drewN ?_ _))).trans g_
      replace O1 := hideIt (OInts.chg (cs := []) O1.out (Chg.of_grows g9) (fun _ _ h => by cases h))
      replace BO := hideIt (BO.out.grows g9)
      have O2 := hideIt o_
      have W2 : Hid (Own y2.heap.size y3.heap.size b2) := hideIt (by simpa using ow_)
      have U2 := hideIt uq_
      clear o_ ow_ uq_ g_
      clear kO0 kO1 kO2 fO lO
      have sz3 := g9.size
      replace gg := Grows.trans gg g9
      clear g9
      have kO0 : y3.cell? ⟨y1.heap.size, 0, none⟩ = some (.slice none 0 0) := BO.out.cell 0
      have kO1 : y3.cell? ⟨y1.heap.size, 1, none⟩ = some (.slice none 0 0) := BO.out.cell 1
      have kO2 : y3.cell? ⟨y1.heap.size, 2, none⟩ = some (.slice none 0 0) := BO.out.cell 2
      have fO := BO.out.frozen
      have lO := BO.out.lt
      (try go_wp2_with fail)
      refine hK.out _ _ ?_ (fun hh3 => ?_)
      · (try dsimp only); refine HK.out _ ?_; (repeat (first | exact gg | refine Grows.drew ?_ | refine Grows.drewN ?_ _ | refine Grows.alloc ?_ _ | refine Grows.setCell ?_ (by simp; omega) _))
      clear hK K hh2
      try simp only [Act.put, List.setIfInBounds_toArray, List.set_cons_zero, List.set_cons_succ]
      refine regCall 11 (fun K hK => ?_)
      go_simp
      refine (sReads_any r _ zr).mono ?_
      rintro e y4 ⟨A3, c3, xs3, b3, rfl, o_, ow_, uq_, g_⟩
      have g9 : Grows y3 y4 := (show Grows y3 _ from (by repeat (first | exact Grows.refl _ | refine Grows.drew ?_ | refine Grows.drewN ?_ _))).trans g_
      replace O1 := hideIt (OInts.chg (cs := []) O1.out (Chg.of_grows g9) (fun _ _ h => by cases h))
      replace BO := hideIt (BO.out.grows g9)
      replace O2 := hideIt (OInts.chg (cs := []) O2.out (Chg.of_grows g9) (fun _ _ h => by cases h))
      have O3 := hideIt o_
      have W3 : Hid (Own y3.heap.size y4.heap.size b3) := hideIt (by simpa using ow_)
      have U3 := hideIt uq_
      clear o_ ow_ uq_ g_
      clear kO0 kO1 kO2 fO lO
      have sz4 := g9.size
      replace gg := Grows.trans gg g9
      clear g9
      have kO0 : y4.cell? ⟨y1.heap.size, 0, none⟩ = some (.slice none 0 0) := BO.out.cell 0
      have kO1 : y4.cell? ⟨y1.heap.size, 1, none⟩ = some (.slice none 0 0) := BO.out.cell 1
      have kO2 : y4.cell? ⟨y1.heap.size, 2, none⟩ = some (.slice none 0 0) := BO.out.cell 2
      have fO := BO.out.frozen
      have lO := BO.out.lt
      (try go_wp2_with fail)
      refine hK.out _ _ ?_ (fun hh4 => ?_)
      · (try dsimp only); refine HK.out _ ?_; (repeat (first | exact gg | refine Grows.drew ?_ | refine Grows.drewN ?_ _ | refine Grows.alloc ?_ _ | refine Grows.setCell ?_ (by simp; omega) _))
      clear hK K hh3
      try simp only [Act.put, List.setIfInBounds_toArray, List.set_cons_zero, List.set_cons_succ]
      refine regTake 12 (v := ?_) ?_ hh4 ?_
      rotate_left
      · intro w hw; (try dsimp only at hw); go_simp; (try with_reducible rfl)
      try simp only [Act.put, List.setIfInBounds_toArray, List.set_cons_zero, List.set_cons_succ]
      refine regCall 14 (fun K hK => ?_)
      go_simp
      have cset : Chg [y1.heap.size] y4 (((y4.setCell ⟨y1.heap.size, 0, none⟩ (.slice A1 xs1.length c1)).setCell ⟨y1.heap.size, 1, none⟩ (.slice A2 xs2.length c2)).setCell ⟨y1.heap.size, 2, none⟩ (.slice A3 xs3.length c3)) := (((Chg.refl _ _).setCell (by simp) _).setCell (by simp) _).setCell (by simp) _
      replace BO := hideIt (((BO.out.set_ 0 (.slice A1 xs1.length c1)).set_ 1 (.slice A2 xs2.length c2)).set_ 2 (.slice A3 xs3.length c3))
      replace O1 := hideIt (OInts.chg O1.out cset (fun q hq hm => by have := W1.out.2 q hq; simp at hm; omega))
      replace O2 := hideIt (OInts.chg O2.out cset (fun q hq hm => by have := W2.out.2 q hq; simp at hm; omega))
      replace O3 := hideIt (OInts.chg O3.out cset (fun q hq hm => by have := W3.out.2 q hq; simp at hm; omega))
      replace gg : Grows u1 (((y4.setCell ⟨y1.heap.size, 0, none⟩ (.slice A1 xs1.length c1)).setCell ⟨y1.heap.size, 1, none⟩ (.slice A2 xs2.length c2)).setCell ⟨y1.heap.size, 2, none⟩ (.slice A3 xs3.length c3)) := Grows.chg gg cset (fun q hq => by simp at hq; omega)
      have sz5 := cset.size
      generalize ((y4.setCell ⟨y1.heap.size, 0, none⟩ (.slice A1 xs1.length c1)).setCell ⟨y1.heap.size, 1, none⟩ (.slice A2 xs2.length c2)).setCell ⟨y1.heap.size, 2, none⟩ (.slice A3 xs3.length c3) = y5 at cset BO O1 O2 O3 gg sz5 ⊢
      clear kO0 kO1 kO2 fO lO cset
      (try go_wp2_with fail)
      refine hK.out _ _ ?_ (fun hh5 => ?_)
      · (try dsimp only); refine HK.out _ ?_; (repeat (first | exact gg | refine Grows.drew ?_ | refine Grows.drewN ?_ _ | refine Grows.alloc ?_ _ | refine Grows.setCell ?_ (by simp; omega) _))
      clear hK K hh4
      try simp only [Act.put, List.setIfInBounds_toArray, List.set_cons_zero, List.set_cons_succ]
      refine wpAnyH_done (by kernel_rfl) ?_ _
      clear hh5 HK
      have kV0 : y5.cell? ⟨y1.heap.size, 0, none⟩ = some (.slice A1 xs1.length c1) := BO.out.cell 0
      have kV1 : y5.cell? ⟨y1.heap.size, 1, none⟩ = some (.slice A2 xs2.length c2) := BO.out.cell 1
      have kV2 : y5.cell? ⟨y1.heap.size, 2, none⟩ = some (.slice A3 xs3.length c3) := BO.out.cell 2
      have fV := BO.out.frozen
      have lV := BO.out.lt
      have RD : Hid (RTable y5 [.slice A1 xs1.length c1, .slice A2 xs2.length c2, .slice A3 xs3.length c3] ⟨xs1, xs2, xs3⟩) := hideIt ⟨_, _, _, rfl, OInts.reads O1.out, OInts.reads O2.out, OInts.reads O3.out⟩
      have PT : Hid (∀ u, tabB u = true → s.data.toList = tableL u → u = ⟨xs1, xs2, xs3⟩) := hideIt (fun u hu e => table_of PS.out U1.out U2.out U3.out hu e)
      go_wp2_with fail
      clear kV0 kV1 kV2 fV lV
      refine (sText_any _ RD.out).mono ?_
      rintro e y6 ⟨rfl, g_⟩
      have R5 := hideIt (R.out.grows (gg.trans g_))
      have GF := hideIt ((GA.out.trans gg).trans g_)
      have T5 := hideIt (BO.out.grows g_)
      replace O1 := hideIt (OInts.chg (cs := []) O1.out (Chg.of_grows g_) (fun _ _ h => by cases h))
      replace O2 := hideIt (OInts.chg (cs := []) O2.out (Chg.of_grows g_) (fun _ _ h => by cases h))
      replace O3 := hideIt (OInts.chg (cs := []) O3.out (Chg.of_grows g_) (fun _ _ h => by cases h))
      have sz6 := g_.size
      clear g_ RD
      have kV0 : y6.cell? ⟨y1.heap.size, 0, none⟩ = some (.slice A1 xs1.length c1) := T5.out.cell 0
      have kV1 : y6.cell? ⟨y1.heap.size, 1, none⟩ = some (.slice A2 xs2.length c2) := T5.out.cell 1
      have kV2 : y6.cell? ⟨y1.heap.size, 2, none⟩ = some (.slice A3 xs3.length c3) := T5.out.cell 2
      have fV := T5.out.frozen
      have lV := T5.out.lt
      have kR0 := R5.out.cell 0
      have kR1 := R5.out.cell 1
      have kR2 := R5.out.cell 2
      simp at kR0 kR1 kR2
      have fR := R5.out.frozen
      have lR := R5.out.lt
      by_cases hf : textB ⟨xs1, xs2, xs3⟩ = s
      · have PY : Hid (RT s ⟨xs1, xs2, xs3⟩ true) := hideIt (text_yes hf PS.out)
        have hee : ((textB ⟨xs1, xs2, xs3⟩).toList == s.toList) = true := by rw [hf]; exact beq_self_eq_true _
        clear hf
        go_wp2
        refine bodyPost_ret (by simp [*, results, Tryd.results12, go_sem]; try rfl) rfl ?_
        have key : ∀ w9, Chg [w.heap.size] y6 w9 → Grows w w9 → ReadPost s w (.returned (.tuple #[.agg #[.slice A1 xs1.length c1, .slice A2 xs2.length c2, .slice A3 xs3.length c3], .bool true])) w9 := fun w9 c9 h9 =>
          ReadPost.yes (lo := u1.heap.size) (m1 := y2.heap.size) (m2 := y3.heap.size) (by omega) (by omega) (by omega) (by have := c9.size; omega)
            (OInts.chg O1.out c9 (fun q hq => by have := W1.out.2 q hq; simp; omega)) (OInts.chg O2.out c9 (fun q hq => by have := W2.out.2 q hq; simp; omega)) (OInts.chg O3.out c9 (fun q hq => by have := W3.out.2 q hq; simp; omega))
            (W1.out.mono (Nat.le_refl _) (by omega)) (W2.out.mono (Nat.le_refl _) (by omega)) (W3.out.mono (Nat.le_refl _) (by have := c9.size; omega)) PY.out h9
        refine key _ ?_ ?_
        · repeat (first | exact Chg.refl _ _ | refine Chg.drew ?_ | refine Chg.setCell ?_ (by simp) _)
        · repeat (first | exact GF.out | refine Grows.drew ?_ | refine Grows.setCell ?_ (by simp) _)
      · have PN : Hid (RT s ⟨[], [], []⟩ false) := hideIt (text_no hf PT.out)
        have hd := strDif hf
        clear hf
        go_wp2
        refine bodyPost_ret (by simp [*, results, Tryd.results12, go_sem]; try rfl) rfl ?_
        exact .no PN.out (by repeat (first | exact GF.out | refine Grows.drew ?_ | refine Grows.setCell ?_ (by simp) _))
  · go_simp
    have g9 : Grows u1 (u1.alloc (.cells #[.slice none 0 0, .slice none 0 0, .slice none 0 0] 29)) := (Grows.refl _).alloc _
    have BO := hideIt (Blk.new u1 29 #[.slice none 0 0, .slice none 0 0, .slice none 0 0])
    generalize u1.alloc (.cells #[.slice none 0 0, .slice none 0 0, .slice none 0 0] 29) = y1 at g9 BO ⊢
    have lQ : u1.heap.size < y1.heap.size := BO.out.lt
    have sz1 := g9.size
    replace gg := Grows.trans gg g9
    clear g9
    have kO0 : y1.cell? ⟨u1.heap.size, 0, none⟩ = some (.slice none 0 0) := BO.out.cell 0
    have kO1 : y1.cell? ⟨u1.heap.size, 1, none⟩ = some (.slice none 0 0) := BO.out.cell 1
    have kO2 : y1.cell? ⟨u1.heap.size, 2, none⟩ = some (.slice none 0 0) := BO.out.cell 2
    have fO := BO.out.frozen
    have lO := BO.out.lt
    (try go_wp2_with fail)
    refine hK.out _ _ ?_ (fun hh1 => ?_)
    · (try dsimp only); refine HK.out _ ?_; (repeat (first | exact gg | refine Grows.drew ?_ | refine Grows.drewN ?_ _ | refine Grows.alloc ?_ _ | refine Grows.setCell ?_ (by simp; omega) _))
    clear hK K hh0
    try simp only [Act.put, List.setIfInBounds_toArray, List.set_cons_zero, List.set_cons_succ]
    refine regCall 3 (fun K hK => ?_)
    go_simp
    refine (sReads_any p _ zp).mono ?_
    rintro e y2 ⟨A1, c1, xs1, b1, rfl, o_, ow_, uq_, g_⟩
    have g9 : Grows y1 y2 := (show Grows y1 _ from (by repeat (first | exact Grows.refl _ | refine Grows.drew ?_ | refine Grows.drewN ?_ _))).trans g_
    replace BO := hideIt (BO.out.grows g9)
    have O1 := hideIt o_
    have W1 : Hid (Own y1.heap.size y2.heap.size b1) := hideIt (by simpa using ow_)
    have U1 := hideIt uq_
    clear o_ ow_ uq_ g_
    clear kO0 kO1 kO2 fO lO
    have sz2 := g9.size
    replace gg := Grows.trans gg g9
    clear g9
    have kO0 : y2.cell? ⟨u1.heap.size, 0, none⟩ = some (.slice none 0 0) := BO.out.cell 0
    have kO1 : y2.cell? ⟨u1.heap.size, 1, none⟩ = some (.slice none 0 0) := BO.out.cell 1
    have kO2 : y2.cell? ⟨u1.heap.size, 2, none⟩ = some (.slice none 0 0) := BO.out.cell 2
    have fO := BO.out.frozen
    have lO := BO.out.lt
    (try go_wp2_with fail)
    refine hK.out _ _ ?_ (fun hh2 => ?_)
    · (try dsimp only); refine HK.out _ ?_; (repeat (first | exact gg | refine Grows.drew ?_ | refine Grows.drewN ?_ _ | refine Grows.alloc ?_ _ | refine Grows.setCell ?_ (by simp; omega) _))
    clear hK K hh1
    try simp only [Act.put, List.setIfInBounds_toArray, List.set_cons_zero, List.set_cons_succ]
    refine regCall 7 (fun K hK => ?_)
    go_simp
    refine (sReads_any q _ zq).mono ?_
    rintro e y3 ⟨A2, c2, xs2, b2, rfl, o_, ow_, uq_, g_⟩
    have g9 : Grows y2 y3 := (show Grows y2 _ from (by repeat (first | exact Grows.refl _ | refine Grows.drew ?_ | refine Grows.drewN ?_ _))).trans g_
    replace BO := hideIt (BO.out.grows g9)
    replace O1 := hideIt (OInts.chg (cs := []) O1.out (Chg.of_grows g9) (fun _ _ h => by cases h))
    have O2 := hideIt o_
    have W2 : Hid (Own y2.heap.size y3.heap.size b2) := hideIt (by simpa using ow_)
    have U2 := hideIt uq_
    clear o_ ow_ uq_ g_
    clear kO0 kO1 kO2 fO lO
    have sz3 := g9.size
    replace gg := Grows.trans gg g9
    clear g9
    have kO0 : y3.cell? ⟨u1.heap.size, 0, none⟩ = some (.slice none 0 0) := BO.out.cell 0
    have kO1 : y3.cell? ⟨u1.heap.size, 1, none⟩ = some (.slice none 0 0) := BO.out.cell 1
    have kO2 : y3.cell? ⟨u1.heap.size, 2, none⟩ = some (.slice none 0 0) := BO.out.cell 2
    have fO := BO.out.frozen
    have lO := BO.out.lt
    (try go_wp2_with fail)
    refine hK.out _ _ ?_ (fun hh3 => ?_)
    · (try dsimp only); refine HK.out _ ?_; (repeat (first | exact gg | refine Grows.drew ?_ | refine Grows.drewN ?_ _ | refine Grows.alloc ?_ _ | refine Grows.setCell ?_ (by simp; omega) _))
    clear hK K hh2
    try simp only [Act.put, List.setIfInBounds_toArray, List.set_cons_zero, List.set_cons_succ]
    refine regCall 11 (fun K hK => ?_)
    go_simp
    refine (sReads_any r _ zr).mono ?_
    rintro e y4 ⟨A3, c3, xs3, b3, rfl, o_, ow_, uq_, g_⟩
    have g9 : Grows y3 y4 := (show Grows y3 _ from (by repeat (first | exact Grows.refl _ | refine Grows.drew ?_ | refine Grows.drewN ?_ _))).trans g_
    replace BO := hideIt (BO.out.grows g9)
    replace O1 := hideIt (OInts.chg (cs := []) O1.out (Chg.of_grows g9) (fun _ _ h => by cases h))
    replace O2 := hideIt (OInts.chg (cs := []) O2.out (Chg.of_grows g9) (fun _ _ h => by cases h))
    have O3 := hideIt o_
    have W3 : Hid (Own y3.heap.size y4.heap.size b3) := hideIt (by simpa using ow_)
    have U3 := hideIt uq_
    clear o_ ow_ uq_ g_
    clear kO0 kO1 kO2 fO lO
    have sz4 := g9.size
    replace gg := Grows.trans gg g9
    clear g9
    have kO0 : y4.cell? ⟨u1.heap.size, 0, none⟩ = some (.slice none 0 0) := BO.out.cell 0
    have kO1 : y4.cell? ⟨u1.heap.size, 1, none⟩ = some (.slice none 0 0) := BO.out.cell 1
    have kO2 : y4.cell? ⟨u1.heap.size, 2, none⟩ = some (.slice none 0 0) := BO.out.cell 2
    have fO := BO.out.frozen
    have lO := BO.out.lt
    (try go_wp2_with fail)
    refine hK.out _ _ ?_ (fun hh4 => ?_)
    · (try dsimp only); refine HK.out _ ?_; (repeat (first | exact gg | refine Grows.drew ?_ | refine Grows.drewN ?_ _ | refine Grows.alloc ?_ _ | refine Grows.setCell ?_ (by simp; omega) _))
    clear hK K hh3
    try simp only [Act.put, List.setIfInBounds_toArray, List.set_cons_zero, List.set_cons_succ]
    refine regTake 12 (v := ?_) ?_ hh4 ?_
    rotate_left
    · intro w hw; (try dsimp only at hw); go_simp; (try with_reducible rfl)
    try simp only [Act.put, List.setIfInBounds_toArray, List.set_cons_zero, List.set_cons_succ]
    refine regCall 14 (fun K hK => ?_)
    go_simp
    have cset : Chg [u1.heap.size] y4 (((y4.setCell ⟨u1.heap.size, 0, none⟩ (.slice A1 xs1.length c1)).setCell ⟨u1.heap.size, 1, none⟩ (.slice A2 xs2.length c2)).setCell ⟨u1.heap.size, 2, none⟩ (.slice A3 xs3.length c3)) := (((Chg.refl _ _).setCell (by simp) _).setCell (by simp) _).setCell (by simp) _
    replace BO := hideIt (((BO.out.set_ 0 (.slice A1 xs1.length c1)).set_ 1 (.slice A2 xs2.length c2)).set_ 2 (.slice A3 xs3.length c3))
    replace O1 := hideIt (OInts.chg O1.out cset (fun q hq hm => by have := W1.out.2 q hq; simp at hm; omega))
    replace O2 := hideIt (OInts.chg O2.out cset (fun q hq hm => by have := W2.out.2 q hq; simp at hm; omega))
    replace O3 := hideIt (OInts.chg O3.out cset (fun q hq hm => by have := W3.out.2 q hq; simp at hm; omega))
    replace gg : Grows u1 (((y4.setCell ⟨u1.heap.size, 0, none⟩ (.slice A1 xs1.length c1)).setCell ⟨u1.heap.size, 1, none⟩ (.slice A2 xs2.length c2)).setCell ⟨u1.heap.size, 2, none⟩ (.slice A3 xs3.length c3)) := Grows.chg gg cset (fun q hq => by simp at hq; omega)
    have sz5 := cset.size
    generalize ((y4.setCell ⟨u1.heap.size, 0, none⟩ (.slice A1 xs1.length c1)).setCell ⟨u1.heap.size, 1, none⟩ (.slice A2 xs2.length c2)).setCell ⟨u1.heap.size, 2, none⟩ (.slice A3 xs3.length c3) = y5 at cset BO O1 O2 O3 gg sz5 ⊢
    clear kO0 kO1 kO2 fO lO cset
    (try go_wp2_with fail)
    refine hK.out _ _ ?_ (fun hh5 => ?_)
    · (try dsimp only); refine HK.out _ ?_; (repeat (first | exact gg | refine Grows.drew ?_ | refine Grows.drewN ?_ _ | refine Grows.alloc ?_ _ | refine Grows.setCell ?_ (by simp; omega) _))
    clear hK K hh4
    try simp only [Act.put, List.setIfInBounds_toArray, List.set_cons_zero, List.set_cons_succ]
    refine wpAnyH_done (by kernel_rfl) ?_ _
    clear hh5 HK
    have kV0 : y5.cell? ⟨u1.heap.size, 0, none⟩ = some (.slice A1 xs1.length c1) := BO.out.cell 0
    have kV1 : y5.cell? ⟨u1.heap.size, 1, none⟩ = some (.slice A2 xs2.length c2) := BO.out.cell 1
    have kV2 : y5.cell? ⟨u1.heap.size, 2, none⟩ = some (.slice A3 xs3.length c3) := BO.out.cell 2
    have fV := BO.out.frozen
    have lV := BO.out.lt
    have RD : Hid (RTable y5 [.slice A1 xs1.length c1, .slice A2 xs2.length c2, .slice A3 xs3.length c3] ⟨xs1, xs2, xs3⟩) := hideIt ⟨_, _, _, rfl, OInts.reads O1.out, OInts.reads O2.out, OInts.reads O3.out⟩
    have PT : Hid (∀ u, tabB u = true → s.data.toList = tableL u → u = ⟨xs1, xs2, xs3⟩) := hideIt (fun u hu e => table_of PS.out U1.out U2.out U3.out hu e)
    go_wp2_with fail
    clear kV0 kV1 kV2 fV lV
    refine (sText_any _ RD.out).mono ?_
    rintro e y6 ⟨rfl, g_⟩
    have R5 := hideIt (R.out.grows (gg.trans g_))
    have GF := hideIt ((GA.out.trans gg).trans g_)
    have T5 := hideIt (BO.out.grows g_)
    replace O1 := hideIt (OInts.chg (cs := []) O1.out (Chg.of_grows g_) (fun _ _ h => by cases h))
    replace O2 := hideIt (OInts.chg (cs := []) O2.out (Chg.of_grows g_) (fun _ _ h => by cases h))
    replace O3 := hideIt (OInts.chg (cs := []) O3.out (Chg.of_grows g_) (fun _ _ h => by cases h))
    have sz6 := g_.size
    clear g_ RD
    have kV0 : y6.cell? ⟨u1.heap.size, 0, none⟩ = some (.slice A1 xs1.length c1) := T5.out.cell 0
    have kV1 : y6.cell? ⟨u1.heap.size, 1, none⟩ = some (.slice A2 xs2.length c2) := T5.out.cell 1
    have kV2 : y6.cell? ⟨u1.heap.size, 2, none⟩ = some (.slice A3 xs3.length c3) := T5.out.cell 2
    have fV := T5.out.frozen
    have lV := T5.out.lt
    have kR0 := R5.out.cell 0
    have kR1 := R5.out.cell 1
    have kR2 := R5.out.cell 2
    simp at kR0 kR1 kR2
    have fR := R5.out.frozen
    have lR := R5.out.lt
    by_cases hf : textB ⟨xs1, xs2, xs3⟩ = s
    · have PY : Hid (RT s ⟨xs1, xs2, xs3⟩ true) := hideIt (text_yes hf PS.out)
      have hee : ((textB ⟨xs1, xs2, xs3⟩).toList == s.toList) = true := by rw [hf]; exact beq_self_eq_true _
      clear hf
      go_wp2
      refine bodyPost_ret (by simp [*, results, Tryd.results12, go_sem]; try rfl) rfl ?_
      have key : ∀ w9, Chg [w.heap.size] y6 w9 → Grows w w9 → ReadPost s w (.returned (.tuple #[.agg #[.slice A1 xs1.length c1, .slice A2 xs2.length c2, .slice A3 xs3.length c3], .bool true])) w9 := fun w9 c9 h9 =>
        ReadPost.yes (lo := y1.heap.size) (m1 := y2.heap.size) (m2 := y3.heap.size) (by omega) (by omega) (by omega) (by have := c9.size; omega)
          (OInts.chg O1.out c9 (fun q hq => by have := W1.out.2 q hq; simp; omega)) (OInts.chg O2.out c9 (fun q hq => by have := W2.out.2 q hq; simp; omega)) (OInts.chg O3.out c9 (fun q hq => by have := W3.out.2 q hq; simp; omega))
          (W1.out.mono (Nat.le_refl _) (by omega)) (W2.out.mono (Nat.le_refl _) (by omega)) (W3.out.mono (Nat.le_refl _) (by have := c9.size; omega)) PY.out h9
      refine key _ ?_ ?_
      · repeat (first | exact Chg.refl _ _ | refine Chg.drew ?_ | refine Chg.setCell ?_ (by simp) _)
      · repeat (first | exact GF.out | refine Grows.drew ?_ | refine Grows.setCell ?_ (by simp) _)
    · have PN : Hid (RT s ⟨[], [], []⟩ false) := hideIt (text_no hf PT.out)
      have hd := strDif hf
      clear hf
      go_wp2
      refine bodyPost_ret (by simp [*, results, Tryd.results12, go_sem]; try rfl) rfl ?_
      exact .no PN.out (by repeat (first | exact GF.out | refine Grows.drew ?_ | refine Grows.setCell ?_ (by simp) _))
end Go.Proofs.YtgglgghlndhfbaaDoor
