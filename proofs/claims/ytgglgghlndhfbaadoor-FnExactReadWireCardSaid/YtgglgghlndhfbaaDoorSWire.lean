/-
  A wire's text and the wire read from it, the reference's.
-/
import Derived.Test.YtgglgghlndhfbaaDoorWireM
import Derived.Test.YtgglgghlndhfbaaDoorSReadT
import Derived.Test.YtgglgghlndhfbaaDoorSIsWire
namespace Go.Proofs.YtgglgghlndhfbaaDoor
open Go.RowKit
theorem list4' {α : Type} {ws : List α} (h : ws.length = 4) : ∃ p q r t, ws = [p, q, r, t] := by
  match ws, h with
  | [p, q, r, t], _ => exact ⟨p, q, r, t, rfl⟩
set_option maxHeartbeats 8000000 in
set_option maxRecDepth 10000 in
theorem sWText_any {a b c d : Value} {x : WireD} (k : Int) (w : World) (h : RWire w [a, b, c, d] x) (hl : x.sink.length ≤ 1048577) : Calls Tryd.prog 43 #[.agg #[a, b, c, d], .int .i64 k] w fun e w' => e = .returned (.string (wtextB x k)) ∧ Grows w w' := by
  obtain ⟨⟨A1, m1, rfl⟩, ⟨A2, m2, rfl⟩, ⟨A3, m3, rfl⟩, ⟨A4, m4, rfl⟩⟩ := h.shape
  have gal : Grows w (w.alloc (.cells #[.slice A1 x.parent.length m1, .slice A2 x.res.length m2, .slice A3 x.cap.length m3, .slice A4 x.sink.length m4] 39)) := (Grows.refl _).alloc _
  have GA := hideIt gal
  have B := hideIt (Blk.new w 39 #[.slice A1 x.parent.length m1, .slice A2 x.res.length m2, .slice A3 x.cap.length m3, .slice A4 x.sink.length m4])
  have HR := hideIt (h.keep gal.keeps)
  clear h gal
  cases ht : wireB x k
  · have E := hideIt (show wtextB x k = ⟨#[]⟩ by unfold wtextB; rw [if_neg (by rw [ht]; decide)])
    go_enter Tryd.func43, Tryd.ntmps43
    go_wp2_with fail
    refine (sIsWire_any _ HR.out).mono ?_
    rintro e u1 ⟨rfl, g⟩
    rw [ht]
    replace GA := hideIt (GA.out.trans g)
    clear g
    go_wp2
    go_ret
    exact ⟨by rw [E.out]; rfl, GA.out⟩
  · have E := hideIt (wtext_cat ht)
    have HN := hideIt (wire_ok ht)
    obtain ⟨l1, l2, l3, -⟩ := wire_open ht
    have z1 := listB_size HN.out.1
    have z2 := listB_size HN.out.2.1
    have z3 := listB_size HN.out.2.2.1
    have z4 := listB_size HN.out.2.2.2
    have n1 : x.parent.length ≤ 8 := by omega
    have n2 : x.res.length ≤ 8 := by omega
    have n3 : x.cap.length ≤ 8 := by omega
    have y1 : ¬ 9223372036854775807 < (listB x.parent).size + 1 := by omega
    have y2 : ¬ 9223372036854775807 < (listB x.parent).size + 1 + (listB x.res).size := by omega
    have y3 : ¬ 9223372036854775807 < (listB x.parent).size + 1 + (listB x.res).size + 1 := by omega
    have y4 : ¬ 9223372036854775807 < (listB x.parent).size + 1 + (listB x.res).size + 1 + (listB x.cap).size := by omega
    have y5 : ¬ 9223372036854775807 < (listB x.parent).size + 1 + (listB x.res).size + 1 + (listB x.cap).size + 1 := by omega
    have y6 : ¬ 9223372036854775807 < (listB x.parent).size + 1 + (listB x.res).size + 1 + (listB x.cap).size + 1 + (listB x.sink).size := by omega
    have HT := hideIt ht
    clear l1 l2 l3
    go_enter Tryd.func43, Tryd.ntmps43
    go_wp2_with fail
    refine (sIsWire_any _ HR.out).mono ?_
    rintro e u1 ⟨rfl, g⟩
    rw [ht]
    clear ht
    replace GA := hideIt (GA.out.trans g)
    replace B := hideIt (B.out.grows g)
    replace HR := hideIt (HR.out.keep g.keeps)
    have HR1 := hideIt HR.out.open_.1
    have HR2 := hideIt HR.out.open_.2.1
    have HR3 := hideIt HR.out.open_.2.2.1
    have HR4 := hideIt HR.out.open_.2.2.2
    have gg : Grows u1 u1 := Grows.refl _
    have HK : Hid (∀ w', Grows u1 w' → w'.cell? ⟨w.heap.size, 0, none⟩ = some (.slice A1 x.parent.length m1) ∧ w'.cell? ⟨w.heap.size, 1, none⟩ = some (.slice A2 x.res.length m2) ∧ w'.cell? ⟨w.heap.size, 2, none⟩ = some (.slice A3 x.cap.length m3) ∧ w'.cell? ⟨w.heap.size, 3, none⟩ = some (.slice A4 x.sink.length m4)) := hideIt (fun w' g => ⟨(B.out.grows g).cell 0, (B.out.grows g).cell 1, (B.out.grows g).cell 2, (B.out.grows g).cell 3⟩)
    clear g
    go_wp2
    refine wp_region_held_drew (S := (fun w' => w'.cell? ⟨w.heap.size, 0, none⟩ = some (.slice A1 x.parent.length m1) ∧ w'.cell? ⟨w.heap.size, 1, none⟩ = some (.slice A2 x.res.length m2) ∧ w'.cell? ⟨w.heap.size, 2, none⟩ = some (.slice A3 x.cap.length m3) ∧ w'.cell? ⟨w.heap.size, 3, none⟩ = some (.slice A4 x.sink.length m4))) (by kernel_rfl) ?_ (fun hh0 => ?_)
    · (try dsimp only); refine HK.out _ ?_; (repeat (first | exact gg | refine Grows.drew ?_ | refine Grows.drewN ?_ _))
    refine regTake 0 (v := ?_) ?_ hh0 ?_
    rotate_left
    · intro w hw; (try dsimp only at hw); go_simp; (try with_reducible rfl)
    try simp only [Act.put, List.setIfInBounds_toArray, List.set_cons_zero, List.set_cons_succ]
    refine regTake 1 (v := ?_) ?_ hh0 ?_
    rotate_left
    · intro w hw; (try dsimp only at hw); go_simp; (try with_reducible rfl)
    try simp only [Act.put, List.setIfInBounds_toArray, List.set_cons_zero, List.set_cons_succ]
    refine regTake 4 (v := ?_) ?_ hh0 ?_
    rotate_left
    · intro w hw; (try dsimp only at hw); go_simp; (try with_reducible rfl)
    try simp only [Act.put, List.setIfInBounds_toArray, List.set_cons_zero, List.set_cons_succ]
    refine regTake 5 (v := ?_) ?_ hh0 ?_
    rotate_left
    · intro w hw; (try dsimp only at hw); go_simp; (try with_reducible rfl)
    try simp only [Act.put, List.setIfInBounds_toArray, List.set_cons_zero, List.set_cons_succ]
    refine regTake 9 (v := ?_) ?_ hh0 ?_
    rotate_left
    · intro w hw; (try dsimp only at hw); go_simp; (try with_reducible rfl)
    try simp only [Act.put, List.setIfInBounds_toArray, List.set_cons_zero, List.set_cons_succ]
    refine regTake 10 (v := ?_) ?_ hh0 ?_
    rotate_left
    · intro w hw; (try dsimp only at hw); go_simp; (try with_reducible rfl)
    try simp only [Act.put, List.setIfInBounds_toArray, List.set_cons_zero, List.set_cons_succ]
    refine regTake 14 (v := ?_) ?_ hh0 ?_
    rotate_left
    · intro w hw; (try dsimp only at hw); go_simp; (try with_reducible rfl)
    try simp only [Act.put, List.setIfInBounds_toArray, List.set_cons_zero, List.set_cons_succ]
    refine regTake 15 (v := ?_) ?_ hh0 ?_
    rotate_left
    · intro w hw; (try dsimp only at hw); go_simp; (try with_reducible rfl)
    try simp only [Act.put, List.setIfInBounds_toArray, List.set_cons_zero, List.set_cons_succ]
    refine regCall 2 (fun K hK => ?_)
    go_simp
    refine (sListW_any _ (RInts.keep HR1.out (show Grows u1 _ from (by repeat (first | exact gg | refine Grows.drew ?_ | refine Grows.drewN ?_ _ | refine Grows.alloc ?_ _))).keeps) HN.out.1 (by omega)).mono ?_
    rintro e v1 ⟨rfl, g_⟩
    have gg := (show Grows u1 _ from (by repeat (first | exact gg | refine Grows.drew ?_ | refine Grows.drewN ?_ _ | refine Grows.alloc ?_ _))).trans g_
    clear g_
    (try go_wp2_with fail)
    refine hK.out _ _ ?_ (fun hh1 => ?_)
    · (try dsimp only); refine HK.out _ ?_; (repeat (first | exact gg | refine Grows.drew ?_ | refine Grows.drewN ?_ _))
    clear hK K hh0
    try simp only [Act.put, List.setIfInBounds_toArray, List.set_cons_zero, List.set_cons_succ]
    refine regTake 3 (v := ?_) ?_ hh1 ?_
    rotate_left
    · intro w hw; (try dsimp only at hw); go_simp; (try with_reducible rfl)
    try simp only [Act.put, List.setIfInBounds_toArray, List.set_cons_zero, List.set_cons_succ]
    refine regCall 6 (fun K hK => ?_)
    go_simp
    refine (sListW_any _ (RInts.keep HR2.out (show Grows u1 _ from (by repeat (first | exact gg | refine Grows.drew ?_ | refine Grows.drewN ?_ _ | refine Grows.alloc ?_ _))).keeps) HN.out.2.1 (by omega)).mono ?_
    rintro e v2 ⟨rfl, g_⟩
    have gg := (show Grows u1 _ from (by repeat (first | exact gg | refine Grows.drew ?_ | refine Grows.drewN ?_ _ | refine Grows.alloc ?_ _))).trans g_
    clear g_
    (try go_wp2_with fail)
    refine hK.out _ _ ?_ (fun hh2 => ?_)
    · (try dsimp only); refine HK.out _ ?_; (repeat (first | exact gg | refine Grows.drew ?_ | refine Grows.drewN ?_ _))
    clear hK K hh1
    try simp only [Act.put, List.setIfInBounds_toArray, List.set_cons_zero, List.set_cons_succ]
    refine regTake 7 (v := ?_) ?_ hh2 ?_
    rotate_left
    · intro w hw; (try dsimp only at hw); go_simp; (try with_reducible rfl)
    try simp only [Act.put, List.setIfInBounds_toArray, List.set_cons_zero, List.set_cons_succ]
    refine regTake 8 (v := ?_) ?_ hh2 ?_
    rotate_left
    · intro w hw; (try dsimp only at hw); go_simp; (try with_reducible rfl)
    try simp only [Act.put, List.setIfInBounds_toArray, List.set_cons_zero, List.set_cons_succ]
    refine regCall 11 (fun K hK => ?_)
    go_simp
    refine (sListW_any _ (RInts.keep HR3.out (show Grows u1 _ from (by repeat (first | exact gg | refine Grows.drew ?_ | refine Grows.drewN ?_ _ | refine Grows.alloc ?_ _))).keeps) HN.out.2.2.1 (by omega)).mono ?_
    rintro e v3 ⟨rfl, g_⟩
    have gg := (show Grows u1 _ from (by repeat (first | exact gg | refine Grows.drew ?_ | refine Grows.drewN ?_ _ | refine Grows.alloc ?_ _))).trans g_
    clear g_
    (try go_wp2_with fail)
    refine hK.out _ _ ?_ (fun hh3 => ?_)
    · (try dsimp only); refine HK.out _ ?_; (repeat (first | exact gg | refine Grows.drew ?_ | refine Grows.drewN ?_ _))
    clear hK K hh2
    try simp only [Act.put, List.setIfInBounds_toArray, List.set_cons_zero, List.set_cons_succ]
    refine regTake 12 (v := ?_) ?_ hh3 ?_
    rotate_left
    · intro w hw; (try dsimp only at hw); go_simp; (try with_reducible rfl)
    try simp only [Act.put, List.setIfInBounds_toArray, List.set_cons_zero, List.set_cons_succ]
    refine regTake 13 (v := ?_) ?_ hh3 ?_
    rotate_left
    · intro w hw; (try dsimp only at hw); go_simp; (try with_reducible rfl)
    try simp only [Act.put, List.setIfInBounds_toArray, List.set_cons_zero, List.set_cons_succ]
    refine regCall 16 (fun K hK => ?_)
    go_simp
    refine (sListW_any _ (RInts.keep HR4.out (show Grows u1 _ from (by repeat (first | exact gg | refine Grows.drew ?_ | refine Grows.drewN ?_ _ | refine Grows.alloc ?_ _))).keeps) HN.out.2.2.2 (by omega)).mono ?_
    rintro e v4 ⟨rfl, g_⟩
    have gg := (show Grows u1 _ from (by repeat (first | exact gg | refine Grows.drew ?_ | refine Grows.drewN ?_ _ | refine Grows.alloc ?_ _))).trans g_
    clear g_
    (try go_wp2_with fail)
    refine hK.out _ _ ?_ (fun hh4 => ?_)
    · (try dsimp only); refine HK.out _ ?_; (repeat (first | exact gg | refine Grows.drew ?_ | refine Grows.drewN ?_ _))
    clear hK K hh3
    try simp only [Act.put, List.setIfInBounds_toArray, List.set_cons_zero, List.set_cons_succ]
    refine regTake 17 (v := ?_) ?_ hh4 ?_
    rotate_left
    · intro w hw; (try dsimp only at hw); go_simp; (try with_reducible rfl)
    try simp only [Act.put, List.setIfInBounds_toArray, List.set_cons_zero, List.set_cons_succ]
    refine regTake 18 (v := ?_) ?_ hh4 ?_
    rotate_left
    · intro w hw; (try dsimp only at hw); go_simp; (try with_reducible rfl)
    try simp only [Act.put, List.setIfInBounds_toArray, List.set_cons_zero, List.set_cons_succ]
    refine wpAnyH_done (by kernel_rfl) ?_ _
    clear hh4 HK
    go_wp2
    go_ret
    exact ⟨by rw [← E.out]; rfl, GA.out.trans (by repeat (first | exact gg | refine Grows.drew ?_))⟩
set_option maxHeartbeats 64000000 in
set_option maxRecDepth 10000 in
theorem sReadWire_any (s : ByteArray) (k : Int) (w : World) (hs : s.size ≤ 1048576) : Calls Tryd.prog 20 #[.string s, .int .i64 k] w (ReadWPost s k w) := by
  have GA : Hid (Grows w (w.alloc (.cells #[.slice none 0 0, .slice none 0 0, .slice none 0 0, .slice none 0 0] 39))) := hideIt ((Grows.refl w).alloc _)
  have R := hideIt (Blk.new w 39 #[.slice none 0 0, .slice none 0 0, .slice none 0 0, .slice none 0 0])
  go_enter Tryd.func20, Tryd.ntmps20
  go_wp2_with fail
  refine (split_any s 124 124 rfl _ hs).mono ?_
  rintro e u1 ⟨v, ws, rfl, sa, pe, pl, g⟩
  obtain ⟨gW, cW, rfl, hcell⟩ := sa
  have PE := hideIt pe
  have CE := hideIt hcell
  have szw : w.heap.size < u1.heap.size := by have := g.size; simp at this; omega
  replace GA := hideIt (GA.out.trans g)
  replace R := hideIt (R.out.grows g)
  clear pe hcell g
  by_cases h3 : ws.length = 4
  rotate_left
  · have PN : Hid (RW s k ⟨[], [], [], []⟩ false) := hideIt (RW.few (by rw [← PE.out, List.length_map]; exact h3))
    have h3' : ((ws.length : Int) == 4) = false := by simp; omega
    have kR0 := R.out.cell 0
    have kR1 := R.out.cell 1
    have kR2 := R.out.cell 2
    have kR3 := R.out.cell 3
    simp at kR0 kR1 kR2 kR3
    have fR := R.out.frozen
    have lR := R.out.lt
    go_wp2
    refine bodyPost_ret (by simp [*, results, Tryd.results20, go_sem]; try rfl) rfl ?_
    exact .no PN.out (by repeat (first | exact GA.out | refine Grows.setCell ?_ (by simp) _))
  obtain ⟨p, q, r, t, rfl⟩ := list4' h3
  have PS : Hid (splitL 124 s.data.toList = [p.data.toList, q.data.toList, r.data.toList, t.data.toList]) := hideIt PE.out.symm
  have zp : p.size ≤ 1048576 := Nat.le_trans (piece_size (c := 124) (by rw [PS.out]; simp)) hs
  have zq : q.size ≤ 1048576 := Nat.le_trans (piece_size (c := 124) (by rw [PS.out]; simp)) hs
  have zr : r.size ≤ 1048576 := Nat.le_trans (piece_size (c := 124) (by rw [PS.out]; simp)) hs
  have zt : t.size ≤ 1048576 := Nat.le_trans (piece_size (c := 124) (by rw [PS.out]; simp)) hs
  have sne := some4 PS.out
  have q0 := CE.out 0 p rfl
  have q1 := CE.out 1 q rfl
  have q2 := CE.out 2 r rfl
  have q3 := CE.out 3 t rfl
  have HK : Hid (∀ w', Grows u1 w' → w'.cell? ⟨gW, 0, none⟩ = some (.string p) ∧ w'.cell? ⟨gW, 1, none⟩ = some (.string q) ∧ w'.cell? ⟨gW, 2, none⟩ = some (.string r) ∧ w'.cell? ⟨gW, 3, none⟩ = some (.string t)) := hideIt (fun w' g => ⟨g.keeps _ _ q0, g.keeps _ _ q1, g.keeps _ _ q2, g.keeps _ _ q3⟩)
  have gg : Grows u1 u1 := Grows.refl _
  clear h3 PE pl q0 q1 q2 q3 CE
  go_wp2
  refine wp_region_held_drew (S := (fun w' => w'.cell? ⟨gW, 0, none⟩ = some (.string p) ∧ w'.cell? ⟨gW, 1, none⟩ = some (.string q) ∧ w'.cell? ⟨gW, 2, none⟩ = some (.string r) ∧ w'.cell? ⟨gW, 3, none⟩ = some (.string t))) (by kernel_rfl) ?_ (fun hh0 => ?_)
  · (try dsimp only); refine HK.out _ ?_; (repeat (first | exact gg | refine Grows.drew ?_ | refine Grows.drewN ?_ _ | refine Grows.alloc ?_ _ | refine Grows.setCell ?_ (by simp; omega) _))
  refine regTake 0 (v := ?_) ?_ hh0 ?_
  rotate_left
  · intro w hw; (try dsimp only at hw); go_simp; (try with_reducible rfl)
  try simp only [Act.put, List.setIfInBounds_toArray, List.set_cons_zero, List.set_cons_succ]
  refine regTake 1 (v := ?_) ?_ hh0 ?_
  rotate_left
  · intro w hw; (try dsimp only at hw); go_simp; (try with_reducible rfl)
  try simp only [Act.put, List.setIfInBounds_toArray, List.set_cons_zero, List.set_cons_succ]
  refine regTake 2 (v := ?_) ?_ hh0 ?_
  rotate_left
  · intro w hw; (try dsimp only at hw); go_simp; (try with_reducible rfl)
  try simp only [Act.put, List.setIfInBounds_toArray, List.set_cons_zero, List.set_cons_succ]
  refine regTake 4 (v := ?_) ?_ hh0 ?_
  rotate_left
  · intro w hw; (try dsimp only at hw); go_simp; (try with_reducible rfl)
  try simp only [Act.put, List.setIfInBounds_toArray, List.set_cons_zero, List.set_cons_succ]
  refine regTake 5 (v := ?_) ?_ hh0 ?_
  rotate_left
  · intro w hw; (try dsimp only at hw); go_simp; (try with_reducible rfl)
  try simp only [Act.put, List.setIfInBounds_toArray, List.set_cons_zero, List.set_cons_succ]
  refine regTake 6 (v := ?_) ?_ hh0 ?_
  rotate_left
  · intro w hw; (try dsimp only at hw); go_simp; (try with_reducible rfl)
  try simp only [Act.put, List.setIfInBounds_toArray, List.set_cons_zero, List.set_cons_succ]
  refine regTake 8 (v := ?_) ?_ hh0 ?_
  rotate_left
  · intro w hw; (try dsimp only at hw); go_simp; (try with_reducible rfl)
  try simp only [Act.put, List.setIfInBounds_toArray, List.set_cons_zero, List.set_cons_succ]
  refine regTake 9 (v := ?_) ?_ hh0 ?_
  rotate_left
  · intro w hw; (try dsimp only at hw); go_simp; (try with_reducible rfl)
  try simp only [Act.put, List.setIfInBounds_toArray, List.set_cons_zero, List.set_cons_succ]
  refine regTake 10 (v := ?_) ?_ hh0 ?_
  rotate_left
  · intro w hw; (try dsimp only at hw); go_simp; (try with_reducible rfl)
  try simp only [Act.put, List.setIfInBounds_toArray, List.set_cons_zero, List.set_cons_succ]
  refine regTake 12 (v := ?_) ?_ hh0 ?_
  rotate_left
  · intro w hw; (try dsimp only at hw); go_simp; (try with_reducible rfl)
  try simp only [Act.put, List.setIfInBounds_toArray, List.set_cons_zero, List.set_cons_succ]
  refine regTake 13 (v := ?_) ?_ hh0 ?_
  rotate_left
  · intro w hw; (try dsimp only at hw); go_simp; (try with_reducible rfl)
  try simp only [Act.put, List.setIfInBounds_toArray, List.set_cons_zero, List.set_cons_succ]
  refine regTake 14 (v := ?_) ?_ hh0 ?_
  rotate_left
  · intro w hw; (try dsimp only at hw); go_simp; (try with_reducible rfl)
  try simp only [Act.put, List.setIfInBounds_toArray, List.set_cons_zero, List.set_cons_succ]
  refine regCall2 3 17 (fun K hK => ?_) (fun K hK => ?_)
  · go_simp
    refine (sReadsW_any p _ zp).mono ?_
    rintro e y1 ⟨A1, c1, xs1, b1, rfl, o_, ow_, uq_, ln_, g_⟩
    have g9 : Grows u1 y1 := (show Grows u1 _ from (by repeat (first | exact Grows.refl _ | refine Grows.drew ?_ | refine Grows.drewN ?_ _))).trans g_
    have O1 := hideIt o_
    have W1 : Hid (Own u1.heap.size y1.heap.size b1) := hideIt (by simpa using ow_)
    have U1 := hideIt uq_
    have LN1 := hideIt ln_
    clear o_ ow_ uq_ ln_ g_
    have sz1 := g9.size
    replace gg := Grows.trans gg g9
    clear g9
    (try go_wp2_with fail)
    refine hK.out _ _ ?_ (fun hh1 => ?_)
    · (try dsimp only); refine HK.out _ ?_; (repeat (first | exact gg | refine Grows.drew ?_ | refine Grows.drewN ?_ _ | refine Grows.alloc ?_ _ | refine Grows.setCell ?_ (by simp; omega) _))
    clear hK K hh0
    try simp only [Act.put, List.setIfInBounds_toArray, List.set_cons_zero, List.set_cons_succ]
    refine regCall2 7 17 (fun K hK => ?_) (fun K hK => ?_)
    · go_simp
      refine (sReadsW_any q _ zq).mono ?_
      rintro e y2 ⟨A2, c2, xs2, b2, rfl, o_, ow_, uq_, ln_, g_⟩
      have g9 : Grows y1 y2 := (show Grows y1 _ from (by repeat (first | exact Grows.refl _ | refine Grows.drew ?_ | refine Grows.drewN ?_ _))).trans g_
      replace O1 := hideIt (OInts.chg (cs := []) O1.out (Chg.of_grows g9) (fun _ _ h => by cases h))
      have O2 := hideIt o_
      have W2 : Hid (Own y1.heap.size y2.heap.size b2) := hideIt (by simpa using ow_)
      have U2 := hideIt uq_
      have LN2 := hideIt ln_
      clear o_ ow_ uq_ ln_ g_
      have sz2 := g9.size
      replace gg := Grows.trans gg g9
      clear g9
      (try go_wp2_with fail)
      refine hK.out _ _ ?_ (fun hh2 => ?_)
      · (try dsimp only); refine HK.out _ ?_; (repeat (first | exact gg | refine Grows.drew ?_ | refine Grows.drewN ?_ _ | refine Grows.alloc ?_ _ | refine Grows.setCell ?_ (by simp; omega) _))
      clear hK K hh1
      try simp only [Act.put, List.setIfInBounds_toArray, List.set_cons_zero, List.set_cons_succ]
      refine regCall2 11 17 (fun K hK => ?_) (fun K hK => ?_)
      · go_simp
        refine (sReadsW_any r _ zr).mono ?_
        rintro e y3 ⟨A3, c3, xs3, b3, rfl, o_, ow_, uq_, ln_, g_⟩
        have g9 : Grows y2 y3 := (show Grows y2 _ from (by repeat (first | exact Grows.refl _ | refine Grows.drew ?_ | refine Grows.drewN ?_ _))).trans g_
        replace O1 := hideIt (OInts.chg (cs := []) O1.out (Chg.of_grows g9) (fun _ _ h => by cases h))
        replace O2 := hideIt (OInts.chg (cs := []) O2.out (Chg.of_grows g9) (fun _ _ h => by cases h))
        have O3 := hideIt o_
        have W3 : Hid (Own y2.heap.size y3.heap.size b3) := hideIt (by simpa using ow_)
        have U3 := hideIt uq_
        have LN3 := hideIt ln_
        clear o_ ow_ uq_ ln_ g_
        have sz3 := g9.size
        replace gg := Grows.trans gg g9
        clear g9
        (try go_wp2_with fail)
        refine hK.out _ _ ?_ (fun hh3 => ?_)
        · (try dsimp only); refine HK.out _ ?_; (repeat (first | exact gg | refine Grows.drew ?_ | refine Grows.drewN ?_ _ | refine Grows.alloc ?_ _ | refine Grows.setCell ?_ (by simp; omega) _))
        clear hK K hh2
        try simp only [Act.put, List.setIfInBounds_toArray, List.set_cons_zero, List.set_cons_succ]
        refine regCall2 15 17 (fun K hK => ?_) (fun K hK => ?_)
        · go_simp
          refine (sReadsW_any t _ zt).mono ?_
          rintro e y4 ⟨A4, c4, xs4, b4, rfl, o_, ow_, uq_, ln_, g_⟩
          have g9 : Grows y3 y4 := (show Grows y3 _ from (by repeat (first | exact Grows.refl _ | refine Grows.drew ?_ | refine Grows.drewN ?_ _))).trans g_
          replace O1 := hideIt (OInts.chg (cs := []) O1.out (Chg.of_grows g9) (fun _ _ h => by cases h))
          replace O2 := hideIt (OInts.chg (cs := []) O2.out (Chg.of_grows g9) (fun _ _ h => by cases h))
          replace O3 := hideIt (OInts.chg (cs := []) O3.out (Chg.of_grows g9) (fun _ _ h => by cases h))
          have O4 := hideIt o_
          have W4 : Hid (Own y3.heap.size y4.heap.size b4) := hideIt (by simpa using ow_)
          have U4 := hideIt uq_
          have LN4 := hideIt ln_
          clear o_ ow_ uq_ ln_ g_
          have sz4 := g9.size
          replace gg := Grows.trans gg g9
          clear g9
          (try go_wp2_with fail)
          refine hK.out _ _ ?_ (fun hh4 => ?_)
          · (try dsimp only); refine HK.out _ ?_; (repeat (first | exact gg | refine Grows.drew ?_ | refine Grows.drewN ?_ _ | refine Grows.alloc ?_ _ | refine Grows.setCell ?_ (by simp; omega) _))
          clear hK K hh3
          try simp only [Act.put, List.setIfInBounds_toArray, List.set_cons_zero, List.set_cons_succ]
          refine regTake 16 (v := ?_) ?_ hh4 ?_
          rotate_left
          · intro w hw; (try dsimp only at hw); go_simp; (try with_reducible rfl)
          try simp only [Act.put, List.setIfInBounds_toArray, List.set_cons_zero, List.set_cons_succ]
          refine regCall 17 (fun K hK => ?_)
          go_simp
          have g9 : Grows y4 (y4.alloc (.cells #[.slice none 0 0, .slice none 0 0, .slice none 0 0, .slice none 0 0] 39)) := (Grows.refl _).alloc _
          have BO := hideIt (Blk.new y4 39 #[.slice none 0 0, .slice none 0 0, .slice none 0 0, .slice none 0 0])
          generalize y4.alloc (.cells #[.slice none 0 0, .slice none 0 0, .slice none 0 0, .slice none 0 0] 39) = y5 at g9 BO ⊢
          replace O1 := hideIt (OInts.chg (cs := []) O1.out (Chg.of_grows g9) (fun _ _ h => by cases h))
          replace O2 := hideIt (OInts.chg (cs := []) O2.out (Chg.of_grows g9) (fun _ _ h => by cases h))
          replace O3 := hideIt (OInts.chg (cs := []) O3.out (Chg.of_grows g9) (fun _ _ h => by cases h))
          replace O4 := hideIt (OInts.chg (cs := []) O4.out (Chg.of_grows g9) (fun _ _ h => by cases h))
          have lQ : y4.heap.size < y5.heap.size := BO.out.lt
          have sz5 := g9.size
          replace gg := Grows.trans gg g9
          clear g9
          have kO0 : y5.cell? ⟨y4.heap.size, 0, none⟩ = some (.slice none 0 0) := BO.out.cell 0
          have kO1 : y5.cell? ⟨y4.heap.size, 1, none⟩ = some (.slice none 0 0) := BO.out.cell 1
          have kO2 : y5.cell? ⟨y4.heap.size, 2, none⟩ = some (.slice none 0 0) := BO.out.cell 2
          have kO3 : y5.cell? ⟨y4.heap.size, 3, none⟩ = some (.slice none 0 0) := BO.out.cell 3
          have fO := BO.out.frozen
          have lO := BO.out.lt
          (try go_wp2_with fail)
          refine hK.out _ _ ?_ (fun hh5 => ?_)
          · (try dsimp only); refine HK.out _ ?_; (repeat (first | exact gg | refine Grows.drew ?_ | refine Grows.drewN ?_ _ | refine Grows.alloc ?_ _ | refine Grows.setCell ?_ (by simp; omega) _))
          clear hK K hh4
          try simp only [Act.put, List.setIfInBounds_toArray, List.set_cons_zero, List.set_cons_succ]
          refine regCall 18 (fun K hK => ?_)
          go_simp
          have cset : Chg [y4.heap.size] y5 ((((y5.setCell ⟨y4.heap.size, 0, none⟩ (.slice A1 xs1.length c1)).setCell ⟨y4.heap.size, 1, none⟩ (.slice A2 xs2.length c2)).setCell ⟨y4.heap.size, 2, none⟩ (.slice A3 xs3.length c3)).setCell ⟨y4.heap.size, 3, none⟩ (.slice A4 xs4.length c4)) := ((((Chg.refl _ _).setCell (by simp) _).setCell (by simp) _).setCell (by simp) _).setCell (by simp) _
          replace BO := hideIt (((((BO.out).set_ 0 (.slice A1 xs1.length c1)).set_ 1 (.slice A2 xs2.length c2)).set_ 2 (.slice A3 xs3.length c3)).set_ 3 (.slice A4 xs4.length c4))
          replace O1 := hideIt (OInts.chg O1.out cset (fun q hq hm => by have := W1.out.2 q hq; simp at hm; omega))
          replace O2 := hideIt (OInts.chg O2.out cset (fun q hq hm => by have := W2.out.2 q hq; simp at hm; omega))
          replace O3 := hideIt (OInts.chg O3.out cset (fun q hq hm => by have := W3.out.2 q hq; simp at hm; omega))
          replace O4 := hideIt (OInts.chg O4.out cset (fun q hq hm => by have := W4.out.2 q hq; simp at hm; omega))
          replace gg : Grows u1 ((((y5.setCell ⟨y4.heap.size, 0, none⟩ (.slice A1 xs1.length c1)).setCell ⟨y4.heap.size, 1, none⟩ (.slice A2 xs2.length c2)).setCell ⟨y4.heap.size, 2, none⟩ (.slice A3 xs3.length c3)).setCell ⟨y4.heap.size, 3, none⟩ (.slice A4 xs4.length c4)) := Grows.chg gg cset (fun q hq => by simp at hq; omega)
          have sz6 := cset.size
          generalize (((y5.setCell ⟨y4.heap.size, 0, none⟩ (.slice A1 xs1.length c1)).setCell ⟨y4.heap.size, 1, none⟩ (.slice A2 xs2.length c2)).setCell ⟨y4.heap.size, 2, none⟩ (.slice A3 xs3.length c3)).setCell ⟨y4.heap.size, 3, none⟩ (.slice A4 xs4.length c4) = y6 at cset BO O1 O2 O3 O4 gg sz6 ⊢
          clear kO0 kO1 kO2 kO3 fO lO cset
          (try go_wp2_with fail)
          refine hK.out _ _ ?_ (fun hh6 => ?_)
          · (try dsimp only); refine HK.out _ ?_; (repeat (first | exact gg | refine Grows.drew ?_ | refine Grows.drewN ?_ _ | refine Grows.alloc ?_ _ | refine Grows.setCell ?_ (by simp; omega) _))
          clear hK K hh5
          try simp only [Act.put, List.setIfInBounds_toArray, List.set_cons_zero, List.set_cons_succ]
          refine wpAnyH_done (by kernel_rfl) ?_ _
          clear hh6 HK
          have kV0 : y6.cell? ⟨y4.heap.size, 0, none⟩ = some (.slice A1 xs1.length c1) := BO.out.cell 0
          have kV1 : y6.cell? ⟨y4.heap.size, 1, none⟩ = some (.slice A2 xs2.length c2) := BO.out.cell 1
          have kV2 : y6.cell? ⟨y4.heap.size, 2, none⟩ = some (.slice A3 xs3.length c3) := BO.out.cell 2
          have kV3 : y6.cell? ⟨y4.heap.size, 3, none⟩ = some (.slice A4 xs4.length c4) := BO.out.cell 3
          have fV := BO.out.frozen
          have lV := BO.out.lt
          have RD : Hid (RWire y6 [.slice A1 xs1.length c1, .slice A2 xs2.length c2, .slice A3 xs3.length c3, .slice A4 xs4.length c4] ⟨xs1, xs2, xs3, xs4⟩) := hideIt ⟨_, _, _, _, rfl, OInts.reads O1.out, OInts.reads O2.out, OInts.reads O3.out, OInts.reads O4.out⟩
          have PT : Hid (∀ u, wireB u k = true → s.data.toList = wireL u → u = ⟨xs1, xs2, xs3, xs4⟩) := hideIt (fun u hu e => wire_of PS.out U1.out U2.out U3.out U4.out hu e)
          have len4 : xs4.length ≤ 1048577 := by have := LN4.out; omega
          go_wp2_with fail
          clear kV0 kV1 kV2 kV3 fV lV
          refine (sWText_any k _ RD.out len4).mono ?_
          rintro e y7 ⟨rfl, g_⟩
          have R5 := hideIt (R.out.grows (gg.trans g_))
          have GF := hideIt ((GA.out.trans gg).trans g_)
          have T5 := hideIt (BO.out.grows g_)
          replace O1 := hideIt (OInts.chg (cs := []) O1.out (Chg.of_grows g_) (fun _ _ h => by cases h))
          replace O2 := hideIt (OInts.chg (cs := []) O2.out (Chg.of_grows g_) (fun _ _ h => by cases h))
          replace O3 := hideIt (OInts.chg (cs := []) O3.out (Chg.of_grows g_) (fun _ _ h => by cases h))
          replace O4 := hideIt (OInts.chg (cs := []) O4.out (Chg.of_grows g_) (fun _ _ h => by cases h))
          have sz7 := g_.size
          clear g_ RD len4
          have kV0 : y7.cell? ⟨y4.heap.size, 0, none⟩ = some (.slice A1 xs1.length c1) := T5.out.cell 0
          have kV1 : y7.cell? ⟨y4.heap.size, 1, none⟩ = some (.slice A2 xs2.length c2) := T5.out.cell 1
          have kV2 : y7.cell? ⟨y4.heap.size, 2, none⟩ = some (.slice A3 xs3.length c3) := T5.out.cell 2
          have kV3 : y7.cell? ⟨y4.heap.size, 3, none⟩ = some (.slice A4 xs4.length c4) := T5.out.cell 3
          have fV := T5.out.frozen
          have lV := T5.out.lt
          have kR0 := R5.out.cell 0
          have kR1 := R5.out.cell 1
          have kR2 := R5.out.cell 2
          have kR3 := R5.out.cell 3
          simp at kR0 kR1 kR2 kR3
          have fR := R5.out.frozen
          have lR := R5.out.lt
          by_cases hf : wtextB ⟨xs1, xs2, xs3, xs4⟩ k = s
          · have PY : Hid (RW s k ⟨xs1, xs2, xs3, xs4⟩ true) := hideIt (wtext_yes hf PS.out)
            have hee : ((wtextB ⟨xs1, xs2, xs3, xs4⟩ k).toList == s.toList) = true := by rw [hf]; exact beq_self_eq_true _
            clear hf
            go_wp2
            refine bodyPost_ret (by simp [*, results, Tryd.results20, go_sem]; try rfl) rfl ?_
            have key : ∀ w9, Chg [w.heap.size] y7 w9 → Grows w w9 → ReadWPost s k w (.returned (.tuple #[.agg #[.slice A1 xs1.length c1, .slice A2 xs2.length c2, .slice A3 xs3.length c3, .slice A4 xs4.length c4], .bool true])) w9 := fun w9 c9 h9 =>
              ReadWPost.yes (lo := u1.heap.size) (m1 := y1.heap.size) (m2 := y2.heap.size) (m3 := y3.heap.size) (by omega) (by omega) (by omega) (by omega) (by have := c9.size; omega)
                (OInts.chg O1.out c9 (fun q hq => by have := W1.out.2 q hq; simp; omega)) (OInts.chg O2.out c9 (fun q hq => by have := W2.out.2 q hq; simp; omega)) (OInts.chg O3.out c9 (fun q hq => by have := W3.out.2 q hq; simp; omega)) (OInts.chg O4.out c9 (fun q hq => by have := W4.out.2 q hq; simp; omega))
                (W1.out.mono (Nat.le_refl _) (by omega)) (W2.out.mono (Nat.le_refl _) (by omega)) (W3.out.mono (Nat.le_refl _) (by omega)) (W4.out.mono (Nat.le_refl _) (by have := c9.size; omega)) PY.out h9
            refine key _ ?_ ?_
            · repeat (first | exact Chg.refl _ _ | refine Chg.drew ?_ | refine Chg.setCell ?_ (by simp) _)
            · repeat (first | exact GF.out | refine Grows.drew ?_ | refine Grows.setCell ?_ (by simp) _)
          · have PN : Hid (RW s k ⟨[], [], [], []⟩ false) := hideIt (wtext_no hf PT.out)
            have hd := strDif hf
            clear hf
            go_wp2
            refine bodyPost_ret (by simp [*, results, Tryd.results20, go_sem]; try rfl) rfl ?_
            exact .no PN.out (by repeat (first | exact GF.out | refine Grows.drew ?_ | refine Grows.setCell ?_ (by simp) _))
        · go_simp
          have g9 : Grows y3 (y3.alloc (.cells #[.slice none 0 0, .slice none 0 0, .slice none 0 0, .slice none 0 0] 39)) := (Grows.refl _).alloc _
          have BO := hideIt (Blk.new y3 39 #[.slice none 0 0, .slice none 0 0, .slice none 0 0, .slice none 0 0])
          generalize y3.alloc (.cells #[.slice none 0 0, .slice none 0 0, .slice none 0 0, .slice none 0 0] 39) = y4 at g9 BO ⊢
          replace O1 := hideIt (OInts.chg (cs := []) O1.out (Chg.of_grows g9) (fun _ _ h => by cases h))
          replace O2 := hideIt (OInts.chg (cs := []) O2.out (Chg.of_grows g9) (fun _ _ h => by cases h))
          replace O3 := hideIt (OInts.chg (cs := []) O3.out (Chg.of_grows g9) (fun _ _ h => by cases h))
          have lQ : y3.heap.size < y4.heap.size := BO.out.lt
          have sz4 := g9.size
          replace gg := Grows.trans gg g9
          clear g9
          have kO0 : y4.cell? ⟨y3.heap.size, 0, none⟩ = some (.slice none 0 0) := BO.out.cell 0
          have kO1 : y4.cell? ⟨y3.heap.size, 1, none⟩ = some (.slice none 0 0) := BO.out.cell 1
          have kO2 : y4.cell? ⟨y3.heap.size, 2, none⟩ = some (.slice none 0 0) := BO.out.cell 2
          have kO3 : y4.cell? ⟨y3.heap.size, 3, none⟩ = some (.slice none 0 0) := BO.out.cell 3
          have fO := BO.out.frozen
          have lO := BO.out.lt
          (try go_wp2_with fail)
          refine hK.out _ _ ?_ (fun hh4 => ?_)
          · (try dsimp only); refine HK.out _ ?_; (repeat (first | exact gg | refine Grows.drew ?_ | refine Grows.drewN ?_ _ | refine Grows.alloc ?_ _ | refine Grows.setCell ?_ (by simp; omega) _))
          clear hK K hh3
          try simp only [Act.put, List.setIfInBounds_toArray, List.set_cons_zero, List.set_cons_succ]
          refine regCall 15 (fun K hK => ?_)
          go_simp
          refine (sReadsW_any t _ zt).mono ?_
          rintro e y5 ⟨A4, c4, xs4, b4, rfl, o_, ow_, uq_, ln_, g_⟩
          have g9 : Grows y4 y5 := (show Grows y4 _ from (by repeat (first | exact Grows.refl _ | refine Grows.drew ?_ | refine Grows.drewN ?_ _))).trans g_
          replace O1 := hideIt (OInts.chg (cs := []) O1.out (Chg.of_grows g9) (fun _ _ h => by cases h))
          replace O2 := hideIt (OInts.chg (cs := []) O2.out (Chg.of_grows g9) (fun _ _ h => by cases h))
          replace O3 := hideIt (OInts.chg (cs := []) O3.out (Chg.of_grows g9) (fun _ _ h => by cases h))
          replace BO := hideIt (BO.out.grows g9)
          have O4 := hideIt o_
          have W4 : Hid (Own y4.heap.size y5.heap.size b4) := hideIt (by simpa using ow_)
          have U4 := hideIt uq_
          have LN4 := hideIt ln_
          clear o_ ow_ uq_ ln_ g_
          clear kO0 kO1 kO2 kO3 fO lO
          have sz5 := g9.size
          replace gg := Grows.trans gg g9
          clear g9
          have kO0 : y5.cell? ⟨y3.heap.size, 0, none⟩ = some (.slice none 0 0) := BO.out.cell 0
          have kO1 : y5.cell? ⟨y3.heap.size, 1, none⟩ = some (.slice none 0 0) := BO.out.cell 1
          have kO2 : y5.cell? ⟨y3.heap.size, 2, none⟩ = some (.slice none 0 0) := BO.out.cell 2
          have kO3 : y5.cell? ⟨y3.heap.size, 3, none⟩ = some (.slice none 0 0) := BO.out.cell 3
          have fO := BO.out.frozen
          have lO := BO.out.lt
          (try go_wp2_with fail)
          refine hK.out _ _ ?_ (fun hh5 => ?_)
          · (try dsimp only); refine HK.out _ ?_; (repeat (first | exact gg | refine Grows.drew ?_ | refine Grows.drewN ?_ _ | refine Grows.alloc ?_ _ | refine Grows.setCell ?_ (by simp; omega) _))
          clear hK K hh4
          try simp only [Act.put, List.setIfInBounds_toArray, List.set_cons_zero, List.set_cons_succ]
          refine regTake 16 (v := ?_) ?_ hh5 ?_
          rotate_left
          · intro w hw; (try dsimp only at hw); go_simp; (try with_reducible rfl)
          try simp only [Act.put, List.setIfInBounds_toArray, List.set_cons_zero, List.set_cons_succ]
          refine regCall 18 (fun K hK => ?_)
          go_simp
          have cset : Chg [y3.heap.size] y5 ((((y5.setCell ⟨y3.heap.size, 0, none⟩ (.slice A1 xs1.length c1)).setCell ⟨y3.heap.size, 1, none⟩ (.slice A2 xs2.length c2)).setCell ⟨y3.heap.size, 2, none⟩ (.slice A3 xs3.length c3)).setCell ⟨y3.heap.size, 3, none⟩ (.slice A4 xs4.length c4)) := ((((Chg.refl _ _).setCell (by simp) _).setCell (by simp) _).setCell (by simp) _).setCell (by simp) _
          replace BO := hideIt (((((BO.out).set_ 0 (.slice A1 xs1.length c1)).set_ 1 (.slice A2 xs2.length c2)).set_ 2 (.slice A3 xs3.length c3)).set_ 3 (.slice A4 xs4.length c4))
          replace O1 := hideIt (OInts.chg O1.out cset (fun q hq hm => by have := W1.out.2 q hq; simp at hm; omega))
          replace O2 := hideIt (OInts.chg O2.out cset (fun q hq hm => by have := W2.out.2 q hq; simp at hm; omega))
          replace O3 := hideIt (OInts.chg O3.out cset (fun q hq hm => by have := W3.out.2 q hq; simp at hm; omega))
          replace O4 := hideIt (OInts.chg O4.out cset (fun q hq hm => by have := W4.out.2 q hq; simp at hm; omega))
          replace gg : Grows u1 ((((y5.setCell ⟨y3.heap.size, 0, none⟩ (.slice A1 xs1.length c1)).setCell ⟨y3.heap.size, 1, none⟩ (.slice A2 xs2.length c2)).setCell ⟨y3.heap.size, 2, none⟩ (.slice A3 xs3.length c3)).setCell ⟨y3.heap.size, 3, none⟩ (.slice A4 xs4.length c4)) := Grows.chg gg cset (fun q hq => by simp at hq; omega)
          have sz6 := cset.size
          generalize (((y5.setCell ⟨y3.heap.size, 0, none⟩ (.slice A1 xs1.length c1)).setCell ⟨y3.heap.size, 1, none⟩ (.slice A2 xs2.length c2)).setCell ⟨y3.heap.size, 2, none⟩ (.slice A3 xs3.length c3)).setCell ⟨y3.heap.size, 3, none⟩ (.slice A4 xs4.length c4) = y6 at cset BO O1 O2 O3 O4 gg sz6 ⊢
          clear kO0 kO1 kO2 kO3 fO lO cset
          (try go_wp2_with fail)
          refine hK.out _ _ ?_ (fun hh6 => ?_)
          · (try dsimp only); refine HK.out _ ?_; (repeat (first | exact gg | refine Grows.drew ?_ | refine Grows.drewN ?_ _ | refine Grows.alloc ?_ _ | refine Grows.setCell ?_ (by simp; omega) _))
          clear hK K hh5
          try simp only [Act.put, List.setIfInBounds_toArray, List.set_cons_zero, List.set_cons_succ]
          refine wpAnyH_done (by kernel_rfl) ?_ _
          clear hh6 HK
          have kV0 : y6.cell? ⟨y3.heap.size, 0, none⟩ = some (.slice A1 xs1.length c1) := BO.out.cell 0
          have kV1 : y6.cell? ⟨y3.heap.size, 1, none⟩ = some (.slice A2 xs2.length c2) := BO.out.cell 1
          have kV2 : y6.cell? ⟨y3.heap.size, 2, none⟩ = some (.slice A3 xs3.length c3) := BO.out.cell 2
          have kV3 : y6.cell? ⟨y3.heap.size, 3, none⟩ = some (.slice A4 xs4.length c4) := BO.out.cell 3
          have fV := BO.out.frozen
          have lV := BO.out.lt
          have RD : Hid (RWire y6 [.slice A1 xs1.length c1, .slice A2 xs2.length c2, .slice A3 xs3.length c3, .slice A4 xs4.length c4] ⟨xs1, xs2, xs3, xs4⟩) := hideIt ⟨_, _, _, _, rfl, OInts.reads O1.out, OInts.reads O2.out, OInts.reads O3.out, OInts.reads O4.out⟩
          have PT : Hid (∀ u, wireB u k = true → s.data.toList = wireL u → u = ⟨xs1, xs2, xs3, xs4⟩) := hideIt (fun u hu e => wire_of PS.out U1.out U2.out U3.out U4.out hu e)
          have len4 : xs4.length ≤ 1048577 := by have := LN4.out; omega
          go_wp2_with fail
          clear kV0 kV1 kV2 kV3 fV lV
          refine (sWText_any k _ RD.out len4).mono ?_
          rintro e y7 ⟨rfl, g_⟩
          have R5 := hideIt (R.out.grows (gg.trans g_))
          have GF := hideIt ((GA.out.trans gg).trans g_)
          have T5 := hideIt (BO.out.grows g_)
          replace O1 := hideIt (OInts.chg (cs := []) O1.out (Chg.of_grows g_) (fun _ _ h => by cases h))
          replace O2 := hideIt (OInts.chg (cs := []) O2.out (Chg.of_grows g_) (fun _ _ h => by cases h))
          replace O3 := hideIt (OInts.chg (cs := []) O3.out (Chg.of_grows g_) (fun _ _ h => by cases h))
          replace O4 := hideIt (OInts.chg (cs := []) O4.out (Chg.of_grows g_) (fun _ _ h => by cases h))
          have sz7 := g_.size
          clear g_ RD len4
          have kV0 : y7.cell? ⟨y3.heap.size, 0, none⟩ = some (.slice A1 xs1.length c1) := T5.out.cell 0
          have kV1 : y7.cell? ⟨y3.heap.size, 1, none⟩ = some (.slice A2 xs2.length c2) := T5.out.cell 1
          have kV2 : y7.cell? ⟨y3.heap.size, 2, none⟩ = some (.slice A3 xs3.length c3) := T5.out.cell 2
          have kV3 : y7.cell? ⟨y3.heap.size, 3, none⟩ = some (.slice A4 xs4.length c4) := T5.out.cell 3
          have fV := T5.out.frozen
          have lV := T5.out.lt
          have kR0 := R5.out.cell 0
          have kR1 := R5.out.cell 1
          have kR2 := R5.out.cell 2
          have kR3 := R5.out.cell 3
          simp at kR0 kR1 kR2 kR3
          have fR := R5.out.frozen
          have lR := R5.out.lt
          by_cases hf : wtextB ⟨xs1, xs2, xs3, xs4⟩ k = s
          · have PY : Hid (RW s k ⟨xs1, xs2, xs3, xs4⟩ true) := hideIt (wtext_yes hf PS.out)
            have hee : ((wtextB ⟨xs1, xs2, xs3, xs4⟩ k).toList == s.toList) = true := by rw [hf]; exact beq_self_eq_true _
            clear hf
            go_wp2
            refine bodyPost_ret (by simp [*, results, Tryd.results20, go_sem]; try rfl) rfl ?_
            have key : ∀ w9, Chg [w.heap.size] y7 w9 → Grows w w9 → ReadWPost s k w (.returned (.tuple #[.agg #[.slice A1 xs1.length c1, .slice A2 xs2.length c2, .slice A3 xs3.length c3, .slice A4 xs4.length c4], .bool true])) w9 := fun w9 c9 h9 =>
              ReadWPost.yes (lo := u1.heap.size) (m1 := y1.heap.size) (m2 := y2.heap.size) (m3 := y4.heap.size) (by omega) (by omega) (by omega) (by omega) (by have := c9.size; omega)
                (OInts.chg O1.out c9 (fun q hq => by have := W1.out.2 q hq; simp; omega)) (OInts.chg O2.out c9 (fun q hq => by have := W2.out.2 q hq; simp; omega)) (OInts.chg O3.out c9 (fun q hq => by have := W3.out.2 q hq; simp; omega)) (OInts.chg O4.out c9 (fun q hq => by have := W4.out.2 q hq; simp; omega))
                (W1.out.mono (Nat.le_refl _) (by omega)) (W2.out.mono (Nat.le_refl _) (by omega)) (W3.out.mono (Nat.le_refl _) (by omega)) (W4.out.mono (Nat.le_refl _) (by have := c9.size; omega)) PY.out h9
            refine key _ ?_ ?_
            · repeat (first | exact Chg.refl _ _ | refine Chg.drew ?_ | refine Chg.setCell ?_ (by simp) _)
            · repeat (first | exact GF.out | refine Grows.drew ?_ | refine Grows.setCell ?_ (by simp) _)
          · have PN : Hid (RW s k ⟨[], [], [], []⟩ false) := hideIt (wtext_no hf PT.out)
            have hd := strDif hf
            clear hf
            go_wp2
            refine bodyPost_ret (by simp [*, results, Tryd.results20, go_sem]; try rfl) rfl ?_
            exact .no PN.out (by repeat (first | exact GF.out | refine Grows.drew ?_ | refine Grows.setCell ?_ (by simp) _))
      · go_simp
        have g9 : Grows y2 (y2.alloc (.cells #[.slice none 0 0, .slice none 0 0, .slice none 0 0, .slice none 0 0] 39)) := (Grows.refl _).alloc _
        have BO := hideIt (Blk.new y2 39 #[.slice none 0 0, .slice none 0 0, .slice none 0 0, .slice none 0 0])
        generalize y2.alloc (.cells #[.slice none 0 0, .slice none 0 0, .slice none 0 0, .slice none 0 0] 39) = y3 at g9 BO ⊢
        replace O1 := hideIt (OInts.chg (cs := []) O1.out (Chg.of_grows g9) (fun _ _ h => by cases h))
        replace O2 := hideIt (OInts.chg (cs := []) O2.out (Chg.of_grows g9) (fun _ _ h => by cases h))
        have lQ : y2.heap.size < y3.heap.size := BO.out.lt
        have sz3 := g9.size
        replace gg := Grows.trans gg g9
        clear g9
        have kO0 : y3.cell? ⟨y2.heap.size, 0, none⟩ = some (.slice none 0 0) := BO.out.cell 0
        have kO1 : y3.cell? ⟨y2.heap.size, 1, none⟩ = some (.slice none 0 0) := BO.out.cell 1
        have kO2 : y3.cell? ⟨y2.heap.size, 2, none⟩ = some (.slice none 0 0) := BO.out.cell 2
        have kO3 : y3.cell? ⟨y2.heap.size, 3, none⟩ = some (.slice none 0 0) := BO.out.cell 3
        have fO := BO.out.frozen
        have lO := BO.out.lt
        (try go_wp2_with fail)
        refine hK.out _ _ ?_ (fun hh3 => ?_)
        · (try dsimp only); refine HK.out _ ?_; (repeat (first | exact gg | refine Grows.drew ?_ | refine Grows.drewN ?_ _ | refine Grows.alloc ?_ _ | refine Grows.setCell ?_ (by simp; omega) _))
        clear hK K hh2
        try simp only [Act.put, List.setIfInBounds_toArray, List.set_cons_zero, List.set_cons_succ]
        refine regCall 11 (fun K hK => ?_)
        go_simp
        refine (sReadsW_any r _ zr).mono ?_
        rintro e y4 ⟨A3, c3, xs3, b3, rfl, o_, ow_, uq_, ln_, g_⟩
        have g9 : Grows y3 y4 := (show Grows y3 _ from (by repeat (first | exact Grows.refl _ | refine Grows.drew ?_ | refine Grows.drewN ?_ _))).trans g_
        replace O1 := hideIt (OInts.chg (cs := []) O1.out (Chg.of_grows g9) (fun _ _ h => by cases h))
        replace O2 := hideIt (OInts.chg (cs := []) O2.out (Chg.of_grows g9) (fun _ _ h => by cases h))
        replace BO := hideIt (BO.out.grows g9)
        have O3 := hideIt o_
        have W3 : Hid (Own y3.heap.size y4.heap.size b3) := hideIt (by simpa using ow_)
        have U3 := hideIt uq_
        have LN3 := hideIt ln_
        clear o_ ow_ uq_ ln_ g_
        clear kO0 kO1 kO2 kO3 fO lO
        have sz4 := g9.size
        replace gg := Grows.trans gg g9
        clear g9
        have kO0 : y4.cell? ⟨y2.heap.size, 0, none⟩ = some (.slice none 0 0) := BO.out.cell 0
        have kO1 : y4.cell? ⟨y2.heap.size, 1, none⟩ = some (.slice none 0 0) := BO.out.cell 1
        have kO2 : y4.cell? ⟨y2.heap.size, 2, none⟩ = some (.slice none 0 0) := BO.out.cell 2
        have kO3 : y4.cell? ⟨y2.heap.size, 3, none⟩ = some (.slice none 0 0) := BO.out.cell 3
        have fO := BO.out.frozen
        have lO := BO.out.lt
        (try go_wp2_with fail)
        refine hK.out _ _ ?_ (fun hh4 => ?_)
        · (try dsimp only); refine HK.out _ ?_; (repeat (first | exact gg | refine Grows.drew ?_ | refine Grows.drewN ?_ _ | refine Grows.alloc ?_ _ | refine Grows.setCell ?_ (by simp; omega) _))
        clear hK K hh3
        try simp only [Act.put, List.setIfInBounds_toArray, List.set_cons_zero, List.set_cons_succ]
        refine regCall 15 (fun K hK => ?_)
        go_simp
        refine (sReadsW_any t _ zt).mono ?_
        rintro e y5 ⟨A4, c4, xs4, b4, rfl, o_, ow_, uq_, ln_, g_⟩
        have g9 : Grows y4 y5 := (show Grows y4 _ from (by repeat (first | exact Grows.refl _ | refine Grows.drew ?_ | refine Grows.drewN ?_ _))).trans g_
        replace O1 := hideIt (OInts.chg (cs := []) O1.out (Chg.of_grows g9) (fun _ _ h => by cases h))
        replace O2 := hideIt (OInts.chg (cs := []) O2.out (Chg.of_grows g9) (fun _ _ h => by cases h))
        replace BO := hideIt (BO.out.grows g9)
        replace O3 := hideIt (OInts.chg (cs := []) O3.out (Chg.of_grows g9) (fun _ _ h => by cases h))
        have O4 := hideIt o_
        have W4 : Hid (Own y4.heap.size y5.heap.size b4) := hideIt (by simpa using ow_)
        have U4 := hideIt uq_
        have LN4 := hideIt ln_
        clear o_ ow_ uq_ ln_ g_
        clear kO0 kO1 kO2 kO3 fO lO
        have sz5 := g9.size
        replace gg := Grows.trans gg g9
        clear g9
        have kO0 : y5.cell? ⟨y2.heap.size, 0, none⟩ = some (.slice none 0 0) := BO.out.cell 0
        have kO1 : y5.cell? ⟨y2.heap.size, 1, none⟩ = some (.slice none 0 0) := BO.out.cell 1
        have kO2 : y5.cell? ⟨y2.heap.size, 2, none⟩ = some (.slice none 0 0) := BO.out.cell 2
        have kO3 : y5.cell? ⟨y2.heap.size, 3, none⟩ = some (.slice none 0 0) := BO.out.cell 3
        have fO := BO.out.frozen
        have lO := BO.out.lt
        (try go_wp2_with fail)
        refine hK.out _ _ ?_ (fun hh5 => ?_)
        · (try dsimp only); refine HK.out _ ?_; (repeat (first | exact gg | refine Grows.drew ?_ | refine Grows.drewN ?_ _ | refine Grows.alloc ?_ _ | refine Grows.setCell ?_ (by simp; omega) _))
        clear hK K hh4
        try simp only [Act.put, List.setIfInBounds_toArray, List.set_cons_zero, List.set_cons_succ]
        refine regTake 16 (v := ?_) ?_ hh5 ?_
        rotate_left
        · intro w hw; (try dsimp only at hw); go_simp; (try with_reducible rfl)
        try simp only [Act.put, List.setIfInBounds_toArray, List.set_cons_zero, List.set_cons_succ]
        refine regCall 18 (fun K hK => ?_)
        go_simp
        have cset : Chg [y2.heap.size] y5 ((((y5.setCell ⟨y2.heap.size, 0, none⟩ (.slice A1 xs1.length c1)).setCell ⟨y2.heap.size, 1, none⟩ (.slice A2 xs2.length c2)).setCell ⟨y2.heap.size, 2, none⟩ (.slice A3 xs3.length c3)).setCell ⟨y2.heap.size, 3, none⟩ (.slice A4 xs4.length c4)) := ((((Chg.refl _ _).setCell (by simp) _).setCell (by simp) _).setCell (by simp) _).setCell (by simp) _
        replace BO := hideIt (((((BO.out).set_ 0 (.slice A1 xs1.length c1)).set_ 1 (.slice A2 xs2.length c2)).set_ 2 (.slice A3 xs3.length c3)).set_ 3 (.slice A4 xs4.length c4))
        replace O1 := hideIt (OInts.chg O1.out cset (fun q hq hm => by have := W1.out.2 q hq; simp at hm; omega))
        replace O2 := hideIt (OInts.chg O2.out cset (fun q hq hm => by have := W2.out.2 q hq; simp at hm; omega))
        replace O3 := hideIt (OInts.chg O3.out cset (fun q hq hm => by have := W3.out.2 q hq; simp at hm; omega))
        replace O4 := hideIt (OInts.chg O4.out cset (fun q hq hm => by have := W4.out.2 q hq; simp at hm; omega))
        replace gg : Grows u1 ((((y5.setCell ⟨y2.heap.size, 0, none⟩ (.slice A1 xs1.length c1)).setCell ⟨y2.heap.size, 1, none⟩ (.slice A2 xs2.length c2)).setCell ⟨y2.heap.size, 2, none⟩ (.slice A3 xs3.length c3)).setCell ⟨y2.heap.size, 3, none⟩ (.slice A4 xs4.length c4)) := Grows.chg gg cset (fun q hq => by simp at hq; omega)
        have sz6 := cset.size
        generalize (((y5.setCell ⟨y2.heap.size, 0, none⟩ (.slice A1 xs1.length c1)).setCell ⟨y2.heap.size, 1, none⟩ (.slice A2 xs2.length c2)).setCell ⟨y2.heap.size, 2, none⟩ (.slice A3 xs3.length c3)).setCell ⟨y2.heap.size, 3, none⟩ (.slice A4 xs4.length c4) = y6 at cset BO O1 O2 O3 O4 gg sz6 ⊢
        clear kO0 kO1 kO2 kO3 fO lO cset
        (try go_wp2_with fail)
        refine hK.out _ _ ?_ (fun hh6 => ?_)
        · (try dsimp only); refine HK.out _ ?_; (repeat (first | exact gg | refine Grows.drew ?_ | refine Grows.drewN ?_ _ | refine Grows.alloc ?_ _ | refine Grows.setCell ?_ (by simp; omega) _))
        clear hK K hh5
        try simp only [Act.put, List.setIfInBounds_toArray, List.set_cons_zero, List.set_cons_succ]
        refine wpAnyH_done (by kernel_rfl) ?_ _
        clear hh6 HK
        have kV0 : y6.cell? ⟨y2.heap.size, 0, none⟩ = some (.slice A1 xs1.length c1) := BO.out.cell 0
        have kV1 : y6.cell? ⟨y2.heap.size, 1, none⟩ = some (.slice A2 xs2.length c2) := BO.out.cell 1
        have kV2 : y6.cell? ⟨y2.heap.size, 2, none⟩ = some (.slice A3 xs3.length c3) := BO.out.cell 2
        have kV3 : y6.cell? ⟨y2.heap.size, 3, none⟩ = some (.slice A4 xs4.length c4) := BO.out.cell 3
        have fV := BO.out.frozen
        have lV := BO.out.lt
        have RD : Hid (RWire y6 [.slice A1 xs1.length c1, .slice A2 xs2.length c2, .slice A3 xs3.length c3, .slice A4 xs4.length c4] ⟨xs1, xs2, xs3, xs4⟩) := hideIt ⟨_, _, _, _, rfl, OInts.reads O1.out, OInts.reads O2.out, OInts.reads O3.out, OInts.reads O4.out⟩
        have PT : Hid (∀ u, wireB u k = true → s.data.toList = wireL u → u = ⟨xs1, xs2, xs3, xs4⟩) := hideIt (fun u hu e => wire_of PS.out U1.out U2.out U3.out U4.out hu e)
        have len4 : xs4.length ≤ 1048577 := by have := LN4.out; omega
        go_wp2_with fail
        clear kV0 kV1 kV2 kV3 fV lV
        refine (sWText_any k _ RD.out len4).mono ?_
        rintro e y7 ⟨rfl, g_⟩
        have R5 := hideIt (R.out.grows (gg.trans g_))
        have GF := hideIt ((GA.out.trans gg).trans g_)
        have T5 := hideIt (BO.out.grows g_)
        replace O1 := hideIt (OInts.chg (cs := []) O1.out (Chg.of_grows g_) (fun _ _ h => by cases h))
        replace O2 := hideIt (OInts.chg (cs := []) O2.out (Chg.of_grows g_) (fun _ _ h => by cases h))
        replace O3 := hideIt (OInts.chg (cs := []) O3.out (Chg.of_grows g_) (fun _ _ h => by cases h))
        replace O4 := hideIt (OInts.chg (cs := []) O4.out (Chg.of_grows g_) (fun _ _ h => by cases h))
        have sz7 := g_.size
        clear g_ RD len4
        have kV0 : y7.cell? ⟨y2.heap.size, 0, none⟩ = some (.slice A1 xs1.length c1) := T5.out.cell 0
        have kV1 : y7.cell? ⟨y2.heap.size, 1, none⟩ = some (.slice A2 xs2.length c2) := T5.out.cell 1
        have kV2 : y7.cell? ⟨y2.heap.size, 2, none⟩ = some (.slice A3 xs3.length c3) := T5.out.cell 2
        have kV3 : y7.cell? ⟨y2.heap.size, 3, none⟩ = some (.slice A4 xs4.length c4) := T5.out.cell 3
        have fV := T5.out.frozen
        have lV := T5.out.lt
        have kR0 := R5.out.cell 0
        have kR1 := R5.out.cell 1
        have kR2 := R5.out.cell 2
        have kR3 := R5.out.cell 3
        simp at kR0 kR1 kR2 kR3
        have fR := R5.out.frozen
        have lR := R5.out.lt
        by_cases hf : wtextB ⟨xs1, xs2, xs3, xs4⟩ k = s
        · have PY : Hid (RW s k ⟨xs1, xs2, xs3, xs4⟩ true) := hideIt (wtext_yes hf PS.out)
          have hee : ((wtextB ⟨xs1, xs2, xs3, xs4⟩ k).toList == s.toList) = true := by rw [hf]; exact beq_self_eq_true _
          clear hf
          go_wp2
          refine bodyPost_ret (by simp [*, results, Tryd.results20, go_sem]; try rfl) rfl ?_
          have key : ∀ w9, Chg [w.heap.size] y7 w9 → Grows w w9 → ReadWPost s k w (.returned (.tuple #[.agg #[.slice A1 xs1.length c1, .slice A2 xs2.length c2, .slice A3 xs3.length c3, .slice A4 xs4.length c4], .bool true])) w9 := fun w9 c9 h9 =>
            ReadWPost.yes (lo := u1.heap.size) (m1 := y1.heap.size) (m2 := y3.heap.size) (m3 := y4.heap.size) (by omega) (by omega) (by omega) (by omega) (by have := c9.size; omega)
              (OInts.chg O1.out c9 (fun q hq => by have := W1.out.2 q hq; simp; omega)) (OInts.chg O2.out c9 (fun q hq => by have := W2.out.2 q hq; simp; omega)) (OInts.chg O3.out c9 (fun q hq => by have := W3.out.2 q hq; simp; omega)) (OInts.chg O4.out c9 (fun q hq => by have := W4.out.2 q hq; simp; omega))
              (W1.out.mono (Nat.le_refl _) (by omega)) (W2.out.mono (Nat.le_refl _) (by omega)) (W3.out.mono (Nat.le_refl _) (by omega)) (W4.out.mono (Nat.le_refl _) (by have := c9.size; omega)) PY.out h9
          refine key _ ?_ ?_
          · repeat (first | exact Chg.refl _ _ | refine Chg.drew ?_ | refine Chg.setCell ?_ (by simp) _)
          · repeat (first | exact GF.out | refine Grows.drew ?_ | refine Grows.setCell ?_ (by simp) _)
        · have PN : Hid (RW s k ⟨[], [], [], []⟩ false) := hideIt (wtext_no hf PT.out)
          have hd := strDif hf
          clear hf
          go_wp2
          refine bodyPost_ret (by simp [*, results, Tryd.results20, go_sem]; try rfl) rfl ?_
          exact .no PN.out (by repeat (first | exact GF.out | refine Grows.drew ?_ | refine Grows.setCell ?_ (by simp) _))
    · go_simp
      have g9 : Grows y1 (y1.alloc (.cells #[.slice none 0 0, .slice none 0 0, .slice none 0 0, .slice none 0 0] 39)) := (Grows.refl _).alloc _
      have BO := hideIt (Blk.new y1 39 #[.slice none 0 0, .slice none 0 0, .slice none 0 0, .slice none 0 0])
      generalize y1.alloc (.cells #[.slice none 0 0, .slice none 0 0, .slice none 0 0, .slice none 0 0] 39) = y2 at g9 BO ⊢
      replace O1 := hideIt (OInts.chg (cs := []) O1.out (Chg.of_grows g9) (fun _ _ h => by cases h))
      have lQ : y1.heap.size < y2.heap.size := BO.out.lt
      have sz2 := g9.size
      replace gg := Grows.trans gg g9
      clear g9
      have kO0 : y2.cell? ⟨y1.heap.size, 0, none⟩ = some (.slice none 0 0) := BO.out.cell 0
      have kO1 : y2.cell? ⟨y1.heap.size, 1, none⟩ = some (.slice none 0 0) := BO.out.cell 1
      have kO2 : y2.cell? ⟨y1.heap.size, 2, none⟩ = some (.slice none 0 0) := BO.out.cell 2
      have kO3 : y2.cell? ⟨y1.heap.size, 3, none⟩ = some (.slice none 0 0) := BO.out.cell 3
      have fO := BO.out.frozen
      have lO := BO.out.lt
      (try go_wp2_with fail)
      refine hK.out _ _ ?_ (fun hh2 => ?_)
      · (try dsimp only); refine HK.out _ ?_; (repeat (first | exact gg | refine Grows.drew ?_ | refine Grows.drewN ?_ _ | refine Grows.alloc ?_ _ | refine Grows.setCell ?_ (by simp; omega) _))
      clear hK K hh1
      try simp only [Act.put, List.setIfInBounds_toArray, List.set_cons_zero, List.set_cons_succ]
      refine regCall 7 (fun K hK => ?_)
      go_simp
      refine (sReadsW_any q _ zq).mono ?_
      rintro e y3 ⟨A2, c2, xs2, b2, rfl, o_, ow_, uq_, ln_, g_⟩
      have g9 : Grows y2 y3 := (show Grows y2 _ from (by repeat (first | exact Grows.refl _ | refine Grows.drew ?_ | refine Grows.drewN ?_ _))).trans g_
      replace O1 := hideIt (OInts.chg (cs := []) O1.out (Chg.of_grows g9) (fun _ _ h => by cases h))
      replace BO := hideIt (BO.out.grows g9)
      have O2 := hideIt o_
      have W2 : Hid (Own y2.heap.size y3.heap.size b2) := hideIt (by simpa using ow_)
      have U2 := hideIt uq_
      have LN2 := hideIt ln_
      clear o_ ow_ uq_ ln_ g_
      clear kO0 kO1 kO2 kO3 fO lO
      have sz3 := g9.size
      replace gg := Grows.trans gg g9
      clear g9
      have kO0 : y3.cell? ⟨y1.heap.size, 0, none⟩ = some (.slice none 0 0) := BO.out.cell 0
      have kO1 : y3.cell? ⟨y1.heap.size, 1, none⟩ = some (.slice none 0 0) := BO.out.cell 1
      have kO2 : y3.cell? ⟨y1.heap.size, 2, none⟩ = some (.slice none 0 0) := BO.out.cell 2
      have kO3 : y3.cell? ⟨y1.heap.size, 3, none⟩ = some (.slice none 0 0) := BO.out.cell 3
      have fO := BO.out.frozen
      have lO := BO.out.lt
      (try go_wp2_with fail)
      refine hK.out _ _ ?_ (fun hh3 => ?_)
      · (try dsimp only); refine HK.out _ ?_; (repeat (first | exact gg | refine Grows.drew ?_ | refine Grows.drewN ?_ _ | refine Grows.alloc ?_ _ | refine Grows.setCell ?_ (by simp; omega) _))
      clear hK K hh2
      try simp only [Act.put, List.setIfInBounds_toArray, List.set_cons_zero, List.set_cons_succ]
      refine regCall 11 (fun K hK => ?_)
      go_simp
      refine (sReadsW_any r _ zr).mono ?_
      rintro e y4 ⟨A3, c3, xs3, b3, rfl, o_, ow_, uq_, ln_, g_⟩
      have g9 : Grows y3 y4 := (show Grows y3 _ from (by repeat (first | exact Grows.refl _ | refine Grows.drew ?_ | refine Grows.drewN ?_ _))).trans g_
      replace O1 := hideIt (OInts.chg (cs := []) O1.out (Chg.of_grows g9) (fun _ _ h => by cases h))
      replace BO := hideIt (BO.out.grows g9)
      replace O2 := hideIt (OInts.chg (cs := []) O2.out (Chg.of_grows g9) (fun _ _ h => by cases h))
      have O3 := hideIt o_
      have W3 : Hid (Own y3.heap.size y4.heap.size b3) := hideIt (by simpa using ow_)
      have U3 := hideIt uq_
      have LN3 := hideIt ln_
      clear o_ ow_ uq_ ln_ g_
      clear kO0 kO1 kO2 kO3 fO lO
      have sz4 := g9.size
      replace gg := Grows.trans gg g9
      clear g9
      have kO0 : y4.cell? ⟨y1.heap.size, 0, none⟩ = some (.slice none 0 0) := BO.out.cell 0
      have kO1 : y4.cell? ⟨y1.heap.size, 1, none⟩ = some (.slice none 0 0) := BO.out.cell 1
      have kO2 : y4.cell? ⟨y1.heap.size, 2, none⟩ = some (.slice none 0 0) := BO.out.cell 2
      have kO3 : y4.cell? ⟨y1.heap.size, 3, none⟩ = some (.slice none 0 0) := BO.out.cell 3
      have fO := BO.out.frozen
      have lO := BO.out.lt
      (try go_wp2_with fail)
      refine hK.out _ _ ?_ (fun hh4 => ?_)
      · (try dsimp only); refine HK.out _ ?_; (repeat (first | exact gg | refine Grows.drew ?_ | refine Grows.drewN ?_ _ | refine Grows.alloc ?_ _ | refine Grows.setCell ?_ (by simp; omega) _))
      clear hK K hh3
      try simp only [Act.put, List.setIfInBounds_toArray, List.set_cons_zero, List.set_cons_succ]
      refine regCall 15 (fun K hK => ?_)
      go_simp
      refine (sReadsW_any t _ zt).mono ?_
      rintro e y5 ⟨A4, c4, xs4, b4, rfl, o_, ow_, uq_, ln_, g_⟩
      have g9 : Grows y4 y5 := (show Grows y4 _ from (by repeat (first | exact Grows.refl _ | refine Grows.drew ?_ | refine Grows.drewN ?_ _))).trans g_
      replace O1 := hideIt (OInts.chg (cs := []) O1.out (Chg.of_grows g9) (fun _ _ h => by cases h))
      replace BO := hideIt (BO.out.grows g9)
      replace O2 := hideIt (OInts.chg (cs := []) O2.out (Chg.of_grows g9) (fun _ _ h => by cases h))
      replace O3 := hideIt (OInts.chg (cs := []) O3.out (Chg.of_grows g9) (fun _ _ h => by cases h))
      have O4 := hideIt o_
      have W4 : Hid (Own y4.heap.size y5.heap.size b4) := hideIt (by simpa using ow_)
      have U4 := hideIt uq_
      have LN4 := hideIt ln_
      clear o_ ow_ uq_ ln_ g_
      clear kO0 kO1 kO2 kO3 fO lO
      have sz5 := g9.size
      replace gg := Grows.trans gg g9
      clear g9
      have kO0 : y5.cell? ⟨y1.heap.size, 0, none⟩ = some (.slice none 0 0) := BO.out.cell 0
      have kO1 : y5.cell? ⟨y1.heap.size, 1, none⟩ = some (.slice none 0 0) := BO.out.cell 1
      have kO2 : y5.cell? ⟨y1.heap.size, 2, none⟩ = some (.slice none 0 0) := BO.out.cell 2
      have kO3 : y5.cell? ⟨y1.heap.size, 3, none⟩ = some (.slice none 0 0) := BO.out.cell 3
      have fO := BO.out.frozen
      have lO := BO.out.lt
      (try go_wp2_with fail)
      refine hK.out _ _ ?_ (fun hh5 => ?_)
      · (try dsimp only); refine HK.out _ ?_; (repeat (first | exact gg | refine Grows.drew ?_ | refine Grows.drewN ?_ _ | refine Grows.alloc ?_ _ | refine Grows.setCell ?_ (by simp; omega) _))
      clear hK K hh4
      try simp only [Act.put, List.setIfInBounds_toArray, List.set_cons_zero, List.set_cons_succ]
      refine regTake 16 (v := ?_) ?_ hh5 ?_
      rotate_left
      · intro w hw; (try dsimp only at hw); go_simp; (try with_reducible rfl)
      try simp only [Act.put, List.setIfInBounds_toArray, List.set_cons_zero, List.set_cons_succ]
      refine regCall 18 (fun K hK => ?_)
      go_simp
      have cset : Chg [y1.heap.size] y5 ((((y5.setCell ⟨y1.heap.size, 0, none⟩ (.slice A1 xs1.length c1)).setCell ⟨y1.heap.size, 1, none⟩ (.slice A2 xs2.length c2)).setCell ⟨y1.heap.size, 2, none⟩ (.slice A3 xs3.length c3)).setCell ⟨y1.heap.size, 3, none⟩ (.slice A4 xs4.length c4)) := ((((Chg.refl _ _).setCell (by simp) _).setCell (by simp) _).setCell (by simp) _).setCell (by simp) _
      replace BO := hideIt (((((BO.out).set_ 0 (.slice A1 xs1.length c1)).set_ 1 (.slice A2 xs2.length c2)).set_ 2 (.slice A3 xs3.length c3)).set_ 3 (.slice A4 xs4.length c4))
      replace O1 := hideIt (OInts.chg O1.out cset (fun q hq hm => by have := W1.out.2 q hq; simp at hm; omega))
      replace O2 := hideIt (OInts.chg O2.out cset (fun q hq hm => by have := W2.out.2 q hq; simp at hm; omega))
      replace O3 := hideIt (OInts.chg O3.out cset (fun q hq hm => by have := W3.out.2 q hq; simp at hm; omega))
      replace O4 := hideIt (OInts.chg O4.out cset (fun q hq hm => by have := W4.out.2 q hq; simp at hm; omega))
      replace gg : Grows u1 ((((y5.setCell ⟨y1.heap.size, 0, none⟩ (.slice A1 xs1.length c1)).setCell ⟨y1.heap.size, 1, none⟩ (.slice A2 xs2.length c2)).setCell ⟨y1.heap.size, 2, none⟩ (.slice A3 xs3.length c3)).setCell ⟨y1.heap.size, 3, none⟩ (.slice A4 xs4.length c4)) := Grows.chg gg cset (fun q hq => by simp at hq; omega)
      have sz6 := cset.size
      generalize (((y5.setCell ⟨y1.heap.size, 0, none⟩ (.slice A1 xs1.length c1)).setCell ⟨y1.heap.size, 1, none⟩ (.slice A2 xs2.length c2)).setCell ⟨y1.heap.size, 2, none⟩ (.slice A3 xs3.length c3)).setCell ⟨y1.heap.size, 3, none⟩ (.slice A4 xs4.length c4) = y6 at cset BO O1 O2 O3 O4 gg sz6 ⊢
      clear kO0 kO1 kO2 kO3 fO lO cset
      (try go_wp2_with fail)
      refine hK.out _ _ ?_ (fun hh6 => ?_)
      · (try dsimp only); refine HK.out _ ?_; (repeat (first | exact gg | refine Grows.drew ?_ | refine Grows.drewN ?_ _ | refine Grows.alloc ?_ _ | refine Grows.setCell ?_ (by simp; omega) _))
      clear hK K hh5
      try simp only [Act.put, List.setIfInBounds_toArray, List.set_cons_zero, List.set_cons_succ]
      refine wpAnyH_done (by kernel_rfl) ?_ _
      clear hh6 HK
      have kV0 : y6.cell? ⟨y1.heap.size, 0, none⟩ = some (.slice A1 xs1.length c1) := BO.out.cell 0
      have kV1 : y6.cell? ⟨y1.heap.size, 1, none⟩ = some (.slice A2 xs2.length c2) := BO.out.cell 1
      have kV2 : y6.cell? ⟨y1.heap.size, 2, none⟩ = some (.slice A3 xs3.length c3) := BO.out.cell 2
      have kV3 : y6.cell? ⟨y1.heap.size, 3, none⟩ = some (.slice A4 xs4.length c4) := BO.out.cell 3
      have fV := BO.out.frozen
      have lV := BO.out.lt
      have RD : Hid (RWire y6 [.slice A1 xs1.length c1, .slice A2 xs2.length c2, .slice A3 xs3.length c3, .slice A4 xs4.length c4] ⟨xs1, xs2, xs3, xs4⟩) := hideIt ⟨_, _, _, _, rfl, OInts.reads O1.out, OInts.reads O2.out, OInts.reads O3.out, OInts.reads O4.out⟩
      have PT : Hid (∀ u, wireB u k = true → s.data.toList = wireL u → u = ⟨xs1, xs2, xs3, xs4⟩) := hideIt (fun u hu e => wire_of PS.out U1.out U2.out U3.out U4.out hu e)
      have len4 : xs4.length ≤ 1048577 := by have := LN4.out; omega
      go_wp2_with fail
      clear kV0 kV1 kV2 kV3 fV lV
      refine (sWText_any k _ RD.out len4).mono ?_
      rintro e y7 ⟨rfl, g_⟩
      have R5 := hideIt (R.out.grows (gg.trans g_))
      have GF := hideIt ((GA.out.trans gg).trans g_)
      have T5 := hideIt (BO.out.grows g_)
      replace O1 := hideIt (OInts.chg (cs := []) O1.out (Chg.of_grows g_) (fun _ _ h => by cases h))
      replace O2 := hideIt (OInts.chg (cs := []) O2.out (Chg.of_grows g_) (fun _ _ h => by cases h))
      replace O3 := hideIt (OInts.chg (cs := []) O3.out (Chg.of_grows g_) (fun _ _ h => by cases h))
      replace O4 := hideIt (OInts.chg (cs := []) O4.out (Chg.of_grows g_) (fun _ _ h => by cases h))
      have sz7 := g_.size
      clear g_ RD len4
      have kV0 : y7.cell? ⟨y1.heap.size, 0, none⟩ = some (.slice A1 xs1.length c1) := T5.out.cell 0
      have kV1 : y7.cell? ⟨y1.heap.size, 1, none⟩ = some (.slice A2 xs2.length c2) := T5.out.cell 1
      have kV2 : y7.cell? ⟨y1.heap.size, 2, none⟩ = some (.slice A3 xs3.length c3) := T5.out.cell 2
      have kV3 : y7.cell? ⟨y1.heap.size, 3, none⟩ = some (.slice A4 xs4.length c4) := T5.out.cell 3
      have fV := T5.out.frozen
      have lV := T5.out.lt
      have kR0 := R5.out.cell 0
      have kR1 := R5.out.cell 1
      have kR2 := R5.out.cell 2
      have kR3 := R5.out.cell 3
      simp at kR0 kR1 kR2 kR3
      have fR := R5.out.frozen
      have lR := R5.out.lt
      by_cases hf : wtextB ⟨xs1, xs2, xs3, xs4⟩ k = s
      · have PY : Hid (RW s k ⟨xs1, xs2, xs3, xs4⟩ true) := hideIt (wtext_yes hf PS.out)
        have hee : ((wtextB ⟨xs1, xs2, xs3, xs4⟩ k).toList == s.toList) = true := by rw [hf]; exact beq_self_eq_true _
        clear hf
        go_wp2
        refine bodyPost_ret (by simp [*, results, Tryd.results20, go_sem]; try rfl) rfl ?_
        have key : ∀ w9, Chg [w.heap.size] y7 w9 → Grows w w9 → ReadWPost s k w (.returned (.tuple #[.agg #[.slice A1 xs1.length c1, .slice A2 xs2.length c2, .slice A3 xs3.length c3, .slice A4 xs4.length c4], .bool true])) w9 := fun w9 c9 h9 =>
          ReadWPost.yes (lo := u1.heap.size) (m1 := y2.heap.size) (m2 := y3.heap.size) (m3 := y4.heap.size) (by omega) (by omega) (by omega) (by omega) (by have := c9.size; omega)
            (OInts.chg O1.out c9 (fun q hq => by have := W1.out.2 q hq; simp; omega)) (OInts.chg O2.out c9 (fun q hq => by have := W2.out.2 q hq; simp; omega)) (OInts.chg O3.out c9 (fun q hq => by have := W3.out.2 q hq; simp; omega)) (OInts.chg O4.out c9 (fun q hq => by have := W4.out.2 q hq; simp; omega))
            (W1.out.mono (Nat.le_refl _) (by omega)) (W2.out.mono (Nat.le_refl _) (by omega)) (W3.out.mono (Nat.le_refl _) (by omega)) (W4.out.mono (Nat.le_refl _) (by have := c9.size; omega)) PY.out h9
        refine key _ ?_ ?_
        · repeat (first | exact Chg.refl _ _ | refine Chg.drew ?_ | refine Chg.setCell ?_ (by simp) _)
        · repeat (first | exact GF.out | refine Grows.drew ?_ | refine Grows.setCell ?_ (by simp) _)
      · have PN : Hid (RW s k ⟨[], [], [], []⟩ false) := hideIt (wtext_no hf PT.out)
        have hd := strDif hf
        clear hf
        go_wp2
        refine bodyPost_ret (by simp [*, results, Tryd.results20, go_sem]; try rfl) rfl ?_
        exact .no PN.out (by repeat (first | exact GF.out | refine Grows.drew ?_ | refine Grows.setCell ?_ (by simp) _))
  · go_simp
    have g9 : Grows u1 (u1.alloc (.cells #[.slice none 0 0, .slice none 0 0, .slice none 0 0, .slice none 0 0] 39)) := (Grows.refl _).alloc _
    have BO := hideIt (Blk.new u1 39 #[.slice none 0 0, .slice none 0 0, .slice none 0 0, .slice none 0 0])
    generalize u1.alloc (.cells #[.slice none 0 0, .slice none 0 0, .slice none 0 0, .slice none 0 0] 39) = y1 at g9 BO ⊢
    have lQ : u1.heap.size < y1.heap.size := BO.out.lt
    have sz1 := g9.size
    replace gg := Grows.trans gg g9
    clear g9
    have kO0 : y1.cell? ⟨u1.heap.size, 0, none⟩ = some (.slice none 0 0) := BO.out.cell 0
    have kO1 : y1.cell? ⟨u1.heap.size, 1, none⟩ = some (.slice none 0 0) := BO.out.cell 1
    have kO2 : y1.cell? ⟨u1.heap.size, 2, none⟩ = some (.slice none 0 0) := BO.out.cell 2
    have kO3 : y1.cell? ⟨u1.heap.size, 3, none⟩ = some (.slice none 0 0) := BO.out.cell 3
    have fO := BO.out.frozen
    have lO := BO.out.lt
    (try go_wp2_with fail)
    refine hK.out _ _ ?_ (fun hh1 => ?_)
    · (try dsimp only); refine HK.out _ ?_; (repeat (first | exact gg | refine Grows.drew ?_ | refine Grows.drewN ?_ _ | refine Grows.alloc ?_ _ | refine Grows.setCell ?_ (by simp; omega) _))
    clear hK K hh0
    try simp only [Act.put, List.setIfInBounds_toArray, List.set_cons_zero, List.set_cons_succ]
    refine regCall 3 (fun K hK => ?_)
    go_simp
    refine (sReadsW_any p _ zp).mono ?_
    rintro e y2 ⟨A1, c1, xs1, b1, rfl, o_, ow_, uq_, ln_, g_⟩
    have g9 : Grows y1 y2 := (show Grows y1 _ from (by repeat (first | exact Grows.refl _ | refine Grows.drew ?_ | refine Grows.drewN ?_ _))).trans g_
    replace BO := hideIt (BO.out.grows g9)
    have O1 := hideIt o_
    have W1 : Hid (Own y1.heap.size y2.heap.size b1) := hideIt (by simpa using ow_)
    have U1 := hideIt uq_
    have LN1 := hideIt ln_
    clear o_ ow_ uq_ ln_ g_
    clear kO0 kO1 kO2 kO3 fO lO
    have sz2 := g9.size
    replace gg := Grows.trans gg g9
    clear g9
    have kO0 : y2.cell? ⟨u1.heap.size, 0, none⟩ = some (.slice none 0 0) := BO.out.cell 0
    have kO1 : y2.cell? ⟨u1.heap.size, 1, none⟩ = some (.slice none 0 0) := BO.out.cell 1
    have kO2 : y2.cell? ⟨u1.heap.size, 2, none⟩ = some (.slice none 0 0) := BO.out.cell 2
    have kO3 : y2.cell? ⟨u1.heap.size, 3, none⟩ = some (.slice none 0 0) := BO.out.cell 3
    have fO := BO.out.frozen
    have lO := BO.out.lt
    (try go_wp2_with fail)
    refine hK.out _ _ ?_ (fun hh2 => ?_)
    · (try dsimp only); refine HK.out _ ?_; (repeat (first | exact gg | refine Grows.drew ?_ | refine Grows.drewN ?_ _ | refine Grows.alloc ?_ _ | refine Grows.setCell ?_ (by simp; omega) _))
    clear hK K hh1
    try simp only [Act.put, List.setIfInBounds_toArray, List.set_cons_zero, List.set_cons_succ]
    refine regCall 7 (fun K hK => ?_)
    go_simp
    refine (sReadsW_any q _ zq).mono ?_
    rintro e y3 ⟨A2, c2, xs2, b2, rfl, o_, ow_, uq_, ln_, g_⟩
    have g9 : Grows y2 y3 := (show Grows y2 _ from (by repeat (first | exact Grows.refl _ | refine Grows.drew ?_ | refine Grows.drewN ?_ _))).trans g_
    replace BO := hideIt (BO.out.grows g9)
    replace O1 := hideIt (OInts.chg (cs := []) O1.out (Chg.of_grows g9) (fun _ _ h => by cases h))
    have O2 := hideIt o_
    have W2 : Hid (Own y2.heap.size y3.heap.size b2) := hideIt (by simpa using ow_)
    have U2 := hideIt uq_
    have LN2 := hideIt ln_
    clear o_ ow_ uq_ ln_ g_
    clear kO0 kO1 kO2 kO3 fO lO
    have sz3 := g9.size
    replace gg := Grows.trans gg g9
    clear g9
    have kO0 : y3.cell? ⟨u1.heap.size, 0, none⟩ = some (.slice none 0 0) := BO.out.cell 0
    have kO1 : y3.cell? ⟨u1.heap.size, 1, none⟩ = some (.slice none 0 0) := BO.out.cell 1
    have kO2 : y3.cell? ⟨u1.heap.size, 2, none⟩ = some (.slice none 0 0) := BO.out.cell 2
    have kO3 : y3.cell? ⟨u1.heap.size, 3, none⟩ = some (.slice none 0 0) := BO.out.cell 3
    have fO := BO.out.frozen
    have lO := BO.out.lt
    (try go_wp2_with fail)
    refine hK.out _ _ ?_ (fun hh3 => ?_)
    · (try dsimp only); refine HK.out _ ?_; (repeat (first | exact gg | refine Grows.drew ?_ | refine Grows.drewN ?_ _ | refine Grows.alloc ?_ _ | refine Grows.setCell ?_ (by simp; omega) _))
    clear hK K hh2
    try simp only [Act.put, List.setIfInBounds_toArray, List.set_cons_zero, List.set_cons_succ]
    refine regCall 11 (fun K hK => ?_)
    go_simp
    refine (sReadsW_any r _ zr).mono ?_
    rintro e y4 ⟨A3, c3, xs3, b3, rfl, o_, ow_, uq_, ln_, g_⟩
    have g9 : Grows y3 y4 := (show Grows y3 _ from (by repeat (first | exact Grows.refl _ | refine Grows.drew ?_ | refine Grows.drewN ?_ _))).trans g_
    replace BO := hideIt (BO.out.grows g9)
    replace O1 := hideIt (OInts.chg (cs := []) O1.out (Chg.of_grows g9) (fun _ _ h => by cases h))
    replace O2 := hideIt (OInts.chg (cs := []) O2.out (Chg.of_grows g9) (fun _ _ h => by cases h))
    have O3 := hideIt o_
    have W3 : Hid (Own y3.heap.size y4.heap.size b3) := hideIt (by simpa using ow_)
    have U3 := hideIt uq_
    have LN3 := hideIt ln_
    clear o_ ow_ uq_ ln_ g_
    clear kO0 kO1 kO2 kO3 fO lO
    have sz4 := g9.size
    replace gg := Grows.trans gg g9
    clear g9
    have kO0 : y4.cell? ⟨u1.heap.size, 0, none⟩ = some (.slice none 0 0) := BO.out.cell 0
    have kO1 : y4.cell? ⟨u1.heap.size, 1, none⟩ = some (.slice none 0 0) := BO.out.cell 1
    have kO2 : y4.cell? ⟨u1.heap.size, 2, none⟩ = some (.slice none 0 0) := BO.out.cell 2
    have kO3 : y4.cell? ⟨u1.heap.size, 3, none⟩ = some (.slice none 0 0) := BO.out.cell 3
    have fO := BO.out.frozen
    have lO := BO.out.lt
    (try go_wp2_with fail)
    refine hK.out _ _ ?_ (fun hh4 => ?_)
    · (try dsimp only); refine HK.out _ ?_; (repeat (first | exact gg | refine Grows.drew ?_ | refine Grows.drewN ?_ _ | refine Grows.alloc ?_ _ | refine Grows.setCell ?_ (by simp; omega) _))
    clear hK K hh3
    try simp only [Act.put, List.setIfInBounds_toArray, List.set_cons_zero, List.set_cons_succ]
    refine regCall 15 (fun K hK => ?_)
    go_simp
    refine (sReadsW_any t _ zt).mono ?_
    rintro e y5 ⟨A4, c4, xs4, b4, rfl, o_, ow_, uq_, ln_, g_⟩
    have g9 : Grows y4 y5 := (show Grows y4 _ from (by repeat (first | exact Grows.refl _ | refine Grows.drew ?_ | refine Grows.drewN ?_ _))).trans g_
    replace BO := hideIt (BO.out.grows g9)
    replace O1 := hideIt (OInts.chg (cs := []) O1.out (Chg.of_grows g9) (fun _ _ h => by cases h))
    replace O2 := hideIt (OInts.chg (cs := []) O2.out (Chg.of_grows g9) (fun _ _ h => by cases h))
    replace O3 := hideIt (OInts.chg (cs := []) O3.out (Chg.of_grows g9) (fun _ _ h => by cases h))
    have O4 := hideIt o_
    have W4 : Hid (Own y4.heap.size y5.heap.size b4) := hideIt (by simpa using ow_)
    have U4 := hideIt uq_
    have LN4 := hideIt ln_
    clear o_ ow_ uq_ ln_ g_
    clear kO0 kO1 kO2 kO3 fO lO
    have sz5 := g9.size
    replace gg := Grows.trans gg g9
    clear g9
    have kO0 : y5.cell? ⟨u1.heap.size, 0, none⟩ = some (.slice none 0 0) := BO.out.cell 0
    have kO1 : y5.cell? ⟨u1.heap.size, 1, none⟩ = some (.slice none 0 0) := BO.out.cell 1
    have kO2 : y5.cell? ⟨u1.heap.size, 2, none⟩ = some (.slice none 0 0) := BO.out.cell 2
    have kO3 : y5.cell? ⟨u1.heap.size, 3, none⟩ = some (.slice none 0 0) := BO.out.cell 3
    have fO := BO.out.frozen
    have lO := BO.out.lt
    (try go_wp2_with fail)
    refine hK.out _ _ ?_ (fun hh5 => ?_)
    · (try dsimp only); refine HK.out _ ?_; (repeat (first | exact gg | refine Grows.drew ?_ | refine Grows.drewN ?_ _ | refine Grows.alloc ?_ _ | refine Grows.setCell ?_ (by simp; omega) _))
    clear hK K hh4
    try simp only [Act.put, List.setIfInBounds_toArray, List.set_cons_zero, List.set_cons_succ]
    refine regTake 16 (v := ?_) ?_ hh5 ?_
    rotate_left
    · intro w hw; (try dsimp only at hw); go_simp; (try with_reducible rfl)
    try simp only [Act.put, List.setIfInBounds_toArray, List.set_cons_zero, List.set_cons_succ]
    refine regCall 18 (fun K hK => ?_)
    go_simp
    have cset : Chg [u1.heap.size] y5 ((((y5.setCell ⟨u1.heap.size, 0, none⟩ (.slice A1 xs1.length c1)).setCell ⟨u1.heap.size, 1, none⟩ (.slice A2 xs2.length c2)).setCell ⟨u1.heap.size, 2, none⟩ (.slice A3 xs3.length c3)).setCell ⟨u1.heap.size, 3, none⟩ (.slice A4 xs4.length c4)) := ((((Chg.refl _ _).setCell (by simp) _).setCell (by simp) _).setCell (by simp) _).setCell (by simp) _
    replace BO := hideIt (((((BO.out).set_ 0 (.slice A1 xs1.length c1)).set_ 1 (.slice A2 xs2.length c2)).set_ 2 (.slice A3 xs3.length c3)).set_ 3 (.slice A4 xs4.length c4))
    replace O1 := hideIt (OInts.chg O1.out cset (fun q hq hm => by have := W1.out.2 q hq; simp at hm; omega))
    replace O2 := hideIt (OInts.chg O2.out cset (fun q hq hm => by have := W2.out.2 q hq; simp at hm; omega))
    replace O3 := hideIt (OInts.chg O3.out cset (fun q hq hm => by have := W3.out.2 q hq; simp at hm; omega))
    replace O4 := hideIt (OInts.chg O4.out cset (fun q hq hm => by have := W4.out.2 q hq; simp at hm; omega))
    replace gg : Grows u1 ((((y5.setCell ⟨u1.heap.size, 0, none⟩ (.slice A1 xs1.length c1)).setCell ⟨u1.heap.size, 1, none⟩ (.slice A2 xs2.length c2)).setCell ⟨u1.heap.size, 2, none⟩ (.slice A3 xs3.length c3)).setCell ⟨u1.heap.size, 3, none⟩ (.slice A4 xs4.length c4)) := Grows.chg gg cset (fun q hq => by simp at hq; omega)
    have sz6 := cset.size
    generalize (((y5.setCell ⟨u1.heap.size, 0, none⟩ (.slice A1 xs1.length c1)).setCell ⟨u1.heap.size, 1, none⟩ (.slice A2 xs2.length c2)).setCell ⟨u1.heap.size, 2, none⟩ (.slice A3 xs3.length c3)).setCell ⟨u1.heap.size, 3, none⟩ (.slice A4 xs4.length c4) = y6 at cset BO O1 O2 O3 O4 gg sz6 ⊢
    clear kO0 kO1 kO2 kO3 fO lO cset
    (try go_wp2_with fail)
    refine hK.out _ _ ?_ (fun hh6 => ?_)
    · (try dsimp only); refine HK.out _ ?_; (repeat (first | exact gg | refine Grows.drew ?_ | refine Grows.drewN ?_ _ | refine Grows.alloc ?_ _ | refine Grows.setCell ?_ (by simp; omega) _))
    clear hK K hh5
    try simp only [Act.put, List.setIfInBounds_toArray, List.set_cons_zero, List.set_cons_succ]
    refine wpAnyH_done (by kernel_rfl) ?_ _
    clear hh6 HK
    have kV0 : y6.cell? ⟨u1.heap.size, 0, none⟩ = some (.slice A1 xs1.length c1) := BO.out.cell 0
    have kV1 : y6.cell? ⟨u1.heap.size, 1, none⟩ = some (.slice A2 xs2.length c2) := BO.out.cell 1
    have kV2 : y6.cell? ⟨u1.heap.size, 2, none⟩ = some (.slice A3 xs3.length c3) := BO.out.cell 2
    have kV3 : y6.cell? ⟨u1.heap.size, 3, none⟩ = some (.slice A4 xs4.length c4) := BO.out.cell 3
    have fV := BO.out.frozen
    have lV := BO.out.lt
    have RD : Hid (RWire y6 [.slice A1 xs1.length c1, .slice A2 xs2.length c2, .slice A3 xs3.length c3, .slice A4 xs4.length c4] ⟨xs1, xs2, xs3, xs4⟩) := hideIt ⟨_, _, _, _, rfl, OInts.reads O1.out, OInts.reads O2.out, OInts.reads O3.out, OInts.reads O4.out⟩
    have PT : Hid (∀ u, wireB u k = true → s.data.toList = wireL u → u = ⟨xs1, xs2, xs3, xs4⟩) := hideIt (fun u hu e => wire_of PS.out U1.out U2.out U3.out U4.out hu e)
    have len4 : xs4.length ≤ 1048577 := by have := LN4.out; omega
    go_wp2_with fail
    clear kV0 kV1 kV2 kV3 fV lV
    refine (sWText_any k _ RD.out len4).mono ?_
    rintro e y7 ⟨rfl, g_⟩
    have R5 := hideIt (R.out.grows (gg.trans g_))
    have GF := hideIt ((GA.out.trans gg).trans g_)
    have T5 := hideIt (BO.out.grows g_)
    replace O1 := hideIt (OInts.chg (cs := []) O1.out (Chg.of_grows g_) (fun _ _ h => by cases h))
    replace O2 := hideIt (OInts.chg (cs := []) O2.out (Chg.of_grows g_) (fun _ _ h => by cases h))
    replace O3 := hideIt (OInts.chg (cs := []) O3.out (Chg.of_grows g_) (fun _ _ h => by cases h))
    replace O4 := hideIt (OInts.chg (cs := []) O4.out (Chg.of_grows g_) (fun _ _ h => by cases h))
    have sz7 := g_.size
    clear g_ RD len4
    have kV0 : y7.cell? ⟨u1.heap.size, 0, none⟩ = some (.slice A1 xs1.length c1) := T5.out.cell 0
    have kV1 : y7.cell? ⟨u1.heap.size, 1, none⟩ = some (.slice A2 xs2.length c2) := T5.out.cell 1
    have kV2 : y7.cell? ⟨u1.heap.size, 2, none⟩ = some (.slice A3 xs3.length c3) := T5.out.cell 2
    have kV3 : y7.cell? ⟨u1.heap.size, 3, none⟩ = some (.slice A4 xs4.length c4) := T5.out.cell 3
    have fV := T5.out.frozen
    have lV := T5.out.lt
    have kR0 := R5.out.cell 0
    have kR1 := R5.out.cell 1
    have kR2 := R5.out.cell 2
    have kR3 := R5.out.cell 3
    simp at kR0 kR1 kR2 kR3
    have fR := R5.out.frozen
    have lR := R5.out.lt
    by_cases hf : wtextB ⟨xs1, xs2, xs3, xs4⟩ k = s
    · have PY : Hid (RW s k ⟨xs1, xs2, xs3, xs4⟩ true) := hideIt (wtext_yes hf PS.out)
      have hee : ((wtextB ⟨xs1, xs2, xs3, xs4⟩ k).toList == s.toList) = true := by rw [hf]; exact beq_self_eq_true _
      clear hf
      go_wp2
      refine bodyPost_ret (by simp [*, results, Tryd.results20, go_sem]; try rfl) rfl ?_
      have key : ∀ w9, Chg [w.heap.size] y7 w9 → Grows w w9 → ReadWPost s k w (.returned (.tuple #[.agg #[.slice A1 xs1.length c1, .slice A2 xs2.length c2, .slice A3 xs3.length c3, .slice A4 xs4.length c4], .bool true])) w9 := fun w9 c9 h9 =>
        ReadWPost.yes (lo := y1.heap.size) (m1 := y2.heap.size) (m2 := y3.heap.size) (m3 := y4.heap.size) (by omega) (by omega) (by omega) (by omega) (by have := c9.size; omega)
          (OInts.chg O1.out c9 (fun q hq => by have := W1.out.2 q hq; simp; omega)) (OInts.chg O2.out c9 (fun q hq => by have := W2.out.2 q hq; simp; omega)) (OInts.chg O3.out c9 (fun q hq => by have := W3.out.2 q hq; simp; omega)) (OInts.chg O4.out c9 (fun q hq => by have := W4.out.2 q hq; simp; omega))
          (W1.out.mono (Nat.le_refl _) (by omega)) (W2.out.mono (Nat.le_refl _) (by omega)) (W3.out.mono (Nat.le_refl _) (by omega)) (W4.out.mono (Nat.le_refl _) (by have := c9.size; omega)) PY.out h9
      refine key _ ?_ ?_
      · repeat (first | exact Chg.refl _ _ | refine Chg.drew ?_ | refine Chg.setCell ?_ (by simp) _)
      · repeat (first | exact GF.out | refine Grows.drew ?_ | refine Grows.setCell ?_ (by simp) _)
    · have PN : Hid (RW s k ⟨[], [], [], []⟩ false) := hideIt (wtext_no hf PT.out)
      have hd := strDif hf
      clear hf
      go_wp2
      refine bodyPost_ret (by simp [*, results, Tryd.results20, go_sem]; try rfl) rfl ?_
      exact .no PN.out (by repeat (first | exact GF.out | refine Grows.drew ?_ | refine Grows.setCell ?_ (by simp) _))
end Go.Proofs.YtgglgghlndhfbaaDoor
