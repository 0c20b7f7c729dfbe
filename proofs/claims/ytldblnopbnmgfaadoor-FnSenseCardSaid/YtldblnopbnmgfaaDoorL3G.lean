/-
  DrawSenseOf: a cell, its truth perhaps drawn anew, and an input's number.
-/
import Derived.Test.YtldblnopbnmgfaaDoorL3F
namespace Go.Proofs.YtldblnopbnmgfaaDoor
open Go.RowKit
theorem ownsRow_set {w : World} {base g c n : Nat} {t : TypeId} {xs : List Value} (h : w.ownsRow base t 1 (.slice (some ⟨g, 0, none⟩) n c) n xs) (i : Nat) (v : Value) : (w.setCell ⟨g, i, none⟩ v).ownsRow base t 1 (.slice (some ⟨g, 0, none⟩) n c) n (xs.set i v) := by
  obtain ⟨hl, ⟨e, _⟩ | ⟨g', c', cur, e, hb, hg, h1, h2, h3, h4⟩⟩ := h
  · cases e
  · injection e with e1 e2 e3
    injection e1 with e1
    injection e1 with e1
    subst e1 e3
    have hB : Blk w g t cur := hg
    refine ⟨by rw [List.length_set]; exact hl, .inr ⟨g, c, cur.setIfInBounds i v, rfl, hb, hB.set_ i v, h1, h2, by simpa using h3, ?_⟩⟩
    rw [Array.toList_setIfInBounds, List.take_set, h4]
theorem ownsRow_at {w : World} {base n : Nat} {t : TypeId} {v : Value} {xs : List Value} (h : w.ownsRow base t 1 v n xs) (hn : 1 ≤ n) : ∃ g c : Nat, v = .slice (some ⟨g, 0, none⟩) n c ∧ n ≤ c ∧ c ≤ maxLen ∧ g < w.heap.size ∧ (∀ o, w.frozen? ⟨g, o, none⟩ = false) ∧ ∀ (j : Nat) (u : Value), xs[j]? = some u → w.cell? ⟨g, j, none⟩ = some u := by
  obtain ⟨hl, ⟨_, h0⟩ | ⟨g, c, cur, rfl, hb, hg, h1, h2, h3, h4⟩⟩ := h
  · omega
  · have hB : Blk w g t cur := hg
    refine ⟨g, c, rfl, h1, h2, hB.lt, hB.frozen, fun j u hu => ?_⟩
    rw [hB.cell]
    rw [← h4, List.getElem?_take] at hu
    split at hu
    · simpa using hu
    · cases hu
theorem CellW.imp' {Q Q' : Nat → Prop} {w : World} {x : CellD} {vp va vt : Value} (h : CellW Q w x vp va vt) (hq : ∀ g, g < w.heap.size → Q g → Q' g) : CellW Q' w x vp va vt := by
  obtain ⟨bs, hs, hb, ht, hr⟩ := h
  exact ⟨bs, hs, fun g hg => ⟨hq g (hb g hg).2.1 (hb g hg).1, (hb g hg).2⟩, ⟨ht.1, fun k e => hq k (ht.1.lt k e).2 (ht.2 k e)⟩, hr⟩
theorem CellW.setTruth {Q : Nat → Prop} {w : World} {x : CellD} {vp va : Value} {g c : Nat} (h : CellW Q w x vp va (.slice (some ⟨g, 0, none⟩) x.truth.length c)) (i : Nat) (z : Int) : CellW Q (w.setCell ⟨g, i, none⟩ (.int .i64 z)) { x with truth := x.truth.set i z } vp va (.slice (some ⟨g, 0, none⟩) x.truth.length c) := by
  obtain ⟨bs, hs, hb, ht, hr⟩ := h
  have hc : Chg [g] w (w.setCell ⟨g, i, none⟩ (.int .i64 z)) := (Chg.refl _ _).setCell (by simp) _
  have hv : (Value.slice (some ⟨g, 0, none⟩) x.truth.length c).ownBlock = some g := rfl
  refine ⟨bs, hs.same (hc.same (fun q hq => (hb q hq).2.1) (fun q hq hm => ?_)), fun q hq => ⟨(hb q hq).1, Nat.lt_of_lt_of_le (hb q hq).2.1 hc.size, (hb q hq).2.2⟩, ⟨?_, ht.2⟩, ⟨hr.1.1, hr.1.2.1, hr.1.2.2.1, by have := hr.1.2.2.2; unfold SmL at this ⊢; simpa using this⟩, hr.2⟩
  · simp at hm
    subst hm
    exact (hb q hq).2.2 hv
  · have := ownsRow_set ht.1 i (.int .i64 z)
    simpa [List.map_set] using this
/-- a cell and an input's number -/
def SensePost (w : World) (e : Ending) (w' : World) : Prop :=
  ∃ (A1 : Option Addr) (n1 : Nat) (A2 : Option Addr) (n2 : Nat) (A3 : Option Addr) (n3 : Nat) (x : CellD) (pin : Int), e = .returned (.tuple #[.agg #[.string x.name, .int .i64 x.kind, .slice A1 x.pins.length n1, .slice A2 x.arcs.length n2, .slice A3 x.truth.length n3, .int .i64 x.leak, .int .i64 x.energy], .int .i64 pin]) ∧ RCell w' [.string x.name, .int .i64 x.kind, .slice A1 x.pins.length n1, .slice A2 x.arcs.length n2, .slice A3 x.truth.length n3, .int .i64 x.leak, .int .i64 x.energy] x ∧ x.pins.length ≤ 5 ∧ (-10 ≤ pin ∧ pin ≤ 10) ∧ Grows w w'
set_option maxHeartbeats 16000000 in
set_option maxRecDepth 10000 in
theorem drawSenseOf_any {v : Value} {xs : List Int} {w : World} (hx : RBytes w v xs) : Calls Tryd.prog 5 #[v] w (SensePost w) := by
  have HX := hideIt hx
  clear hx
  have R0 := hideIt (Blk.new w 28 #[.string .empty, .int .i64 0, .slice none 0 0, .slice none 0 0, .slice none 0 0, .int .i64 0, .int .i64 0])
  go_enter Tryd.func5, Tryd.ntmps5
  go_wp2_with fail
  refine (l01From_at HX.out ((Grows.refl w).alloc (.cells #[.string .empty, .int .i64 0, .slice none 0 0, .slice none 0 0, .slice none 0 0, .int .i64 0, .int .i64 0] 28))).mono ?_
  rintro e u0 ⟨b, rfl, h_, hb_, g_⟩
  have HB : Hid (w.heap.size + 1 ≤ b) := hideIt (by simpa using hb_)
  have HS := hideIt h_
  have LB : Hid (b < u0.heap.size) := hideIt h_.ge.2.2
  have KR := hideIt (R0.out.grows g_)
  clear h_ hb_ g_ R0
  have NR : Hid (w.heap.size ∉ [b]) := hideIt (by have := HB.out; simp; omega)
  go_wp2_with fail
  refine (l03DrawAny_any (w0 := w) HS.out).mono ?_
  rintro e u1 ⟨A1, n1, A2, n2, A3, n3, x, rfl, cw, h_, c_⟩
  replace HS := hideIt h_
  replace KR := hideIt (KR.out.chg c_ NR.out)
  have S1 : Hid (u0.heap.size ≤ u1.heap.size) := hideIt c_.size
  have NB : Hid (u1.heap.size ∉ [b]) := hideIt (by have := LB.out; have := S1.out; simp; omega)
  have CW := hideIt (cw.imp' (Q' := (fun q => u0.heap.size ≤ q ∧ q ≠ u1.heap.size)) (fun g hl hq => ⟨hq, by omega⟩))
  clear cw h_ c_
  go_upto_region 3 with fail
  refine at_c (fun u => SrcAt w u b ∧ Blk u w.heap.size 28 #[.string .empty, .int .i64 0, .slice none 0 0, .slice none 0 0, .slice none 0 0, .int .i64 0, .int .i64 0] ∧ Blk u u1.heap.size 28 #[.string x.name, .int .i64 x.kind, .slice A1 x.pins.length n1, .slice A2 x.arcs.length n2, .slice A3 x.truth.length n3, .int .i64 x.leak, .int .i64 x.energy] ∧ CellW (fun q => u0.heap.size ≤ q ∧ q ≠ u1.heap.size) u x (.slice A1 x.pins.length n1) (.slice A2 x.arcs.length n2) (.slice A3 x.truth.length n3)) ⟨HS.out.alloc _, KR.out.grows ((Grows.refl _).alloc _), Blk.new _ _ _, CW.out.next (Chg.of_grows (bs := []) ((Grows.refl _).alloc _)) (by simp)⟩ (fun u2 hu => ?_)
  obtain ⟨s2, r2, b2, w2⟩ := hu
  have NQ : Hid (∀ q ∈ [b], ¬ (fun q => u0.heap.size ≤ q ∧ q ≠ u1.heap.size) q) := hideIt (fun q hq => by simp at hq; subst hq; intro h; have := h.1; have := LB.out; omega)
  have NW : Hid (∀ q ∈ [u1.heap.size], ¬ (fun q => u0.heap.size ≤ q ∧ q ≠ u1.heap.size) q) := hideIt (fun q hq => by simp at hq; subst hq; intro h; exact h.2 rfl)
  have RW : Hid (w.heap.size < u0.heap.size) := hideIt (by have := HB.out; have := LB.out; omega)
  replace HS := hideIt s2
  replace KR := hideIt r2
  have KB := hideIt b2
  replace CW := hideIt w2
  clear s2 r2 b2 w2
  have fB := KB.out.frozen
  have lB := KB.out.lt
  have k0 := KB.out.cell 0
  have k1 := KB.out.cell 1
  have k2 := KB.out.cell 2
  have k3 := KB.out.cell 3
  have k4 := KB.out.cell 4
  have k5 := KB.out.cell 5
  have k6 := KB.out.cell 6
  simp at k0 k1 k2 k3 k4 k5 k6
  by_cases hk : x.kind = 1
  rotate_left
  · have hk2 : (x.kind == 1) = false := by simpa using hk
    go_upto_region 8 with fail
    have LC : Hid (∀ w', Chg [b, w.heap.size] u2 w' → w'.cell? ⟨u1.heap.size, 0, none⟩ = some (.string x.name) ∧ w'.cell? ⟨u1.heap.size, 1, none⟩ = some (.int .i64 x.kind) ∧ w'.cell? ⟨u1.heap.size, 2, none⟩ = some (.slice A1 x.pins.length n1) ∧ w'.cell? ⟨u1.heap.size, 3, none⟩ = some (.slice A2 x.arcs.length n2) ∧ w'.cell? ⟨u1.heap.size, 4, none⟩ = some (.slice A3 x.truth.length n3) ∧ w'.cell? ⟨u1.heap.size, 5, none⟩ = some (.int .i64 x.leak) ∧ w'.cell? ⟨u1.heap.size, 6, none⟩ = some (.int .i64 x.energy)) := hideIt (fun w' c => by
      have hg : u1.heap.size ∉ [b, w.heap.size] := by have := RW.out; have := S1.out; have := LB.out; simp; omega
      exact ⟨by simpa using c.cell k0 hg, c.cell k1 hg, c.cell k2 hg, c.cell k3 hg, c.cell k4 hg, c.cell k5 hg, c.cell k6 hg⟩)
    clear fB lB k0 k1 k2 k3 k4 k5 k6
    refine wp_region_held_drew (S := (fun w' => Chg [b, w.heap.size] u2 w')) (by kernel_rfl) ?_ (fun hh0 => ?_)
    · (try dsimp only); (repeat with_reducible (first | exact gg | exact Chg.refl _ _ | refine Chg.drew ?_ | refine Chg.alloc ?_ _ | refine Chg.setCell ?_ (by simp) _))
    refine regTake 0 (v := .agg #[.string x.name, .int .i64 x.kind, .slice A1 x.pins.length n1, .slice A2 x.arcs.length n2, .slice A3 x.truth.length n3, .int .i64 x.leak, .int .i64 x.energy]) (fun w hw => ?_) hh0 ?_
    · have k0 := LC.out w hw
      obtain ⟨k0, k1, k2, k3, k4, k5, k6⟩ := k0
      go_simp
    try simp only [Act.put, List.setIfInBounds_toArray, List.set_cons_zero, List.set_cons_succ]
    refine regTk 1 hh0 ?_
    refine regTk 3 hh0 ?_
    refine regCall 2 (fun K hK => ?_)
    go_simp
    refine (l01Next_any (w0 := w) 5 HS.out.drew).mono ?_
    rintro e u8 ⟨pa, rfl, paa, pab, h_, c_⟩
    have gg : Chg [b, w.heap.size] u2 u8 := ((Chg.refl _ _).drew).trans (c_.mono (by simp))
    have cb : Hid (Chg [b] u2 u8) := hideIt (((Chg.refl _ _).drew).trans c_)
    have HS8 := hideIt h_
    have pac := pab (by omega)
    clear h_ c_ pab
    (try go_wp2_with fail)
    refine hK.out _ _ ?_ (fun hh1 => ?_)
    · (try dsimp only); (repeat with_reducible (first | exact gg | exact Chg.refl _ _ | refine Chg.drew ?_ | refine Chg.alloc ?_ _ | refine Chg.setCell ?_ (by simp) _))
    clear hK K hh0
    try simp only [Act.put, List.setIfInBounds_toArray, List.set_cons_zero, List.set_cons_succ]
    refine regCall 4 (fun K hK => ?_)
    go_simp
    refine (l01Next_any (w0 := w) 2 HS8.out).mono ?_
    rintro e u9 ⟨pb, rfl, pba, pbb, h_, c_⟩
    have gg : Chg [b, w.heap.size] u2 u9 := gg.trans (c_.mono (by simp))
    have cb9 : Hid (Chg [b] u2 u9) := hideIt (cb.out.trans c_)
    have HS9 := hideIt h_
    have pbc := pbb (by omega)
    have ew : IntKind.i64.wrap (pa - pb) = pa - pb := IntWalk.i64_in _ (by omega)
    have KR9 := hideIt (KR.out.chg cb9.out NR.out)
    clear h_ c_ pbb
    have fR := KR9.out.frozen
    have lR := KR9.out.lt
    have y0 := KR9.out.cell 0
    have y1 := KR9.out.cell 1
    have y2 := KR9.out.cell 2
    have y3 := KR9.out.cell 3
    have y4 := KR9.out.cell 4
    have y5 := KR9.out.cell 5
    have y6 := KR9.out.cell 6
    simp at y0 y1 y2 y3 y4 y5 y6
    (try go_wp2_with fail)
    refine hK.out _ _ ?_ (fun hh2 => ?_)
    · (try dsimp only); (repeat with_reducible (first | exact gg | exact Chg.refl _ _ | refine Chg.drew ?_ | refine Chg.alloc ?_ _ | refine Chg.setCell ?_ (by simp) _))
    clear hK K hh1
    try simp only [Act.put, List.setIfInBounds_toArray, List.set_cons_zero, List.set_cons_succ]
    refine regTk 5 hh2 ?_
    refine regCall 6 (fun K hK => ?_)
    go_simp
    (try go_wp2_with fail)
    refine hK.out _ _ ?_ (fun hh3 => ?_)
    · (try dsimp only); (repeat with_reducible (first | exact gg | exact Chg.refl _ _ | refine Chg.drew ?_ | refine Chg.alloc ?_ _ | refine Chg.setCell ?_ (by simp) _))
    clear hK K hh2
    try simp only [Act.put, List.setIfInBounds_toArray, List.set_cons_zero, List.set_cons_succ]
    refine regTk 7 hh3 ?_
    refine wpAnyH_done (by kernel_rfl) ?_ _
    clear hh3
    go_wp2
    refine bodyPost_ret (by simp [*, results, Tryd.results5, go_sem]; try rfl) rfl ?_
    have key : ∀ w9, Chg [w.heap.size] u9 w9 → SensePost w (.returned (.tuple #[.agg #[.string x.name, .int .i64 x.kind, .slice A1 x.pins.length n1, .slice A2 x.arcs.length n2, .slice A3 x.truth.length n3, .int .i64 x.leak, .int .i64 x.energy], .int .i64 (pa - pb)])) w9 := fun w9 c9 => by
      have h9 := (CW.out.next cb9.out NQ.out).next c9 (by simp; intro h; have := RW.out; omega)
      exact ⟨A1, n1, A2, n2, A3, n3, x, _, rfl, h9.reads, h9.choose_spec.2.2.2.2, by omega, HS9.out.ge.2.1.chg c9 (by simp)⟩
    refine key _ ?_
    repeat with_reducible (first | exact Chg.refl _ _ | refine Chg.setCell ?_ (by simp) _)
  have hk2 : (x.kind == 1) = true := by simpa using hk
  clear hk
  go_wp2_with fail
  refine (l01Next_any (w0 := w) 2 HS.out).mono ?_
  rintro e u3 ⟨q, rfl, qa, qb, h_, c_⟩
  replace HS := hideIt h_
  replace KR := hideIt (KR.out.chg c_ NR.out)
  replace KB := hideIt (KB.out.chg c_ NB.out)
  replace CW := hideIt (CW.out.next c_ NQ.out)
  have qc := qb (by omega)
  clear h_ c_ qb
  clear fB lB k0 k1 k2 k3 k4 k5 k6
  have fB := KB.out.frozen
  have lB := KB.out.lt
  have k0 := KB.out.cell 0
  have k1 := KB.out.cell 1
  have k2 := KB.out.cell 2
  have k3 := KB.out.cell 3
  have k4 := KB.out.cell 4
  have k5 := KB.out.cell 5
  have k6 := KB.out.cell 6
  simp at k0 k1 k2 k3 k4 k5 k6
  by_cases hq : q = 0
  rotate_left
  · have hq2 : (q == 0) = false := by simpa using hq
    go_upto_region 8 with fail
    have LC : Hid (∀ w', Chg [b, w.heap.size] u3 w' → w'.cell? ⟨u1.heap.size, 0, none⟩ = some (.string x.name) ∧ w'.cell? ⟨u1.heap.size, 1, none⟩ = some (.int .i64 x.kind) ∧ w'.cell? ⟨u1.heap.size, 2, none⟩ = some (.slice A1 x.pins.length n1) ∧ w'.cell? ⟨u1.heap.size, 3, none⟩ = some (.slice A2 x.arcs.length n2) ∧ w'.cell? ⟨u1.heap.size, 4, none⟩ = some (.slice A3 x.truth.length n3) ∧ w'.cell? ⟨u1.heap.size, 5, none⟩ = some (.int .i64 x.leak) ∧ w'.cell? ⟨u1.heap.size, 6, none⟩ = some (.int .i64 x.energy)) := hideIt (fun w' c => by
      have hg : u1.heap.size ∉ [b, w.heap.size] := by have := RW.out; have := S1.out; have := LB.out; simp; omega
      exact ⟨by simpa using c.cell k0 hg, c.cell k1 hg, c.cell k2 hg, c.cell k3 hg, c.cell k4 hg, c.cell k5 hg, c.cell k6 hg⟩)
    clear fB lB k0 k1 k2 k3 k4 k5 k6
    refine wp_region_held_drew (S := (fun w' => Chg [b, w.heap.size] u3 w')) (by kernel_rfl) ?_ (fun hh0 => ?_)
    · (try dsimp only); (repeat with_reducible (first | exact gg | exact Chg.refl _ _ | refine Chg.drew ?_ | refine Chg.alloc ?_ _ | refine Chg.setCell ?_ (by simp) _))
    refine regTake 0 (v := .agg #[.string x.name, .int .i64 x.kind, .slice A1 x.pins.length n1, .slice A2 x.arcs.length n2, .slice A3 x.truth.length n3, .int .i64 x.leak, .int .i64 x.energy]) (fun w hw => ?_) hh0 ?_
    · have k0 := LC.out w hw
      obtain ⟨k0, k1, k2, k3, k4, k5, k6⟩ := k0
      go_simp
    try simp only [Act.put, List.setIfInBounds_toArray, List.set_cons_zero, List.set_cons_succ]
    refine regTk 1 hh0 ?_
    refine regTk 3 hh0 ?_
    refine regCall 2 (fun K hK => ?_)
    go_simp
    refine (l01Next_any (w0 := w) 5 HS.out.drew).mono ?_
    rintro e u8 ⟨pa, rfl, paa, pab, h_, c_⟩
    have gg : Chg [b, w.heap.size] u3 u8 := ((Chg.refl _ _).drew).trans (c_.mono (by simp))
    have cb : Hid (Chg [b] u3 u8) := hideIt (((Chg.refl _ _).drew).trans c_)
    have HS8 := hideIt h_
    have pac := pab (by omega)
    clear h_ c_ pab
    (try go_wp2_with fail)
    refine hK.out _ _ ?_ (fun hh1 => ?_)
    · (try dsimp only); (repeat with_reducible (first | exact gg | exact Chg.refl _ _ | refine Chg.drew ?_ | refine Chg.alloc ?_ _ | refine Chg.setCell ?_ (by simp) _))
    clear hK K hh0
    try simp only [Act.put, List.setIfInBounds_toArray, List.set_cons_zero, List.set_cons_succ]
    refine regCall 4 (fun K hK => ?_)
    go_simp
    refine (l01Next_any (w0 := w) 2 HS8.out).mono ?_
    rintro e u9 ⟨pb, rfl, pba, pbb, h_, c_⟩
    have gg : Chg [b, w.heap.size] u3 u9 := gg.trans (c_.mono (by simp))
    have cb9 : Hid (Chg [b] u3 u9) := hideIt (cb.out.trans c_)
    have HS9 := hideIt h_
    have pbc := pbb (by omega)
    have ew : IntKind.i64.wrap (pa - pb) = pa - pb := IntWalk.i64_in _ (by omega)
    have KR9 := hideIt (KR.out.chg cb9.out NR.out)
    clear h_ c_ pbb
    have fR := KR9.out.frozen
    have lR := KR9.out.lt
    have y0 := KR9.out.cell 0
    have y1 := KR9.out.cell 1
    have y2 := KR9.out.cell 2
    have y3 := KR9.out.cell 3
    have y4 := KR9.out.cell 4
    have y5 := KR9.out.cell 5
    have y6 := KR9.out.cell 6
    simp at y0 y1 y2 y3 y4 y5 y6
    (try go_wp2_with fail)
    refine hK.out _ _ ?_ (fun hh2 => ?_)
    · (try dsimp only); (repeat with_reducible (first | exact gg | exact Chg.refl _ _ | refine Chg.drew ?_ | refine Chg.alloc ?_ _ | refine Chg.setCell ?_ (by simp) _))
    clear hK K hh1
    try simp only [Act.put, List.setIfInBounds_toArray, List.set_cons_zero, List.set_cons_succ]
    refine regTk 5 hh2 ?_
    refine regCall 6 (fun K hK => ?_)
    go_simp
    (try go_wp2_with fail)
    refine hK.out _ _ ?_ (fun hh3 => ?_)
    · (try dsimp only); (repeat with_reducible (first | exact gg | exact Chg.refl _ _ | refine Chg.drew ?_ | refine Chg.alloc ?_ _ | refine Chg.setCell ?_ (by simp) _))
    clear hK K hh2
    try simp only [Act.put, List.setIfInBounds_toArray, List.set_cons_zero, List.set_cons_succ]
    refine regTk 7 hh3 ?_
    refine wpAnyH_done (by kernel_rfl) ?_ _
    clear hh3
    go_wp2
    refine bodyPost_ret (by simp [*, results, Tryd.results5, go_sem]; try rfl) rfl ?_
    have key : ∀ w9, Chg [w.heap.size] u9 w9 → SensePost w (.returned (.tuple #[.agg #[.string x.name, .int .i64 x.kind, .slice A1 x.pins.length n1, .slice A2 x.arcs.length n2, .slice A3 x.truth.length n3, .int .i64 x.leak, .int .i64 x.energy], .int .i64 (pa - pb)])) w9 := fun w9 c9 => by
      have h9 := (CW.out.next cb9.out NQ.out).next c9 (by simp; intro h; have := RW.out; omega)
      exact ⟨A1, n1, A2, n2, A3, n3, x, _, rfl, h9.reads, h9.choose_spec.2.2.2.2, by omega, HS9.out.ge.2.1.chg c9 (by simp)⟩
    refine key _ ?_
    repeat with_reducible (first | exact Chg.refl _ _ | refine Chg.setCell ?_ (by simp) _)
  subst hq
  clear hk2 qa qc
  go_wp2
  go_loopw [6] (fun i wr => ∃ (k : Nat) (T : List Int), i = .int .i64 (k : Int) ∧ k ≤ x.truth.length ∧ Hid (T.length = x.truth.length) ∧ Hid (SrcAt w wr b) ∧ Hid (Blk wr w.heap.size 28 #[.string .empty, .int .i64 0, .slice none 0 0, .slice none 0 0, .slice none 0 0, .int .i64 0, .int .i64 0]) ∧ Hid (Blk wr u1.heap.size 28 #[.string x.name, .int .i64 x.kind, .slice A1 x.pins.length n1, .slice A2 x.arcs.length n2, .slice A3 x.truth.length n3, .int .i64 x.leak, .int .i64 x.energy]) ∧ Hid (CellW (fun q => u0.heap.size ≤ q ∧ q ≠ u1.heap.size) wr { x with truth := T } (.slice A1 x.pins.length n1) (.slice A2 x.arcs.length n2) (.slice A3 x.truth.length n3))) (fun i _ => x.truth.length - (intOf i).toNat)
  case atStart => exact ⟨0, x.truth, rfl, Nat.zero_le _, hideIt rfl, HS, KR, KB, CW⟩
  case round =>
    clear HS KR KB CW fB lB k0 k1 k2 k3 k4 k5 k6
    obtain ⟨k, T, rfl, hk, TL, HS, KR, KB, CW⟩ := hrel
    have fB := KB.out.frozen
    have lB := KB.out.lt
    have k0 := KB.out.cell 0
    have k1 := KB.out.cell 1
    have k2 := KB.out.cell 2
    have k3 := KB.out.cell 3
    have k4 := KB.out.cell 4
    have k5 := KB.out.cell 5
    have k6 := KB.out.cell 6
    simp at k0 k1 k2 k3 k4 k5 k6
    have zs : (x.truth.length : Int) ≤ 9223372036854775807 := by have h9 : T.length ≤ 1048576 := CW.out.choose_spec.2.2.2.1.2.2.2; have := TL.out; omega
    by_cases hlt : k < x.truth.length
    · obtain ⟨gt, ct, ev, -⟩ := ownsRow_at CW.out.choose_spec.2.2.1.1 (by have := TL.out; dsimp only; omega)
      have ev1 : A3 = some ⟨gt, 0, none⟩ := by injection ev
      subst ev1
      clear ev
      have hki : (k : Int) < (x.truth.length : Int) := by omega
      have gtq : u0.heap.size ≤ gt ∧ gt ≠ u1.heap.size := CW.out.choose_spec.2.2.1.2 gt rfl
      have GQ := hideIt gtq
      clear gtq
      have HK : Hid (∀ w', Chg [b, gt] wr w' → w'.cell? ⟨u1.heap.size, 4, none⟩ = some (.slice (some ⟨gt, 0, none⟩) x.truth.length n3)) := hideIt (fun w' c => c.cell k4 (by have := GQ.out; have := S1.out; have := LB.out; simp; omega))
      go_upto_region 7 with fail
      refine wp_region_held_drew (S := (fun w' => w'.cell? ⟨u1.heap.size, 4, none⟩ = some (.slice (some ⟨gt, 0, none⟩) x.truth.length n3))) (by kernel_rfl) ?_ (fun hh0 => ?_)
      · (try dsimp only); refine HK.out _ ?_; (repeat with_reducible (first | exact gg | exact Chg.refl _ _ | refine Chg.drew ?_ | refine Chg.alloc ?_ _ | refine Chg.setCell ?_ (by simp) _))
      refine regTk 0 hh0 ?_
      refine regTk 1 hh0 ?_
      refine regTk 2 hh0 ?_
      refine regTk 3 hh0 ?_
      refine regCall 4 (fun K hK => ?_)
      go_simp
      refine (l01Next_any (w0 := w) 2 HS.out.drew).mono ?_
      rintro e u5 ⟨r, rfl, ra, rb, h_, c_⟩
      have gg : Chg [b, gt] wr u5 := ((Chg.refl _ _).drew).trans (c_.mono (by simp))
      have cb := ((Chg.refl [b] wr).drew).trans c_
      replace HS := hideIt h_
      replace KR := hideIt (KR.out.chg cb NR.out)
      replace KB := hideIt (KB.out.chg cb NB.out)
      replace CW := hideIt (CW.out.next cb NQ.out)
      obtain ⟨g9, c9, ev, -, -, lg, fg, cg⟩ := ownsRow_at CW.out.choose_spec.2.2.1.1 (by have := TL.out; dsimp only; omega)
      have ev1 : gt = g9 := by injection ev with q1; injection q1 with q1; injection q1
      subst ev1
      obtain ⟨y, hy⟩ : ∃ y, T[k]? = some y := ⟨_, List.getElem?_eq_getElem (by have := TL.out; omega)⟩
      have cgk := cg k (.int .i64 y) (by rw [List.getElem?_map, hy]; rfl)
      clear cb h_ c_ ev cg hy rb
      (try go_wp2_with fail)
      refine hK.out _ _ ?_ (fun hh1 => ?_)
      · (try dsimp only); refine HK.out _ ?_; (repeat with_reducible (first | exact gg | exact Chg.refl _ _ | refine Chg.drew ?_ | refine Chg.alloc ?_ _ | refine Chg.setCell ?_ (by simp) _))
      clear hK K hh0
      try simp only [Act.put, List.setIfInBounds_toArray, List.set_cons_zero, List.set_cons_succ]
      refine regTk 5 hh1 ?_
      refine regCall 6 (fun K hK => ?_)
      go_simp
      (try go_wp2_with fail)
      refine hK.out _ _ ?_ (fun hh2 => ?_)
      · (try dsimp only); refine HK.out _ ?_; (repeat with_reducible (first | exact gg | exact Chg.refl _ _ | refine Chg.drew ?_ | refine Chg.alloc ?_ _ | refine Chg.setCell ?_ (by simp) _))
      clear hK K hh1
      try simp only [Act.put, List.setIfInBounds_toArray, List.set_cons_zero, List.set_cons_succ]
      refine wpAnyH_done (by kernel_rfl) ?_ _
      clear hh2 HK
      go_wp2
      have hc9 : Chg [gt] u5 (u5.setCell ⟨gt, k, none⟩ (.int .i64 r)) := (Chg.refl _ _).setCell (by simp) _
      have HS9 := hideIt (HS.out.chg hc9 (by have := GQ.out; have := LB.out; simp; omega) (fun g hg => by simp at hg; subst hg; have := GQ.out; have := RW.out; omega))
      have KR9 := hideIt (KR.out.chg hc9 (by have := GQ.out; have := RW.out; simp; omega))
      have KB9 := hideIt (KB.out.chg hc9 (by have := GQ.out; simp; omega))
      have CW9 : Hid (CellW (fun q => u0.heap.size ≤ q ∧ q ≠ u1.heap.size) (u5.setCell ⟨gt, k, none⟩ (.int .i64 r)) { x with truth := T.set k r } (.slice A1 x.pins.length n1) (.slice A2 x.arcs.length n2) (.slice (some ⟨gt, 0, none⟩) x.truth.length n3)) := hideIt (by
        have h := CW.out
        rw [← TL.out] at h ⊢
        exact CellW.setTruth h k r)
      have TL9 : Hid ((T.set k r).length = x.truth.length) := hideIt (by rw [List.length_set]; exact TL.out)
      clear hc9
      go_roundw
      case rel => exact ⟨k + 1, T.set k r, by go_num, by omega, TL9, HS9, KR9, KB9, CW9⟩
      case measure => simp [intOf]; omega
    · have ke : ¬ (k : Int) < (x.truth.length : Int) := by omega
      go_upto_region 8 with fail
      have LC : Hid (∀ w', Chg [b, w.heap.size] wr w' → w'.cell? ⟨u1.heap.size, 0, none⟩ = some (.string x.name) ∧ w'.cell? ⟨u1.heap.size, 1, none⟩ = some (.int .i64 x.kind) ∧ w'.cell? ⟨u1.heap.size, 2, none⟩ = some (.slice A1 x.pins.length n1) ∧ w'.cell? ⟨u1.heap.size, 3, none⟩ = some (.slice A2 x.arcs.length n2) ∧ w'.cell? ⟨u1.heap.size, 4, none⟩ = some (.slice A3 x.truth.length n3) ∧ w'.cell? ⟨u1.heap.size, 5, none⟩ = some (.int .i64 x.leak) ∧ w'.cell? ⟨u1.heap.size, 6, none⟩ = some (.int .i64 x.energy)) := hideIt (fun w' c => by
        have hg : u1.heap.size ∉ [b, w.heap.size] := by have := RW.out; have := S1.out; have := LB.out; simp; omega
        exact ⟨by simpa using c.cell k0 hg, c.cell k1 hg, c.cell k2 hg, c.cell k3 hg, c.cell k4 hg, c.cell k5 hg, c.cell k6 hg⟩)
      clear fB lB k0 k1 k2 k3 k4 k5 k6
      refine wp_region_held_drew (S := (fun w' => Chg [b, w.heap.size] wr w')) (by kernel_rfl) ?_ (fun hh0 => ?_)
      · (try dsimp only); (repeat with_reducible (first | exact gg | exact Chg.refl _ _ | refine Chg.drew ?_ | refine Chg.alloc ?_ _ | refine Chg.setCell ?_ (by simp) _))
      refine regTake 0 (v := .agg #[.string x.name, .int .i64 x.kind, .slice A1 x.pins.length n1, .slice A2 x.arcs.length n2, .slice A3 x.truth.length n3, .int .i64 x.leak, .int .i64 x.energy]) (fun w hw => ?_) hh0 ?_
      · have k0 := LC.out w hw
        obtain ⟨k0, k1, k2, k3, k4, k5, k6⟩ := k0
        go_simp
      try simp only [Act.put, List.setIfInBounds_toArray, List.set_cons_zero, List.set_cons_succ]
      refine regTk 1 hh0 ?_
      refine regTk 3 hh0 ?_
      refine regCall 2 (fun K hK => ?_)
      go_simp
      refine (l01Next_any (w0 := w) 5 HS.out.drew).mono ?_
      rintro e u8 ⟨pa, rfl, paa, pab, h_, c_⟩
      have gg : Chg [b, w.heap.size] wr u8 := ((Chg.refl _ _).drew).trans (c_.mono (by simp))
      have cb : Hid (Chg [b] wr u8) := hideIt (((Chg.refl _ _).drew).trans c_)
      have HS8 := hideIt h_
      have pac := pab (by omega)
      clear h_ c_ pab
      (try go_wp2_with fail)
      refine hK.out _ _ ?_ (fun hh1 => ?_)
      · (try dsimp only); (repeat with_reducible (first | exact gg | exact Chg.refl _ _ | refine Chg.drew ?_ | refine Chg.alloc ?_ _ | refine Chg.setCell ?_ (by simp) _))
      clear hK K hh0
      try simp only [Act.put, List.setIfInBounds_toArray, List.set_cons_zero, List.set_cons_succ]
      refine regCall 4 (fun K hK => ?_)
      go_simp
      refine (l01Next_any (w0 := w) 2 HS8.out).mono ?_
      rintro e u9 ⟨pb, rfl, pba, pbb, h_, c_⟩
      have gg : Chg [b, w.heap.size] wr u9 := gg.trans (c_.mono (by simp))
      have cb9 : Hid (Chg [b] wr u9) := hideIt (cb.out.trans c_)
      have HS9 := hideIt h_
      have pbc := pbb (by omega)
      have ew : IntKind.i64.wrap (pa - pb) = pa - pb := IntWalk.i64_in _ (by omega)
      have KR9 := hideIt (KR.out.chg cb9.out NR.out)
      clear h_ c_ pbb
      have fR := KR9.out.frozen
      have lR := KR9.out.lt
      have y0 := KR9.out.cell 0
      have y1 := KR9.out.cell 1
      have y2 := KR9.out.cell 2
      have y3 := KR9.out.cell 3
      have y4 := KR9.out.cell 4
      have y5 := KR9.out.cell 5
      have y6 := KR9.out.cell 6
      simp at y0 y1 y2 y3 y4 y5 y6
      (try go_wp2_with fail)
      refine hK.out _ _ ?_ (fun hh2 => ?_)
      · (try dsimp only); (repeat with_reducible (first | exact gg | exact Chg.refl _ _ | refine Chg.drew ?_ | refine Chg.alloc ?_ _ | refine Chg.setCell ?_ (by simp) _))
      clear hK K hh1
      try simp only [Act.put, List.setIfInBounds_toArray, List.set_cons_zero, List.set_cons_succ]
      refine regTk 5 hh2 ?_
      refine regCall 6 (fun K hK => ?_)
      go_simp
      (try go_wp2_with fail)
      refine hK.out _ _ ?_ (fun hh3 => ?_)
      · (try dsimp only); (repeat with_reducible (first | exact gg | exact Chg.refl _ _ | refine Chg.drew ?_ | refine Chg.alloc ?_ _ | refine Chg.setCell ?_ (by simp) _))
      clear hK K hh2
      try simp only [Act.put, List.setIfInBounds_toArray, List.set_cons_zero, List.set_cons_succ]
      refine regTk 7 hh3 ?_
      refine wpAnyH_done (by kernel_rfl) ?_ _
      clear hh3
      go_wp2
      refine bodyPost_ret (by simp [*, results, Tryd.results5, go_sem]; try rfl) rfl ?_
      have key : ∀ w9, Chg [w.heap.size] u9 w9 → SensePost w (.returned (.tuple #[.agg #[.string x.name, .int .i64 x.kind, .slice A1 x.pins.length n1, .slice A2 x.arcs.length n2, .slice A3 x.truth.length n3, .int .i64 x.leak, .int .i64 x.energy], .int .i64 (pa - pb)])) w9 := fun w9 c9 => by
        have h9 := (CW.out.next cb9.out NQ.out).next c9 (by simp; intro h; have := RW.out; omega)
        have h10 := h9.reads
        rw [← TL.out] at h10 ⊢
        exact ⟨A1, n1, A2, n2, A3, n3, { x with truth := T }, _, rfl, h10, h9.choose_spec.2.2.2.2, by omega, HS9.out.ge.2.1.chg c9 (by simp)⟩
      refine key _ ?_
      repeat with_reducible (first | exact Chg.refl _ _ | refine Chg.setCell ?_ (by simp) _)
end Go.Proofs.YtldblnopbnmgfaaDoor
