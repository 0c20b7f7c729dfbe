/-
  A drawn cell that is rarely not valid.
-/
import Derived.Test.YtlnpefiipdkafaaGreatDoorL3E
import Derived.Test.YtlnpefiipdkafaaGreatDoorReg3
namespace Go.Proofs.YtlnpefiipdkafaaGreatDoor
open Go.RowKit
theorem CS.imp {Q Q' : Nat → Prop} {w : World} {x : CellD} {vp va vt : Value} (h : CS Q w x vp va vt) (hq : ∀ g, g < w.heap.size → Q g → Q' g) : CS Q' w x vp va vt := by
  obtain ⟨pss, ass, hp, ha, ht, ho, hb⟩ := h
  exact ⟨pss, ass, hp, ha, ht, ⟨ho.1, fun g hg => ⟨hq g (ho.2 g hg).2 (ho.2 g hg).1, (ho.2 g hg).2⟩⟩, hb⟩
theorem OCellB.shape7 {w : World} {es : List Value} {x : CellD} {bs : List Nat} (h : OCellB w es x bs) : ∃ (A1 : Option Addr) (n1 : Nat) (A2 : Option Addr) (n2 : Nat) (A3 : Option Addr) (n3 : Nat), es = [.string x.name, .int .i64 x.kind, .slice A1 x.pins.length n1, .slice A2 x.arcs.length n2, .slice A3 x.truth.length n3, .int .i64 x.leak, .int .i64 x.energy] := by
  have h2 := h
  obtain ⟨vp, va, vt, pss, ass, rfl, -⟩ := h2
  obtain ⟨A1, n1, A2, n2, A3, n3, rfl, rfl, rfl⟩ := h.slices
  exact ⟨A1, n1, A2, n2, A3, n3, rfl⟩
/-- one of the library's cells is picked -/
theorem lib_pick {u : World} {g n c k lo hi : Nat} {xs : List CellD} {bs : List Nat} {x : CellD} (h : OList 7 112 OCellB u (.slice (some ⟨g, 0, none⟩) n c) xs bs) (ho : Own lo hi bs) (hh : hi ≤ u.heap.size) (hx : xs[k]? = some x) :
    ∃ (A1 : Option Addr) (n1 : Nat) (A2 : Option Addr) (n2 : Nat) (A3 : Option Addr) (n3 : Nat), lo ≤ g ∧ (∀ (j : Nat) (v : Value), [Value.string x.name, .int .i64 x.kind, .slice A1 x.pins.length n1, .slice A2 x.arcs.length n2, .slice A3 x.truth.length n3, .int .i64 x.leak, .int .i64 x.energy][j]? = some v → u.cell? ⟨g, k * 7 + j, none⟩ = some v) ∧
      CS (fun q => lo ≤ q ∧ q < hi) u x (.slice A1 x.pins.length n1) (.slice A2 x.arcs.length n2) (.slice A3 x.truth.length n3) := by
  obtain ⟨es, b, e1, e2, e3, e4, e5⟩ := OList.cellAt h hx
  obtain ⟨A1, n1, A2, n2, A3, n3, rfl⟩ := e3.shape7
  have hg : g ∈ bs := by
    rcases h with ⟨h, _, _⟩ | ⟨g', c', cs, bss, hv, -, -, -, -, rfl, -⟩
    · cases h
    · injection hv with q1
      injection q1 with q1
      injection q1 with q1
      rw [q1]; exact List.mem_cons_self ..
  exact ⟨A1, n1, A2, n2, A3, n3, (ho.2 g hg).1, e2, e3.cs (hi := hi) ⟨(e5 ho.1).1, fun q hq => ⟨ho.2 q (e4 q hq), (ho.2 q (e4 q hq)).2⟩⟩ hh⟩
/-- the walk's state: the source, the result's box, the cell's box -/
def St (w0 w : World) (b rc : Nat) (es : Array Value) (u : World) : Prop :=
  SrcAt w0 u b ∧ Chg [b] w u ∧ Blk u w.heap.size 112 #[.string .empty, .int .i64 0, .slice none 0 0, .slice none 0 0, .slice none 0 0, .int .i64 0, .int .i64 0] ∧ Blk u rc 112 es ∧ w.heap.size < rc ∧ b < w.heap.size ∧ w0.heap.size ≤ w.heap.size
section
variable {w0 w u u' : World} {b rc : Nat} {es : Array Value}
theorem St.chg {ds : List Nat} (h : St w0 w b rc es u) (c : Chg ds u u') (hd : ∀ g ∈ ds, w.heap.size < g ∧ g ≠ rc) : St w0 w b rc es u' := by
  obtain ⟨h1, h2, h3, h4, h5, h6, h7⟩ := h
  refine ⟨h1.chg c (fun hm => by have := hd _ hm; omega) (fun g hg => by have := hd g hg; omega), ?_, h3.chg c (fun hm => by have := hd _ hm; omega), h4.chg c (fun hm => (hd _ hm).2 rfl), h5, h6, h7⟩
  exact ⟨c.os.trans h2.os, c.tape.trans h2.tape, c.output.trans h2.output, Nat.le_trans h2.size c.size, fun q hq hn => (c.block q (Nat.lt_of_lt_of_le hq h2.size) (fun hm => by have := hd _ hm; omega)).trans (h2.block q hq hn)⟩
theorem St.next (h : St w0 w b rc es u) (c : Chg [b] u u') (s : SrcAt w0 u' b) : St w0 w b rc es u' := by
  obtain ⟨h1, h2, h3, h4, h5, h6, h7⟩ := h
  exact ⟨s, h2.trans c, h3.chg c (by simp; omega), h4.chg c (by simp; omega), h5, h6, h7⟩
theorem St.alloc (h : St w0 w b rc es u) (o : Obj) : St w0 w b rc es (u.alloc o) := h.next ((Chg.refl _ _).alloc o) (h.1.alloc o)
theorem St.drew (h : St w0 w b rc es u) : St w0 w b rc es u.drew := h.next (Chg.refl _ _).drew h.1.drew
theorem St.box (h : St w0 w b rc es u) (j : Nat) (v : Value) {es' : Array Value} (e : es' = es.setIfInBounds j v) : St w0 w b rc es' (u.setCell ⟨rc, j, none⟩ v) := by
  obtain ⟨h1, h2, h3, h4, h5, h6, h7⟩ := h
  have c : Chg [rc] u (u.setCell ⟨rc, j, none⟩ v) := (Chg.refl _ _).setCell (by simp) _
  exact ⟨h1.chg c (by simp; omega) (fun g hg => by simp at hg; omega), h2.setNew (Nat.le_of_lt h5) _, h3.chg c (by simp; omega), h4.setE e, h5, h6, h7⟩
theorem St.grown {row : Option Nat} (h : St w0 w b rc es u) (g : u.grownBy u' row) (hr : ∀ k, row = some k → w.heap.size < k ∧ k ≠ rc) : St w0 w b rc es u' :=
  h.chg (ds := row.toList) ((Chg.refl _ _).grown g fun k e => .inl (by rw [e]; simp)) (fun q hq => hr q (by simpa using hq))
theorem St.ub (h : St w0 w b rc es u) : rc < u.heap.size ∧ w.heap.size < u.heap.size := by
  have := h.2.2.2.1.lt
  have := h.2.2.1.lt
  exact ⟨by omega, by omega⟩
end
/-- what the laws are given: a cell to be read, its memory behind w -/
def CellAny (w0 w : World) (b : Nat) (e : Ending) (w' : World) : Prop :=
  ∃ (A1 : Option Addr) (n1 : Nat) (A2 : Option Addr) (n2 : Nat) (A3 : Option Addr) (n3 : Nat) (x : CellD), e = .returned (.agg #[.string x.name, .int .i64 x.kind, .slice A1 x.pins.length n1, .slice A2 x.arcs.length n2, .slice A3 x.truth.length n3, .int .i64 x.leak, .int .i64 x.energy]) ∧ CellW (fun q => w.heap.size ≤ q) w' x (.slice A1 x.pins.length n1) (.slice A2 x.arcs.length n2) (.slice A3 x.truth.length n3) ∧ SrcAt w0 w' b ∧ Chg [b] w w'
theorem any_fin {w0 w wz w9 : World} {b rc l1 l2 l3 : Nat} {A1 : Option Addr} {n1 : Nat} {A2 : Option Addr} {n2 : Nat} {A3 : Option Addr} {n3 : Nat} (x : CellD) {es : Array Value} (hs : St w0 w b rc es wz) (hc : CellW (fun q => w.heap.size < q ∧ q ≠ rc) wz x (.slice A1 l1 n1) (.slice A2 l2 n2) (.slice A3 l3 n3)) (e1 : l1 = x.pins.length) (e2 : l2 = x.arcs.length) (e3 : l3 = x.truth.length) (c9 : Chg [w.heap.size] wz w9) :
    CellAny w0 w b (.returned (.agg #[.string x.name, .int .i64 x.kind, .slice A1 l1 n1, .slice A2 l2 n2, .slice A3 l3 n3, .int .i64 x.leak, .int .i64 x.energy])) w9 := by
  subst e1 e2 e3
  obtain ⟨h1, h2, h3, h4, h5, h6, h7⟩ := hs
  refine ⟨A1, n1, A2, n2, A3, n3, x, rfl, (hc.next c9 (by simp)).imp (fun g hg => Nat.le_of_lt hg.1), h1.chg c9 (by simp; omega) (fun g hg => by simp at hg; omega), ?_⟩
  exact ⟨c9.os.trans h2.os, c9.tape.trans h2.tape, c9.output.trans h2.output, Nat.le_trans h2.size c9.size, fun q hq hn => (c9.block q (Nat.lt_of_lt_of_le hq h2.size) (by simp; omega)).trans (h2.block q hq hn)⟩
theorem CS.bnd {Q : Nat → Prop} {w : World} {x : CellD} {vp va vt : Value} (h : CS Q w x vp va vt) : bndC x := by
  obtain ⟨_, _, _, _, _, _, hb⟩ := h
  exact hb
theorem strs5 {w : World} {g : Nat} {t : TypeId} {s0 s1 s2 s3 s4 : ByteArray} (h : Blk w g t #[.string s0, .string s1, .string s2, .string s3, .string s4]) {q : Nat} (hq : q < 5) (hz : s0.size ≤ 100 ∧ s1.size ≤ 100 ∧ s2.size ≤ 100 ∧ s3.size ≤ 100 ∧ s4.size ≤ 100) : ∃ s : ByteArray, s.size ≤ 100 ∧ w.cell? ⟨g, q, none⟩ = some (.string s) := by
  rw [h.cell]
  rcases (by omega : q = 0 ∨ q = 1 ∨ q = 2 ∨ q = 3 ∨ q = 4) with rfl | rfl | rfl | rfl | rfl
  · exact ⟨s0, hz.1, rfl⟩
  · exact ⟨s1, hz.2.1, rfl⟩
  · exact ⟨s2, hz.2.2.1, rfl⟩
  · exact ⟨s3, hz.2.2.2.1, rfl⟩
  · exact ⟨s4, hz.2.2.2.2, rfl⟩
theorem CS.arcTail0 {Q : Nat → Prop} {w : World} {x : CellD} {vp va vt : Value} (h : CS Q w x vp va vt) (h1 : x.arcs.length = 1) (A : Option Addr) : CellW Q w { x with arcs := x.arcs.tail } vp (.slice A 0 0) vt := by
  have hw := h.weak
  obtain ⟨bs, hs, hb, ht, hr, hl⟩ := hw
  obtain ⟨a, e⟩ := List.length_eq_one_iff.1 h1
  refine ⟨bs, fun w2 g2 => ⟨(hs w2 g2).1, ?_⟩, hb, ht, ⟨hr.1, hr.2.1, ⟨by rw [e]; simp [SmL], fun r hr' => by rw [e] at hr'; simp at hr'⟩, hr.2.2.2⟩, hl⟩
  show RArcs w2 (.slice A 0 0) x.arcs.tail
  rw [e]
  exact ⟨A, 0, rfl, Nat.le_refl _, Nat.zero_le _, .inl rfl⟩
/-- an append to an own row, as one operation -/
theorem wp_append_at {P : Program} {w : World} {o : Oper} {a : Act} {K : Act → World → Prop} {Q : Exit → Act → World → Prop} (s x : Operand) (t : TypeId) (ho : o.op = .call { callee := .builtin .append, args := #[s, x], argTypes := #[t, t] })
    {e : TypeId} {i : TypeInfo} {z : Value} {size : Nat} (ht : P.underlying t = some (.slice e)) (hi : P.info? e = some i) (hz : i.zero = some z) (hsize : i.size = size) (hby : i.bytes ≤ 256) (hzs : z.cells.size = size) (hsz : 0 < size)
    (v : Value) (n : Nat) (xs : List Value) (hs : a.eval s = v) (hown : w.ownsRow 0 e size v n xs)
    (ad : Addr) (c : Nat) (news : List Value) (hx : a.eval x = .slice (some ad) 1 c) (hl : news.length = size) (hnews : ∀ j u, news[j]? = some u → w.cell? (ad.add j) = some u) (h1 : ∀ u ∈ news, u.oneCell' = true) (hn : n ≤ 1000)
    (h : ∀ v' w', w'.ownsRow 0 e size v' (n + 1) (xs ++ news) → w.grownBy w' v.ownBlock → (v'.ownBlock = v.ownBlock ∨ v'.ownBlock = some w.heap.size) → K (a.put o.dst v') w') : o.wp P a w K Q := by
  have hbb : (n + 1) * i.bytes ≤ 1001 * 256 := Nat.mul_le_mul (by omega) hby
  obtain ⟨v', w', hr, h2, h3, h4, h5⟩ := run_append_own_at (P := P) w 0 t o.type e i z size i.bytes ht hi hz hsize rfl hzs hsz v n xs hown ad 1 c news (by rw [hl, Nat.one_mul]) hnews h1 (by unfold maxLen; omega) (by omega) (Nat.zero_le _)
  unfold Oper.wp execOp
  simp only [ho, resolve, invoke, builtin, Sem.run_bind, Sem.run_pure, Result.andThen_ok, List.map_toArray, List.map_cons, List.map_nil, hs, hx, hr]
  exact h v' w' h2 h3 h5
set_option maxHeartbeats 32000000 in
set_option maxRecDepth 10000 in
theorem l03DrawAny_any {w0 w : World} {b : Nat} (h : SrcAt w0 w b) : Calls Tryz.prog 79 #[.pointer (some ⟨b, 0, none⟩)] w (CellAny w0 w b) := by
  have hb : Hid (b < w.heap.size) := hideIt h.ge.2.2
  have HG : Hid (w0.heap.size ≤ w.heap.size) := hideIt h.ge.2.1.size
  have HS := hideIt (h.alloc (.cells #[.string .empty, .int .i64 0, .slice none 0 0, .slice none 0 0, .slice none 0 0, .int .i64 0, .int .i64 0] 112))
  have R : Hid (Blk (w.alloc (.cells #[.string .empty, .int .i64 0, .slice none 0 0, .slice none 0 0, .slice none 0 0, .int .i64 0, .int .i64 0] 112)) w.heap.size 112 #[.string .empty, .int .i64 0, .slice none 0 0, .slice none 0 0, .slice none 0 0, .int .i64 0, .int .i64 0]) := hideIt (Blk.new w _ _)
  have NR : Hid (w.heap.size ∉ [b]) := hideIt (by have := hb.out; simp; omega)
  clear h
  go_enter Tryz.func79, Tryz.ntmps79
  go_wp2_with fail
  refine (l03Draw_any HS.out).mono ?_
  rintro e u1 ⟨g, n, xs, bs, rfl, xl, ol, ow, hs, hc⟩
  have XL := hideIt xl
  have OL := hideIt ol
  have OW := hideIt ow
  have HS := hideIt hs
  have HC : Hid (Chg [b] w u1) := hideIt (((Chg.refl _ _).alloc _).trans hc)
  have SZ : Hid (w.heap.size + 1 ≤ u1.heap.size) := hideIt (by simpa using hc.size)
  replace R := hideIt (R.out.chg hc NR.out)
  clear xl ol ow hs hc
  go_upto_region 2 with fail
  refine at_c (fun u => SrcAt w0 u b ∧ Chg [b] w u ∧ Blk u w.heap.size 112 #[.string .empty, .int .i64 0, .slice none 0 0, .slice none 0 0, .slice none 0 0, .int .i64 0, .int .i64 0] ∧ Blk u u1.heap.size 26 #[.slice (some ⟨g, 0, none⟩) 8 n] ∧ OList 7 112 OCellB u (.slice (some ⟨g, 0, none⟩) 8 n) xs bs ∧ Own (w.heap.size + 1) u1.heap.size bs ∧ u1.heap.size + 1 = u.heap.size)
    ⟨HS.out.alloc _, HC.out.alloc _, R.out.grows ((Grows.refl _).alloc _), Blk.new _ _ _, OList.same OL.out ((Chg.of_grows (bs := []) ((Grows.refl _).alloc _)).same (fun g hg => (OW.out.2 g hg).2) (by simp)) (fun _ _ _ h g => h.keep g), by simpa using OW.out, by simp⟩ (fun u hu => ?_)
  obtain ⟨s2, c2, r2, l2, o2, w2, z2⟩ := hu
  have S2 := hideIt s2
  have C2 := hideIt c2
  have R2 := hideIt r2
  have L2 := hideIt l2
  have O2 := hideIt o2
  have W2 := hideIt w2
  have Z2 := hideIt z2
  have NL : Hid (u1.heap.size ∉ [b]) := hideIt (by have := hb.out; have := SZ.out; simp; omega)
  clear s2 c2 r2 l2 o2 w2 z2 OL OW HS HC R
  have KL : Hid (∀ w', Chg [b] u w' → w'.cell? ⟨u1.heap.size, 0, none⟩ = some (.slice (some ⟨g, 0, none⟩) 8 n)) := hideIt (fun w' c => (L2.out.chg c NL.out).cell 0)
  go_cut [4] (fun s4 wx => ∃ (rc : Nat) (A1 : Option Addr) (n1 : Nat) (A2 : Option Addr) (n2 : Nat) (A3 : Option Addr) (n3 : Nat) (x : CellD), s4 = .pointer (some ⟨rc, 0, none⟩) ∧ Hid (St w0 w b rc #[.string x.name, .int .i64 x.kind, .slice A1 x.pins.length n1, .slice A2 x.arcs.length n2, .slice A3 x.truth.length n3, .int .i64 x.leak, .int .i64 x.energy] wx) ∧ Hid (CS (fun q => w.heap.size < q ∧ q ≠ rc) wx x (.slice A1 x.pins.length n1) (.slice A2 x.arcs.length n2) (.slice A3 x.truth.length n3)))
  case first =>
    refine wp_region_held_drew (S := (fun w' => Chg [b] u w')) (by kernel_rfl) ?_ (fun hh0 => ?_)
    · (try dsimp only); (repeat with_reducible (first | exact gg | exact Chg.refl _ _ | refine Chg.drew ?_ | refine Chg.alloc ?_ _ | refine Chg.setNew ?_ (by simp) _))
    refine regTk 0 hh0 ?_
    refine regTake 1 (v := .slice (some ⟨g, 0, none⟩) 8 n) (fun w hw => ?_) hh0 ?_
    · have kk := KL.out w hw
      go_simp
    try simp only [Act.put, List.setIfInBounds_toArray, List.set_cons_zero, List.set_cons_succ]
    refine regTk 2 hh0 ?_
    refine regCall2 3 6 (fun K hK => ?_) (fun K hK => ?_)
    · go_simp
      refine (l01Next_any (w0 := w0) 8 S2.out.drew).mono ?_
      rintro e u3 ⟨r, rfl, ra, rb, h_, c_⟩
      have rc8 := rb (by omega)
      have S3 := hideIt h_
      have gg : Chg [b] u u3 := (Chg.refl [b] u).drew.trans c_
      have gz : u.heap.size ≤ u3.heap.size := gg.size
      clear rb h_ c_
      obtain ⟨k, rfl⟩ : ∃ k : Nat, r = (k : Int) := ⟨r.toNat, by omega⟩
      have k8 : (k : Int) < 8 := by omega
      obtain ⟨x, hx⟩ : ∃ x, xs[k]? = some x := ⟨_, List.getElem?_eq_getElem (by have := XL.out; omega)⟩
      obtain ⟨A1, n1, A2, n2, A3, n3, glo, hcell, cs⟩ := lib_pick O2.out W2.out (by have := Z2.out; omega) hx
      have LC : Hid (∀ w', Chg [b] u w' → w'.cell? ⟨g, k * 7, none⟩ = some (.string x.name) ∧ w'.cell? ⟨g, k * 7 + 1, none⟩ = some (.int .i64 x.kind) ∧ w'.cell? ⟨g, k * 7 + 2, none⟩ = some (.slice A1 x.pins.length n1) ∧ w'.cell? ⟨g, k * 7 + 3, none⟩ = some (.slice A2 x.arcs.length n2) ∧ w'.cell? ⟨g, k * 7 + 4, none⟩ = some (.slice A3 x.truth.length n3) ∧ w'.cell? ⟨g, k * 7 + 5, none⟩ = some (.int .i64 x.leak) ∧ w'.cell? ⟨g, k * 7 + 6, none⟩ = some (.int .i64 x.energy)) := hideIt (fun w' c => by
        have hg : g ∉ [b] := by have := hb.out; simp; omega
        exact ⟨by simpa using c.cell (hcell 0 _ rfl) hg, c.cell (hcell 1 _ rfl) hg, c.cell (hcell 2 _ rfl) hg, c.cell (hcell 3 _ rfl) hg, c.cell (hcell 4 _ rfl) hg, c.cell (hcell 5 _ rfl) hg, c.cell (hcell 6 _ rfl) hg⟩)
      have CSU := hideIt cs
      clear hcell cs hx glo
      (try go_wp2_with fail)
      refine hK.out _ _ ?_ (fun hh1 => ?_)
      · (try dsimp only); (repeat with_reducible (first | exact gg | exact Chg.refl _ _ | refine Chg.drew ?_ | refine Chg.alloc ?_ _ | refine Chg.setNew ?_ (by simp) _))
      clear hK K hh0
      try simp only [Act.put, List.setIfInBounds_toArray, List.set_cons_zero, List.set_cons_succ]
      refine regTk 4 hh1 ?_
      refine regTake 5 (v := .agg #[.string x.name, .int .i64 x.kind, .slice A1 x.pins.length n1, .slice A2 x.arcs.length n2, .slice A3 x.truth.length n3, .int .i64 x.leak, .int .i64 x.energy]) (fun w hw => ?_) hh1 ?_
      · have k0 := LC.out w hw
        obtain ⟨k0, k1, k2, k3, k4, k5, k6⟩ := k0
        go_simp
      try simp only [Act.put, List.setIfInBounds_toArray, List.set_cons_zero, List.set_cons_succ]
      refine regCall 6 (fun K hK => ?_)
      go_simp
      (try go_wp2_with fail)
      refine hK.out _ _ ?_ (fun hh2 => ?_)
      · (try dsimp only); (repeat with_reducible (first | exact gg | exact Chg.refl _ _ | refine Chg.drew ?_ | refine Chg.alloc ?_ _ | refine Chg.setNew ?_ (by simp) _))
      clear hK K hh1
      try simp only [Act.put, List.setIfInBounds_toArray, List.set_cons_zero, List.set_cons_succ]
      refine regCall 7 (fun K hK => ?_)
      go_simp
      (try go_wp2_with fail)
      refine hK.out _ _ ?_ (fun hh3 => ?_)
      · (try dsimp only); (repeat with_reducible (first | exact gg | exact Chg.refl _ _ | refine Chg.drew ?_ | refine Chg.alloc ?_ _ | refine Chg.setNew ?_ (by simp) _))
      clear hK K hh2
      try simp only [Act.put, List.setIfInBounds_toArray, List.set_cons_zero, List.set_cons_succ]
      refine wpAnyH_done (by kernel_rfl) ?_ _
      clear hh3
      go_wp2_with fail
      go_meet
      exact ⟨u3.heap.size, A1, n1, A2, n2, A3, n3, x, rfl, hideIt ⟨S3.out.alloc _, (C2.out.trans gg).alloc _, (R2.out.chg gg NR.out).grows ((Grows.refl _).alloc _), Blk.new _ _ _, by have := SZ.out; have := Z2.out; omega, hb.out, HG.out⟩, hideIt ((CSU.out.next (gg.alloc _) (fun q hq => by simp at hq; subst hq; intro h; have := h.1; have := hb.out; omega)).imp (fun q hl hq => ⟨by have := hq.1; omega, by have := hq.2; have := Z2.out; omega⟩))⟩
    · go_simp
      (try go_wp2_with fail)
      refine hK.out _ _ ?_ (fun hh1 => ?_)
      · (try dsimp only); (repeat with_reducible (first | exact gg | exact Chg.refl _ _ | refine Chg.drew ?_ | refine Chg.alloc ?_ _ | refine Chg.setNew ?_ (by simp) _))
      clear hK K hh0
      try simp only [Act.put, List.setIfInBounds_toArray, List.set_cons_zero, List.set_cons_succ]
      refine regCall 3 (fun K hK => ?_)
      go_simp
      refine (l01Next_any (w0 := w0) 8 (S2.out.drew.alloc _)).mono ?_
      rintro e u3 ⟨r, rfl, ra, rb, h_, c_⟩
      have rc8 := rb (by omega)
      have S3 := hideIt h_
      have gg : Chg [b] u u3 := ((Chg.refl [b] u).drew.alloc _).trans c_
      have gz : u.heap.size ≤ u3.heap.size := gg.size
      have BB : Hid (Blk u3 u.heap.size 112 #[.string .empty, .int .i64 0, .slice none 0 0, .slice none 0 0, .slice none 0 0, .int .i64 0, .int .i64 0]) := hideIt ((Blk.new u.drew _ _).chg c_ (by have := hb.out; have := C2.out.size; simp; omega))
      have lB := BB.out.lt
      have fB := BB.out.frozen
      have b0 := BB.out.cell 0
      have b1 := BB.out.cell 1
      have b2 := BB.out.cell 2
      have b3 := BB.out.cell 3
      have b4 := BB.out.cell 4
      have b5 := BB.out.cell 5
      have b6 := BB.out.cell 6
      simp at b0 b1 b2 b3 b4 b5 b6
      clear rb h_ c_
      obtain ⟨k, rfl⟩ : ∃ k : Nat, r = (k : Int) := ⟨r.toNat, by omega⟩
      have k8 : (k : Int) < 8 := by omega
      obtain ⟨x, hx⟩ : ∃ x, xs[k]? = some x := ⟨_, List.getElem?_eq_getElem (by have := XL.out; omega)⟩
      obtain ⟨A1, n1, A2, n2, A3, n3, glo, hcell, cs⟩ := lib_pick O2.out W2.out (by have := Z2.out; omega) hx
      have LC : Hid (∀ w', Chg [b] u w' → w'.cell? ⟨g, k * 7, none⟩ = some (.string x.name) ∧ w'.cell? ⟨g, k * 7 + 1, none⟩ = some (.int .i64 x.kind) ∧ w'.cell? ⟨g, k * 7 + 2, none⟩ = some (.slice A1 x.pins.length n1) ∧ w'.cell? ⟨g, k * 7 + 3, none⟩ = some (.slice A2 x.arcs.length n2) ∧ w'.cell? ⟨g, k * 7 + 4, none⟩ = some (.slice A3 x.truth.length n3) ∧ w'.cell? ⟨g, k * 7 + 5, none⟩ = some (.int .i64 x.leak) ∧ w'.cell? ⟨g, k * 7 + 6, none⟩ = some (.int .i64 x.energy)) := hideIt (fun w' c => by
        have hg : g ∉ [b] := by have := hb.out; simp; omega
        exact ⟨by simpa using c.cell (hcell 0 _ rfl) hg, c.cell (hcell 1 _ rfl) hg, c.cell (hcell 2 _ rfl) hg, c.cell (hcell 3 _ rfl) hg, c.cell (hcell 4 _ rfl) hg, c.cell (hcell 5 _ rfl) hg, c.cell (hcell 6 _ rfl) hg⟩)
      have CSU := hideIt cs
      clear hcell cs hx glo
      (try go_wp2_with fail)
      refine hK.out _ _ ?_ (fun hh2 => ?_)
      · (try dsimp only); (repeat with_reducible (first | exact gg | exact Chg.refl _ _ | refine Chg.drew ?_ | refine Chg.alloc ?_ _ | refine Chg.setNew ?_ (by simp) _))
      clear hK K hh1
      try simp only [Act.put, List.setIfInBounds_toArray, List.set_cons_zero, List.set_cons_succ]
      refine regTk 4 hh2 ?_
      refine regTake 5 (v := .agg #[.string x.name, .int .i64 x.kind, .slice A1 x.pins.length n1, .slice A2 x.arcs.length n2, .slice A3 x.truth.length n3, .int .i64 x.leak, .int .i64 x.energy]) (fun w hw => ?_) hh2 ?_
      · have k0 := LC.out w hw
        obtain ⟨k0, k1, k2, k3, k4, k5, k6⟩ := k0
        go_simp
      try simp only [Act.put, List.setIfInBounds_toArray, List.set_cons_zero, List.set_cons_succ]
      refine regCall 7 (fun K hK => ?_)
      go_simp
      (try go_wp2_with fail)
      refine hK.out _ _ ?_ (fun hh3 => ?_)
      · (try dsimp only); (repeat with_reducible (first | exact gg | exact Chg.refl _ _ | refine Chg.drew ?_ | refine Chg.alloc ?_ _ | refine Chg.setNew ?_ (by simp) _))
      clear hK K hh2
      try simp only [Act.put, List.setIfInBounds_toArray, List.set_cons_zero, List.set_cons_succ]
      refine wpAnyH_done (by kernel_rfl) ?_ _
      clear hh3
      go_wp2_with fail
      go_meet
      have s0 : St w0 w b u.heap.size #[.string .empty, .int .i64 0, .slice none 0 0, .slice none 0 0, .slice none 0 0, .int .i64 0, .int .i64 0] u3 := ⟨S3.out, C2.out.trans gg, R2.out.chg gg NR.out, BB.out, by have := SZ.out; have := Z2.out; omega, hb.out, HG.out⟩
      have s1 := (((((((s0.box 0 (.string x.name) rfl).box 1 (.int .i64 x.kind) rfl).box 2 (.slice A1 x.pins.length n1) rfl).box 3 (.slice A2 x.arcs.length n2) rfl).box 4 (.slice A3 x.truth.length n3) rfl).box 5 (.int .i64 x.leak) rfl).box 6 (.int .i64 x.energy) rfl)
      refine ⟨u.heap.size, A1, n1, A2, n2, A3, n3, x, rfl, hideIt s1, hideIt (((CSU.out.next gg (fun q hq => by simp at hq; subst hq; intro h; have := h.1; have := hb.out; omega)).next (ds := [u.heap.size]) ?_ (fun q hq => by simp at hq; subst hq; intro h; have := h.2; have := Z2.out; omega)).imp (fun q hl hq => ⟨by have := hq.1; omega, by have := hq.2; have := Z2.out; omega⟩))⟩
      repeat with_reducible (first | exact Chg.refl _ _ | refine Chg.setCell ?_ (by simp) _)
  case rest =>
    obtain ⟨rc, A1, n1, A2, n2, A3, n3, x, rfl, ST, CC⟩ := hcut
    obtain ⟨u4, rfl⟩ : ∃ y : World, y = wc := ⟨_, rfl⟩
    have NQ : Hid (∀ q ∈ [b], ¬ (fun q => w.heap.size < q ∧ q ≠ rc) q) := hideIt (fun q hq => by simp at hq; subst hq; intro h; have := h.1; have := hb.out; omega)
    have al1 : 1 ≤ x.arcs.length := CC.out.bnd.2.2.1.1
    have al8 : x.arcs.length ≤ 8 := CC.out.bnd.2.2.1.2
    clear S2 C2 R2 L2 O2 W2 Z2 NL KL XL SZ
    have KB := hideIt ST.out.2.2.2.1
    have fB := KB.out.frozen
    have lB := KB.out.lt
    have k0 := KB.out.cell 0
    have k1 := KB.out.cell 1
    have k2 := KB.out.cell 2
    have k3 := KB.out.cell 3
    have k4 := KB.out.cell 4
    have k5 := KB.out.cell 5
    have k6 := KB.out.cell 6
    simp at k0 k1 k2 k3 k4 k5 k6
    go_wp2_with fail
    refine (l01Next_any (w0 := w0) _ ST.out.1).mono ?_
    rintro e u5 ⟨k_, rfl, k_a, k_b, h_, c_⟩
    replace ST := hideIt (ST.out.next c_ h_)
    replace CC := hideIt ((CC.out).next c_ NQ.out)
    clear h_ c_
    have kc := k_b (by omega)
    obtain ⟨k, rfl⟩ : ∃ k : Nat, k_ = (k : Int) := ⟨k_.toNat, by omega⟩
    have kal : k < x.arcs.length := by omega
    clear k_a k_b KB fB lB k0 k1 k2 k3 k4 k5 k6
    go_wp2_with fail
    refine (l01Next_any (w0 := w0) 24 ST.out.1).mono ?_
    rintro e u6 ⟨r, rfl, ra, rb, h_, c_⟩
    replace ST := hideIt (ST.out.next c_ h_)
    replace CC := hideIt ((CC.out).next c_ NQ.out)
    clear h_ c_
    clear rb
    have KB := hideIt ST.out.2.2.2.1
    have fB := KB.out.frozen
    have lB := KB.out.lt
    have k0 := KB.out.cell 0
    have k1 := KB.out.cell 1
    have k2 := KB.out.cell 2
    have k3 := KB.out.cell 3
    have k4 := KB.out.cell 4
    have k5 := KB.out.cell 5
    have k6 := KB.out.cell 6
    simp at k0 k1 k2 k3 k4 k5 k6
    rcases (by omega : r = 0 ∨ r = 1 ∨ r = 2 ∨ r = 3 ∨ r = 4 ∨ r = 5 ∨ r = 6 ∨ r = 7 ∨ r = 8 ∨ r = 9 ∨ r = 10 ∨ r = 11 ∨ 12 ≤ r) with rfl | rfl | rfl | rfl | rfl | rfl | rfl | rfl | rfl | rfl | rfl | rfl | rd
    · go_wp2_with fail
      refine (l01Next_any (w0 := w0) 5 (ST.out.alloc _).1).mono ?_
      rintro e u7 ⟨m, rfl, ma, mb, h_, c_⟩
      replace ST := hideIt ((ST.out.alloc _).next c_ h_)
      replace CC := hideIt ((CC.out.next ((Chg.refl [b] _).alloc _) NQ.out).next c_ NQ.out)
      have BN := hideIt ((Blk.new u6 _ _).chg c_ (by have := ST.out.ub; have := hb.out; have := ST.out.2.2.2.2.1; simp; omega))
      clear h_ c_
      have mc := mb (by omega)
      obtain ⟨m, rfl⟩ : ∃ z : Nat, m = (z : Int) := ⟨m.toNat, by omega⟩
      have mc5 : (m : Int) < 5 := mc
      obtain ⟨s, sz, hs⟩ := strs5 BN.out (by omega : m < 5) (by decide)
      clear KB fB lB k0 k1 k2 k3 k4 k5 k6 BN
      have KB := hideIt ST.out.2.2.2.1
      have fB := KB.out.frozen
      have lB := KB.out.lt
      have k0 := KB.out.cell 0
      have k1 := KB.out.cell 1
      have k2 := KB.out.cell 2
      have k3 := KB.out.cell 3
      have k4 := KB.out.cell 4
      have k5 := KB.out.cell 5
      have k6 := KB.out.cell 6
      simp at k0 k1 k2 k3 k4 k5 k6
      go_upto_region 29 with fail
      refine at_c (fun wz => St w0 w b rc #[.string s, .int .i64 x.kind, .slice A1 x.pins.length n1, .slice A2 x.arcs.length n2, .slice A3 x.truth.length n3, .int .i64 x.leak, .int .i64 x.energy] wz ∧ CellW (fun q => w.heap.size < q ∧ q ≠ rc) wz { x with name := s } (.slice A1 x.pins.length n1) (.slice A2 x.arcs.length n2) (.slice A3 x.truth.length n3)) ⟨ST.out.box 0 _ rfl, ((CC.out.weak.next ((Chg.refl [rc] _).setCell (by simp) _) (fun q hq => by simp at hq; subst hq; intro h; exact h.2 rfl)).of (y := { x with name := s }) rfl rfl rfl (by show s.size ≤ 1000; omega))⟩ (fun wz hz => ?_)
      have SZt := hideIt hz.1
      have CWz := hideIt hz.2
      have KZ := hideIt hz.1.2.2.2.1
      have KY := hideIt hz.1.2.2.1
      clear hz
      have fZ := KZ.out.frozen
      have lZ := KZ.out.lt
      have q0 := KZ.out.cell 0
      have q1 := KZ.out.cell 1
      have q2 := KZ.out.cell 2
      have q3 := KZ.out.cell 3
      have q4 := KZ.out.cell 4
      have q5 := KZ.out.cell 5
      have q6 := KZ.out.cell 6
      simp at q0 q1 q2 q3 q4 q5 q6
      have fY := KY.out.frozen
      have lY := KY.out.lt
      have y0 := KY.out.cell 0
      have y1 := KY.out.cell 1
      have y2 := KY.out.cell 2
      have y3 := KY.out.cell 3
      have y4 := KY.out.cell 4
      have y5 := KY.out.cell 5
      have y6 := KY.out.cell 6
      simp at y0 y1 y2 y3 y4 y5 y6
      have ne1 : w.heap.size ≠ rc := Nat.ne_of_lt SZt.out.2.2.2.2.1
      have ne2 : rc ≠ w.heap.size := fun e => ne1 e.symm
      go_wp2
      refine bodyPost_ret (by simp [*, results, Tryz.results79, go_sem]; try rfl) rfl ?_
      refine any_fin { x with name := s } SZt.out CWz.out (by simp) (by simp) (by simp) ?_
      repeat with_reducible (first | exact Chg.refl _ _ | refine Chg.setCell ?_ (by simp) _)
    · obtain ⟨gp, cp, p, ev, hp0, gq, fp, pl1, ⟨p0, p1, p2, p3⟩, pput⟩ := CC.out.pin0
      injection ev with ev1 _ ev3
      subst ev1 ev3
      have pli : (0 : Int) < (x.pins.length : Int) := by omega
      have pln : 0 < x.pins.length := by omega
      have PPUT := hideIt pput
      have GQ := hideIt gq.1
      have lp := gq.2
      have nep : gp ≠ rc := gq.1.2
      have nep2 : rc ≠ gp := fun e => nep e.symm
      clear pput gq
      clear KB fB lB k0 k1 k2 k3 k4 k5 k6
      have KB := hideIt ST.out.2.2.2.1
      have fB := KB.out.frozen
      have lB := KB.out.lt
      have k0 := KB.out.cell 0
      have k1 := KB.out.cell 1
      have k2 := KB.out.cell 2
      have k3 := KB.out.cell 3
      have k4 := KB.out.cell 4
      have k5 := KB.out.cell 5
      have k6 := KB.out.cell 6
      simp at k0 k1 k2 k3 k4 k5 k6
      go_upto_region 29 with fail
      refine at_c (fun wz => St w0 w b rc #[.string x.name, .int .i64 x.kind, .slice (some ⟨gp, 0, none⟩) x.pins.length n1, .slice A2 x.arcs.length n2, .slice A3 x.truth.length n3, .int .i64 x.leak, .int .i64 x.energy] wz ∧ CellW (fun q => w.heap.size < q ∧ q ≠ rc) wz { x with pins := x.pins.set 0 { p with name := ⟨#[121]⟩ } } (.slice (some ⟨gp, 0, none⟩) x.pins.length n1) (.slice A2 x.arcs.length n2) (.slice A3 x.truth.length n3)) ⟨(ST.out.chg ((Chg.refl [gp] _).setCell (by simp) _) (fun q hq => by simp at hq; subst hq; exact GQ.out)), PPUT.out 0 (.string ⟨#[121]⟩) { p with name := ⟨#[121]⟩ } (by decide) rfl (by dsimp only; decide)⟩ (fun wz hz => ?_)
      have SZt := hideIt hz.1
      have CWz := hideIt hz.2
      have KZ := hideIt hz.1.2.2.2.1
      have KY := hideIt hz.1.2.2.1
      clear hz
      have fZ := KZ.out.frozen
      have lZ := KZ.out.lt
      have q0 := KZ.out.cell 0
      have q1 := KZ.out.cell 1
      have q2 := KZ.out.cell 2
      have q3 := KZ.out.cell 3
      have q4 := KZ.out.cell 4
      have q5 := KZ.out.cell 5
      have q6 := KZ.out.cell 6
      simp at q0 q1 q2 q3 q4 q5 q6
      have fY := KY.out.frozen
      have lY := KY.out.lt
      have y0 := KY.out.cell 0
      have y1 := KY.out.cell 1
      have y2 := KY.out.cell 2
      have y3 := KY.out.cell 3
      have y4 := KY.out.cell 4
      have y5 := KY.out.cell 5
      have y6 := KY.out.cell 6
      simp at y0 y1 y2 y3 y4 y5 y6
      have ne1 : w.heap.size ≠ rc := Nat.ne_of_lt SZt.out.2.2.2.2.1
      have ne2 : rc ≠ w.heap.size := fun e => ne1 e.symm
      go_wp2
      refine bodyPost_ret (by simp [*, results, Tryz.results79, go_sem]; try rfl) rfl ?_
      refine any_fin { x with pins := x.pins.set 0 { p with name := ⟨#[121]⟩ } } SZt.out CWz.out (by simp) (by simp) (by simp) ?_
      repeat with_reducible (first | exact Chg.refl _ _ | refine Chg.setCell ?_ (by simp) _)
    · obtain ⟨gp, cp, p, ev, hp0, gq, fp, pl1, ⟨p0, p1, p2, p3⟩, pput⟩ := CC.out.pin0
      injection ev with ev1 _ ev3
      subst ev1 ev3
      have pli : (0 : Int) < (x.pins.length : Int) := by omega
      have pln : 0 < x.pins.length := by omega
      have PPUT := hideIt pput
      have GQ := hideIt gq.1
      have lp := gq.2
      have nep : gp ≠ rc := gq.1.2
      have nep2 : rc ≠ gp := fun e => nep e.symm
      clear pput gq
      clear KB fB lB k0 k1 k2 k3 k4 k5 k6
      have KB := hideIt ST.out.2.2.2.1
      have fB := KB.out.frozen
      have lB := KB.out.lt
      have k0 := KB.out.cell 0
      have k1 := KB.out.cell 1
      have k2 := KB.out.cell 2
      have k3 := KB.out.cell 3
      have k4 := KB.out.cell 4
      have k5 := KB.out.cell 5
      have k6 := KB.out.cell 6
      simp at k0 k1 k2 k3 k4 k5 k6
      have HK : Hid (∀ w', Chg [b, gp] u6 w' → w'.cell? ⟨rc, 2, none⟩ = some (.slice (some ⟨gp, 0, none⟩) x.pins.length n1)) := hideIt (fun w' c => c.cell k2 (by have := nep2; have := hb.out; have := ST.out.2.2.2.2.1; simp; omega))
      have gg : Chg [b, gp] u6 u6 := Chg.refl _ _
      go_upto_region 10 with fail
      refine wp_region_held_drew (S := (fun w' => w'.cell? ⟨rc, 2, none⟩ = some (.slice (some ⟨gp, 0, none⟩) x.pins.length n1))) (by kernel_rfl) ?_ (fun hh0 => ?_)
      · (try dsimp only); refine HK.out _ ?_; (repeat with_reducible (first | exact gg | exact Chg.refl _ _ | refine Chg.drew ?_ | refine Chg.alloc ?_ _ | refine Chg.setCell ?_ (by simp) _))
      refine regTk 0 hh0 ?_
      refine regTk 1 hh0 ?_
      refine regTk 3 hh0 ?_
      refine regCall2 2 4 (fun K hK => ?_) (fun K hK => ?_)
      · go_simp
        have ST_ := ST.out.alloc (.cells #[.int .i64 (-1), .int .i64 500, .int .i64 501] 2)
        have CC_ := CC.out.next ((Chg.refl [b] (u6)).alloc (.cells #[.int .i64 (-1), .int .i64 500, .int .i64 501] 2)) NQ.out
        have BN_ := Blk.new (u6) 2 #[.int .i64 (-1), .int .i64 500, .int .i64 501]
        have gg_ : Chg [b, gp] u6 (World.alloc (u6) (.cells #[.int .i64 (-1), .int .i64 500, .int .i64 501] 2)) := (Chg.refl _ _).alloc _
        have nb_ : (World.heap (u6)).size ∉ [b] := by have := ST.out.ub; have := hb.out; simp; omega
        generalize World.alloc (u6) (.cells #[.int .i64 (-1), .int .i64 500, .int .i64 501] 2) = u8 at ST_ CC_ BN_ gg_ ⊢
        replace ST := hideIt ST_
        replace CC := hideIt CC_
        have gg := gg_
        have BN := hideIt BN_
        have NBN := hideIt nb_
        clear ST_ CC_ BN_ gg_ nb_
        (try go_wp2_with fail)
        refine hK.out _ _ ?_ (fun hh1 => ?_)
        · (try dsimp only); refine HK.out _ ?_; (repeat with_reducible (first | exact gg | exact Chg.refl _ _ | refine Chg.drew ?_ | refine Chg.alloc ?_ _ | refine Chg.setCell ?_ (by simp) _))
        clear hK K hh0
        try simp only [Act.put, List.setIfInBounds_toArray, List.set_cons_zero, List.set_cons_succ]
        refine regCall 4 (fun K hK => ?_)
        go_simp
        refine (l01Next_any (w0 := w0) 3 ST.out.drew.1).mono ?_
        rintro e u7 ⟨m_, rfl, m_a, m_b, h_, c_⟩
        replace ST := hideIt (ST.out.drew.next c_ h_)
        replace CC := hideIt ((CC.out.next (Chg.refl [b] _).drew NQ.out).next c_ NQ.out)
        have gg := gg.drew.trans (c_.mono (cs := [b, gp]) (by simp))
        replace BN := hideIt ((show Blk (World.drew u8) _ _ _ from BN.out).chg c_ NBN.out)
        clear h_ c_
        have mc := m_b (by omega)
        obtain ⟨m, rfl⟩ : ∃ z : Nat, m_ = (z : Int) := ⟨m_.toNat, by omega⟩
        have m3 : (m : Int) < 3 := mc
        clear m_a m_b mc
        (try go_wp2_with fail)
        refine hK.out _ _ ?_ (fun hh2 => ?_)
        · (try dsimp only); refine HK.out _ ?_; (repeat with_reducible (first | exact gg | exact Chg.refl _ _ | refine Chg.drew ?_ | refine Chg.alloc ?_ _ | refine Chg.setCell ?_ (by simp) _))
        clear hK K hh1
        try simp only [Act.put, List.setIfInBounds_toArray, List.set_cons_zero, List.set_cons_succ]
        refine regTk 5 hh2 ?_
        refine regCall 6 (fun K hK => ?_)
        obtain ⟨z, hz, -⟩ := ints3_at BN.out (by omega : m < 3)
        clear KB fB lB k0 k1 k2 k3 k4 k5 k6 PPUT GQ lp nep nep2 fp p0 p1 p2 p3 hp0
        obtain ⟨g9, c9, p, ev, hp0, gq, fp, pl1, ⟨p0, p1, p2, p3⟩, pput⟩ := CC.out.pin0
        have ev1 : gp = g9 := by injection ev with q1; injection q1 with q1; injection q1
        have ev3 : n1 = c9 := by injection ev
        subst ev1 ev3
        clear ev
        have PPUT := hideIt pput
        have GQ := hideIt gq.1
        have lp := gq.2
        have nep : gp ≠ rc := gq.1.2
        have nep2 : rc ≠ gp := fun e => nep e.symm
        clear pput gq
        have KB := hideIt ST.out.2.2.2.1
        have fB := KB.out.frozen
        have lB := KB.out.lt
        have k0 := KB.out.cell 0
        have k1 := KB.out.cell 1
        have k2 := KB.out.cell 2
        have k3 := KB.out.cell 3
        have k4 := KB.out.cell 4
        have k5 := KB.out.cell 5
        have k6 := KB.out.cell 6
        simp at k0 k1 k2 k3 k4 k5 k6
        go_simp
        refine hK.out _ _ ?_ (fun hh3 => ?_)
        · (try dsimp only); refine HK.out _ ?_; (repeat with_reducible (first | exact gg | exact Chg.refl _ _ | refine Chg.drew ?_ | refine Chg.alloc ?_ _ | refine Chg.setCell ?_ (by simp) _))
        clear hK K hh2
        try simp only [Act.put, List.setIfInBounds_toArray, List.set_cons_zero, List.set_cons_succ]
        refine regTk 7 hh3 ?_
        refine regTk 8 hh3 ?_
        refine regCall 9 (fun K hK => ?_)
        have PSZ : Hid (p.name.size ≤ 1048576) := hideIt (by have := (CC.out.sm).2.1.2 p (List.mem_of_getElem? hp0); unfold SmPin at this; omega)
        go_simp
        (try go_wp2_with fail)
        refine hK.out _ _ ?_ (fun hh4 => ?_)
        · (try dsimp only); refine HK.out _ ?_; (repeat with_reducible (first | exact gg | exact Chg.refl _ _ | refine Chg.drew ?_ | refine Chg.alloc ?_ _ | refine Chg.setCell ?_ (by simp) _))
        clear hK K hh3
        try simp only [Act.put, List.setIfInBounds_toArray, List.set_cons_zero, List.set_cons_succ]
        refine wpAnyH_done (by kernel_rfl) ?_ _
        clear hh4 HK
        go_upto_region 29 with fail
        refine at_c (fun wz => St w0 w b rc #[.string x.name, .int .i64 x.kind, .slice (some ⟨gp, 0, none⟩) x.pins.length n1, .slice A2 x.arcs.length n2, .slice A3 x.truth.length n3, .int .i64 x.leak, .int .i64 x.energy] wz ∧ CellW (fun q => w.heap.size < q ∧ q ≠ rc) wz { x with pins := x.pins.set 0 { p with cap := z } } (.slice (some ⟨gp, 0, none⟩) x.pins.length n1) (.slice A2 x.arcs.length n2) (.slice A3 x.truth.length n3)) ⟨(ST.out.chg ((Chg.refl [gp] _).setCell (by simp) _) (fun q hq => by simp at hq; subst hq; exact GQ.out)), PPUT.out 2 (.int .i64 z) { p with cap := z } (by decide) rfl PSZ.out⟩ (fun wz hz => ?_)
        have SZt := hideIt hz.1
        have CWz := hideIt hz.2
        have KZ := hideIt hz.1.2.2.2.1
        have KY := hideIt hz.1.2.2.1
        clear hz
        have fZ := KZ.out.frozen
        have lZ := KZ.out.lt
        have q0 := KZ.out.cell 0
        have q1 := KZ.out.cell 1
        have q2 := KZ.out.cell 2
        have q3 := KZ.out.cell 3
        have q4 := KZ.out.cell 4
        have q5 := KZ.out.cell 5
        have q6 := KZ.out.cell 6
        simp at q0 q1 q2 q3 q4 q5 q6
        have fY := KY.out.frozen
        have lY := KY.out.lt
        have y0 := KY.out.cell 0
        have y1 := KY.out.cell 1
        have y2 := KY.out.cell 2
        have y3 := KY.out.cell 3
        have y4 := KY.out.cell 4
        have y5 := KY.out.cell 5
        have y6 := KY.out.cell 6
        simp at y0 y1 y2 y3 y4 y5 y6
        have ne1 : w.heap.size ≠ rc := Nat.ne_of_lt SZt.out.2.2.2.2.1
        have ne2 : rc ≠ w.heap.size := fun e => ne1 e.symm
        go_wp2
        refine bodyPost_ret (by simp [*, results, Tryz.results79, go_sem]; try rfl) rfl ?_
        refine any_fin { x with pins := x.pins.set 0 { p with cap := z } } SZt.out CWz.out (by simp) (by simp) (by simp) ?_
        repeat with_reducible (first | exact Chg.refl _ _ | refine Chg.setCell ?_ (by simp) _)
      · go_simp
        refine (l01Next_any (w0 := w0) 3 ST.out.drew.1).mono ?_
        rintro e u7 ⟨m_, rfl, m_a, m_b, h_, c_⟩
        replace ST := hideIt (ST.out.drew.next c_ h_)
        replace CC := hideIt ((CC.out.next (Chg.refl [b] _).drew NQ.out).next c_ NQ.out)
        have gg : Chg [b, gp] u6 u7 := ((Chg.refl _ _).drew).trans (c_.mono (by simp))
        clear h_ c_
        have mc := m_b (by omega)
        obtain ⟨m, rfl⟩ : ∃ z : Nat, m_ = (z : Int) := ⟨m_.toNat, by omega⟩
        have m3 : (m : Int) < 3 := mc
        clear m_a m_b mc
        (try go_wp2_with fail)
        refine hK.out _ _ ?_ (fun hh1 => ?_)
        · (try dsimp only); refine HK.out _ ?_; (repeat with_reducible (first | exact gg | exact Chg.refl _ _ | refine Chg.drew ?_ | refine Chg.alloc ?_ _ | refine Chg.setCell ?_ (by simp) _))
        clear hK K hh0
        try simp only [Act.put, List.setIfInBounds_toArray, List.set_cons_zero, List.set_cons_succ]
        refine regCall 2 (fun K hK => ?_)
        go_simp
        have ST_ := ST.out.alloc (.cells #[.int .i64 (-1), .int .i64 500, .int .i64 501] 2)
        have CC_ := CC.out.next ((Chg.refl [b] (u7)).alloc (.cells #[.int .i64 (-1), .int .i64 500, .int .i64 501] 2)) NQ.out
        have BN_ := Blk.new (u7) 2 #[.int .i64 (-1), .int .i64 500, .int .i64 501]
        have gg_ : Chg [b, gp] u6 (World.alloc (u7) (.cells #[.int .i64 (-1), .int .i64 500, .int .i64 501] 2)) := gg.alloc _
        have nb_ : (World.heap (u7)).size ∉ [b] := by have := ST.out.ub; have := hb.out; simp; omega
        generalize World.alloc (u7) (.cells #[.int .i64 (-1), .int .i64 500, .int .i64 501] 2) = u8 at ST_ CC_ BN_ gg_ ⊢
        replace ST := hideIt ST_
        replace CC := hideIt CC_
        have gg := gg_
        have BN := hideIt BN_
        have NBN := hideIt nb_
        clear ST_ CC_ BN_ gg_ nb_
        (try go_wp2_with fail)
        refine hK.out _ _ ?_ (fun hh2 => ?_)
        · (try dsimp only); refine HK.out _ ?_; (repeat with_reducible (first | exact gg | exact Chg.refl _ _ | refine Chg.drew ?_ | refine Chg.alloc ?_ _ | refine Chg.setCell ?_ (by simp) _))
        clear hK K hh1
        try simp only [Act.put, List.setIfInBounds_toArray, List.set_cons_zero, List.set_cons_succ]
        refine regTk 5 hh2 ?_
        refine regCall 6 (fun K hK => ?_)
        obtain ⟨z, hz, -⟩ := ints3_at BN.out (by omega : m < 3)
        clear KB fB lB k0 k1 k2 k3 k4 k5 k6 PPUT GQ lp nep nep2 fp p0 p1 p2 p3 hp0
        obtain ⟨g9, c9, p, ev, hp0, gq, fp, pl1, ⟨p0, p1, p2, p3⟩, pput⟩ := CC.out.pin0
        have ev1 : gp = g9 := by injection ev with q1; injection q1 with q1; injection q1
        have ev3 : n1 = c9 := by injection ev
        subst ev1 ev3
        clear ev
        have PPUT := hideIt pput
        have GQ := hideIt gq.1
        have lp := gq.2
        have nep : gp ≠ rc := gq.1.2
        have nep2 : rc ≠ gp := fun e => nep e.symm
        clear pput gq
        have KB := hideIt ST.out.2.2.2.1
        have fB := KB.out.frozen
        have lB := KB.out.lt
        have k0 := KB.out.cell 0
        have k1 := KB.out.cell 1
        have k2 := KB.out.cell 2
        have k3 := KB.out.cell 3
        have k4 := KB.out.cell 4
        have k5 := KB.out.cell 5
        have k6 := KB.out.cell 6
        simp at k0 k1 k2 k3 k4 k5 k6
        go_simp
        refine hK.out _ _ ?_ (fun hh3 => ?_)
        · (try dsimp only); refine HK.out _ ?_; (repeat with_reducible (first | exact gg | exact Chg.refl _ _ | refine Chg.drew ?_ | refine Chg.alloc ?_ _ | refine Chg.setCell ?_ (by simp) _))
        clear hK K hh2
        try simp only [Act.put, List.setIfInBounds_toArray, List.set_cons_zero, List.set_cons_succ]
        refine regTk 7 hh3 ?_
        refine regTk 8 hh3 ?_
        refine regCall 9 (fun K hK => ?_)
        have PSZ : Hid (p.name.size ≤ 1048576) := hideIt (by have := (CC.out.sm).2.1.2 p (List.mem_of_getElem? hp0); unfold SmPin at this; omega)
        go_simp
        (try go_wp2_with fail)
        refine hK.out _ _ ?_ (fun hh4 => ?_)
        · (try dsimp only); refine HK.out _ ?_; (repeat with_reducible (first | exact gg | exact Chg.refl _ _ | refine Chg.drew ?_ | refine Chg.alloc ?_ _ | refine Chg.setCell ?_ (by simp) _))
        clear hK K hh3
        try simp only [Act.put, List.setIfInBounds_toArray, List.set_cons_zero, List.set_cons_succ]
        refine wpAnyH_done (by kernel_rfl) ?_ _
        clear hh4 HK
        go_upto_region 29 with fail
        refine at_c (fun wz => St w0 w b rc #[.string x.name, .int .i64 x.kind, .slice (some ⟨gp, 0, none⟩) x.pins.length n1, .slice A2 x.arcs.length n2, .slice A3 x.truth.length n3, .int .i64 x.leak, .int .i64 x.energy] wz ∧ CellW (fun q => w.heap.size < q ∧ q ≠ rc) wz { x with pins := x.pins.set 0 { p with cap := z } } (.slice (some ⟨gp, 0, none⟩) x.pins.length n1) (.slice A2 x.arcs.length n2) (.slice A3 x.truth.length n3)) ⟨(ST.out.chg ((Chg.refl [gp] _).setCell (by simp) _) (fun q hq => by simp at hq; subst hq; exact GQ.out)), PPUT.out 2 (.int .i64 z) { p with cap := z } (by decide) rfl PSZ.out⟩ (fun wz hz => ?_)
        have SZt := hideIt hz.1
        have CWz := hideIt hz.2
        have KZ := hideIt hz.1.2.2.2.1
        have KY := hideIt hz.1.2.2.1
        clear hz
        have fZ := KZ.out.frozen
        have lZ := KZ.out.lt
        have q0 := KZ.out.cell 0
        have q1 := KZ.out.cell 1
        have q2 := KZ.out.cell 2
        have q3 := KZ.out.cell 3
        have q4 := KZ.out.cell 4
        have q5 := KZ.out.cell 5
        have q6 := KZ.out.cell 6
        simp at q0 q1 q2 q3 q4 q5 q6
        have fY := KY.out.frozen
        have lY := KY.out.lt
        have y0 := KY.out.cell 0
        have y1 := KY.out.cell 1
        have y2 := KY.out.cell 2
        have y3 := KY.out.cell 3
        have y4 := KY.out.cell 4
        have y5 := KY.out.cell 5
        have y6 := KY.out.cell 6
        simp at y0 y1 y2 y3 y4 y5 y6
        have ne1 : w.heap.size ≠ rc := Nat.ne_of_lt SZt.out.2.2.2.2.1
        have ne2 : rc ≠ w.heap.size := fun e => ne1 e.symm
        go_wp2
        refine bodyPost_ret (by simp [*, results, Tryz.results79, go_sem]; try rfl) rfl ?_
        refine any_fin { x with pins := x.pins.set 0 { p with cap := z } } SZt.out CWz.out (by simp) (by simp) (by simp) ?_
        repeat with_reducible (first | exact Chg.refl _ _ | refine Chg.setCell ?_ (by simp) _)
    · obtain ⟨ga, ca, a, vd, vs, ev, ha0, gq, fa, ac1, ac2, ⟨a0, a1, a2, a3, a4, a5⟩, ⟨⟨gd, cd, rfl, gdq, fd, ned, d0, d1, d2, dd0, dd1, dd2⟩, As, ns, rfl⟩, aput⟩ := CC.out.arcK kal
      injection ev with ev1 _ ev3
      subst ev1 ev3
      have kai : (k : Int) < (x.arcs.length : Int) := by omega
      have APUT := hideIt aput
      have GA := hideIt gq.1
      have la := gq.2
      have ld := gdq.2
      have nea : ga ≠ rc := gq.1.2
      have nea2 : rc ≠ ga := fun e => nea e.symm
      clear aput gq
      clear KB fB lB k0 k1 k2 k3 k4 k5 k6
      have KB := hideIt ST.out.2.2.2.1
      have fB := KB.out.frozen
      have lB := KB.out.lt
      have k0 := KB.out.cell 0
      have k1 := KB.out.cell 1
      have k2 := KB.out.cell 2
      have k3 := KB.out.cell 3
      have k4 := KB.out.cell 4
      have k5 := KB.out.cell 5
      have k6 := KB.out.cell 6
      simp at k0 k1 k2 k3 k4 k5 k6
      have HK : Hid (∀ w', Chg [b, ga] u6 w' → w'.cell? ⟨rc, 3, none⟩ = some (.slice (some ⟨ga, 0, none⟩) x.arcs.length n2)) := hideIt (fun w' c => c.cell k3 (by have := nea2; have := hb.out; have := ST.out.2.2.2.2.1; simp; omega))
      go_upto_region 12 with fail
      refine wp_region_held_drew (S := (fun w' => w'.cell? ⟨rc, 3, none⟩ = some (.slice (some ⟨ga, 0, none⟩) x.arcs.length n2))) (by kernel_rfl) ?_ (fun hh0 => ?_)
      · (try dsimp only); refine HK.out _ ?_; (repeat with_reducible (first | exact gg | exact Chg.refl _ _ | refine Chg.drew ?_ | refine Chg.alloc ?_ _ | refine Chg.setCell ?_ (by simp) _))
      refine regTk 0 hh0 ?_
      refine regTk 1 hh0 ?_
      refine regTk 2 hh0 ?_
      refine regTk 3 hh0 ?_
      refine regCall 4 (fun K hK => ?_)
      go_simp
      refine (l01Next_any (w0 := w0) 7 ST.out.drew.1).mono ?_
      rintro e u7 ⟨m, rfl, ma, mb, h_, c_⟩
      replace ST := hideIt (ST.out.drew.next c_ h_)
      replace CC := hideIt ((CC.out.next (Chg.refl [b] _).drew NQ.out).next c_ NQ.out)
      have gg : Chg [b, ga] u6 u7 := ((Chg.refl _ _).drew).trans (c_.mono (by simp))
      clear h_ c_
      clear mb KB fB lB k0 k1 k2 k3 k4 k5 k6 APUT GA la ld nea nea2 fa a0 a1 a2 a3 a4 a5 ned d0 d1 d2 dd0 dd1 dd2 gdq fd ha0
      obtain ⟨g9, c9, a, vd, vs, ev, ha0, gq, fa, ac1, ac2, ⟨a0, a1, a2, a3, a4, a5⟩, ⟨⟨gd, cd, rfl, gdq, fd, ned, d0, d1, d2, dd0, dd1, dd2⟩, As, ns, rfl⟩, aput⟩ := CC.out.arcK kal
      have ev1 : ga = g9 := by injection ev with q1; injection q1 with q1; injection q1
      have ev3 : n2 = c9 := by injection ev
      subst ev1 ev3
      clear ev
      have APUT := hideIt aput
      have GA := hideIt gq.1
      have la := gq.2
      have ld := gdq.2
      have nea : ga ≠ rc := gq.1.2
      have nea2 : rc ≠ ga := fun e => nea e.symm
      clear aput gq
      have KB := hideIt ST.out.2.2.2.1
      have fB := KB.out.frozen
      have lB := KB.out.lt
      have k0 := KB.out.cell 0
      have k1 := KB.out.cell 1
      have k2 := KB.out.cell 2
      have k3 := KB.out.cell 3
      have k4 := KB.out.cell 4
      have k5 := KB.out.cell 5
      have k6 := KB.out.cell 6
      simp at k0 k1 k2 k3 k4 k5 k6
      (try go_wp2_with fail)
      refine hK.out _ _ ?_ (fun hh1 => ?_)
      · (try dsimp only); refine HK.out _ ?_; (repeat with_reducible (first | exact gg | exact Chg.refl _ _ | refine Chg.drew ?_ | refine Chg.alloc ?_ _ | refine Chg.setCell ?_ (by simp) _))
      clear hK K hh0
      try simp only [Act.put, List.setIfInBounds_toArray, List.set_cons_zero, List.set_cons_succ]
      refine regTk 5 hh1 ?_
      refine regTk 6 hh1 ?_
      refine regCall 7 (fun K hK => ?_)
      go_simp
      (try go_wp2_with fail)
      refine hK.out _ _ ?_ (fun hh2 => ?_)
      · (try dsimp only); refine HK.out _ ?_; (repeat with_reducible (first | exact gg | exact Chg.refl _ _ | refine Chg.drew ?_ | refine Chg.alloc ?_ _ | refine Chg.setCell ?_ (by simp) _))
      clear hK K hh1
      try simp only [Act.put, List.setIfInBounds_toArray, List.set_cons_zero, List.set_cons_succ]
      refine wpAnyH_done (by kernel_rfl) ?_ _
      clear hh2 HK
      go_upto_region 29 with fail
      refine at_c (fun wz => St w0 w b rc #[.string x.name, .int .i64 x.kind, .slice A1 x.pins.length n1, .slice (some ⟨ga, 0, none⟩) x.arcs.length n2, .slice A3 x.truth.length n3, .int .i64 x.leak, .int .i64 x.energy] wz ∧ CellW (fun q => w.heap.size < q ∧ q ≠ rc) wz { x with arcs := x.arcs.set k { a with kind := m } } (.slice A1 x.pins.length n1) (.slice (some ⟨ga, 0, none⟩) x.arcs.length n2) (.slice A3 x.truth.length n3)) ⟨(ST.out.chg ((Chg.refl [ga] _).setCell (by simp) _) (fun q hq => by simp at hq; subst hq; exact GA.out)), APUT.out 0 (.int .i64 m) { a with kind := m } (by decide) (fun _ _ => rfl) rfl rfl⟩ (fun wz hz => ?_)
      have SZt := hideIt hz.1
      have CWz := hideIt hz.2
      have KZ := hideIt hz.1.2.2.2.1
      have KY := hideIt hz.1.2.2.1
      clear hz
      have fZ := KZ.out.frozen
      have lZ := KZ.out.lt
      have q0 := KZ.out.cell 0
      have q1 := KZ.out.cell 1
      have q2 := KZ.out.cell 2
      have q3 := KZ.out.cell 3
      have q4 := KZ.out.cell 4
      have q5 := KZ.out.cell 5
      have q6 := KZ.out.cell 6
      simp at q0 q1 q2 q3 q4 q5 q6
      have fY := KY.out.frozen
      have lY := KY.out.lt
      have y0 := KY.out.cell 0
      have y1 := KY.out.cell 1
      have y2 := KY.out.cell 2
      have y3 := KY.out.cell 3
      have y4 := KY.out.cell 4
      have y5 := KY.out.cell 5
      have y6 := KY.out.cell 6
      simp at y0 y1 y2 y3 y4 y5 y6
      have ne1 : w.heap.size ≠ rc := Nat.ne_of_lt SZt.out.2.2.2.2.1
      have ne2 : rc ≠ w.heap.size := fun e => ne1 e.symm
      go_wp2
      refine bodyPost_ret (by simp [*, results, Tryz.results79, go_sem]; try rfl) rfl ?_
      refine any_fin { x with arcs := x.arcs.set k { a with kind := m } } SZt.out CWz.out (by simp) (by simp) (by simp) ?_
      repeat with_reducible (first | exact Chg.refl _ _ | refine Chg.setCell ?_ (by simp) _)
    · obtain ⟨ga, ca, a, vd, vs, ev, ha0, gq, fa, ac1, ac2, ⟨a0, a1, a2, a3, a4, a5⟩, ⟨⟨gd, cd, rfl, gdq, fd, ned, d0, d1, d2, dd0, dd1, dd2⟩, As, ns, rfl⟩, aput⟩ := CC.out.arcK kal
      injection ev with ev1 _ ev3
      subst ev1 ev3
      have kai : (k : Int) < (x.arcs.length : Int) := by omega
      have APUT := hideIt aput
      have GA := hideIt gq.1
      have la := gq.2
      have ld := gdq.2
      have nea : ga ≠ rc := gq.1.2
      have nea2 : rc ≠ ga := fun e => nea e.symm
      clear aput gq
      clear KB fB lB k0 k1 k2 k3 k4 k5 k6
      have KB := hideIt ST.out.2.2.2.1
      have fB := KB.out.frozen
      have lB := KB.out.lt
      have k0 := KB.out.cell 0
      have k1 := KB.out.cell 1
      have k2 := KB.out.cell 2
      have k3 := KB.out.cell 3
      have k4 := KB.out.cell 4
      have k5 := KB.out.cell 5
      have k6 := KB.out.cell 6
      simp at k0 k1 k2 k3 k4 k5 k6
      have HK : Hid (∀ w', Chg [b, ga] u6 w' → w'.cell? ⟨rc, 3, none⟩ = some (.slice (some ⟨ga, 0, none⟩) x.arcs.length n2)) := hideIt (fun w' c => c.cell k3 (by have := nea2; have := hb.out; have := ST.out.2.2.2.2.1; simp; omega))
      go_upto_region 14 with fail
      refine wp_region_held_drew (S := (fun w' => w'.cell? ⟨rc, 3, none⟩ = some (.slice (some ⟨ga, 0, none⟩) x.arcs.length n2))) (by kernel_rfl) ?_ (fun hh0 => ?_)
      · (try dsimp only); refine HK.out _ ?_; (repeat with_reducible (first | exact gg | exact Chg.refl _ _ | refine Chg.drew ?_ | refine Chg.alloc ?_ _ | refine Chg.setCell ?_ (by simp) _))
      refine regTk 0 hh0 ?_
      refine regTk 1 hh0 ?_
      refine regTk 2 hh0 ?_
      refine regTk 3 hh0 ?_
      refine regCall 4 (fun K hK => ?_)
      go_simp
      refine (l01Next_any (w0 := w0) 5 ST.out.drew.1).mono ?_
      rintro e u7 ⟨m, rfl, ma, mb, h_, c_⟩
      replace ST := hideIt (ST.out.drew.next c_ h_)
      replace CC := hideIt ((CC.out.next (Chg.refl [b] _).drew NQ.out).next c_ NQ.out)
      have gg : Chg [b, ga] u6 u7 := ((Chg.refl _ _).drew).trans (c_.mono (by simp))
      clear h_ c_
      clear mb KB fB lB k0 k1 k2 k3 k4 k5 k6 APUT GA la ld nea nea2 fa a0 a1 a2 a3 a4 a5 ned d0 d1 d2 dd0 dd1 dd2 gdq fd ha0
      obtain ⟨g9, c9, a, vd, vs, ev, ha0, gq, fa, ac1, ac2, ⟨a0, a1, a2, a3, a4, a5⟩, ⟨⟨gd, cd, rfl, gdq, fd, ned, d0, d1, d2, dd0, dd1, dd2⟩, As, ns, rfl⟩, aput⟩ := CC.out.arcK kal
      have ev1 : ga = g9 := by injection ev with q1; injection q1 with q1; injection q1
      have ev3 : n2 = c9 := by injection ev
      subst ev1 ev3
      clear ev
      have APUT := hideIt aput
      have GA := hideIt gq.1
      have la := gq.2
      have ld := gdq.2
      have nea : ga ≠ rc := gq.1.2
      have nea2 : rc ≠ ga := fun e => nea e.symm
      clear aput gq
      have KB := hideIt ST.out.2.2.2.1
      have fB := KB.out.frozen
      have lB := KB.out.lt
      have k0 := KB.out.cell 0
      have k1 := KB.out.cell 1
      have k2 := KB.out.cell 2
      have k3 := KB.out.cell 3
      have k4 := KB.out.cell 4
      have k5 := KB.out.cell 5
      have k6 := KB.out.cell 6
      simp at k0 k1 k2 k3 k4 k5 k6
      (try go_wp2_with fail)
      refine hK.out _ _ ?_ (fun hh1 => ?_)
      · (try dsimp only); refine HK.out _ ?_; (repeat with_reducible (first | exact gg | exact Chg.refl _ _ | refine Chg.drew ?_ | refine Chg.alloc ?_ _ | refine Chg.setCell ?_ (by simp) _))
      clear hK K hh0
      try simp only [Act.put, List.setIfInBounds_toArray, List.set_cons_zero, List.set_cons_succ]
      refine regTk 5 hh1 ?_
      refine regTk 6 hh1 ?_
      refine regCall 7 (fun K hK => ?_)
      go_simp
      (try go_wp2_with fail)
      refine hK.out _ _ ?_ (fun hh2 => ?_)
      · (try dsimp only); refine HK.out _ ?_; (repeat with_reducible (first | exact gg | exact Chg.refl _ _ | refine Chg.drew ?_ | refine Chg.alloc ?_ _ | refine Chg.setCell ?_ (by simp) _))
      clear hK K hh1
      try simp only [Act.put, List.setIfInBounds_toArray, List.set_cons_zero, List.set_cons_succ]
      refine wpAnyH_done (by kernel_rfl) ?_ _
      clear hh2 HK
      go_upto_region 29 with fail
      refine at_c (fun wz => St w0 w b rc #[.string x.name, .int .i64 x.kind, .slice A1 x.pins.length n1, .slice (some ⟨ga, 0, none⟩) x.arcs.length n2, .slice A3 x.truth.length n3, .int .i64 x.leak, .int .i64 x.energy] wz ∧ CellW (fun q => w.heap.size < q ∧ q ≠ rc) wz { x with arcs := x.arcs.set k { a with sense := m } } (.slice A1 x.pins.length n1) (.slice (some ⟨ga, 0, none⟩) x.arcs.length n2) (.slice A3 x.truth.length n3)) ⟨(ST.out.chg ((Chg.refl [ga] _).setCell (by simp) _) (fun q hq => by simp at hq; subst hq; exact GA.out)), APUT.out 3 (.int .i64 m) { a with sense := m } (by decide) (fun _ _ => rfl) rfl rfl⟩ (fun wz hz => ?_)
      have SZt := hideIt hz.1
      have CWz := hideIt hz.2
      have KZ := hideIt hz.1.2.2.2.1
      have KY := hideIt hz.1.2.2.1
      clear hz
      have fZ := KZ.out.frozen
      have lZ := KZ.out.lt
      have q0 := KZ.out.cell 0
      have q1 := KZ.out.cell 1
      have q2 := KZ.out.cell 2
      have q3 := KZ.out.cell 3
      have q4 := KZ.out.cell 4
      have q5 := KZ.out.cell 5
      have q6 := KZ.out.cell 6
      simp at q0 q1 q2 q3 q4 q5 q6
      have fY := KY.out.frozen
      have lY := KY.out.lt
      have y0 := KY.out.cell 0
      have y1 := KY.out.cell 1
      have y2 := KY.out.cell 2
      have y3 := KY.out.cell 3
      have y4 := KY.out.cell 4
      have y5 := KY.out.cell 5
      have y6 := KY.out.cell 6
      simp at y0 y1 y2 y3 y4 y5 y6
      have ne1 : w.heap.size ≠ rc := Nat.ne_of_lt SZt.out.2.2.2.2.1
      have ne2 : rc ≠ w.heap.size := fun e => ne1 e.symm
      go_wp2
      refine bodyPost_ret (by simp [*, results, Tryz.results79, go_sem]; try rfl) rfl ?_
      refine any_fin { x with arcs := x.arcs.set k { a with sense := m } } SZt.out CWz.out (by simp) (by simp) (by simp) ?_
      repeat with_reducible (first | exact Chg.refl _ _ | refine Chg.setCell ?_ (by simp) _)
    · obtain ⟨iA, hiA, hzA, hsA, hbA⟩ := info_two info_Arc bytes_Arc
      obtain ⟨ga, ca, a, vd, vs, acells, ev, hrow, ha0, ⟨a0, a1, a2, a3, a4, a5⟩, ⟨⟨Ad, nd, rfl⟩, As, ns, rfl⟩, app⟩ := CC.out.arcApp kal
      obtain ⟨_, _, _, _, _, ev2, _, gq, _⟩ := CC.out.arcK kal
      injection ev with ev1 _ ev3
      subst ev1 ev3
      have gq2 : w.heap.size < ga ∧ ga ≠ rc := by
        injection ev2 with q1
        injection q1 with q1
        injection q1 with q1
        rw [q1]
        exact gq.1
      have GA := hideIt gq2
      have ARH := hideIt hrow
      have APP := hideIt app
      have kai : (k : Int) < (x.arcs.length : Int) := by omega
      clear ev2 gq gq2 hrow app ha0
      clear KB fB lB k0 k1 k2 k3 k4 k5 k6
      have KB := hideIt ST.out.2.2.2.1
      have fB := KB.out.frozen
      have lB := KB.out.lt
      have k0 := KB.out.cell 0
      have k1 := KB.out.cell 1
      have k2 := KB.out.cell 2
      have k3 := KB.out.cell 3
      have k4 := KB.out.cell 4
      have k5 := KB.out.cell 5
      have k6 := KB.out.cell 6
      simp at k0 k1 k2 k3 k4 k5 k6
      go_upto_region 16 with fail
      refine wp_region_held_drew (S := (fun _ => True)) (by kernel_rfl) ?_ (fun hh0 => ?_)
      · (try dsimp only); try trivial
      refine regTk 0 hh0 ?_
      refine regTk 2 hh0 ?_
      refine regTk 4 hh0 ?_
      refine regCall2 1 3 (fun K hK => ?_) (fun K hK => ?_)
      · go_simp
        (try go_wp2_with fail)
        refine hK.out _ _ ?_ (fun hh1 => ?_)
        · (try dsimp only); try trivial
        clear hK K hh0
        try simp only [Act.put, List.setIfInBounds_toArray, List.set_cons_zero, List.set_cons_succ]
        refine regCall 3 (fun K hK => ?_)
        go_simp
        (try go_wp2_with fail)
        refine hK.out _ _ ?_ (fun hh2 => ?_)
        · (try dsimp only); try trivial
        clear hK K hh1
        try simp only [Act.put, List.setIfInBounds_toArray, List.set_cons_zero, List.set_cons_succ]
        refine regTk 5 hh2 ?_
        refine regCall 6 (fun K hK => ?_)
        go_simp
        (try go_wp2_with fail)
        refine hK.out _ _ ?_ (fun hh3 => ?_)
        · (try dsimp only); try trivial
        clear hK K hh2
        try simp only [Act.put, List.setIfInBounds_toArray, List.set_cons_zero, List.set_cons_succ]
        refine regCall 7 (fun K hK => ?_)
        go_simp
        (try go_wp2_with fail)
        refine hK.out _ _ ?_ (fun hh4 => ?_)
        · (try dsimp only); try trivial
        clear hK K hh3
        try simp only [Act.put, List.setIfInBounds_toArray, List.set_cons_zero, List.set_cons_succ]
        refine regCall 8 (fun K hK => ?_)
        refine wp_append_at _ _ 110 rfl Tryz.underlying110 hiA hzA hsA hbA rfl (by decide) (.slice (some ⟨ga, 0, none⟩) x.arcs.length n2) x.arcs.length acells rfl (ARH.out.alloc _) ⟨u6.heap.size, 0, none⟩ 1 [.int .i64 a.kind, .int .i64 a.src, .int .i64 a.dst, .int .i64 a.sense, .slice Ad 2 nd, .slice As a.slew.length ns] rfl rfl (cells_new _ _ _) (by intro u hu; simp at hu; rcases hu with rfl | rfl | rfl | rfl | rfl | rfl <;> rfl) (by omega) ?_
        intro v' w4 r1 r2 r3
        have hub := ST.out.ub
        have hub2 := ST.out.2.2.2.2.1
        have hq := APP.out _ w4 v' ((Grows.refl _).alloc _).drew (by simp; omega) r2 r3 r1
        have CW4 := hideIt hq.1
        obtain ⟨A9, n9, ev⟩ := hq.2
        subst ev
        have ST4 : Hid (St w0 w b rc #[.string x.name, .int .i64 x.kind, .slice A1 x.pins.length n1, .slice (some ⟨ga, 0, none⟩) x.arcs.length n2, .slice A3 x.truth.length n3, .int .i64 x.leak, .int .i64 x.energy] w4) := hideIt ((ST.out.alloc _).drew.grown r2 (fun k e => by injection e with e; subst e; exact GA.out))
        have KB4 := hideIt ST4.out.2.2.2.1
        clear fB lB k0 k1 k2 k3 k4 k5 k6 r1 r2 r3 hub hub2 hq
        have fB := KB4.out.frozen
        have lB := KB4.out.lt
        have k0 := KB4.out.cell 0
        have k1 := KB4.out.cell 1
        have k2 := KB4.out.cell 2
        have k3 := KB4.out.cell 3
        have k4 := KB4.out.cell 4
        have k5 := KB4.out.cell 5
        have k6 := KB4.out.cell 6
        simp at k0 k1 k2 k3 k4 k5 k6
        refine hK.out _ _ ?_ (fun hh5 => ?_)
        · (try dsimp only); try trivial
        clear hK K hh4
        try simp only [Act.put, List.setIfInBounds_toArray, List.set_cons_zero, List.set_cons_succ]
        refine regTk 9 hh5 ?_
        refine regCall 10 (fun K hK => ?_)
        go_simp
        (try go_wp2_with fail)
        refine hK.out _ _ ?_ (fun hh6 => ?_)
        · (try dsimp only); try trivial
        clear hK K hh5
        try simp only [Act.put, List.setIfInBounds_toArray, List.set_cons_zero, List.set_cons_succ]
        refine wpAnyH_done (by kernel_rfl) ?_ _
        clear hh6
        go_upto_region 29 with fail
        refine at_c (fun wz => St w0 w b rc #[.string x.name, .int .i64 x.kind, .slice A1 x.pins.length n1, .slice A9 (x.arcs.length + 1) n9, .slice A3 x.truth.length n3, .int .i64 x.leak, .int .i64 x.energy] wz ∧ CellW (fun q => w.heap.size < q ∧ q ≠ rc) wz { x with arcs := x.arcs ++ [a] } (.slice A1 x.pins.length n1) (.slice A9 (x.arcs.length + 1) n9) (.slice A3 x.truth.length n3)) ⟨ST4.out.box 3 _ rfl, CW4.out.next ((Chg.refl [rc] _).setCell (by simp) _) (fun q hq => by simp at hq; subst hq; intro h; exact h.2 rfl)⟩ (fun wz hz => ?_)
        have SZt := hideIt hz.1
        have CWz := hideIt hz.2
        have KZ := hideIt hz.1.2.2.2.1
        have KY := hideIt hz.1.2.2.1
        clear hz
        have fZ := KZ.out.frozen
        have lZ := KZ.out.lt
        have q0 := KZ.out.cell 0
        have q1 := KZ.out.cell 1
        have q2 := KZ.out.cell 2
        have q3 := KZ.out.cell 3
        have q4 := KZ.out.cell 4
        have q5 := KZ.out.cell 5
        have q6 := KZ.out.cell 6
        simp at q0 q1 q2 q3 q4 q5 q6
        have fY := KY.out.frozen
        have lY := KY.out.lt
        have y0 := KY.out.cell 0
        have y1 := KY.out.cell 1
        have y2 := KY.out.cell 2
        have y3 := KY.out.cell 3
        have y4 := KY.out.cell 4
        have y5 := KY.out.cell 5
        have y6 := KY.out.cell 6
        simp at y0 y1 y2 y3 y4 y5 y6
        have ne1 : w.heap.size ≠ rc := Nat.ne_of_lt SZt.out.2.2.2.2.1
        have ne2 : rc ≠ w.heap.size := fun e => ne1 e.symm
        go_wp2
        refine bodyPost_ret (by simp [*, results, Tryz.results79, go_sem]; try rfl) rfl ?_
        refine any_fin { x with arcs := x.arcs ++ [a] } SZt.out CWz.out (by simp) (by simp) (by simp) ?_
        repeat with_reducible (first | exact Chg.refl _ _ | refine Chg.setCell ?_ (by simp) _)
      · go_simp
        (try go_wp2_with fail)
        refine hK.out _ _ ?_ (fun hh1 => ?_)
        · (try dsimp only); try trivial
        clear hK K hh0
        try simp only [Act.put, List.setIfInBounds_toArray, List.set_cons_zero, List.set_cons_succ]
        refine regTk 5 hh1 ?_
        refine regCall2 1 6 (fun K hK => ?_) (fun K hK => ?_)
        · go_simp
          (try go_wp2_with fail)
          refine hK.out _ _ ?_ (fun hh2 => ?_)
          · (try dsimp only); try trivial
          clear hK K hh1
          try simp only [Act.put, List.setIfInBounds_toArray, List.set_cons_zero, List.set_cons_succ]
          refine regCall 6 (fun K hK => ?_)
          go_simp
          (try go_wp2_with fail)
          refine hK.out _ _ ?_ (fun hh3 => ?_)
          · (try dsimp only); try trivial
          clear hK K hh2
          try simp only [Act.put, List.setIfInBounds_toArray, List.set_cons_zero, List.set_cons_succ]
          refine regCall 7 (fun K hK => ?_)
          go_simp
          (try go_wp2_with fail)
          refine hK.out _ _ ?_ (fun hh4 => ?_)
          · (try dsimp only); try trivial
          clear hK K hh3
          try simp only [Act.put, List.setIfInBounds_toArray, List.set_cons_zero, List.set_cons_succ]
          refine regCall 8 (fun K hK => ?_)
          refine wp_append_at _ _ 110 rfl Tryz.underlying110 hiA hzA hsA hbA rfl (by decide) (.slice (some ⟨ga, 0, none⟩) x.arcs.length n2) x.arcs.length acells rfl (ARH.out.alloc _) ⟨u6.heap.size, 0, none⟩ 1 [.int .i64 a.kind, .int .i64 a.src, .int .i64 a.dst, .int .i64 a.sense, .slice Ad 2 nd, .slice As a.slew.length ns] rfl rfl (cells_new _ _ _) (by intro u hu; simp at hu; rcases hu with rfl | rfl | rfl | rfl | rfl | rfl <;> rfl) (by omega) ?_
          intro v' w4 r1 r2 r3
          have hub := ST.out.ub
          have hub2 := ST.out.2.2.2.2.1
          have hq := APP.out _ w4 v' ((Grows.refl _).alloc _).drew (by simp; omega) r2 r3 r1
          have CW4 := hideIt hq.1
          obtain ⟨A9, n9, ev⟩ := hq.2
          subst ev
          have ST4 : Hid (St w0 w b rc #[.string x.name, .int .i64 x.kind, .slice A1 x.pins.length n1, .slice (some ⟨ga, 0, none⟩) x.arcs.length n2, .slice A3 x.truth.length n3, .int .i64 x.leak, .int .i64 x.energy] w4) := hideIt ((ST.out.alloc _).drew.grown r2 (fun k e => by injection e with e; subst e; exact GA.out))
          have KB4 := hideIt ST4.out.2.2.2.1
          clear fB lB k0 k1 k2 k3 k4 k5 k6 r1 r2 r3 hub hub2 hq
          have fB := KB4.out.frozen
          have lB := KB4.out.lt
          have k0 := KB4.out.cell 0
          have k1 := KB4.out.cell 1
          have k2 := KB4.out.cell 2
          have k3 := KB4.out.cell 3
          have k4 := KB4.out.cell 4
          have k5 := KB4.out.cell 5
          have k6 := KB4.out.cell 6
          simp at k0 k1 k2 k3 k4 k5 k6
          refine hK.out _ _ ?_ (fun hh5 => ?_)
          · (try dsimp only); try trivial
          clear hK K hh4
          try simp only [Act.put, List.setIfInBounds_toArray, List.set_cons_zero, List.set_cons_succ]
          refine regTk 9 hh5 ?_
          refine regCall 10 (fun K hK => ?_)
          go_simp
          (try go_wp2_with fail)
          refine hK.out _ _ ?_ (fun hh6 => ?_)
          · (try dsimp only); try trivial
          clear hK K hh5
          try simp only [Act.put, List.setIfInBounds_toArray, List.set_cons_zero, List.set_cons_succ]
          refine wpAnyH_done (by kernel_rfl) ?_ _
          clear hh6
          go_upto_region 29 with fail
          refine at_c (fun wz => St w0 w b rc #[.string x.name, .int .i64 x.kind, .slice A1 x.pins.length n1, .slice A9 (x.arcs.length + 1) n9, .slice A3 x.truth.length n3, .int .i64 x.leak, .int .i64 x.energy] wz ∧ CellW (fun q => w.heap.size < q ∧ q ≠ rc) wz { x with arcs := x.arcs ++ [a] } (.slice A1 x.pins.length n1) (.slice A9 (x.arcs.length + 1) n9) (.slice A3 x.truth.length n3)) ⟨ST4.out.box 3 _ rfl, CW4.out.next ((Chg.refl [rc] _).setCell (by simp) _) (fun q hq => by simp at hq; subst hq; intro h; exact h.2 rfl)⟩ (fun wz hz => ?_)
          have SZt := hideIt hz.1
          have CWz := hideIt hz.2
          have KZ := hideIt hz.1.2.2.2.1
          have KY := hideIt hz.1.2.2.1
          clear hz
          have fZ := KZ.out.frozen
          have lZ := KZ.out.lt
          have q0 := KZ.out.cell 0
          have q1 := KZ.out.cell 1
          have q2 := KZ.out.cell 2
          have q3 := KZ.out.cell 3
          have q4 := KZ.out.cell 4
          have q5 := KZ.out.cell 5
          have q6 := KZ.out.cell 6
          simp at q0 q1 q2 q3 q4 q5 q6
          have fY := KY.out.frozen
          have lY := KY.out.lt
          have y0 := KY.out.cell 0
          have y1 := KY.out.cell 1
          have y2 := KY.out.cell 2
          have y3 := KY.out.cell 3
          have y4 := KY.out.cell 4
          have y5 := KY.out.cell 5
          have y6 := KY.out.cell 6
          simp at y0 y1 y2 y3 y4 y5 y6
          have ne1 : w.heap.size ≠ rc := Nat.ne_of_lt SZt.out.2.2.2.2.1
          have ne2 : rc ≠ w.heap.size := fun e => ne1 e.symm
          go_wp2
          refine bodyPost_ret (by simp [*, results, Tryz.results79, go_sem]; try rfl) rfl ?_
          refine any_fin { x with arcs := x.arcs ++ [a] } SZt.out CWz.out (by simp) (by simp) (by simp) ?_
          repeat with_reducible (first | exact Chg.refl _ _ | refine Chg.setCell ?_ (by simp) _)
        · go_simp
          (try go_wp2_with fail)
          refine hK.out _ _ ?_ (fun hh2 => ?_)
          · (try dsimp only); try trivial
          clear hK K hh1
          try simp only [Act.put, List.setIfInBounds_toArray, List.set_cons_zero, List.set_cons_succ]
          refine regCall2 1 7 (fun K hK => ?_) (fun K hK => ?_)
          · go_simp
            (try go_wp2_with fail)
            refine hK.out _ _ ?_ (fun hh3 => ?_)
            · (try dsimp only); try trivial
            clear hK K hh2
            try simp only [Act.put, List.setIfInBounds_toArray, List.set_cons_zero, List.set_cons_succ]
            refine regCall 7 (fun K hK => ?_)
            go_simp
            (try go_wp2_with fail)
            refine hK.out _ _ ?_ (fun hh4 => ?_)
            · (try dsimp only); try trivial
            clear hK K hh3
            try simp only [Act.put, List.setIfInBounds_toArray, List.set_cons_zero, List.set_cons_succ]
            refine regCall 8 (fun K hK => ?_)
            refine wp_append_at _ _ 110 rfl Tryz.underlying110 hiA hzA hsA hbA rfl (by decide) (.slice (some ⟨ga, 0, none⟩) x.arcs.length n2) x.arcs.length acells rfl (ARH.out.alloc _) ⟨u6.heap.size, 0, none⟩ 1 [.int .i64 a.kind, .int .i64 a.src, .int .i64 a.dst, .int .i64 a.sense, .slice Ad 2 nd, .slice As a.slew.length ns] rfl rfl (cells_new _ _ _) (by intro u hu; simp at hu; rcases hu with rfl | rfl | rfl | rfl | rfl | rfl <;> rfl) (by omega) ?_
            intro v' w4 r1 r2 r3
            have hub := ST.out.ub
            have hub2 := ST.out.2.2.2.2.1
            have hq := APP.out _ w4 v' ((Grows.refl _).alloc _).drew (by simp; omega) r2 r3 r1
            have CW4 := hideIt hq.1
            obtain ⟨A9, n9, ev⟩ := hq.2
            subst ev
            have ST4 : Hid (St w0 w b rc #[.string x.name, .int .i64 x.kind, .slice A1 x.pins.length n1, .slice (some ⟨ga, 0, none⟩) x.arcs.length n2, .slice A3 x.truth.length n3, .int .i64 x.leak, .int .i64 x.energy] w4) := hideIt ((ST.out.alloc _).drew.grown r2 (fun k e => by injection e with e; subst e; exact GA.out))
            have KB4 := hideIt ST4.out.2.2.2.1
            clear fB lB k0 k1 k2 k3 k4 k5 k6 r1 r2 r3 hub hub2 hq
            have fB := KB4.out.frozen
            have lB := KB4.out.lt
            have k0 := KB4.out.cell 0
            have k1 := KB4.out.cell 1
            have k2 := KB4.out.cell 2
            have k3 := KB4.out.cell 3
            have k4 := KB4.out.cell 4
            have k5 := KB4.out.cell 5
            have k6 := KB4.out.cell 6
            simp at k0 k1 k2 k3 k4 k5 k6
            refine hK.out _ _ ?_ (fun hh5 => ?_)
            · (try dsimp only); try trivial
            clear hK K hh4
            try simp only [Act.put, List.setIfInBounds_toArray, List.set_cons_zero, List.set_cons_succ]
            refine regTk 9 hh5 ?_
            refine regCall 10 (fun K hK => ?_)
            go_simp
            (try go_wp2_with fail)
            refine hK.out _ _ ?_ (fun hh6 => ?_)
            · (try dsimp only); try trivial
            clear hK K hh5
            try simp only [Act.put, List.setIfInBounds_toArray, List.set_cons_zero, List.set_cons_succ]
            refine wpAnyH_done (by kernel_rfl) ?_ _
            clear hh6
            go_upto_region 29 with fail
            refine at_c (fun wz => St w0 w b rc #[.string x.name, .int .i64 x.kind, .slice A1 x.pins.length n1, .slice A9 (x.arcs.length + 1) n9, .slice A3 x.truth.length n3, .int .i64 x.leak, .int .i64 x.energy] wz ∧ CellW (fun q => w.heap.size < q ∧ q ≠ rc) wz { x with arcs := x.arcs ++ [a] } (.slice A1 x.pins.length n1) (.slice A9 (x.arcs.length + 1) n9) (.slice A3 x.truth.length n3)) ⟨ST4.out.box 3 _ rfl, CW4.out.next ((Chg.refl [rc] _).setCell (by simp) _) (fun q hq => by simp at hq; subst hq; intro h; exact h.2 rfl)⟩ (fun wz hz => ?_)
            have SZt := hideIt hz.1
            have CWz := hideIt hz.2
            have KZ := hideIt hz.1.2.2.2.1
            have KY := hideIt hz.1.2.2.1
            clear hz
            have fZ := KZ.out.frozen
            have lZ := KZ.out.lt
            have q0 := KZ.out.cell 0
            have q1 := KZ.out.cell 1
            have q2 := KZ.out.cell 2
            have q3 := KZ.out.cell 3
            have q4 := KZ.out.cell 4
            have q5 := KZ.out.cell 5
            have q6 := KZ.out.cell 6
            simp at q0 q1 q2 q3 q4 q5 q6
            have fY := KY.out.frozen
            have lY := KY.out.lt
            have y0 := KY.out.cell 0
            have y1 := KY.out.cell 1
            have y2 := KY.out.cell 2
            have y3 := KY.out.cell 3
            have y4 := KY.out.cell 4
            have y5 := KY.out.cell 5
            have y6 := KY.out.cell 6
            simp at y0 y1 y2 y3 y4 y5 y6
            have ne1 : w.heap.size ≠ rc := Nat.ne_of_lt SZt.out.2.2.2.2.1
            have ne2 : rc ≠ w.heap.size := fun e => ne1 e.symm
            go_wp2
            refine bodyPost_ret (by simp [*, results, Tryz.results79, go_sem]; try rfl) rfl ?_
            refine any_fin { x with arcs := x.arcs ++ [a] } SZt.out CWz.out (by simp) (by simp) (by simp) ?_
            repeat with_reducible (first | exact Chg.refl _ _ | refine Chg.setCell ?_ (by simp) _)
          · go_simp
            (try go_wp2_with fail)
            refine hK.out _ _ ?_ (fun hh3 => ?_)
            · (try dsimp only); try trivial
            clear hK K hh2
            try simp only [Act.put, List.setIfInBounds_toArray, List.set_cons_zero, List.set_cons_succ]
            refine regCall 1 (fun K hK => ?_)
            go_simp
            (try go_wp2_with fail)
            refine hK.out _ _ ?_ (fun hh4 => ?_)
            · (try dsimp only); try trivial
            clear hK K hh3
            try simp only [Act.put, List.setIfInBounds_toArray, List.set_cons_zero, List.set_cons_succ]
            refine regCall 8 (fun K hK => ?_)
            refine wp_append_at _ _ 110 rfl Tryz.underlying110 hiA hzA hsA hbA rfl (by decide) (.slice (some ⟨ga, 0, none⟩) x.arcs.length n2) x.arcs.length acells rfl (ARH.out.alloc _) ⟨u6.heap.size, 0, none⟩ 1 [.int .i64 a.kind, .int .i64 a.src, .int .i64 a.dst, .int .i64 a.sense, .slice Ad 2 nd, .slice As a.slew.length ns] rfl rfl (cells_new _ _ _) (by intro u hu; simp at hu; rcases hu with rfl | rfl | rfl | rfl | rfl | rfl <;> rfl) (by omega) ?_
            intro v' w4 r1 r2 r3
            have hub := ST.out.ub
            have hub2 := ST.out.2.2.2.2.1
            have hq := APP.out _ w4 v' ((Grows.refl _).alloc _).drew (by simp; omega) r2 r3 r1
            have CW4 := hideIt hq.1
            obtain ⟨A9, n9, ev⟩ := hq.2
            subst ev
            have ST4 : Hid (St w0 w b rc #[.string x.name, .int .i64 x.kind, .slice A1 x.pins.length n1, .slice (some ⟨ga, 0, none⟩) x.arcs.length n2, .slice A3 x.truth.length n3, .int .i64 x.leak, .int .i64 x.energy] w4) := hideIt ((ST.out.alloc _).drew.grown r2 (fun k e => by injection e with e; subst e; exact GA.out))
            have KB4 := hideIt ST4.out.2.2.2.1
            clear fB lB k0 k1 k2 k3 k4 k5 k6 r1 r2 r3 hub hub2 hq
            have fB := KB4.out.frozen
            have lB := KB4.out.lt
            have k0 := KB4.out.cell 0
            have k1 := KB4.out.cell 1
            have k2 := KB4.out.cell 2
            have k3 := KB4.out.cell 3
            have k4 := KB4.out.cell 4
            have k5 := KB4.out.cell 5
            have k6 := KB4.out.cell 6
            simp at k0 k1 k2 k3 k4 k5 k6
            refine hK.out _ _ ?_ (fun hh5 => ?_)
            · (try dsimp only); try trivial
            clear hK K hh4
            try simp only [Act.put, List.setIfInBounds_toArray, List.set_cons_zero, List.set_cons_succ]
            refine regTk 9 hh5 ?_
            refine regCall 10 (fun K hK => ?_)
            go_simp
            (try go_wp2_with fail)
            refine hK.out _ _ ?_ (fun hh6 => ?_)
            · (try dsimp only); try trivial
            clear hK K hh5
            try simp only [Act.put, List.setIfInBounds_toArray, List.set_cons_zero, List.set_cons_succ]
            refine wpAnyH_done (by kernel_rfl) ?_ _
            clear hh6
            go_upto_region 29 with fail
            refine at_c (fun wz => St w0 w b rc #[.string x.name, .int .i64 x.kind, .slice A1 x.pins.length n1, .slice A9 (x.arcs.length + 1) n9, .slice A3 x.truth.length n3, .int .i64 x.leak, .int .i64 x.energy] wz ∧ CellW (fun q => w.heap.size < q ∧ q ≠ rc) wz { x with arcs := x.arcs ++ [a] } (.slice A1 x.pins.length n1) (.slice A9 (x.arcs.length + 1) n9) (.slice A3 x.truth.length n3)) ⟨ST4.out.box 3 _ rfl, CW4.out.next ((Chg.refl [rc] _).setCell (by simp) _) (fun q hq => by simp at hq; subst hq; intro h; exact h.2 rfl)⟩ (fun wz hz => ?_)
            have SZt := hideIt hz.1
            have CWz := hideIt hz.2
            have KZ := hideIt hz.1.2.2.2.1
            have KY := hideIt hz.1.2.2.1
            clear hz
            have fZ := KZ.out.frozen
            have lZ := KZ.out.lt
            have q0 := KZ.out.cell 0
            have q1 := KZ.out.cell 1
            have q2 := KZ.out.cell 2
            have q3 := KZ.out.cell 3
            have q4 := KZ.out.cell 4
            have q5 := KZ.out.cell 5
            have q6 := KZ.out.cell 6
            simp at q0 q1 q2 q3 q4 q5 q6
            have fY := KY.out.frozen
            have lY := KY.out.lt
            have y0 := KY.out.cell 0
            have y1 := KY.out.cell 1
            have y2 := KY.out.cell 2
            have y3 := KY.out.cell 3
            have y4 := KY.out.cell 4
            have y5 := KY.out.cell 5
            have y6 := KY.out.cell 6
            simp at y0 y1 y2 y3 y4 y5 y6
            have ne1 : w.heap.size ≠ rc := Nat.ne_of_lt SZt.out.2.2.2.2.1
            have ne2 : rc ≠ w.heap.size := fun e => ne1 e.symm
            go_wp2
            refine bodyPost_ret (by simp [*, results, Tryz.results79, go_sem]; try rfl) rfl ?_
            refine any_fin { x with arcs := x.arcs ++ [a] } SZt.out CWz.out (by simp) (by simp) (by simp) ?_
            repeat with_reducible (first | exact Chg.refl _ _ | refine Chg.setCell ?_ (by simp) _)
    · obtain ⟨ga, ca, a, vd, vs, ev, ha0, gq, fa, ac1, ac2, ⟨a0, a1, a2, a3, a4, a5⟩, ⟨⟨gd, cd, rfl, gdq, fd, ned, d0, d1, d2, dd0, dd1, dd2⟩, As, ns, rfl⟩, aput⟩ := CC.out.arcK kal
      injection ev with ev1 _ ev3
      subst ev1 ev3
      have kai : (k : Int) < (x.arcs.length : Int) := by omega
      have APUT := hideIt aput
      have GA := hideIt gq.1
      have la := gq.2
      have ld := gdq.2
      have nea : ga ≠ rc := gq.1.2
      have nea2 : rc ≠ ga := fun e => nea e.symm
      clear aput gq
      have n21 : 1 ≤ n2 := by omega
      have n2i : (1 : Int) ≤ (n2 : Int) := by omega
      have ali : (1 : Int) ≤ (x.arcs.length : Int) := by omega
      clear KB fB lB k0 k1 k2 k3 k4 k5 k6
      have KB := hideIt ST.out.2.2.2.1
      have fB := KB.out.frozen
      have lB := KB.out.lt
      have k0 := KB.out.cell 0
      have k1 := KB.out.cell 1
      have k2 := KB.out.cell 2
      have k3 := KB.out.cell 3
      have k4 := KB.out.cell 4
      have k5 := KB.out.cell 5
      have k6 := KB.out.cell 6
      simp at k0 k1 k2 k3 k4 k5 k6
      have TL := hideIt (CC.out.arcTail rfl)
      by_cases h1 : n2 = 1
      · have hx1 : x.arcs.length = 1 := by omega
        have TL0 := hideIt (CC.out.arcTail0 hx1 (some ⟨ga, 0, none⟩))
        have TN : Hid (x.arcs.tail.length = 0) := hideIt (by rw [List.length_tail]; omega)
        subst h1
        go_upto_region 29 with fail
        refine at_c (fun wz => St w0 w b rc #[.string x.name, .int .i64 x.kind, .slice A1 x.pins.length n1, .slice (some ⟨ga, 0, none⟩) 0 0, .slice A3 x.truth.length n3, .int .i64 x.leak, .int .i64 x.energy] wz ∧ CellW (fun q => w.heap.size < q ∧ q ≠ rc) wz { x with arcs := x.arcs.tail } (.slice A1 x.pins.length n1) (.slice (some ⟨ga, 0, none⟩) 0 0) (.slice A3 x.truth.length n3)) ⟨ST.out.box 3 _ rfl, TL0.out.next ((Chg.refl [rc] _).setCell (by simp) _) (fun q hq => by simp at hq; subst hq; intro h; exact h.2 rfl)⟩ (fun wz hz => ?_)
        have SZt := hideIt hz.1
        have CWz := hideIt hz.2
        have KZ := hideIt hz.1.2.2.2.1
        have KY := hideIt hz.1.2.2.1
        clear hz
        have fZ := KZ.out.frozen
        have lZ := KZ.out.lt
        have q0 := KZ.out.cell 0
        have q1 := KZ.out.cell 1
        have q2 := KZ.out.cell 2
        have q3 := KZ.out.cell 3
        have q4 := KZ.out.cell 4
        have q5 := KZ.out.cell 5
        have q6 := KZ.out.cell 6
        simp at q0 q1 q2 q3 q4 q5 q6
        have fY := KY.out.frozen
        have lY := KY.out.lt
        have y0 := KY.out.cell 0
        have y1 := KY.out.cell 1
        have y2 := KY.out.cell 2
        have y3 := KY.out.cell 3
        have y4 := KY.out.cell 4
        have y5 := KY.out.cell 5
        have y6 := KY.out.cell 6
        simp at y0 y1 y2 y3 y4 y5 y6
        have ne1 : w.heap.size ≠ rc := Nat.ne_of_lt SZt.out.2.2.2.2.1
        have ne2 : rc ≠ w.heap.size := fun e => ne1 e.symm
        go_wp2
        refine bodyPost_ret (by simp [*, results, Tryz.results79, go_sem]; try rfl) rfl ?_
        refine any_fin { x with arcs := x.arcs.tail } SZt.out CWz.out (by simp) (TN.out.symm) (by simp) ?_
        repeat with_reducible (first | exact Chg.refl _ _ | refine Chg.setCell ?_ (by simp) _)
      · have h2 : (n2 == 1) = false := by simp [h1]
        go_upto_region 29 with fail
        refine at_c (fun wz => St w0 w b rc #[.string x.name, .int .i64 x.kind, .slice A1 x.pins.length n1, .slice (some ⟨ga, 6, none⟩) (x.arcs.length - 1) (n2 - 1), .slice A3 x.truth.length n3, .int .i64 x.leak, .int .i64 x.energy] wz ∧ CellW (fun q => w.heap.size < q ∧ q ≠ rc) wz { x with arcs := x.arcs.tail } (.slice A1 x.pins.length n1) (.slice (some ⟨ga, 6, none⟩) (x.arcs.length - 1) (n2 - 1)) (.slice A3 x.truth.length n3)) ⟨ST.out.box 3 _ rfl, TL.out.next ((Chg.refl [rc] _).setCell (by simp) _) (fun q hq => by simp at hq; subst hq; intro h; exact h.2 rfl)⟩ (fun wz hz => ?_)
        have SZt := hideIt hz.1
        have CWz := hideIt hz.2
        have KZ := hideIt hz.1.2.2.2.1
        have KY := hideIt hz.1.2.2.1
        clear hz
        have fZ := KZ.out.frozen
        have lZ := KZ.out.lt
        have q0 := KZ.out.cell 0
        have q1 := KZ.out.cell 1
        have q2 := KZ.out.cell 2
        have q3 := KZ.out.cell 3
        have q4 := KZ.out.cell 4
        have q5 := KZ.out.cell 5
        have q6 := KZ.out.cell 6
        simp at q0 q1 q2 q3 q4 q5 q6
        have fY := KY.out.frozen
        have lY := KY.out.lt
        have y0 := KY.out.cell 0
        have y1 := KY.out.cell 1
        have y2 := KY.out.cell 2
        have y3 := KY.out.cell 3
        have y4 := KY.out.cell 4
        have y5 := KY.out.cell 5
        have y6 := KY.out.cell 6
        simp at y0 y1 y2 y3 y4 y5 y6
        have ne1 : w.heap.size ≠ rc := Nat.ne_of_lt SZt.out.2.2.2.2.1
        have ne2 : rc ≠ w.heap.size := fun e => ne1 e.symm
        go_wp2
        refine bodyPost_ret (by simp [*, results, Tryz.results79, go_sem]; try rfl) rfl ?_
        refine any_fin { x with arcs := x.arcs.tail } SZt.out CWz.out (by simp) (by simp) (by simp) ?_
        repeat with_reducible (first | exact Chg.refl _ _ | refine Chg.setCell ?_ (by simp) _)
    · go_wp2_with fail
      refine (l01Next_any (w0 := w0) 5 ST.out.1).mono ?_
      rintro e u7 ⟨m, rfl, ma, mb, h_, c_⟩
      replace ST := hideIt (ST.out.next c_ h_)
      replace CC := hideIt ((CC.out).next c_ NQ.out)
      clear h_ c_
      clear KB fB lB k0 k1 k2 k3 k4 k5 k6
      have KB := hideIt ST.out.2.2.2.1
      have fB := KB.out.frozen
      have lB := KB.out.lt
      have k0 := KB.out.cell 0
      have k1 := KB.out.cell 1
      have k2 := KB.out.cell 2
      have k3 := KB.out.cell 3
      have k4 := KB.out.cell 4
      have k5 := KB.out.cell 5
      have k6 := KB.out.cell 6
      simp at k0 k1 k2 k3 k4 k5 k6
      go_upto_region 29 with fail
      refine at_c (fun wz => St w0 w b rc #[.string x.name, .int .i64 m, .slice A1 x.pins.length n1, .slice A2 x.arcs.length n2, .slice A3 x.truth.length n3, .int .i64 x.leak, .int .i64 x.energy] wz ∧ CellW (fun q => w.heap.size < q ∧ q ≠ rc) wz { x with kind := m } (.slice A1 x.pins.length n1) (.slice A2 x.arcs.length n2) (.slice A3 x.truth.length n3)) ⟨ST.out.box 1 _ rfl, ((CC.out.weak.next ((Chg.refl [rc] _).setCell (by simp) _) (fun q hq => by simp at hq; subst hq; intro h; exact h.2 rfl)).of (y := { x with kind := m }) rfl rfl rfl (by show x.name.size ≤ 1000; have := CC.out.bnd.1; omega))⟩ (fun wz hz => ?_)
      have SZt := hideIt hz.1
      have CWz := hideIt hz.2
      have KZ := hideIt hz.1.2.2.2.1
      have KY := hideIt hz.1.2.2.1
      clear hz
      have fZ := KZ.out.frozen
      have lZ := KZ.out.lt
      have q0 := KZ.out.cell 0
      have q1 := KZ.out.cell 1
      have q2 := KZ.out.cell 2
      have q3 := KZ.out.cell 3
      have q4 := KZ.out.cell 4
      have q5 := KZ.out.cell 5
      have q6 := KZ.out.cell 6
      simp at q0 q1 q2 q3 q4 q5 q6
      have fY := KY.out.frozen
      have lY := KY.out.lt
      have y0 := KY.out.cell 0
      have y1 := KY.out.cell 1
      have y2 := KY.out.cell 2
      have y3 := KY.out.cell 3
      have y4 := KY.out.cell 4
      have y5 := KY.out.cell 5
      have y6 := KY.out.cell 6
      simp at y0 y1 y2 y3 y4 y5 y6
      have ne1 : w.heap.size ≠ rc := Nat.ne_of_lt SZt.out.2.2.2.2.1
      have ne2 : rc ≠ w.heap.size := fun e => ne1 e.symm
      go_wp2
      refine bodyPost_ret (by simp [*, results, Tryz.results79, go_sem]; try rfl) rfl ?_
      refine any_fin { x with kind := m } SZt.out CWz.out (by simp) (by simp) (by simp) ?_
      repeat with_reducible (first | exact Chg.refl _ _ | refine Chg.setCell ?_ (by simp) _)
    · obtain ⟨iI, hiI, hzI, hsI, hbI⟩ := info_parts info_i64'
      obtain ⟨tcells, htc⟩ : ∃ cs, u6.ownsRow 0 2 1 (.slice A3 x.truth.length n3) x.truth.length cs ∧ cs = x.truth.map (Value.int .i64) := by
        obtain ⟨_, _, _, _, h, _⟩ := CC.out
        exact ⟨_, h, rfl⟩
      obtain ⟨TR, TE⟩ := htc
      have TRH := hideIt TR
      have TEH := hideIt TE
      have TO : Hid (∀ k, (Value.slice A3 x.truth.length n3).ownBlock = some k → w.heap.size < k ∧ k ≠ rc) := hideIt (CC.out.weak.choose_spec.2.2.1.2)
      have tl8 : x.truth.length ≤ 8 := CC.out.bnd.2.2.2
      clear TR TE
      go_wp2_with (at_builtin; go_loud (refine wpList_append_own_at _ rfl _ _ 39 rfl 0 2 iI (.int .i64 0) 1 8 Tryz.underlying39 hiI hzI hsI hbI rfl (by decide) (.slice A3 x.truth.length n3) x.truth.length tcells rfl (TRH.out.alloc _) ⟨u6.heap.size, 0, none⟩ 1 1 [.int .i64 1] rfl ?c1 ?c2 ?c3 ?c4 ?c5 ?c6 ?_))
      case c1 => simp
      case c2 => exact cells_new _ _ _
      case c3 => intro u hu; simp at hu; subst hu; rfl
      case c4 => unfold maxLen; omega
      case c5 => omega
      case c6 => exact Nat.zero_le _
      intro v' w4 hrow hgrow hnil hat
      have hub := ST.out.ub
      have UB := hideIt hub
      clear hub
      have CW4 : Hid (CellW (fun q => w.heap.size < q ∧ q ≠ rc) w4 { x with truth := x.truth ++ [1] } (.slice A1 x.pins.length n1) (.slice A2 x.arcs.length n2) v') := hideIt (CC.out.truthApp ((Grows.refl _).alloc _) (by have := UB.out; simp; omega) hgrow (by rw [TEH.out] at hrow; exact hrow) (by simpa using hat))
      have ST4 : Hid (St w0 w b rc #[.string x.name, .int .i64 x.kind, .slice A1 x.pins.length n1, .slice A2 x.arcs.length n2, .slice A3 x.truth.length n3, .int .i64 x.leak, .int .i64 x.energy] w4) := hideIt ((ST.out.alloc _).grown hgrow TO.out)
      obtain ⟨A9, n9, ev⟩ := own_slice hrow
      subst ev
      clear hrow hgrow hnil hat ST
      have ST := ST4
      clear KB fB lB k0 k1 k2 k3 k4 k5 k6
      have KB := hideIt ST.out.2.2.2.1
      have fB := KB.out.frozen
      have lB := KB.out.lt
      have k0 := KB.out.cell 0
      have k1 := KB.out.cell 1
      have k2 := KB.out.cell 2
      have k3 := KB.out.cell 3
      have k4 := KB.out.cell 4
      have k5 := KB.out.cell 5
      have k6 := KB.out.cell 6
      simp at k0 k1 k2 k3 k4 k5 k6
      go_upto_region 29 with fail
      refine at_c (fun wz => St w0 w b rc #[.string x.name, .int .i64 x.kind, .slice A1 x.pins.length n1, .slice A2 x.arcs.length n2, .slice A9 (x.truth.length + 1) n9, .int .i64 x.leak, .int .i64 x.energy] wz ∧ CellW (fun q => w.heap.size < q ∧ q ≠ rc) wz { x with truth := x.truth ++ [1] } (.slice A1 x.pins.length n1) (.slice A2 x.arcs.length n2) (.slice A9 (x.truth.length + 1) n9)) ⟨ST4.out.box 4 _ rfl, CW4.out.next ((Chg.refl [rc] _).setCell (by simp) _) (fun q hq => by simp at hq; subst hq; intro h; exact h.2 rfl)⟩ (fun wz hz => ?_)
      have SZt := hideIt hz.1
      have CWz := hideIt hz.2
      have KZ := hideIt hz.1.2.2.2.1
      have KY := hideIt hz.1.2.2.1
      clear hz
      have fZ := KZ.out.frozen
      have lZ := KZ.out.lt
      have q0 := KZ.out.cell 0
      have q1 := KZ.out.cell 1
      have q2 := KZ.out.cell 2
      have q3 := KZ.out.cell 3
      have q4 := KZ.out.cell 4
      have q5 := KZ.out.cell 5
      have q6 := KZ.out.cell 6
      simp at q0 q1 q2 q3 q4 q5 q6
      have fY := KY.out.frozen
      have lY := KY.out.lt
      have y0 := KY.out.cell 0
      have y1 := KY.out.cell 1
      have y2 := KY.out.cell 2
      have y3 := KY.out.cell 3
      have y4 := KY.out.cell 4
      have y5 := KY.out.cell 5
      have y6 := KY.out.cell 6
      simp at y0 y1 y2 y3 y4 y5 y6
      have ne1 : w.heap.size ≠ rc := Nat.ne_of_lt SZt.out.2.2.2.2.1
      have ne2 : rc ≠ w.heap.size := fun e => ne1 e.symm
      go_wp2
      refine bodyPost_ret (by simp [*, results, Tryz.results79, go_sem]; try rfl) rfl ?_
      refine any_fin { x with truth := x.truth ++ [1] } SZt.out CWz.out (by simp) (by simp) (by simp) ?_
      repeat with_reducible (first | exact Chg.refl _ _ | refine Chg.setCell ?_ (by simp) _)
    · replace CC := hideIt (CC.out.next (Chg.refl [b] u6).drew NQ.out)
      obtain ⟨gp, cp, p, ev, hp0, gq, fp, pl1, ⟨p0, p1, p2, p3⟩, pput⟩ := CC.out.pin0
      injection ev with ev1 _ ev3
      subst ev1 ev3
      have pli : (0 : Int) < (x.pins.length : Int) := by omega
      have pln : 0 < x.pins.length := by omega
      have PPUT := hideIt pput
      have GQ := hideIt gq.1
      have lp := gq.2
      have nep : gp ≠ rc := gq.1.2
      have nep2 : rc ≠ gp := fun e => nep e.symm
      clear pput gq
      have PSZ : Hid (p.name.size ≤ 1048576) := hideIt (by have := (CC.out.sm).2.1.2 p (List.mem_of_getElem? hp0); unfold SmPin at this; omega)
      clear KB fB lB k0 k1 k2 k3 k4 k5 k6
      have KB := hideIt ST.out.2.2.2.1
      have fB := KB.out.frozen
      have lB := KB.out.lt
      have k0 := KB.out.cell 0
      have k1 := KB.out.cell 1
      have k2 := KB.out.cell 2
      have k3 := KB.out.cell 3
      have k4 := KB.out.cell 4
      have k5 := KB.out.cell 5
      have k6 := KB.out.cell 6
      simp at k0 k1 k2 k3 k4 k5 k6
      have HK : Hid (∀ w', Chg [b, gp] u6 w' → w'.cell? ⟨rc, 2, none⟩ = some (.slice (some ⟨gp, 0, none⟩) x.pins.length n1)) := hideIt (fun w' c => c.cell k2 (by have := nep2; have := hb.out; have := ST.out.2.2.2.2.1; simp; omega))
      go_upto_region 24 with fail
      refine wp_region_held_drew (S := (fun w' => w'.cell? ⟨rc, 2, none⟩ = some (.slice (some ⟨gp, 0, none⟩) x.pins.length n1))) (by kernel_rfl) ?_ (fun hh0 => ?_)
      · (try dsimp only); refine HK.out _ ?_; (repeat with_reducible (first | exact gg | exact Chg.refl _ _ | refine Chg.drew ?_ | refine Chg.alloc ?_ _ | refine Chg.setCell ?_ (by simp) _))
      refine regTk 0 hh0 ?_
      refine regTk 1 hh0 ?_
      refine regTk 2 hh0 ?_
      refine regTk 3 hh0 ?_
      refine regTk 4 hh0 ?_
      refine regTk 5 hh0 ?_
      refine regCall 6 (fun K hK => ?_)
      go_simp
      (try go_wp2_with fail)
      refine hK.out _ _ ?_ (fun hh1 => ?_)
      · (try dsimp only); refine HK.out _ ?_; (repeat with_reducible (first | exact gg | exact Chg.refl _ _ | refine Chg.drew ?_ | refine Chg.alloc ?_ _ | refine Chg.setCell ?_ (by simp) _))
      clear hK K hh0
      try simp only [Act.put, List.setIfInBounds_toArray, List.set_cons_zero, List.set_cons_succ]
      refine regTk 7 hh1 ?_
      refine regTk 8 hh1 ?_
      refine regTk 9 hh1 ?_
      refine regCall 10 (fun K hK => ?_)
      go_simp
      (try go_wp2_with fail)
      refine hK.out _ _ ?_ (fun hh2 => ?_)
      · (try dsimp only); refine HK.out _ ?_; (repeat with_reducible (first | exact gg | exact Chg.refl _ _ | refine Chg.drew ?_ | refine Chg.alloc ?_ _ | refine Chg.setCell ?_ (by simp) _))
      clear hK K hh1
      try simp only [Act.put, List.setIfInBounds_toArray, List.set_cons_zero, List.set_cons_succ]
      refine wpAnyH_done (by kernel_rfl) ?_ _
      clear hh2 HK
      go_upto_region 29 with fail
      refine at_c (fun wz => St w0 w b rc #[.string x.name, .int .i64 x.kind, .slice (some ⟨gp, 0, none⟩) x.pins.length n1, .slice A2 x.arcs.length n2, .slice A3 x.truth.length n3, .int .i64 x.leak, .int .i64 x.energy] wz ∧ CellW (fun q => w.heap.size < q ∧ q ≠ rc) wz { x with pins := x.pins.set 0 { p with clock := !p.clock } } (.slice (some ⟨gp, 0, none⟩) x.pins.length n1) (.slice A2 x.arcs.length n2) (.slice A3 x.truth.length n3)) ⟨(St.chg ST.out.drew ((Chg.refl [gp] _).setCell (by simp) _) (fun q hq => by simp at hq; subst hq; exact GQ.out)), PPUT.out 3 (.bool !p.clock) { p with clock := !p.clock } (by decide) rfl PSZ.out⟩ (fun wz hz => ?_)
      have SZt := hideIt hz.1
      have CWz := hideIt hz.2
      have KZ := hideIt hz.1.2.2.2.1
      have KY := hideIt hz.1.2.2.1
      clear hz
      have fZ := KZ.out.frozen
      have lZ := KZ.out.lt
      have q0 := KZ.out.cell 0
      have q1 := KZ.out.cell 1
      have q2 := KZ.out.cell 2
      have q3 := KZ.out.cell 3
      have q4 := KZ.out.cell 4
      have q5 := KZ.out.cell 5
      have q6 := KZ.out.cell 6
      simp at q0 q1 q2 q3 q4 q5 q6
      have fY := KY.out.frozen
      have lY := KY.out.lt
      have y0 := KY.out.cell 0
      have y1 := KY.out.cell 1
      have y2 := KY.out.cell 2
      have y3 := KY.out.cell 3
      have y4 := KY.out.cell 4
      have y5 := KY.out.cell 5
      have y6 := KY.out.cell 6
      simp at y0 y1 y2 y3 y4 y5 y6
      have ne1 : w.heap.size ≠ rc := Nat.ne_of_lt SZt.out.2.2.2.2.1
      have ne2 : rc ≠ w.heap.size := fun e => ne1 e.symm
      go_wp2
      refine bodyPost_ret (by simp [*, results, Tryz.results79, go_sem]; try rfl) rfl ?_
      refine any_fin { x with pins := x.pins.set 0 { p with clock := !p.clock } } SZt.out CWz.out (by simp) (by simp) (by simp) ?_
      repeat with_reducible (first | exact Chg.refl _ _ | refine Chg.setCell ?_ (by simp) _)
    · obtain ⟨ga, ca, a, vd, vs, ev, ha0, gq, fa, ac1, ac2, ⟨a0, a1, a2, a3, a4, a5⟩, ⟨⟨gd, cd, rfl, gdq, fd, ned, d0, d1, d2, dd0, dd1, dd2⟩, As, ns, rfl⟩, aput⟩ := CC.out.arcK kal
      injection ev with ev1 _ ev3
      subst ev1 ev3
      have kai : (k : Int) < (x.arcs.length : Int) := by omega
      have APUT := hideIt aput
      have GA := hideIt gq.1
      have la := gq.2
      have ld := gdq.2
      have nea : ga ≠ rc := gq.1.2
      have nea2 : rc ≠ ga := fun e => nea e.symm
      clear aput gq
      have GD := hideIt gdq.1
      clear gdq
      clear KB fB lB k0 k1 k2 k3 k4 k5 k6
      have KB := hideIt ST.out.2.2.2.1
      have fB := KB.out.frozen
      have lB := KB.out.lt
      have k0 := KB.out.cell 0
      have k1 := KB.out.cell 1
      have k2 := KB.out.cell 2
      have k3 := KB.out.cell 3
      have k4 := KB.out.cell 4
      have k5 := KB.out.cell 5
      have k6 := KB.out.cell 6
      simp at k0 k1 k2 k3 k4 k5 k6
      have HK : Hid (∀ w', Chg [b, gd] u6 w' → w'.cell? ⟨rc, 3, none⟩ = some (.slice (some ⟨ga, 0, none⟩) x.arcs.length n2) ∧ w'.cell? ⟨ga, k * 6 + 4, none⟩ = some (.slice (some ⟨gd, 0, none⟩) 2 cd)) := hideIt (fun w' c => ⟨c.cell k3 (by have := GD.out.2; have := hb.out; have := ST.out.2.2.2.2.1; simp; omega), c.cell a4 (by have := GA.out.1; have := ned; have := hb.out; simp; omega)⟩)
      go_upto_region 26 with fail
      refine wp_region_held_drew (S := (fun w' => w'.cell? ⟨rc, 3, none⟩ = some (.slice (some ⟨ga, 0, none⟩) x.arcs.length n2) ∧ w'.cell? ⟨ga, k * 6 + 4, none⟩ = some (.slice (some ⟨gd, 0, none⟩) 2 cd))) (by kernel_rfl) ?_ (fun hh0 => ?_)
      · (try dsimp only); refine HK.out _ ?_; (repeat with_reducible (first | exact gg | exact Chg.refl _ _ | refine Chg.drew ?_ | refine Chg.alloc ?_ _ | refine Chg.setCell ?_ (by simp) _))
      refine regTk 0 hh0 ?_
      refine regTk 1 hh0 ?_
      refine regTk 2 hh0 ?_
      refine regTk 3 hh0 ?_
      refine regTk 4 hh0 ?_
      refine regTk 5 hh0 ?_
      refine regTk 6 hh0 ?_
      refine regCall 7 (fun K hK => ?_)
      go_simp
      refine (l02DrawAny_sm (w0 := w0) ST.out.drew.1).mono ?_
      rintro e u7 ⟨x1, x2, x3, rfl, t, rt, ⟨f1, f2, f3⟩, -, -, h_, c_, sm⟩
      obtain ⟨⟨B1, m1, rfl⟩, ⟨B2, m2, rfl⟩, ⟨B3, m3, rfl⟩⟩ := rt.shape
      have gg : Chg [b, gd] u6 u7 := ((Chg.refl _ _).drew).trans (c_.mono (by simp))
      have AD : Hid (∀ w2, w2 = ((u7.setCell ⟨gd, 0, none⟩ (.slice B1 t.slews.length m1)).setCell ⟨gd, 1, none⟩ (.slice B2 t.loads.length m2)).setCell ⟨gd, 2, none⟩ (.slice B3 t.values.length m3) → CellW (fun q => w.heap.size < q ∧ q ≠ rc) w2 { x with arcs := x.arcs.set k { a with delay := a.delay.set 0 t } } (.slice A1 x.pins.length n1) (.slice (some ⟨ga, 0, none⟩) x.arcs.length n2) (.slice A3 x.truth.length n3)) := hideIt (fun w2 e2 => CC.out.arcDelay rfl ha0 a4 (NQ.out b (by simp)) (by have := ST.out.ub; have := hb.out; omega) (fun q hq => ⟨by have := ST.out.ub; omega, by have := ST.out.ub; omega⟩) (((Chg.refl [b] u6).drew).trans c_) rt f1 f2 f3 sm e2)
      have zd := c_.size
      have cg0 := c_.cell (a := ⟨gd, 0, none⟩) dd0 (by have := GD.out; have := hb.out; simp; omega)
      have cg1 := c_.cell (a := ⟨gd, 1, none⟩) dd1 (by have := GD.out; have := hb.out; simp; omega)
      have cg2 := c_.cell (a := ⟨gd, 2, none⟩) dd2 (by have := GD.out; have := hb.out; simp; omega)
      have fgd : ∀ o, u7.frozen? ⟨gd, o, none⟩ = false := fun o => by
        have e : u7.frozen? ⟨gd, o, none⟩ = u6.frozen? ⟨gd, o, none⟩ := World.frozen?_of_block (c_.block gd ld (by have := GD.out; have := hb.out; simp; omega))
        rw [e]; exact fd o
      have lgd : gd < u7.heap.size := Nat.lt_of_lt_of_le ld zd
      replace ST := hideIt (ST.out.drew.next c_ h_)
      clear h_ c_ sm rt f1 f2 f3 KB fB lB k0 k1 k2 k3 k4 k5 k6 a0 a1 a2 a3 a4 a5 dd0 dd1 dd2 fd zd
      have KB := hideIt ST.out.2.2.2.1
      have fB := KB.out.frozen
      have lB := KB.out.lt
      have k0 := KB.out.cell 0
      have k1 := KB.out.cell 1
      have k2 := KB.out.cell 2
      have k3 := KB.out.cell 3
      have k4 := KB.out.cell 4
      have k5 := KB.out.cell 5
      have k6 := KB.out.cell 6
      simp at k0 k1 k2 k3 k4 k5 k6
      (try go_wp2_with fail)
      refine hK.out _ _ ?_ (fun hh1 => ?_)
      · (try dsimp only); refine HK.out _ ?_; (repeat with_reducible (first | exact gg | exact Chg.refl _ _ | refine Chg.drew ?_ | refine Chg.alloc ?_ _ | refine Chg.setCell ?_ (by simp) _))
      clear hK K hh0
      try simp only [Act.put, List.setIfInBounds_toArray, List.set_cons_zero, List.set_cons_succ]
      refine regTk 8 hh1 ?_
      refine regCall 9 (fun K hK => ?_)
      go_simp
      (try go_wp2_with fail)
      refine hK.out _ _ ?_ (fun hh2 => ?_)
      · (try dsimp only); refine HK.out _ ?_; (repeat with_reducible (first | exact gg | exact Chg.refl _ _ | refine Chg.drew ?_ | refine Chg.alloc ?_ _ | refine Chg.setCell ?_ (by simp) _))
      clear hK K hh1
      try simp only [Act.put, List.setIfInBounds_toArray, List.set_cons_zero, List.set_cons_succ]
      refine wpAnyH_done (by kernel_rfl) ?_ _
      clear hh2 HK
      go_upto_region 29 with fail
      refine at_c (fun wz => St w0 w b rc #[.string x.name, .int .i64 x.kind, .slice A1 x.pins.length n1, .slice (some ⟨ga, 0, none⟩) x.arcs.length n2, .slice A3 x.truth.length n3, .int .i64 x.leak, .int .i64 x.energy] wz ∧ CellW (fun q => w.heap.size < q ∧ q ≠ rc) wz { x with arcs := x.arcs.set k { a with delay := a.delay.set 0 t } } (.slice A1 x.pins.length n1) (.slice (some ⟨ga, 0, none⟩) x.arcs.length n2) (.slice A3 x.truth.length n3)) ⟨(ST.out.chg ((((Chg.refl [gd] _).setCell (by simp) _).setCell (by simp) _).setCell (by simp) _) (fun q hq => by simp at hq; subst hq; exact GD.out)), AD.out _ rfl⟩ (fun wz hz => ?_)
      have SZt := hideIt hz.1
      have CWz := hideIt hz.2
      have KZ := hideIt hz.1.2.2.2.1
      have KY := hideIt hz.1.2.2.1
      clear hz
      have fZ := KZ.out.frozen
      have lZ := KZ.out.lt
      have q0 := KZ.out.cell 0
      have q1 := KZ.out.cell 1
      have q2 := KZ.out.cell 2
      have q3 := KZ.out.cell 3
      have q4 := KZ.out.cell 4
      have q5 := KZ.out.cell 5
      have q6 := KZ.out.cell 6
      simp at q0 q1 q2 q3 q4 q5 q6
      have fY := KY.out.frozen
      have lY := KY.out.lt
      have y0 := KY.out.cell 0
      have y1 := KY.out.cell 1
      have y2 := KY.out.cell 2
      have y3 := KY.out.cell 3
      have y4 := KY.out.cell 4
      have y5 := KY.out.cell 5
      have y6 := KY.out.cell 6
      simp at y0 y1 y2 y3 y4 y5 y6
      have ne1 : w.heap.size ≠ rc := Nat.ne_of_lt SZt.out.2.2.2.2.1
      have ne2 : rc ≠ w.heap.size := fun e => ne1 e.symm
      go_wp2
      refine bodyPost_ret (by simp [*, results, Tryz.results79, go_sem]; try rfl) rfl ?_
      refine any_fin { x with arcs := x.arcs.set k { a with delay := a.delay.set 0 t } } SZt.out CWz.out (by simp) (by simp) (by simp) ?_
      repeat with_reducible (first | exact Chg.refl _ _ | refine Chg.setCell ?_ (by simp) _)
    · go_upto_region 29 with fail
      refine at_c (fun wz => St w0 w b rc #[.string x.name, .int .i64 x.kind, .slice A1 x.pins.length n1, .slice A2 x.arcs.length n2, .slice A3 x.truth.length n3, .int .i64 (-1), .int .i64 x.energy] wz ∧ CellW (fun q => w.heap.size < q ∧ q ≠ rc) wz { x with leak := -1 } (.slice A1 x.pins.length n1) (.slice A2 x.arcs.length n2) (.slice A3 x.truth.length n3)) ⟨ST.out.box 5 _ rfl, ((CC.out.weak.next ((Chg.refl [rc] _).setCell (by simp) _) (fun q hq => by simp at hq; subst hq; intro h; exact h.2 rfl)).of (y := { x with leak := -1 }) rfl rfl rfl (by show x.name.size ≤ 1000; have := CC.out.bnd.1; omega))⟩ (fun wz hz => ?_)
      have SZt := hideIt hz.1
      have CWz := hideIt hz.2
      have KZ := hideIt hz.1.2.2.2.1
      have KY := hideIt hz.1.2.2.1
      clear hz
      have fZ := KZ.out.frozen
      have lZ := KZ.out.lt
      have q0 := KZ.out.cell 0
      have q1 := KZ.out.cell 1
      have q2 := KZ.out.cell 2
      have q3 := KZ.out.cell 3
      have q4 := KZ.out.cell 4
      have q5 := KZ.out.cell 5
      have q6 := KZ.out.cell 6
      simp at q0 q1 q2 q3 q4 q5 q6
      have fY := KY.out.frozen
      have lY := KY.out.lt
      have y0 := KY.out.cell 0
      have y1 := KY.out.cell 1
      have y2 := KY.out.cell 2
      have y3 := KY.out.cell 3
      have y4 := KY.out.cell 4
      have y5 := KY.out.cell 5
      have y6 := KY.out.cell 6
      simp at y0 y1 y2 y3 y4 y5 y6
      have ne1 : w.heap.size ≠ rc := Nat.ne_of_lt SZt.out.2.2.2.2.1
      have ne2 : rc ≠ w.heap.size := fun e => ne1 e.symm
      go_wp2
      refine bodyPost_ret (by simp [*, results, Tryz.results79, go_sem]; try rfl) rfl ?_
      refine any_fin { x with leak := -1 } SZt.out CWz.out (by simp) (by simp) (by simp) ?_
      repeat with_reducible (first | exact Chg.refl _ _ | refine Chg.setCell ?_ (by simp) _)
    · have r0 : (r == 0) = false := by simp; omega
      have r1 : (r == 1) = false := by simp; omega
      have r2 : (r == 2) = false := by simp; omega
      have r3 : (r == 3) = false := by simp; omega
      have r4 : (r == 4) = false := by simp; omega
      have r5 : (r == 5) = false := by simp; omega
      have r6 : (r == 6) = false := by simp; omega
      have r7 : (r == 7) = false := by simp; omega
      have r8 : (r == 8) = false := by simp; omega
      have r9 : (r == 9) = false := by simp; omega
      have r10 : (r == 10) = false := by simp; omega
      have r11 : (r == 11) = false := by simp; omega
      go_upto_region 29 with fail
      refine at_c (fun wz => St w0 w b rc #[.string x.name, .int .i64 x.kind, .slice A1 x.pins.length n1, .slice A2 x.arcs.length n2, .slice A3 x.truth.length n3, .int .i64 x.leak, .int .i64 x.energy] wz ∧ CellW (fun q => w.heap.size < q ∧ q ≠ rc) wz x (.slice A1 x.pins.length n1) (.slice A2 x.arcs.length n2) (.slice A3 x.truth.length n3)) ⟨ST.out, CC.out.weak⟩ (fun wz hz => ?_)
      have SZt := hideIt hz.1
      have CWz := hideIt hz.2
      have KZ := hideIt hz.1.2.2.2.1
      have KY := hideIt hz.1.2.2.1
      clear hz
      have fZ := KZ.out.frozen
      have lZ := KZ.out.lt
      have q0 := KZ.out.cell 0
      have q1 := KZ.out.cell 1
      have q2 := KZ.out.cell 2
      have q3 := KZ.out.cell 3
      have q4 := KZ.out.cell 4
      have q5 := KZ.out.cell 5
      have q6 := KZ.out.cell 6
      simp at q0 q1 q2 q3 q4 q5 q6
      have fY := KY.out.frozen
      have lY := KY.out.lt
      have y0 := KY.out.cell 0
      have y1 := KY.out.cell 1
      have y2 := KY.out.cell 2
      have y3 := KY.out.cell 3
      have y4 := KY.out.cell 4
      have y5 := KY.out.cell 5
      have y6 := KY.out.cell 6
      simp at y0 y1 y2 y3 y4 y5 y6
      have ne1 : w.heap.size ≠ rc := Nat.ne_of_lt SZt.out.2.2.2.2.1
      have ne2 : rc ≠ w.heap.size := fun e => ne1 e.symm
      go_wp2
      refine bodyPost_ret (by simp [*, results, Tryz.results79, go_sem]; try rfl) rfl ?_
      refine any_fin x SZt.out CWz.out (by simp) (by simp) (by simp) ?_
      repeat with_reducible (first | exact Chg.refl _ _ | refine Chg.setCell ?_ (by simp) _)
end Go.Proofs.YtlnpefiipdkafaaGreatDoor
