/-
  A drawn gate.
-/
import Derived.Test.YtlnpefiipdkafaaGreatDoorL3A
import Derived.Test.YtlnpefiipdkafaaGreatDoorGC
import Derived.Test.YtlnpefiipdkafaaGreatDoorSSense
namespace Go.Proofs.YtlnpefiipdkafaaGreatDoor
open Go.RowKit
def OPinB (w : World) (es : List Value) (x : PinD) (b : List Nat) : Prop := OPin w es x b ∧ x.name.size ≤ 8
def OArcB (w : World) (es : List Value) (x : ArcD) (b : List Nat) : Prop := OArc w es x b ∧ x.delay.length = 2 ∧ x.slew.length ≤ 2 ∧ SmT x.delay ∧ SmT x.slew
theorem OPinB.same {w w' : World} {es : List Value} {x : PinD} {b : List Nat} (h : OPinB w es x b) (g : SameOn b w w') : OPinB w' es x b := ⟨h.1.same g, h.2⟩
theorem OArcB.same {w w' : World} {es : List Value} {x : ArcD} {b : List Nat} (h : OArcB w es x b) (g : SameOn b w w') : OArcB w' es x b := ⟨h.1.same g, h.2⟩
theorem OArcB.lt {w : World} {es : List Value} {x : ArcD} {b : List Nat} (h : OArcB w es x b) : ∀ g ∈ b, g < w.heap.size := h.1.lt
theorem ORow.pins {lo : Nat} {w : World} {v : Value} {xs : List PinD} {bss : List (List Nat)} (h : ORow 4 125 OPinB lo w v xs bss) : OPins w v xs (v.ownBlock.toList ++ bss.flatten) := by
  obtain ⟨cells, h1, h2, h3⟩ := h
  exact ORow.list ⟨cells, h1, h2.mono fun _ _ _ _ h => h.1, h3⟩
theorem ORow.arcs {lo : Nat} {w : World} {v : Value} {xs : List ArcD} {bss : List (List Nat)} (h : ORow 6 134 OArcB lo w v xs bss) : OArcs w v xs (v.ownBlock.toList ++ bss.flatten) := by
  obtain ⟨cells, h1, h2, h3⟩ := h
  exact ORow.list ⟨cells, h1, h2.mono fun _ _ _ _ h => h.1, h3⟩
def bndC (x : CellD) : Prop := x.name.size ≤ 8 ∧ (2 ≤ x.pins.length ∧ x.pins.length ≤ 5) ∧ (1 ≤ x.arcs.length ∧ x.arcs.length ≤ 8) ∧ x.truth.length ≤ 8
/-- a drawn cell's seven fields, all of its memory its own, with the room behind its rows -/
def OCellB (w : World) (es : List Value) (x : CellD) (bs : List Nat) : Prop :=
  ∃ (vp va vt : Value) (pss ass : List (List Nat)), es = [.string x.name, .int .i64 x.kind, vp, va, vt, .int .i64 x.leak, .int .i64 x.energy] ∧ ORow 4 125 OPinB 0 w vp x.pins pss ∧ ORow 6 134 OArcB 0 w va x.arcs ass ∧ w.ownsRow 0 2 1 vt x.truth.length (x.truth.map (Value.int .i64)) ∧
    bs = vt.ownBlock.toList ++ ((vp.ownBlock.toList ++ pss.flatten) ++ (va.ownBlock.toList ++ ass.flatten)) ∧ bndC x
theorem OCellB.same {w w' : World} {es : List Value} {x : CellD} {bs : List Nat} (h : OCellB w es x bs) (g : SameOn bs w w') (hs : w.heap.size ≤ w'.heap.size) : OCellB w' es x bs := by
  obtain ⟨vp, va, vt, pss, ass, e, hp, ha, ht, rfl, hb⟩ := h
  exact ⟨vp, va, vt, pss, ass, e, hp.same (g.sub fun _ hq => List.mem_append_right _ (List.mem_append_left _ hq)) hs (fun _ _ _ h g => h.same g), ha.same (g.sub fun _ hq => List.mem_append_right _ (List.mem_append_right _ hq)) hs (fun _ _ _ h g => h.same g), ownsRow_same ht (g.sub fun _ hq => List.mem_append_left _ hq), rfl, hb⟩
theorem OCellB.lt {w : World} {es : List Value} {x : CellD} {bs : List Nat} (h : OCellB w es x bs) : ∀ g ∈ bs, g < w.heap.size := by
  obtain ⟨vp, va, vt, pss, ass, e, hp, ha, ht, rfl, hb⟩ := h
  intro g hg
  rw [List.mem_append, List.mem_append] at hg
  rcases hg with hg | hg | hg
  · exact (ht.lt g (by simpa using hg)).2
  · exact (hp.own.2 g hg).2
  · exact (ha.own.2 g hg).2
theorem OCellB.cell {w : World} {es : List Value} {x : CellD} {bs : List Nat} (h : OCellB w es x bs) : ∃ bs', OCell w es x bs' ∧ ∀ g ∈ bs', g ∈ bs := by
  obtain ⟨vp, va, vt, pss, ass, e, hp, ha, ht, rfl, hb⟩ := h
  obtain ⟨A, c, bt, rfl, o1, -⟩ := own_oints ht
  refine ⟨(vp.ownBlock.toList ++ pss.flatten) ++ (va.ownBlock.toList ++ ass.flatten) ++ bt, ⟨vp, va, _, _, _, bt, e, by have := hb.1; unfold maxLen; omega, hp.pins, ha.arcs, o1, rfl⟩, fun g hg => ?_⟩
  rw [List.mem_append] at hg
  rcases hg with hg | hg
  · exact List.mem_append_right _ hg
  · refine List.mem_append_left _ ?_
    rcases o1 with ⟨_, _, rfl⟩ | ⟨g', c', cs, bss, hv, h1, h2, hbk, hl, rfl, hc⟩
    · cases hg
    · rw [hv]
      simp only [Value.ownBlock, Option.toList_some, List.mem_singleton]
      rcases List.mem_cons.1 hg with hg | hg
      · exact hg
      · obtain ⟨b', hb', hq⟩ := List.mem_flatten.1 hg
        obtain ⟨i, hi⟩ := List.getElem?_of_mem hb'
        obtain ⟨es', b'', _, _, e3, e4⟩ := hc i _ (List.getElem?_eq_getElem (by have := (List.getElem?_eq_some_iff.1 hi).1; omega))
        rw [hi] at e3
        injection e3 with e3
        subst e3
        rw [e4.2] at hq
        cases hq
theorem names_at {w : World} {g k : Nat} {t : TypeId} (h : Blk w g t #[.string ⟨#[97]⟩, .string ⟨#[98]⟩, .string ⟨#[99]⟩, .string ⟨#[100]⟩]) (hk : k < 4) : ∃ s : ByteArray, s.size ≤ 8 ∧ w.cell? ⟨g, k, none⟩ = some (.string s) := by
  rcases (by omega : k = 0 ∨ k = 1 ∨ k = 2 ∨ k = 3) with rfl | rfl | rfl | rfl
  · exact ⟨⟨#[97]⟩, by decide, h.cell 0⟩
  · exact ⟨⟨#[98]⟩, by decide, h.cell 1⟩
  · exact ⟨⟨#[99]⟩, by decide, h.cell 2⟩
  · exact ⟨⟨#[100]⟩, by decide, h.cell 3⟩
/-- the state of a loop that fills an own row, drawing on the way -/
def RowSt {α : Type} (sz : Nat) (t : TypeId) (O : World → List Value → α → List Nat → Prop) (w0 ua : World) (b : Nat) (v : Value) (xs : List α) (wr : World) : Prop :=
  (∃ bss, ORow sz t O ua.heap.size wr v xs bss) ∧ SrcAt w0 wr b ∧ Chg [b] ua wr
section
variable {α : Type} {sz : Nat} {t : TypeId} {O : World → List Value → α → List Nat → Prop} {w0 ua wr w' : World} {b : Nat} {v : Value} {xs : List α}
theorem RowSt.next (h : RowSt sz t O w0 ua b v xs wr) (hb : b < ua.heap.size) (c : Chg [b] wr w') (s : SrcAt w0 w' b) (hO : ∀ w w' es x b, O w es x b → SameOn b w w' → O w' es x b) : RowSt sz t O w0 ua b v xs w' := by
  obtain ⟨⟨bss, h1⟩, h2, h3⟩ := h
  exact ⟨⟨bss, h1.chg c (fun g hg => by simp at hg; subst hg; exact hb) (fun w' => hO _ w')⟩, s, h3.trans c⟩
theorem RowSt.slice (h : RowSt sz t O w0 ua b v xs wr) : ∃ (A : Option Addr) (c : Nat), v = .slice A xs.length c := by
  obtain ⟨⟨bss, h1⟩, -, -⟩ := h
  exact h1.slice
theorem RowSt.lo (h : RowSt sz t O w0 ua b v xs wr) : ∀ k, v.ownBlock = some k → ua.heap.size ≤ k ∧ k < wr.heap.size := by
  obtain ⟨⟨bss, h1⟩, -, -⟩ := h
  intro k e
  exact h1.own.2 k (by rw [e]; simp)
theorem RowSt.out (h : RowSt sz t O w0 ua b v xs wr) : Hid (SrcAt w0 wr b) ∧ Hid (Chg [b] ua wr) := ⟨hideIt h.2.1, hideIt h.2.2⟩
/-- an element is appended: the world ahead of it is u -/
theorem wp_append_st {P : Program} {e : TypeId} {i : TypeInfo} {z : Value} {u : World} {o : Oper} {a : Act} {K : Act → World → Prop} {Q : Exit → Act → World → Prop} (s x : Operand) (ts : TypeId) (ho : o.op = .call { callee := .builtin .append, args := #[s, x], argTypes := #[ts, ts] })
    (ht : P.underlying ts = some (.slice e)) (hi : P.info? e = some i) (hz : i.zero = some z) (hsz : i.size = sz) (hb : i.bytes ≤ 256) (hzs : z.cells.size = sz) (h0 : 0 < sz) (hs : a.eval s = v)
    (hst : RowSt sz e O w0 ua b v xs wr) (hba : b < ua.heap.size) (hO : ∀ w w' es x b, O w es x b → SameOn b w w' → O w' es x b) (hcg : Chg [b] wr u) (hsrc : SrcAt w0 u b) (ad : Addr) (c : Nat) (es : List Value) (y : α) (bb : List Nat) (hx : a.eval x = .slice (some ad) 1 c) (hl : es.length = sz) (hnews : ∀ j w, es[j]? = some w → u.cell? (ad.add j) = some w) (h1 : ∀ w ∈ es, w.oneCell' = true)
    (hn : xs.length ≤ 1000) (hy : O u es y bb) (hown : Own wr.heap.size u.heap.size bb)
    (h : ∀ v' w', RowSt sz e O w0 ua b v' (xs ++ [y]) w' → Chg (b :: v.ownBlock.toList) u w' → K (a.put o.dst v') w') : o.wp P a u K Q := by
  obtain ⟨⟨bss, h2⟩, h3, h4⟩ := hst
  have hrow := h2.chg hcg (fun g hg => by simp at hg; subst hg; exact hba) (fun w' => hO _ w')
  have hq := hcg.size
  have hq2 := h4.size
  refine wp_append_row s x ts ho ht hi hz hsz hb hzs h0 hs hrow (by omega) ad c es y bb hx hl hnews h1 hn hy (h2.own.append hown (by omega) hq) (fun w' => hO _ w') (fun v' w' r1 r2 r3 => ?_)
  have hge : ∀ k, v.ownBlock = some k → ua.heap.size ≤ k := fun k e => (h2.own.2 k (by rw [e]; simp)).1
  refine h v' w' ⟨⟨_, r1⟩, hsrc.grown r2 (fun k e => by have := hge k e; omega), (h4.trans hcg).grown r2 (fun k e => .inr (hge k e))⟩ ?_
  exact (Chg.refl _ _).grown r2 (fun k e => .inl (by rw [e]; simp))
theorem wpList_append_st {P : Program} {e : TypeId} {i : TypeInfo} {z : Value} {u : World} {ops : Array Oper} {rest : List Oper} {o : Oper} {a : Act} {Q : Exit → Act → World → Prop} (hgd : o.guard = none) (s x : Operand) (ts : TypeId) (ho : o.op = .call { callee := .builtin .append, args := #[s, x], argTypes := #[ts, ts] })
    (ht : P.underlying ts = some (.slice e)) (hi : P.info? e = some i) (hz : i.zero = some z) (hsz : i.size = sz) (hb : i.bytes ≤ 256) (hzs : z.cells.size = sz) (h0 : 0 < sz) (hs : a.eval s = v)
    (hst : RowSt sz e O w0 ua b v xs wr) (hba : b < ua.heap.size) (hO : ∀ w w' es x b, O w es x b → SameOn b w w' → O w' es x b) (hcg : Chg [b] wr u) (hsrc : SrcAt w0 u b) (ad : Addr) (c : Nat) (es : List Value) (y : α) (bb : List Nat) (hx : a.eval x = .slice (some ad) 1 c) (hl : es.length = sz) (hnews : ∀ j w, es[j]? = some w → u.cell? (ad.add j) = some w) (h1 : ∀ w ∈ es, w.oneCell' = true)
    (hn : xs.length ≤ 1000) (hy : O u es y bb) (hown : Own wr.heap.size u.heap.size bb)
    (h : ∀ v' w', RowSt sz e O w0 ua b v' (xs ++ [y]) w' → Chg (b :: v.ownBlock.toList) u w' → wpList P ops Q rest (a.put o.dst v') w') : wpList P ops Q (o :: rest) a u :=
  wpList_plain hgd fun _ hK => wp_append_st s x ts ho ht hi hz hsz hb hzs h0 hs hst hba hO hcg hsrc ad c es y bb hx hl hnews h1 hn hy hown fun v' w' h2 h3 => hK _ _ (h v' w' h2 h3)
end
theorem info_PinB : (Tryz.prog.info? 125).map (fun i => (i.zero, i.size)) = some (some (.agg #[.string .empty, .int .i64 0, .int .i64 0, .bool false]), 4) := info_Pin
theorem info_two {P : Program} {e : TypeId} {z : Value} {size : Nat} (h : (P.info? e).map (fun i => (i.zero, i.size)) = some (some z, size)) (hb : ∀ i, P.info? e = some i → i.bytes ≤ 256) : ∃ i, P.info? e = some i ∧ i.zero = some z ∧ i.size = size ∧ i.bytes ≤ 256 := by
  obtain ⟨i, hi, hzz⟩ := Option.map_eq_some_iff.1 h
  simp only [Prod.mk.injEq] at hzz
  exact ⟨i, hi, hzz.1, hzz.2, hb i hi⟩
theorem own_val {w : World} {base n sz : Nat} {t : TypeId} {v : Value} {xs : List Value} (h : w.ownsRow base t sz v n xs) : Own base w.heap.size v.ownBlock.toList := by
  cases e : v.ownBlock with
  | none => exact Own.nil
  | some k => exact Own.one (h.lt k e).1 (h.lt k e).2
/-- what a drawn cell promises: its memory is its own, from lo on -/
def CellPost (w0 w : World) (b lo : Nat) (e : Ending) (w' : World) : Prop :=
  ∃ (vp va vt : Value) (x : CellD) (bs : List Nat), e = .returned (.agg #[.string x.name, .int .i64 x.kind, vp, va, vt, .int .i64 x.leak, .int .i64 x.energy]) ∧ OCellB w' [.string x.name, .int .i64 x.kind, vp, va, vt, .int .i64 x.leak, .int .i64 x.energy] x bs ∧ Own lo w'.heap.size bs ∧ SrcAt w0 w' b ∧ Chg [b] w w'
set_option maxHeartbeats 16000000 in
set_option maxRecDepth 10000 in
theorem l03Gate_any {w0 w : World} {b lt m : Nat} {name : ByteArray} {tv : Value} {truth : List Int} (h : SrcAt w0 w b) (ht : w.ownsRow lt 2 1 tv truth.length (truth.map (Value.int .i64))) (hb : b < lt) (hlt : lt ≤ w.heap.size) (hz : name.size ≤ 8) (hm : 1 ≤ m ∧ m ≤ 3) (hl : truth.length = 2 ^ m) (hG : ∀ p, p < m → GateT truth p) (hS : ∃ p, p < m ∧ senN truth p ≠ 0) :
    Calls Tryz.prog 102 #[.pointer (some ⟨b, 0, none⟩), .string name, tv] w (CellPost w0 w b lt) := by
  have hbw : Hid (b < w.heap.size) := hideIt h.ge.2.2
  have HG : Hid (w0.heap.size ≤ w.heap.size) := hideIt h.ge.2.1.size
  have GT := hideIt hG
  have HSE := hideIt hS
  have hl8 : truth.length ≤ 8 := by rw [hl]; exact Nat.pow_le_pow_right (n := 2) (by decide) hm.2
  obtain ⟨At, ct, rfl⟩ := own_slice ht
  have TR := hideIt ht
  have HS := hideIt h
  obtain ⟨iP, hiP, hzP, hsP, hbP⟩ := info_two info_Pin bytes_Pin
  obtain ⟨iA, hiA, hzA, hsA, hbA⟩ := info_two info_Arc bytes_Arc
  have HL := hideIt hl
  have HM := hideIt hm
  clear h ht hG hS hl hm
  go_enter Tryz.func102, Tryz.ntmps102
  go_wp2_with fail
  refine at_w (fun u => Blk u w.heap.size 112 #[.string .empty, .int .i64 0, .slice none 0 0, .slice none 0 0, .slice none 0 0, .int .i64 0, .int .i64 0] ∧ Blk u (w.heap.size + 1) 9 #[.string ⟨#[97]⟩, .string ⟨#[98]⟩, .string ⟨#[99]⟩, .string ⟨#[100]⟩] ∧ SrcAt w0 u b ∧ Chg [b] w u ∧ w.heap.size + 2 = u.heap.size) ⟨(Blk.new w _ _).grows ((Grows.refl _).alloc _), by have := Blk.new (w.alloc (.cells #[.string .empty, .int .i64 0, .slice none 0 0, .slice none 0 0, .slice none 0 0, .int .i64 0, .int .i64 0] 112)) 9 #[.string ⟨#[97]⟩, .string ⟨#[98]⟩, .string ⟨#[99]⟩, .string ⟨#[100]⟩]; rw [show (w.alloc (.cells #[.string .empty, .int .i64 0, .slice none 0 0, .slice none 0 0, .slice none 0 0, .int .i64 0, .int .i64 0] 112)).heap.size = w.heap.size + 1 by simp] at this; exact this, (HS.out.alloc _).alloc _, ((Chg.refl _ _).alloc _).alloc _, by simp⟩ (fun u0 hu => ?_)
  obtain ⟨r0, n0, s0, c0, z0⟩ := hu
  replace HS := hideIt s0
  have HC := hideIt c0
  have R := hideIt r0
  have NB4 := hideIt n0
  have NR : Hid (w.heap.size ∉ [b]) := hideIt (by have := hbw.out; simp; omega)
  have NN : Hid (w.heap.size + 1 ∉ [b]) := hideIt (by have := hbw.out; simp; omega)
  have TB : Hid (∀ g ∈ [b], g < lt) := hideIt (fun g hg => by simp at hg; subst hg; exact hb)
  have S0 := hideIt z0
  clear r0 n0 s0 c0 z0
  refine (l01Next_any (w0 := w0) 50 HS.out).mono ?_
  rintro e u1 ⟨lk, rfl, lka, lkb, h_, c_⟩
  have S1 : Hid (u0.heap.size ≤ u1.heap.size) := hideIt c_.size
  replace HS := hideIt h_
  replace HC := hideIt (HC.out.trans c_)
  replace R := hideIt (R.out.chg c_ NR.out)
  replace NB4 := hideIt (NB4.out.chg c_ NN.out)
  clear h_ c_ lka lkb
  go_wp2_with fail
  refine (l01Next_any (w0 := w0) 80 HS.out).mono ?_
  rintro e u2 ⟨en, rfl, ena, enb, h_, c_⟩
  have S2 : Hid (u1.heap.size ≤ u2.heap.size) := hideIt c_.size
  replace HS := hideIt h_
  replace HC := hideIt (HC.out.trans c_)
  replace R := hideIt (R.out.chg c_ NR.out)
  replace NB4 := hideIt (NB4.out.chg c_ NN.out)
  clear h_ c_ ena enb
  obtain ⟨ua, hua⟩ : ∃ ua, ua = u2.alloc (.cells #[.string name, .int .i64 1, .slice none 0 0, .slice none 0 0, .slice At truth.length ct, .int .i64 lk, .int .i64 en] 112) := ⟨_, rfl⟩
  have za : Hid (u2.heap.size + 1 = ua.heap.size) := hideIt (by rw [hua]; simp)
  have KB : Hid (Blk ua u2.heap.size 112 #[.string name, .int .i64 1, .slice none 0 0, .slice none 0 0, .slice At truth.length ct, .int .i64 lk, .int .i64 en]) := hideIt (by rw [hua]; exact Blk.new _ _ _)
  have NB : Hid (u2.heap.size ∉ [b]) := hideIt (by have := hbw.out; have := S0.out; have := S1.out; have := S2.out; simp; omega)
  replace HS : Hid (SrcAt w0 ua b) := hideIt (by rw [hua]; exact HS.out.alloc _)
  replace HC : Hid (Chg [b] w ua) := hideIt (by rw [hua]; exact HC.out.alloc _)
  replace R : Hid (Blk ua w.heap.size 112 #[.string .empty, .int .i64 0, .slice none 0 0, .slice none 0 0, .slice none 0 0, .int .i64 0, .int .i64 0]) := hideIt (by rw [hua]; exact R.out.grows ((Grows.refl _).alloc _))
  replace NB4 : Hid (Blk ua (w.heap.size + 1) 9 #[.string ⟨#[97]⟩, .string ⟨#[98]⟩, .string ⟨#[99]⟩, .string ⟨#[100]⟩]) := hideIt (by rw [hua]; exact NB4.out.grows ((Grows.refl _).alloc _))
  have bl : Hid (∀ g ∈ [b], g < ua.heap.size) := hideIt (fun g hg => by have := hbw.out; have := S0.out; have := S1.out; have := S2.out; have := za.out; simp at hg; omega)
  have HU := hideIt hua
  clear hua
  go_wp2
  have hua := HU.out
  have za2 := za.out
  refine at_c (fun u => Chg [b] ua u ∧ SrcAt w0 u b ∧ ORow 4 125 OPinB ua.heap.size u (.slice (some ⟨u2.heap.size + 1, 0, none⟩) 0 0) ([] : List PinD) []) ⟨by rw [← hua]; exact (Chg.refl _ _).alloc _, by rw [← hua]; exact HS.out.alloc _, by rw [← hua]; have := ORow.empty (sz := 4) (t := 125) (O := OPinB) (w := ua) (Nat.le_refl _); rw [← za2] at this ⊢; exact this⟩ (fun u3 hu => ?_)
  obtain ⟨c3, s3, r3⟩ := hu
  have C3 := hideIt c3
  have H3 := hideIt s3
  have O3 := hideIt r3
  clear c3 s3 r3 hua za2
  have PB : Hid (b < ua.heap.size) := hideIt (bl.out b (by simp))
  have ST := hideIt (⟨⟨[], O3.out⟩, H3.out, C3.out⟩ : RowSt 4 125 OPinB w0 ua b (.slice (some ⟨u2.heap.size + 1, 0, none⟩) 0 0) ([] : List PinD) u3)
  have HCA := HC
  clear C3 H3 O3 HC HS
  go_wp2
  go_loopw [9, 10] (fun p n wr => ∃ (pv : Value) (xs : List PinD) (N : Int), pv = p ∧ n = .int .i64 N ∧ Hid (N = (2 : Int) ^ xs.length) ∧ (1 ≤ N ∧ N ≤ 8) ∧ xs.length ≤ m ∧ Hid (RowSt 4 125 OPinB w0 ua b pv xs wr)) (fun _ n _ => truth.length - (intOf n).toNat)
  case atStart => exact ⟨_, [], 1, rfl, rfl, hideIt rfl, by omega, Nat.zero_le _, ST⟩
  case round =>
    clear ST
    obtain ⟨pv, xs, N, rfl, rfl, HN, ⟨N1, N2⟩, xm, ST⟩ := hrel
    obtain ⟨A, c, rfl⟩ := ST.out.slice
    by_cases hlt2 : N < (truth.length : Int)
    · have hk2 : xs.length < m := by
        have e1 := HN.out
        have e2 := HL.out
        rcases Nat.lt_or_ge xs.length m with h | h
        · exact h
        · exfalso
          have : (2 : Nat) ^ m ≤ 2 ^ xs.length := Nat.pow_le_pow_right (by decide) h
          have e3 : (N : Int) = ((2 ^ xs.length : Nat) : Int) := by rw [e1]; simp
          omega
      have xl : xs.length ≤ 2 := by have := HM.out; omega
      have N4 : N ≤ 4 := by
        have e1 := HN.out
        rcases (by omega : xs.length = 0 ∨ xs.length = 1 ∨ xs.length = 2) with e | e | e <;> rw [e] at e1 <;> simp at e1 <;> omega
      have SO := ST.out.out
      obtain ⟨HS, HC⟩ := SO
      have NN2 := hideIt (NB4.out.chg HC.out NN.out)
      obtain ⟨nm, nz, hnm⟩ := names_at NN2.out (by omega : xs.length < 4)
      have HK : Hid (∀ w', Chg (b :: (Value.slice A xs.length c).ownBlock.toList) wr w' → w'.cell? ⟨w.heap.size + 1, xs.length, none⟩ = some (.string nm)) := hideIt (fun w' cg => cg.cell hnm (fun hm => by
        have q1 := hbw.out
        rcases List.mem_cons.1 hm with hm | hm
        · simp at hm; omega
        · have := ST.out.lo _ (by simpa using hm)
          have q2 := S0.out
          have q3 := S1.out
          have q4 := S2.out
          have q5 := za.out
          omega))
      clear hnm NN2
      have xi : (xs.length : Int) < 4 := by omega
      go_wp2
      refine wp_region_held_drew (S := (fun w' => w'.cell? ⟨w.heap.size + 1, xs.length, none⟩ = some (.string nm))) (by kernel_rfl) ?_ (fun hh0 => ?_)
      · (try dsimp only); exact HK.out _ (by repeat (first | exact gg | exact Chg.refl _ _ | refine Chg.drew ?_ | refine Chg.alloc ?_ _))
      refine regTk 0 hh0 ?_
      refine regTk 1 hh0 ?_
      refine regTk 2 hh0 ?_
      refine regTk 3 hh0 ?_
      refine regTk 4 hh0 ?_
      refine regTk 5 hh0 ?_
      refine regTk 6 hh0 ?_
      refine regCall 7 (fun K hK => ?_)
      go_simp
      refine (l01Next_any (w0 := w0) 9 HS.out.drew).mono ?_
      rintro e u4 ⟨r, rfl, ra, rb, h_, c_⟩
      have rc := rb (by omega)
      have ew : IntKind.i64.wrap (1 + r) = 1 + r := IntWalk.i64_in _ (by omega)
      have gg : Chg (b :: (Value.slice A xs.length c).ownBlock.toList) wr u4 := ((Chg.refl _ _).drew).trans (c_.mono (by simp))
      have g1 : Hid (Chg [b] wr u4) := hideIt (((Chg.refl _ _).drew).trans c_)
      have s1 := hideIt h_
      clear rb h_ c_
      (try go_wp2_with fail)
      refine hK.out _ _ ?_ (fun hh1 => ?_)
      · (try dsimp only); exact HK.out _ (by repeat (first | exact gg | exact Chg.refl _ _ | refine Chg.drew ?_ | refine Chg.alloc ?_ _))
      clear hK K hh0
      try simp only [Act.put, List.setIfInBounds_toArray, List.set_cons_zero, List.set_cons_succ]
      refine regTk 8 hh1 ?_
      refine regTk 9 hh1 ?_
      refine regCall 10 (fun K hK => ?_)
      go_simp
      
      (try go_wp2_with fail)
      refine hK.out _ _ ?_ (fun hh2 => ?_)
      · (try dsimp only); exact HK.out _ (by repeat (first | exact gg | exact Chg.refl _ _ | refine Chg.drew ?_ | refine Chg.alloc ?_ _))
      clear hK K hh1
      try simp only [Act.put, List.setIfInBounds_toArray, List.set_cons_zero, List.set_cons_succ]
      refine regCall 11 (fun K hK => ?_)
      refine wp_append_st _ _ 109 rfl Tryz.underlying109 hiP hzP hsP hbP rfl (by decide) rfl ST.out PB.out (fun _ _ _ _ _ h g => h.same g) (g1.out.alloc _) (s1.out.alloc _) ⟨u4.heap.size, 0, none⟩ 1 [.string nm, .int .i64 1, .int .i64 (1 + r), .bool false] ⟨nm, 1, 1 + r, false⟩ [] rfl rfl (cells_new _ _ _) (by intro u hu; simp at hu; rcases hu with rfl | rfl | rfl | rfl <;> rfl) (by omega) ?_ Own.nil ?_
      · exact ⟨⟨rfl, by show nm.size ≤ _; unfold maxLen; omega, rfl⟩, nz⟩
      intro v' w4 r1 r2
      replace gg : Chg (b :: (Value.slice A xs.length c).ownBlock.toList) wr w4 := (gg.alloc _).trans r2
      replace ST := hideIt r1
      clear r1 r2
      refine hK.out _ _ ?_ (fun hh3 => ?_)
      · (try dsimp only); exact HK.out _ (by repeat (first | exact gg | exact Chg.refl _ _ | refine Chg.drew ?_ | refine Chg.alloc ?_ _))
      clear hK K hh2
      try simp only [Act.put, List.setIfInBounds_toArray, List.set_cons_zero, List.set_cons_succ]
      refine regTk 12 hh3 ?_
      refine wpAnyH_done (by kernel_rfl) ?_ _
      clear hh3
      go_wp2
      go_roundw
      case rel => exact ⟨_, xs ++ [⟨nm, 1, 1 + r, false⟩], 2 * N, rfl, by go_num, hideIt (by rw [List.length_append, HN.out]; simp [Int.pow_succ, Int.mul_comm]), by omega, by simp; omega, ST⟩
      case measure => simp [intOf]; omega
    · have km : xs.length = m := by
        have e1 := HN.out
        have e2 := HL.out
        rcases Nat.lt_or_ge xs.length m with h | h
        · exfalso
          have : (2 : Nat) ^ xs.length < 2 ^ m := Nat.pow_lt_pow_right (by decide) h
          have e3 : (N : Int) = ((2 ^ xs.length : Nat) : Int) := by rw [e1]; simp
          omega
        · omega
      have KM := hideIt km
      have xl : xs.length ≤ 3 := by have := HM.out; omega
      clear km
      obtain ⟨HS, HC⟩ := ST.out.out
      have HCW : Hid (Chg [b] w wr) := hideIt (HCA.out.trans HC.out)
      have KBw := hideIt (KB.out.chg HC.out NB.out)
      have fR := KBw.out.frozen
      have lR := KBw.out.lt
      go_wp2_with (at_builtin; refine wpList_append_st rfl _ _ 109 rfl Tryz.underlying109 hiP hzP hsP hbP rfl (by decide) rfl ST.out PB.out (fun _ _ _ _ _ h g => h.same g) ((Chg.refl _ _).alloc _) (HS.out.alloc _) ⟨wr.heap.size, 0, none⟩ 1 [.string ⟨#[121]⟩, .int .i64 2, .int .i64 0, .bool false] ⟨⟨#[121]⟩, 2, 0, false⟩ [] rfl rfl (cells_new _ _ _) (by intro u hu; simp at hu; rcases hu with rfl | rfl | rfl | rfl <;> rfl) (by omega) ⟨⟨rfl, by decide, rfl⟩, by decide⟩ Own.nil ?_)
      intro v' w4 r1 r2
      obtain ⟨A2, c2, ev⟩ := r1.slice
      have ev2 : v' = .slice A2 (xs.length + 1) c2 := by rw [ev, List.length_append]; rfl
      clear ev
      subst ev2
      have KB4 : Hid (Blk w4 u2.heap.size 112 #[.string name, .int .i64 1, .slice none 0 0, .slice none 0 0, .slice At truth.length ct, .int .i64 lk, .int .i64 en]) := hideIt (KBw.out.chg (((Chg.refl _ _).alloc _).trans r2) (fun hm => by
        rcases List.mem_cons.1 hm with hm | hm
        · exact NB.out (by simp [hm])
        · have := ST.out.lo _ (by simpa using hm)
          have := za.out
          omega))
      have RR4 : Hid (Blk w4 w.heap.size 112 #[.string .empty, .int .i64 0, .slice none 0 0, .slice none 0 0, .slice none 0 0, .int .i64 0, .int .i64 0]) := hideIt ((R.out.chg HC.out NR.out).chg (((Chg.refl _ _).alloc _).trans r2) (fun hm => by
        rcases List.mem_cons.1 hm with hm | hm
        · exact NR.out (by simp [hm])
        · have := ST.out.lo _ (by simpa using hm)
          have := za.out
          have := S0.out
          have := S1.out
          have := S2.out
          omega))
      have fR := KB4.out.frozen
      have lR := KB4.out.lt
      have P4 := hideIt r1
      have C4 : Hid (Chg [b] w w4) := hideIt (HCA.out.trans r1.2.2)
      have k0 := KB4.out.cell 0
      have k1 := KB4.out.cell 1
      have k2 := KB4.out.cell 2
      have k3 := KB4.out.cell 3
      have k4 := KB4.out.cell 4
      have k5 := KB4.out.cell 5
      have k6 := KB4.out.cell 6
      simp at k0 k1 k2 k3 k4 k5 k6
      clear r1 r2
      go_wp2
      obtain ⟨uc, huc⟩ : ∃ uc, uc = w4.setCell ⟨u2.heap.size, 2, none⟩ (.slice A2 (xs.length + 1) c2) := ⟨_, rfl⟩
      obtain ⟨ps, hps⟩ : ∃ ps, ps = xs ++ [(⟨⟨#[121]⟩, 2, 0, false⟩ : PinD)] := ⟨_, rfl⟩
      have PL : Hid (ps.length = xs.length + 1) := hideIt (by rw [hps]; simp)
      have zc : Hid (uc.heap.size = w4.heap.size) := hideIt (by rw [huc]; simp [World.setCell])
      have cu : Chg [u2.heap.size] w4 uc := by rw [huc]; exact (Chg.refl _ _).setCell (by simp) _
      have UC : Hid (Blk uc u2.heap.size 112 #[.string name, .int .i64 1, .slice A2 (xs.length + 1) c2, .slice none 0 0, .slice At truth.length ct, .int .i64 lk, .int .i64 en]) := hideIt (by rw [huc]; exact KB4.out.setE (i := 2) rfl)
      have UW : Hid (w.heap.size ≤ u2.heap.size) := hideIt (by have := S0.out; have := S1.out; have := S2.out; omega)
      have RC : Hid (Blk uc w.heap.size 112 #[.string .empty, .int .i64 0, .slice none 0 0, .slice none 0 0, .slice none 0 0, .int .i64 0, .int .i64 0]) := hideIt (RR4.out.chg cu (by have := S0.out; have := S1.out; have := S2.out; simp; omega))
      have CU : Hid (Chg [b] w uc) := hideIt (by rw [huc]; exact C4.out.setNew UW.out _)
      have SU : Hid (SrcAt w0 uc b) := hideIt (P4.out.2.1.chg cu (by have := NB.out; simp at this ⊢; omega) (fun g hg => by simp at hg; have := UW.out; have := HG.out; omega))
      obtain ⟨pss, pc⟩ : ∃ pss, ORow 4 125 OPinB ua.heap.size uc (.slice A2 (xs.length + 1) c2) ps pss := by
        obtain ⟨⟨pss, h⟩, -, -⟩ := P4.out
        rw [← hps] at h
        exact ⟨pss, h.chg cu (fun g hg => by simp at hg; have := za.out; omega) (fun w' es x b h g => h.same g)⟩
      have PC := hideIt pc
      have QC : Hid (ua.heap.size ≤ uc.heap.size ∧ b < uc.heap.size) := hideIt (by have := HC.out.size; have := C4.out.size; have := bl.out b (by simp); have := zc.out; have := P4.out.2.2.size; omega)
      refine at_c (fun u => Chg [b] uc u ∧ SrcAt w0 u b ∧ ORow 6 134 OArcB uc.heap.size u (.slice (some ⟨w4.heap.size, 0, none⟩) 0 0) ([] : List ArcD) []) ⟨by rw [← huc]; exact (Chg.refl _ _).alloc _, by rw [← huc]; exact SU.out.alloc _, by rw [← huc]; have := ORow.empty (sz := 6) (t := 134) (O := OArcB) (w := uc) (Nat.le_refl _); rw [zc.out] at this ⊢; exact this⟩ (fun u5 hu => ?_)
      obtain ⟨c5, s5, r5⟩ := hu
      have ST2 := hideIt (⟨⟨[], r5⟩, s5, c5⟩ : RowSt 6 134 OArcB w0 uc b (.slice (some ⟨w4.heap.size, 0, none⟩) 0 0) ([] : List ArcD) u5)
      clear c5 s5 r5 huc hps cu pc k0 k1 k2 k3 k4 k5 k6 fR lR P4 KB4 C4 KBw HCW HS HC HN ST RR4
      clear fR lR
      go_loopw [12, 13, 14] (fun ar pn sn wq => ∃ (av : Value) (ax : List ArcD) (p : Nat), av = ar ∧ pn = .int .i64 (p : Int) ∧ p ≤ xs.length ∧ Hid (ax.length ≤ p) ∧ Hid ((∃ q, q < p ∧ senN truth q ≠ 0) → 1 ≤ ax.length) ∧ Hid (RowSt 6 134 OArcB w0 uc b av ax wq)) (fun _ pn _ _ => xs.length - (intOf pn).toNat)
      case atStart => exact ⟨_, [], 0, rfl, rfl, Nat.zero_le _, hideIt (Nat.le_refl _), hideIt (fun ⟨q, hq, _⟩ => by omega), ST2⟩
      case round =>
        clear ST2
        obtain ⟨av, ax, p, rfl, rfl, pm, AL, AN, ST⟩ := hrel
        obtain ⟨A3, c3, rfl⟩ := ST.out.slice
        obtain ⟨HS, HC⟩ := ST.out.out
        have KC := hideIt (UC.out.chg HC.out NB.out)
        have CW : Hid (Chg [b] w wr) := hideIt (CU.out.trans HC.out)
        have PW := hideIt (PC.out.chg HC.out (fun g hg => by simp at hg; subst hg; exact PB.out) (fun w' es x b h g => h.same g))
        have TW := hideIt (ownsRow_chg TR.out CW.out TB.out)
        have al8 : ax.length ≤ 8 := by have := AL.out; omega
        have fR := KC.out.frozen
        have lR := KC.out.lt
        have k0 := KC.out.cell 0
        have k1 := KC.out.cell 1
        have k2 := KC.out.cell 2
        have k3 := KC.out.cell 3
        have k4 := KC.out.cell 4
        have k5 := KC.out.cell 5
        have k6 := KC.out.cell 6
        simp at k0 k1 k2 k3 k4 k5 k6
        by_cases hp : p < xs.length
        · have PR : RCell wr [.string name, .int .i64 1, .slice A2 (xs.length + 1) c2, .slice none 0 0, .slice At truth.length ct, .int .i64 lk, .int .i64 en] ⟨name, 1, ps, [], truth, lk, en⟩ := ⟨_, _, _, rfl, by show name.size ≤ _; unfold maxLen; omega, PW.out.pins.reads, OArcs.reads (.inl ⟨rfl, rfl, rfl⟩), by obtain ⟨_, _, _, _, o1, _⟩ := own_oints TW.out; exact o1.reads⟩
          have PRH := hideIt PR
          have GP := hideIt (GT.out p (by rw [← KM.out]; exact hp))
          have pi : (p : Int) < (xs.length : Int) := by omega
          clear PR
          go_wp2_with fail
          refine (l03Sense_any (p := p) _ PRH.out GP.out).mono ?_
          rintro e u6 ⟨rfl, g6⟩
          have ST6 := hideIt (ST.out.next QC.out.2 (Chg.of_grows g6) (HS.out.grows g6) (fun _ _ _ _ _ h g => h.same g))
          have HS6 := hideIt (HS.out.grows g6)
          clear g6 PRH GP KC PW TW HC CW ST HS k0 k1 k2 k3 k4 k5 k6 fR lR
          obtain ⟨sn0, hsn⟩ : ∃ z : Int, z = senN truth p := ⟨_, rfl⟩
          rw [← hsn]
          have SN := hideIt hsn
          clear hsn
          by_cases hS : sn0 = 0
          · have AN2 : Hid ((∃ q, q < p + 1 ∧ senN truth q ≠ 0) → 1 ≤ ax.length) := hideIt (fun ⟨q, hq, hs⟩ => by
              rcases Nat.lt_or_ge q p with h | h
              · exact AN.out ⟨q, h, hs⟩
              · have : q = p := by omega
                subst this
                exact absurd (SN.out.symm.trans hS) hs)
            have ALH := hideIt (Nat.le_succ_of_le AL.out)
            clear AN AL SN
            have hs0 : (sn0 != 0) = false := by simp [hS]
            clear hS
            go_wp2
            go_roundw
            case rel => exact ⟨_, ax, p + 1, rfl, by go_num, by omega, ALH, AN2, ST6⟩
            case measure => simp [intOf]; omega
          · have hs0 : (sn0 != 0) = true := by simpa using hS
            have AL2 := AL
            clear hS AN AL SN
            go_wp2_with fail
            refine (l03DrawArc_any (w0 := w0) 1 _ _ _ HS6.out).mono ?_
            rintro e u7 ⟨g, n, A', n', sn, ts, ss, bs, rfl, oa, tl, sl, sm1, sm2, ow, hs, hc⟩
            have OA := hideIt (⟨oa, tl, sl, sm1, sm2⟩ : OArcB u7 [.int .i64 1, .int .i64 (p : Int), .int .i64 (xs.length : Int), .int .i64 sn, .slice (some ⟨g, 0, none⟩) 2 n, .slice A' ss.length n'] ⟨1, p, xs.length, sn, ts, ss⟩ bs)
            have OW := hideIt ow
            have HS7 := hideIt hs
            have HC7 := hideIt hc
            clear oa tl sl sm1 sm2 ow hs hc
            go_wp2_with (at_builtin; go_loud (refine wpList_append_st rfl _ _ 110 rfl Tryz.underlying110 hiA hzA hsA hbA rfl (by decide) rfl ST6.out QC.out.2 (fun _ _ _ _ _ h g => h.same g) (HC7.out.alloc _) (HS7.out.alloc _) ⟨u7.heap.size, 0, none⟩ 1 [.int .i64 1, .int .i64 (p : Int), .int .i64 (xs.length : Int), .int .i64 sn, .slice (some ⟨g, 0, none⟩) 2 n, .slice A' ss.length n'] ⟨1, p, xs.length, sn, ts, ss⟩ bs rfl rfl (cells_new _ _ _) (by intro u hu; simp at hu; rcases hu with rfl | rfl | rfl | rfl | rfl | rfl <;> rfl) (by omega) (OArcB.same OA.out ((SameOn.refl _ _).grows (OArcB.lt OA.out) ((Grows.refl _).alloc _))) (OW.out.mono (Nat.le_refl _) (by simp)) ?_))
            intro v' w8 r1 r2
            have ST8 := hideIt r1
            clear r1 r2
            go_wp2
            go_roundw
            case rel => exact ⟨_, ax ++ [⟨1, p, xs.length, sn, ts, ss⟩], p + 1, rfl, by go_num, by omega, hideIt (by have := AL2.out; simp; omega), hideIt (fun _ => by simp), ST8⟩
            case measure => simp [intOf]; omega
        · have pe : p = xs.length := by omega
          have A1 : 1 ≤ ax.length := by
            obtain ⟨q, hq, hs⟩ := HSE.out
            exact AN.out ⟨q, by rw [pe, KM.out]; exact hq, hs⟩
          clear pe
          have KR := hideIt (RC.out.chg HC.out NR.out)
          have fR2 := KR.out.frozen
          have lR2 := KR.out.lt
          have z0 := KR.out.cell 0
          have z1 := KR.out.cell 1
          have z2 := KR.out.cell 2
          have z3 := KR.out.cell 3
          have z4 := KR.out.cell 4
          have z5 := KR.out.cell 5
          have z6 := KR.out.cell 6
          simp at z0 z1 z2 z3 z4 z5 z6
          have ne1 : w.heap.size ≠ u2.heap.size := by have := S0.out; have := S1.out; have := S2.out; omega
          have ne2 : u2.heap.size ≠ w.heap.size := fun e => ne1 e.symm
          go_wp2
          refine bodyPost_ret (by simp [*, results, Tryz.results102, go_sem]; try rfl) rfl ?_
          have key : ∀ w9, Chg [u2.heap.size, w.heap.size] wr w9 → wr.heap.size = w9.heap.size → Chg [b] w w9 → CellPost w0 w b lt (.returned (.agg #[.string name, .int .i64 1, .slice A2 (xs.length + 1) c2, .slice A3 ax.length c3, .slice At truth.length ct, .int .i64 lk, .int .i64 en])) w9 := fun w9 c9 e9 h9 => by
            obtain ⟨⟨ass, ar⟩, hs, hc⟩ := ST.out
            have q1 := S0.out
            have q2 := S1.out
            have q3 := S2.out
            have q4 := za.out
            have q5 := QC.out
            have q6 := HM.out
            have q7 := KM.out
            have q8 := PL.out
            have q9 := hc.size
            have kp := PW.out.chg c9 (fun g hg => by simp at hg; omega) (fun w' es x b h g => h.same g)
            have ka := ar.chg c9 (fun g hg => by simp at hg; omega) (fun w' es x b h g => h.same g)
            have kt := ownsRow_chg TR.out h9 TB.out
            refine ⟨_, _, _, ⟨name, 1, ps, ax, truth, lk, en⟩, _, rfl, ⟨_, _, _, pss, ass, rfl, kp.base (Nat.zero_le _), ka.base (Nat.zero_le _), ownsRow_base kt (Nat.zero_le _), rfl, ⟨hz, ⟨by show 2 ≤ ps.length; omega, by show ps.length ≤ 5; omega⟩, ⟨A1, al8⟩, hl8⟩⟩, ?_, hs.chg c9 (by have := hbw.out; simp; omega) (fun g hg => by have := HG.out; simp at hg; omega), h9⟩
            refine (own_val TR.out).append ((PC.out.own.append ar.own (m := uc.heap.size) (by omega) (by omega)).mono (lo' := w.heap.size) (by omega) (Nat.le_of_eq e9)) hlt (by omega)
          refine key _ ?_ ?_ ?_
          · repeat (first | refine Chg.setCell ?_ (by simp) _ | with_reducible exact Chg.refl _ _)
          · simp [World.setCell]
          · repeat (first | refine Chg.setNew ?_ (by first | exact UW.out | simp) _ | with_reducible exact CW.out)
end Go.Proofs.YtlnpefiipdkafaaGreatDoor
