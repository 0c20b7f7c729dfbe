/-
  The drawn library of eight cells.
-/
import Derived.Test.YtlnpefiipdkafaaGreatDoorL3C
namespace Go.Proofs.YtlnpefiipdkafaaGreatDoor
open Go.RowKit
theorem SameOn.size_lt {bs : List Nat} {w w' : World} (g : SameOn bs w w') {q : Nat} (hq : q ∈ bs) (hl : q < w.heap.size) : q < w'.heap.size := by
  have h := g q hq
  rw [Array.getElem?_eq_getElem hl] at h
  exact (Array.getElem?_eq_some_iff.1 h).1
theorem ORow.keep {α : Type} {sz : Nat} {t : TypeId} {O : World → List Value → α → List Nat → Prop} {lo : Nat} {w w' : World} {v : Value} {xs : List α} {bss : List (List Nat)} (h : ORow sz t O lo w v xs bss) (g : SameOn (v.ownBlock.toList ++ bss.flatten) w w') (hO : ∀ es x b, O w es x b → SameOn b w w' → O w' es x b) : ORow sz t O lo w' v xs bss := by
  obtain ⟨cells, h1, h2, h3⟩ := h
  exact ⟨cells, ownsRow_same h1 (g.sub fun _ hq => List.mem_append_left _ hq), h2.mono fun es x b hb ho => hO _ _ _ ho (g.sub fun q hq => List.mem_append_right _ (List.mem_flatten.2 ⟨b, hb, hq⟩)), h3.1, fun q hq => ⟨(h3.2 q hq).1, g.size_lt hq (h3.2 q hq).2⟩⟩
theorem OCellB.keep {w w' : World} {es : List Value} {x : CellD} {bs : List Nat} (h : OCellB w es x bs) (g : SameOn bs w w') : OCellB w' es x bs := by
  obtain ⟨vp, va, vt, pss, ass, e, hp, ha, ht, rfl, hb⟩ := h
  exact ⟨vp, va, vt, pss, ass, e, hp.keep (g.sub fun _ hq => List.mem_append_right _ (List.mem_append_left _ hq)) (fun _ _ _ h g => h.same g), ha.keep (g.sub fun _ hq => List.mem_append_right _ (List.mem_append_right _ hq)) (fun _ _ _ h g => h.same g), ownsRow_same ht (g.sub fun _ hq => List.mem_append_left _ hq), rfl, hb⟩
theorem OCellB.slices {w : World} {s k vp va vt l n : Value} {x : CellD} {bs : List Nat} (h : OCellB w [s, k, vp, va, vt, l, n] x bs) : ∃ (A1 : Option Addr) (n1 : Nat) (A2 : Option Addr) (n2 : Nat) (A3 : Option Addr) (n3 : Nat), vp = .slice A1 x.pins.length n1 ∧ va = .slice A2 x.arcs.length n2 ∧ vt = .slice A3 x.truth.length n3 := by
  obtain ⟨p, a, t, pss, ass, e, hp, ha, ht, -, -⟩ := h
  injection e with _ e
  injection e with _ e
  injection e with e1 e
  injection e with e2 e
  injection e with e3 e
  subst e1 e2 e3
  obtain ⟨A1, n1, h1⟩ := hp.slice
  obtain ⟨A2, n2, h2⟩ := ha.slice
  obtain ⟨A3, n3, h3⟩ := own_slice ht
  exact ⟨A1, n1, A2, n2, A3, n3, h1, h2, h3⟩
/-- boxes and drawn cells, all made behind w -/
def Boxes (w0 w : World) (b base : Nat) (bx : List (Nat × TypeId × Array Value)) (cs : List (List Value × CellD × List Nat)) (u : World) : Prop :=
  SrcAt w0 u b ∧ Chg [b] w u ∧ (∀ q ∈ bx, Blk u q.1 q.2.1 q.2.2 ∧ w.heap.size ≤ q.1) ∧ (∀ c ∈ cs, OCellB u c.1 c.2.1 c.2.2) ∧ Own base u.heap.size (cs.map (·.2.2)).flatten ∧ w.heap.size ≤ base ∧ base ≤ u.heap.size
section
variable {w0 w u u' : World} {b base : Nat} {bx : List (Nat × TypeId × Array Value)} {cs : List (List Value × CellD × List Nat)}
theorem Boxes.start (h : SrcAt w0 w b) : Boxes w0 w b w.heap.size [] [] w := ⟨h, Chg.refl _ _, (fun _ h => nomatch h), (fun _ h => nomatch h), Own.nil, Nat.le_refl _, Nat.le_refl _⟩
theorem Boxes.rebase (h : Boxes w0 w b base bx [] u) : Boxes w0 w b u.heap.size bx [] u := ⟨h.1, h.2.1, h.2.2.1, (fun _ h => nomatch h), Own.nil, h.2.1.size, Nat.le_refl _⟩
theorem Boxes.next (h : Boxes w0 w b base bx cs u) (hb : b < w.heap.size) (c : Chg [b] u u') (s : SrcAt w0 u' b) : Boxes w0 w b base bx cs u' := by
  obtain ⟨h1, h2, h3, h4, h5, h6, h7⟩ := h
  refine ⟨s, h2.trans c, fun q hq => ⟨(h3 q hq).1.chg c (by have := (h3 q hq).2; simp; omega), (h3 q hq).2⟩, fun d hd => (h4 d hd).keep (c.same (h4 d hd).lt fun g hg => ?_), h5.mono (Nat.le_refl _) c.size, h6, Nat.le_trans h7 c.size⟩
  have := h5.2 g (List.mem_flatten.2 ⟨_, List.mem_map.2 ⟨d, hd, rfl⟩, hg⟩)
  simp; omega
theorem Boxes.box (h : Boxes w0 w b base bx cs u) (hb : b < w.heap.size) (t : TypeId) (a : Array Value) : Boxes w0 w b base (bx ++ [(u.heap.size, t, a)]) cs (u.alloc (.cells a t)) := by
  have h' := h.next hb ((Chg.refl _ _).alloc (.cells a t)) (h.1.alloc _)
  refine ⟨h'.1, h'.2.1, fun q hq => ?_, h'.2.2.2⟩
  rcases List.mem_append.1 hq with hq | hq
  · exact h'.2.2.1 q hq
  · simp at hq
    subst hq
    exact ⟨Blk.new _ _ _, h.2.1.size⟩
theorem Boxes.cell {e : Ending} {w' : World} {lo : Nat} (h : Boxes w0 w b base bx cs u) (hb : b < w.heap.size) (g : Grows u u') (hlo : u.heap.size ≤ lo) (hp : CellPost w0 u' b lo e w') :
    ∃ (A1 : Option Addr) (n1 : Nat) (A2 : Option Addr) (n2 : Nat) (A3 : Option Addr) (n3 : Nat) (x : CellD) (bs : List Nat), e = .returned (.agg #[.string x.name, .int .i64 x.kind, .slice A1 x.pins.length n1, .slice A2 x.arcs.length n2, .slice A3 x.truth.length n3, .int .i64 x.leak, .int .i64 x.energy]) ∧
      Hid (Boxes w0 w b base bx (cs ++ [([.string x.name, .int .i64 x.kind, .slice A1 x.pins.length n1, .slice A2 x.arcs.length n2, .slice A3 x.truth.length n3, .int .i64 x.leak, .int .i64 x.energy], x, bs)]) w') := by
  obtain ⟨vp, va, vt, x, bs, rfl, ho, hw, hs, hc⟩ := hp
  obtain ⟨A1, n1, A2, n2, A3, n3, rfl, rfl, rfl⟩ := ho.slices
  have h' := (h.next hb (Chg.of_grows g) (h.1.grows g)).next hb hc hs
  refine ⟨A1, n1, A2, n2, A3, n3, x, bs, rfl, hideIt ⟨h'.1, h'.2.1, h'.2.2.1, fun d hd => ?_, ?_, h'.2.2.2.2.2⟩⟩
  · rcases List.mem_append.1 hd with hd | hd
    · exact h'.2.2.2.1 d hd
    · simp at hd
      subst hd
      exact ho
  · rw [List.map_append, List.flatten_append]
    simp only [List.map_cons, List.map_nil, List.flatten_cons, List.flatten_nil, List.append_nil]
    have hq := h.2.2.2.2.1
    have hsz := hc.size
    have hsz2 := g.size
    have hsz3 := h.2.2.2.2.2.2
    refine ⟨List.nodup_append.2 ⟨hq.1, hw.1, fun a ha c hc e => ?_⟩, fun g hg => ?_⟩
    · have := hq.2 a ha
      have := hw.2 c hc
      omega
    · rcases List.mem_append.1 hg with hg | hg
      · have := hq.2 g hg
        omega
      · have := hw.2 g hg
        omega
end
def gateOk (t : List Int) (p : Nat) : Bool := decide (t.length ≤ 16) && t.all (fun v => v == 0 || v == 1) && (List.range t.length).all (fun i => i.testBit p || decide (i + 2 ^ p < t.length)) && decide (p ≤ 3)
theorem gateOk_ok {t : List Int} {p : Nat} (h : gateOk t p = true) : GateT t p := by
  unfold gateOk at h
  simp only [Bool.and_eq_true, decide_eq_true_eq, List.all_eq_true, Bool.or_eq_true, beq_iff_eq, List.mem_range] at h
  obtain ⟨⟨⟨h1, h2⟩, h3⟩, h4⟩ := h
  refine ⟨h1, fun i v hv => h2 v (List.mem_of_getElem? hv), fun i hi hb => ?_, h4⟩
  rcases h3 i hi with h | h
  · rw [hb] at h; cases h
  · exact h
/-- the drawn library: eight cells, all of their memory their own -/
def LibPost (w0 w : World) (b : Nat) (e : Ending) (w' : World) : Prop :=
  ∃ (g n : Nat) (xs : List CellD) (bs : List Nat), e = .returned (.agg #[.slice (some ⟨g, 0, none⟩) 8 n]) ∧ xs.length = 8 ∧ OList 7 112 OCellB w' (.slice (some ⟨g, 0, none⟩) 8 n) xs bs ∧ Own w.heap.size w'.heap.size bs ∧ SrcAt w0 w' b ∧ Chg [b] w w'
theorem l03Gate_at {w0 v : World} {b g m k : Nat} {name : ByteArray} {cs : Array Value} (truth : List Int) (h : SrcAt w0 v b) (hg : g = v.heap.size) (hz : name.size ≤ 8) (hm : 1 ≤ m ∧ m ≤ 3) (hk : k = truth.length) (hcs : cs.toList = truth.map (Value.int .i64)) (hl : truth.length = 2 ^ m) (hG : (List.range m).all (gateOk truth) = true) (hS : (List.range m).any (fun p => senN truth p != 0) = true) :
    Calls Tryz.prog 102 #[.pointer (some ⟨b, 0, none⟩), .string name, .slice (some ⟨g, 0, none⟩) k k] (v.alloc (.cells cs 2)) (CellPost w0 (v.alloc (.cells cs 2)) b v.heap.size) := by
  subst hg hk
  have hlen : cs.size = truth.length := by have := congrArg List.length hcs; simpa using this
  have h8 : truth.length ≤ maxLen := by rw [hl]; exact Nat.le_trans (Nat.pow_le_pow_right (n := 2) (by decide) hm.2) (by decide)
  have hrow := World.ownsRow_lit (e := 2) (size := 1) (base := v.heap.size) v cs truth.length (Nat.le_refl _) h8 (by rw [hlen]; omega)
  rw [hcs] at hrow
  rw [List.all_eq_true] at hG
  rw [List.any_eq_true] at hS
  refine l03Gate_any (m := m) (h.alloc _) hrow h.ge.2.2 (by simp) hz hm hl (fun p hp => gateOk_ok (hG p (List.mem_range.2 hp))) ?_
  obtain ⟨p, hp, hs⟩ := hS
  exact ⟨p, List.mem_range.1 hp, by simpa using hs⟩
set_option maxHeartbeats 16000000 in
set_option maxRecDepth 10000 in
theorem l03Draw_any {w0 w : World} {b : Nat} (h : SrcAt w0 w b) : Calls Tryz.prog 77 #[.pointer (some ⟨b, 0, none⟩)] w (LibPost w0 w b) := by
  have hb : Hid (b < w.heap.size) := hideIt h.ge.2.2
  have HG : Hid (w0.heap.size ≤ w.heap.size) := hideIt h.ge.2.1.size
  have B := hideIt (((Boxes.start h).box hb.out 26 #[.slice none 0 0]).box hb.out 26 #[.slice none 0 0]).rebase
  clear h
  go_enter Tryz.func77, Tryz.ntmps77
  go_wp2_with fail
  refine at_w (fun u => ∃ v, u = v.alloc (.cells #[.int .i64 1, .int .i64 0] 2) ∧ Boxes w0 w b (w.heap.size + 2) _ _ v ∧ w.heap.size + 2 = v.heap.size) ⟨_, rfl, by simpa using B.out, by simp⟩ (fun u hu => ?_)
  obtain ⟨v0, rfl, b0, e0⟩ := hu
  have B := hideIt b0
  have zv0 : Hid (v0.heap.size = w.heap.size + 2) := hideIt e0.symm
  clear b0 e0
  refine (l03Gate_at (w0 := w0) (m := 1) [1, 0] B.out.1 zv0.out.symm (by decide) (by omega) rfl rfl rfl (by decide) (by decide)).mono ?_
  intro e u1 hp
  obtain ⟨A1, n1, C1, m1, T1, t1, x1, bs1, rfl, B1⟩ := B.out.cell hb.out ((Grows.refl _).alloc _) (Nat.le_refl _) hp
  clear B hp
  have z1 := hideIt B1.out.2.1.size
  obtain ⟨v1, hv1⟩ : ∃ v, v = u1.alloc (.cells #[.string x1.name, .int .i64 x1.kind, .slice A1 x1.pins.length n1, .slice C1 x1.arcs.length m1, .slice T1 x1.truth.length t1, .int .i64 x1.leak, .int .i64 x1.energy] 112) := ⟨_, rfl⟩
  have B : Hid (Boxes w0 w b (w.heap.size + 2) _ _ v1) := hideIt (by rw [hv1]; exact B1.out.box hb.out 112 #[.string x1.name, .int .i64 x1.kind, .slice A1 x1.pins.length n1, .slice C1 x1.arcs.length m1, .slice T1 x1.truth.length t1, .int .i64 x1.leak, .int .i64 x1.energy])
  clear B1
  have zv1 : Hid (v1.heap.size = u1.heap.size + 1) := hideIt (by rw [hv1]; simp)
  have HV1 := hideIt hv1
  clear hv1
  go_wp2_with fail
  refine at_w (fun u => u = v1.alloc (.cells #[.int .i64 0, .int .i64 1] 2)) (by rw [HV1.out]) (fun u hu => ?_)
  subst hu
  clear HV1
  refine (l03Gate_at (w0 := w0) (m := 1) [0, 1] B.out.1 zv1.out.symm (by decide) (by omega) rfl rfl rfl (by decide) (by decide)).mono ?_
  intro e u2 hp
  obtain ⟨A2, n2, C2, m2, T2, t2, x2, bs2, rfl, B2⟩ := B.out.cell hb.out ((Grows.refl _).alloc _) (Nat.le_refl _) hp
  clear B hp
  have z2 := hideIt B2.out.2.1.size
  obtain ⟨v2, hv2⟩ : ∃ v, v = u2.alloc (.cells #[.string x2.name, .int .i64 x2.kind, .slice A2 x2.pins.length n2, .slice C2 x2.arcs.length m2, .slice T2 x2.truth.length t2, .int .i64 x2.leak, .int .i64 x2.energy] 112) := ⟨_, rfl⟩
  have B : Hid (Boxes w0 w b (w.heap.size + 2) _ _ v2) := hideIt (by rw [hv2]; exact B2.out.box hb.out 112 #[.string x2.name, .int .i64 x2.kind, .slice A2 x2.pins.length n2, .slice C2 x2.arcs.length m2, .slice T2 x2.truth.length t2, .int .i64 x2.leak, .int .i64 x2.energy])
  clear B2
  have zv2 : Hid (v2.heap.size = u2.heap.size + 1) := hideIt (by rw [hv2]; simp)
  have HV2 := hideIt hv2
  clear hv2
  go_wp2_with fail
  refine at_w (fun u => u = v2.alloc (.cells #[.int .i64 1, .int .i64 1, .int .i64 1, .int .i64 0] 2)) (by rw [HV2.out]) (fun u hu => ?_)
  subst hu
  clear HV2
  refine (l03Gate_at (w0 := w0) (m := 2) [1, 1, 1, 0] B.out.1 zv2.out.symm (by decide) (by omega) rfl rfl rfl (by decide) (by decide)).mono ?_
  intro e u3 hp
  obtain ⟨A3, n3, C3, m3, T3, t3, x3, bs3, rfl, B3⟩ := B.out.cell hb.out ((Grows.refl _).alloc _) (Nat.le_refl _) hp
  clear B hp
  have z3 := hideIt B3.out.2.1.size
  obtain ⟨v3, hv3⟩ : ∃ v, v = u3.alloc (.cells #[.string x3.name, .int .i64 x3.kind, .slice A3 x3.pins.length n3, .slice C3 x3.arcs.length m3, .slice T3 x3.truth.length t3, .int .i64 x3.leak, .int .i64 x3.energy] 112) := ⟨_, rfl⟩
  have B : Hid (Boxes w0 w b (w.heap.size + 2) _ _ v3) := hideIt (by rw [hv3]; exact B3.out.box hb.out 112 #[.string x3.name, .int .i64 x3.kind, .slice A3 x3.pins.length n3, .slice C3 x3.arcs.length m3, .slice T3 x3.truth.length t3, .int .i64 x3.leak, .int .i64 x3.energy])
  clear B3
  have zv3 : Hid (v3.heap.size = u3.heap.size + 1) := hideIt (by rw [hv3]; simp)
  have HV3 := hideIt hv3
  clear hv3
  go_wp2_with fail
  refine at_w (fun u => u = v3.alloc (.cells #[.int .i64 0, .int .i64 1, .int .i64 1, .int .i64 0] 2)) (by rw [HV3.out]) (fun u hu => ?_)
  subst hu
  clear HV3
  refine (l03Gate_at (w0 := w0) (m := 2) [0, 1, 1, 0] B.out.1 zv3.out.symm (by decide) (by omega) rfl rfl rfl (by decide) (by decide)).mono ?_
  intro e u4 hp
  obtain ⟨A4, n4, C4, m4, T4, t4, x4, bs4, rfl, B4⟩ := B.out.cell hb.out ((Grows.refl _).alloc _) (Nat.le_refl _) hp
  clear B hp
  have z4 := hideIt B4.out.2.1.size
  obtain ⟨v4, hv4⟩ : ∃ v, v = u4.alloc (.cells #[.string x4.name, .int .i64 x4.kind, .slice A4 x4.pins.length n4, .slice C4 x4.arcs.length m4, .slice T4 x4.truth.length t4, .int .i64 x4.leak, .int .i64 x4.energy] 112) := ⟨_, rfl⟩
  have B : Hid (Boxes w0 w b (w.heap.size + 2) _ _ v4) := hideIt (by rw [hv4]; exact B4.out.box hb.out 112 #[.string x4.name, .int .i64 x4.kind, .slice A4 x4.pins.length n4, .slice C4 x4.arcs.length m4, .slice T4 x4.truth.length t4, .int .i64 x4.leak, .int .i64 x4.energy])
  clear B4
  have zv4 : Hid (v4.heap.size = u4.heap.size + 1) := hideIt (by rw [hv4]; simp)
  have HV4 := hideIt hv4
  clear hv4
  go_wp2_with fail
  refine at_w (fun u => u = v4.alloc (.cells #[.int .i64 0, .int .i64 1, .int .i64 0, .int .i64 1, .int .i64 0, .int .i64 0, .int .i64 1, .int .i64 1] 2)) (by rw [HV4.out]) (fun u hu => ?_)
  subst hu
  clear HV4
  refine (l03Gate_at (w0 := w0) (m := 3) [0, 1, 0, 1, 0, 0, 1, 1] B.out.1 zv4.out.symm (by decide) (by omega) rfl rfl rfl (by decide) (by decide)).mono ?_
  intro e u5 hp
  obtain ⟨A5, n5, C5, m5, T5, t5, x5, bs5, rfl, B5⟩ := B.out.cell hb.out ((Grows.refl _).alloc _) (Nat.le_refl _) hp
  clear B hp
  have z5 := hideIt B5.out.2.1.size
  obtain ⟨v5, hv5⟩ : ∃ v, v = u5.alloc (.cells #[.string x5.name, .int .i64 x5.kind, .slice A5 x5.pins.length n5, .slice C5 x5.arcs.length m5, .slice T5 x5.truth.length t5, .int .i64 x5.leak, .int .i64 x5.energy] 112) := ⟨_, rfl⟩
  have B : Hid (Boxes w0 w b (w.heap.size + 2) _ _ v5) := hideIt (by rw [hv5]; exact B5.out.box hb.out 112 #[.string x5.name, .int .i64 x5.kind, .slice A5 x5.pins.length n5, .slice C5 x5.arcs.length m5, .slice T5 x5.truth.length t5, .int .i64 x5.leak, .int .i64 x5.energy])
  clear B5
  have zv5 : Hid (v5.heap.size = u5.heap.size + 1) := hideIt (by rw [hv5]; simp)
  have HV5 := hideIt hv5
  clear hv5
  go_wp2_with fail
  refine at_w (fun u => u = v5) HV5.out.symm (fun u hu => ?_)
  subst hu
  clear HV5
  refine (l03DrawFlop_any (w0 := w0) B.out.1 (by decide)).mono ?_
  intro e u6 hp
  obtain ⟨A6, n6, C6, m6, T6, t6, x6, bs6, rfl, B6⟩ := B.out.cell hb.out (Grows.refl _) (Nat.le_refl _) hp
  clear B hp
  have z6 := hideIt B6.out.2.1.size
  obtain ⟨v6, hv6⟩ : ∃ v, v = u6.alloc (.cells #[.string x6.name, .int .i64 x6.kind, .slice A6 x6.pins.length n6, .slice C6 x6.arcs.length m6, .slice T6 x6.truth.length t6, .int .i64 x6.leak, .int .i64 x6.energy] 112) := ⟨_, rfl⟩
  have B : Hid (Boxes w0 w b (w.heap.size + 2) _ _ v6) := hideIt (by rw [hv6]; exact B6.out.box hb.out 112 #[.string x6.name, .int .i64 x6.kind, .slice A6 x6.pins.length n6, .slice C6 x6.arcs.length m6, .slice T6 x6.truth.length t6, .int .i64 x6.leak, .int .i64 x6.energy])
  clear B6
  have zv6 : Hid (v6.heap.size = u6.heap.size + 1) := hideIt (by rw [hv6]; simp)
  have HV6 := hideIt hv6
  clear hv6
  go_wp2_with fail
  refine at_w (fun u => u = v6) HV6.out.symm (fun u hu => ?_)
  subst hu
  clear HV6
  refine (l03DrawFlop_any (w0 := w0) B.out.1 (by decide)).mono ?_
  intro e u7 hp
  obtain ⟨A7, n7, C7, m7, T7, t7, x7, bs7, rfl, B7⟩ := B.out.cell hb.out (Grows.refl _) (Nat.le_refl _) hp
  clear B hp
  have z7 := hideIt B7.out.2.1.size
  obtain ⟨v7, hv7⟩ : ∃ v, v = u7.alloc (.cells #[.string x7.name, .int .i64 x7.kind, .slice A7 x7.pins.length n7, .slice C7 x7.arcs.length m7, .slice T7 x7.truth.length t7, .int .i64 x7.leak, .int .i64 x7.energy] 112) := ⟨_, rfl⟩
  have B : Hid (Boxes w0 w b (w.heap.size + 2) _ _ v7) := hideIt (by rw [hv7]; exact B7.out.box hb.out 112 #[.string x7.name, .int .i64 x7.kind, .slice A7 x7.pins.length n7, .slice C7 x7.arcs.length m7, .slice T7 x7.truth.length t7, .int .i64 x7.leak, .int .i64 x7.energy])
  clear B7
  have zv7 : Hid (v7.heap.size = u7.heap.size + 1) := hideIt (by rw [hv7]; simp)
  have HV7 := hideIt hv7
  clear hv7
  go_wp2_with fail
  refine at_w (fun u => u = v7) HV7.out.symm (fun u hu => ?_)
  subst hu
  clear HV7
  refine (l03DrawFlop_any (w0 := w0) B.out.1 (by decide)).mono ?_
  intro e u8 hp
  obtain ⟨A8, n8, C8, m8, T8, t8, x8, bs8, rfl, B8⟩ := B.out.cell hb.out (Grows.refl _) (Nat.le_refl _) hp
  clear B hp
  have z8 := hideIt B8.out.2.1.size
  obtain ⟨v8, hv8⟩ : ∃ v, v = u8.alloc (.cells #[.string x8.name, .int .i64 x8.kind, .slice A8 x8.pins.length n8, .slice C8 x8.arcs.length m8, .slice T8 x8.truth.length t8, .int .i64 x8.leak, .int .i64 x8.energy] 112) := ⟨_, rfl⟩
  have B : Hid (Boxes w0 w b (w.heap.size + 2) _ _ v8) := hideIt (by rw [hv8]; exact B8.out.box hb.out 112 #[.string x8.name, .int .i64 x8.kind, .slice A8 x8.pins.length n8, .slice C8 x8.arcs.length m8, .slice T8 x8.truth.length t8, .int .i64 x8.leak, .int .i64 x8.energy])
  clear B8
  have zv8 : Hid (v8.heap.size = u8.heap.size + 1) := hideIt (by rw [hv8]; simp)
  have HV8 := hideIt hv8
  clear hv8
  go_upto_region 10 with fail
  refine at_c (fun u => u = v8) HV8.out.symm (fun u hu => ?_)
  subst hu
  clear HV8
  have K1 := hideIt (B.out.2.2.1 (u1.heap.size, 112, #[.string x1.name, .int .i64 x1.kind, .slice A1 x1.pins.length n1, .slice C1 x1.arcs.length m1, .slice T1 x1.truth.length t1, .int .i64 x1.leak, .int .i64 x1.energy]) (by repeat (first | exact List.mem_append_right _ (List.mem_singleton_self _) | refine List.mem_append_left _ ?_))).1
  have k1_0 := K1.out.cell 0
  have k1_1 := K1.out.cell 1
  have k1_2 := K1.out.cell 2
  have k1_3 := K1.out.cell 3
  have k1_4 := K1.out.cell 4
  have k1_5 := K1.out.cell 5
  have k1_6 := K1.out.cell 6
  simp at k1_0 k1_1 k1_2 k1_3 k1_4 k1_5 k1_6
  have K2 := hideIt (B.out.2.2.1 (u2.heap.size, 112, #[.string x2.name, .int .i64 x2.kind, .slice A2 x2.pins.length n2, .slice C2 x2.arcs.length m2, .slice T2 x2.truth.length t2, .int .i64 x2.leak, .int .i64 x2.energy]) (by repeat (first | exact List.mem_append_right _ (List.mem_singleton_self _) | refine List.mem_append_left _ ?_))).1
  have k2_0 := K2.out.cell 0
  have k2_1 := K2.out.cell 1
  have k2_2 := K2.out.cell 2
  have k2_3 := K2.out.cell 3
  have k2_4 := K2.out.cell 4
  have k2_5 := K2.out.cell 5
  have k2_6 := K2.out.cell 6
  simp at k2_0 k2_1 k2_2 k2_3 k2_4 k2_5 k2_6
  have K3 := hideIt (B.out.2.2.1 (u3.heap.size, 112, #[.string x3.name, .int .i64 x3.kind, .slice A3 x3.pins.length n3, .slice C3 x3.arcs.length m3, .slice T3 x3.truth.length t3, .int .i64 x3.leak, .int .i64 x3.energy]) (by repeat (first | exact List.mem_append_right _ (List.mem_singleton_self _) | refine List.mem_append_left _ ?_))).1
  have k3_0 := K3.out.cell 0
  have k3_1 := K3.out.cell 1
  have k3_2 := K3.out.cell 2
  have k3_3 := K3.out.cell 3
  have k3_4 := K3.out.cell 4
  have k3_5 := K3.out.cell 5
  have k3_6 := K3.out.cell 6
  simp at k3_0 k3_1 k3_2 k3_3 k3_4 k3_5 k3_6
  have K4 := hideIt (B.out.2.2.1 (u4.heap.size, 112, #[.string x4.name, .int .i64 x4.kind, .slice A4 x4.pins.length n4, .slice C4 x4.arcs.length m4, .slice T4 x4.truth.length t4, .int .i64 x4.leak, .int .i64 x4.energy]) (by repeat (first | exact List.mem_append_right _ (List.mem_singleton_self _) | refine List.mem_append_left _ ?_))).1
  have k4_0 := K4.out.cell 0
  have k4_1 := K4.out.cell 1
  have k4_2 := K4.out.cell 2
  have k4_3 := K4.out.cell 3
  have k4_4 := K4.out.cell 4
  have k4_5 := K4.out.cell 5
  have k4_6 := K4.out.cell 6
  simp at k4_0 k4_1 k4_2 k4_3 k4_4 k4_5 k4_6
  have K5 := hideIt (B.out.2.2.1 (u5.heap.size, 112, #[.string x5.name, .int .i64 x5.kind, .slice A5 x5.pins.length n5, .slice C5 x5.arcs.length m5, .slice T5 x5.truth.length t5, .int .i64 x5.leak, .int .i64 x5.energy]) (by repeat (first | exact List.mem_append_right _ (List.mem_singleton_self _) | refine List.mem_append_left _ ?_))).1
  have k5_0 := K5.out.cell 0
  have k5_1 := K5.out.cell 1
  have k5_2 := K5.out.cell 2
  have k5_3 := K5.out.cell 3
  have k5_4 := K5.out.cell 4
  have k5_5 := K5.out.cell 5
  have k5_6 := K5.out.cell 6
  simp at k5_0 k5_1 k5_2 k5_3 k5_4 k5_5 k5_6
  have K6 := hideIt (B.out.2.2.1 (u6.heap.size, 112, #[.string x6.name, .int .i64 x6.kind, .slice A6 x6.pins.length n6, .slice C6 x6.arcs.length m6, .slice T6 x6.truth.length t6, .int .i64 x6.leak, .int .i64 x6.energy]) (by repeat (first | exact List.mem_append_right _ (List.mem_singleton_self _) | refine List.mem_append_left _ ?_))).1
  have k6_0 := K6.out.cell 0
  have k6_1 := K6.out.cell 1
  have k6_2 := K6.out.cell 2
  have k6_3 := K6.out.cell 3
  have k6_4 := K6.out.cell 4
  have k6_5 := K6.out.cell 5
  have k6_6 := K6.out.cell 6
  simp at k6_0 k6_1 k6_2 k6_3 k6_4 k6_5 k6_6
  have K7 := hideIt (B.out.2.2.1 (u7.heap.size, 112, #[.string x7.name, .int .i64 x7.kind, .slice A7 x7.pins.length n7, .slice C7 x7.arcs.length m7, .slice T7 x7.truth.length t7, .int .i64 x7.leak, .int .i64 x7.energy]) (by repeat (first | exact List.mem_append_right _ (List.mem_singleton_self _) | refine List.mem_append_left _ ?_))).1
  have k7_0 := K7.out.cell 0
  have k7_1 := K7.out.cell 1
  have k7_2 := K7.out.cell 2
  have k7_3 := K7.out.cell 3
  have k7_4 := K7.out.cell 4
  have k7_5 := K7.out.cell 5
  have k7_6 := K7.out.cell 6
  simp at k7_0 k7_1 k7_2 k7_3 k7_4 k7_5 k7_6
  have K8 := hideIt (B.out.2.2.1 (u8.heap.size, 112, #[.string x8.name, .int .i64 x8.kind, .slice A8 x8.pins.length n8, .slice C8 x8.arcs.length m8, .slice T8 x8.truth.length t8, .int .i64 x8.leak, .int .i64 x8.energy]) (by repeat (first | exact List.mem_append_right _ (List.mem_singleton_self _) | refine List.mem_append_left _ ?_))).1
  have k8_0 := K8.out.cell 0
  have k8_1 := K8.out.cell 1
  have k8_2 := K8.out.cell 2
  have k8_3 := K8.out.cell 3
  have k8_4 := K8.out.cell 4
  have k8_5 := K8.out.cell 5
  have k8_6 := K8.out.cell 6
  simp at k8_0 k8_1 k8_2 k8_3 k8_4 k8_5 k8_6
  have KL := hideIt (B.out.2.2.1 (w.heap.size + 1, 26, #[.slice none 0 0]) (by repeat (with_reducible refine List.mem_append_left _ ?_); simp)).1
  have KR := hideIt (B.out.2.2.1 (w.heap.size, 26, #[.slice none 0 0]) (by repeat (with_reducible refine List.mem_append_left _ ?_); simp)).1
  have fL := KL.out.frozen
  have lL := KL.out.lt
  have kL := KL.out.cell 0
  have fR := KR.out.frozen
  have lR := KR.out.lt
  have kR := KR.out.cell 0
  simp at kL kR
  go_wp2
  refine bodyPost_ret (by simp [*, results, Tryz.results77, go_sem]; try rfl) rfl ?_
  have key : ∀ uS : World, uS.heap.size = u.heap.size → Chg [w.heap.size + 1, w.heap.size] u uS → Chg [b] w uS → LibPost w0 w b (.returned (.agg #[.slice (some ⟨u.heap.size, 0, none⟩) 8 8])) (uS.alloc (.cells #[.string x1.name, .int .i64 x1.kind, .slice A1 x1.pins.length n1, .slice C1 x1.arcs.length m1, .slice T1 x1.truth.length t1, .int .i64 x1.leak, .int .i64 x1.energy, .string x2.name, .int .i64 x2.kind, .slice A2 x2.pins.length n2, .slice C2 x2.arcs.length m2, .slice T2 x2.truth.length t2, .int .i64 x2.leak, .int .i64 x2.energy, .string x3.name, .int .i64 x3.kind, .slice A3 x3.pins.length n3, .slice C3 x3.arcs.length m3, .slice T3 x3.truth.length t3, .int .i64 x3.leak, .int .i64 x3.energy, .string x4.name, .int .i64 x4.kind, .slice A4 x4.pins.length n4, .slice C4 x4.arcs.length m4, .slice T4 x4.truth.length t4, .int .i64 x4.leak, .int .i64 x4.energy, .string x5.name, .int .i64 x5.kind, .slice A5 x5.pins.length n5, .slice C5 x5.arcs.length m5, .slice T5 x5.truth.length t5, .int .i64 x5.leak, .int .i64 x5.energy, .string x6.name, .int .i64 x6.kind, .slice A6 x6.pins.length n6, .slice C6 x6.arcs.length m6, .slice T6 x6.truth.length t6, .int .i64 x6.leak, .int .i64 x6.energy, .string x7.name, .int .i64 x7.kind, .slice A7 x7.pins.length n7, .slice C7 x7.arcs.length m7, .slice T7 x7.truth.length t7, .int .i64 x7.leak, .int .i64 x7.energy, .string x8.name, .int .i64 x8.kind, .slice A8 x8.pins.length n8, .slice C8 x8.arcs.length m8, .slice T8 x8.truth.length t8, .int .i64 x8.leak, .int .i64 x8.energy] 112)) := fun uS e9 c9 h9 => by
    obtain ⟨h1, h2, h3, h4, h5, h6, h7⟩ := B.out
    have hbw := hb.out
    have hg := HG.out
    have hk : ∀ es x bs, (es, x, bs) ∈ _ → OCellB (uS.alloc (.cells #[.string x1.name, .int .i64 x1.kind, .slice A1 x1.pins.length n1, .slice C1 x1.arcs.length m1, .slice T1 x1.truth.length t1, .int .i64 x1.leak, .int .i64 x1.energy, .string x2.name, .int .i64 x2.kind, .slice A2 x2.pins.length n2, .slice C2 x2.arcs.length m2, .slice T2 x2.truth.length t2, .int .i64 x2.leak, .int .i64 x2.energy, .string x3.name, .int .i64 x3.kind, .slice A3 x3.pins.length n3, .slice C3 x3.arcs.length m3, .slice T3 x3.truth.length t3, .int .i64 x3.leak, .int .i64 x3.energy, .string x4.name, .int .i64 x4.kind, .slice A4 x4.pins.length n4, .slice C4 x4.arcs.length m4, .slice T4 x4.truth.length t4, .int .i64 x4.leak, .int .i64 x4.energy, .string x5.name, .int .i64 x5.kind, .slice A5 x5.pins.length n5, .slice C5 x5.arcs.length m5, .slice T5 x5.truth.length t5, .int .i64 x5.leak, .int .i64 x5.energy, .string x6.name, .int .i64 x6.kind, .slice A6 x6.pins.length n6, .slice C6 x6.arcs.length m6, .slice T6 x6.truth.length t6, .int .i64 x6.leak, .int .i64 x6.energy, .string x7.name, .int .i64 x7.kind, .slice A7 x7.pins.length n7, .slice C7 x7.arcs.length m7, .slice T7 x7.truth.length t7, .int .i64 x7.leak, .int .i64 x7.energy, .string x8.name, .int .i64 x8.kind, .slice A8 x8.pins.length n8, .slice C8 x8.arcs.length m8, .slice T8 x8.truth.length t8, .int .i64 x8.leak, .int .i64 x8.energy] 112)) es x bs := fun es x bs hm => (h4 _ hm).keep ((c9.alloc _).same (h4 _ hm).lt (fun g hg => by
      have := h5.2 g (List.mem_flatten.2 ⟨_, List.mem_map.2 ⟨_, hm, rfl⟩, hg⟩)
      simp
      omega))
    have row := ORow.lit (sz := 7) (t := 112) (O := OCellB) (lo := w.heap.size) (w := uS) (xs := [x1, x2, x3, x4, x5, x6, x7, x8]) (bss := [bs1, bs2, bs3, bs4, bs5, bs6, bs7, bs8]) (cs := #[.string x1.name, .int .i64 x1.kind, .slice A1 x1.pins.length n1, .slice C1 x1.arcs.length m1, .slice T1 x1.truth.length t1, .int .i64 x1.leak, .int .i64 x1.energy, .string x2.name, .int .i64 x2.kind, .slice A2 x2.pins.length n2, .slice C2 x2.arcs.length m2, .slice T2 x2.truth.length t2, .int .i64 x2.leak, .int .i64 x2.energy, .string x3.name, .int .i64 x3.kind, .slice A3 x3.pins.length n3, .slice C3 x3.arcs.length m3, .slice T3 x3.truth.length t3, .int .i64 x3.leak, .int .i64 x3.energy, .string x4.name, .int .i64 x4.kind, .slice A4 x4.pins.length n4, .slice C4 x4.arcs.length m4, .slice T4 x4.truth.length t4, .int .i64 x4.leak, .int .i64 x4.energy, .string x5.name, .int .i64 x5.kind, .slice A5 x5.pins.length n5, .slice C5 x5.arcs.length m5, .slice T5 x5.truth.length t5, .int .i64 x5.leak, .int .i64 x5.energy, .string x6.name, .int .i64 x6.kind, .slice A6 x6.pins.length n6, .slice C6 x6.arcs.length m6, .slice T6 x6.truth.length t6, .int .i64 x6.leak, .int .i64 x6.energy, .string x7.name, .int .i64 x7.kind, .slice A7 x7.pins.length n7, .slice C7 x7.arcs.length m7, .slice T7 x7.truth.length t7, .int .i64 x7.leak, .int .i64 x7.energy, .string x8.name, .int .i64 x8.kind, .slice A8 x8.pins.length n8, .slice C8 x8.arcs.length m8, .slice T8 x8.truth.length t8, .int .i64 x8.leak, .int .i64 x8.energy]) (Els.cons (es := [.string x1.name, .int .i64 x1.kind, .slice A1 x1.pins.length n1, .slice C1 x1.arcs.length m1, .slice T1 x1.truth.length t1, .int .i64 x1.leak, .int .i64 x1.energy]) rfl (hk [.string x1.name, .int .i64 x1.kind, .slice A1 x1.pins.length n1, .slice C1 x1.arcs.length m1, .slice T1 x1.truth.length t1, .int .i64 x1.leak, .int .i64 x1.energy] x1 bs1 (by repeat (first | exact List.mem_append_right _ (List.mem_singleton_self _) | refine List.mem_append_left _ ?_))) (Els.cons (es := [.string x2.name, .int .i64 x2.kind, .slice A2 x2.pins.length n2, .slice C2 x2.arcs.length m2, .slice T2 x2.truth.length t2, .int .i64 x2.leak, .int .i64 x2.energy]) rfl (hk [.string x2.name, .int .i64 x2.kind, .slice A2 x2.pins.length n2, .slice C2 x2.arcs.length m2, .slice T2 x2.truth.length t2, .int .i64 x2.leak, .int .i64 x2.energy] x2 bs2 (by repeat (first | exact List.mem_append_right _ (List.mem_singleton_self _) | refine List.mem_append_left _ ?_))) (Els.cons (es := [.string x3.name, .int .i64 x3.kind, .slice A3 x3.pins.length n3, .slice C3 x3.arcs.length m3, .slice T3 x3.truth.length t3, .int .i64 x3.leak, .int .i64 x3.energy]) rfl (hk [.string x3.name, .int .i64 x3.kind, .slice A3 x3.pins.length n3, .slice C3 x3.arcs.length m3, .slice T3 x3.truth.length t3, .int .i64 x3.leak, .int .i64 x3.energy] x3 bs3 (by repeat (first | exact List.mem_append_right _ (List.mem_singleton_self _) | refine List.mem_append_left _ ?_))) (Els.cons (es := [.string x4.name, .int .i64 x4.kind, .slice A4 x4.pins.length n4, .slice C4 x4.arcs.length m4, .slice T4 x4.truth.length t4, .int .i64 x4.leak, .int .i64 x4.energy]) rfl (hk [.string x4.name, .int .i64 x4.kind, .slice A4 x4.pins.length n4, .slice C4 x4.arcs.length m4, .slice T4 x4.truth.length t4, .int .i64 x4.leak, .int .i64 x4.energy] x4 bs4 (by repeat (first | exact List.mem_append_right _ (List.mem_singleton_self _) | refine List.mem_append_left _ ?_))) (Els.cons (es := [.string x5.name, .int .i64 x5.kind, .slice A5 x5.pins.length n5, .slice C5 x5.arcs.length m5, .slice T5 x5.truth.length t5, .int .i64 x5.leak, .int .i64 x5.energy]) rfl (hk [.string x5.name, .int .i64 x5.kind, .slice A5 x5.pins.length n5, .slice C5 x5.arcs.length m5, .slice T5 x5.truth.length t5, .int .i64 x5.leak, .int .i64 x5.energy] x5 bs5 (by repeat (first | exact List.mem_append_right _ (List.mem_singleton_self _) | refine List.mem_append_left _ ?_))) (Els.cons (es := [.string x6.name, .int .i64 x6.kind, .slice A6 x6.pins.length n6, .slice C6 x6.arcs.length m6, .slice T6 x6.truth.length t6, .int .i64 x6.leak, .int .i64 x6.energy]) rfl (hk [.string x6.name, .int .i64 x6.kind, .slice A6 x6.pins.length n6, .slice C6 x6.arcs.length m6, .slice T6 x6.truth.length t6, .int .i64 x6.leak, .int .i64 x6.energy] x6 bs6 (by repeat (first | exact List.mem_append_right _ (List.mem_singleton_self _) | refine List.mem_append_left _ ?_))) (Els.cons (es := [.string x7.name, .int .i64 x7.kind, .slice A7 x7.pins.length n7, .slice C7 x7.arcs.length m7, .slice T7 x7.truth.length t7, .int .i64 x7.leak, .int .i64 x7.energy]) rfl (hk [.string x7.name, .int .i64 x7.kind, .slice A7 x7.pins.length n7, .slice C7 x7.arcs.length m7, .slice T7 x7.truth.length t7, .int .i64 x7.leak, .int .i64 x7.energy] x7 bs7 (by repeat (first | exact List.mem_append_right _ (List.mem_singleton_self _) | refine List.mem_append_left _ ?_))) (Els.cons (es := [.string x8.name, .int .i64 x8.kind, .slice A8 x8.pins.length n8, .slice C8 x8.arcs.length m8, .slice T8 x8.truth.length t8, .int .i64 x8.leak, .int .i64 x8.energy]) rfl (hk [.string x8.name, .int .i64 x8.kind, .slice A8 x8.pins.length n8, .slice C8 x8.arcs.length m8, .slice T8 x8.truth.length t8, .int .i64 x8.leak, .int .i64 x8.energy] x8 bs8 (by repeat (first | exact List.mem_append_right _ (List.mem_singleton_self _) | refine List.mem_append_left _ ?_))) (Els.nil))))))))) (by show 8 ≤ maxLen; decide) (by omega) (by
      have q := h5.mono (lo' := w.heap.size) (hi' := uS.heap.size) (by omega) (by omega)
      simpa using q)
    rw [← e9]
    exact ⟨_, _, [x1, x2, x3, x4, x5, x6, x7, x8], _, rfl, rfl, row.list, row.own, (h1.chg c9 (by simp; omega) (fun g hg => by simp at hg; omega)).alloc _, h9.alloc _⟩
  have CB : Hid (Chg [b] w u) := hideIt B.out.2.1
  refine key _ ?_ ?_ ?_
  · simp [World.setCell]
  · repeat (first | refine Chg.setCell ?_ (by simp) _ | with_reducible exact Chg.refl _ _)
  · repeat (first | refine Chg.setNew ?_ (by simp) _ | exact CB.out)
end Go.Proofs.YtlnpefiipdkafaaGreatDoor
