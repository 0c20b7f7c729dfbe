/-
  An argument that is a cell, opened.
-/
import Derived.Test.YtcaklodecejkhaaDoorOpen
namespace Go.Proofs.YtcaklodecejkhaaDoor
open Go.ChangeShapes Go.WideShapes Go.ChangeAt Go.RowKit Go.Deep

set_option maxRecDepth 100000 in
theorem trod_pin {H : Type} {enc : TypeId × Value → H} {w : World} {sp : Nat → Bool} {held : Bool} {fuel : Nat} {cs : List Value} {x : DataW H × List MemPlace} (hl : cs.length = 4) (h : DataW.trod enc Tryd.prog w 0 sp held fuel 75 cs = some x) : ∃ y : PinD, RPin w cs y := by
  obtain ⟨ys, m, _, _, _, hyl, hf⟩ := DataW.trod_struct Tryd.underlying75 h
  match cs, hl with
  | [c0, c1, c2, c3], _ =>
    have e0 := hf 0 _ rfl
    obtain ⟨z0, f0⟩ := field_some e0 (by rw [hyl]; decide)
    clear e0
    have f0 : DataW.trod enc Tryd.prog w 0 sp held m 9 ((([c0, c1, c2, c3] : List Value).drop 0).take (Tryd.prog.cellsOf 9)) = some z0 := f0
    rw [show Tryd.prog.cellsOf 9 = 1 from by kernel_rfl] at f0
    obtain ⟨a0, q0, r0⟩ := trod_str Tryd.underlying9 f0
    simp at q0
    subst q0
    have e1 := hf 1 _ rfl
    obtain ⟨z1, f1⟩ := field_some e1 (by rw [hyl]; decide)
    clear e1
    have f1 : DataW.trod enc Tryd.prog w 0 sp held m 2 ((([.string a0, c1, c2, c3] : List Value).drop 1).take (Tryd.prog.cellsOf 2)) = some z1 := f1
    rw [show Tryd.prog.cellsOf 2 = 1 from by kernel_rfl] at f1
    obtain ⟨a1, q1⟩ := trod_i64 Tryd.underlying2 f1
    simp at q1
    subst q1
    have e2 := hf 2 _ rfl
    obtain ⟨z2, f2⟩ := field_some e2 (by rw [hyl]; decide)
    clear e2
    have f2 : DataW.trod enc Tryd.prog w 0 sp held m 2 ((([.string a0, .int .i64 a1, c2, c3] : List Value).drop 2).take (Tryd.prog.cellsOf 2)) = some z2 := f2
    rw [show Tryd.prog.cellsOf 2 = 1 from by kernel_rfl] at f2
    obtain ⟨a2, q2⟩ := trod_i64 Tryd.underlying2 f2
    simp at q2
    subst q2
    have e3 := hf 3 _ rfl
    obtain ⟨z3, f3⟩ := field_some e3 (by rw [hyl]; decide)
    clear e3
    have f3 : DataW.trod enc Tryd.prog w 0 sp held m 4 ((([.string a0, .int .i64 a1, .int .i64 a2, c3] : List Value).drop 3).take (Tryd.prog.cellsOf 4)) = some z3 := f3
    rw [show Tryd.prog.cellsOf 4 = 1 from by kernel_rfl] at f3
    obtain ⟨a3, q3⟩ := trod_bool' Tryd.underlying4 f3
    simp at q3
    subst q3
    exact ⟨⟨a0, a1, a2, a3⟩, rfl, r0⟩
theorem trod_pins {H : Type} {enc : TypeId × Value → H} {w : World} {sp : Nat → Bool} {held : Bool} {fuel : Nat} {cs : List Value} {x : DataW H × List MemPlace} (h : DataW.trod enc Tryd.prog w 0 sp held fuel 22 cs = some x) (hl : cs.length = 1) : ∃ (v : Value) (xs : List PinD), cs = [v] ∧ RList 4 RPin w v xs := by
  match cs, hl with
  | [v], _ =>
    obtain ⟨xs, hx⟩ := trod_list (sz := 4) (R := RPin) Tryd.underlying22 (by kernel_rfl) (by decide) (fun f cs x hl h => trod_pin hl h) h
    exact ⟨v, xs, rfl, hx⟩
theorem trod_tables {H : Type} {enc : TypeId × Value → H} {w : World} {sp : Nat → Bool} {held : Bool} {fuel : Nat} {cs : List Value} {x : DataW H × List MemPlace} (h : DataW.trod enc Tryd.prog w 0 sp held fuel 77 cs = some x) (hl : cs.length = 1) : ∃ (v : Value) (xs : List TableD), cs = [v] ∧ RList 3 RTable w v xs := by
  match cs, hl with
  | [v], _ =>
    obtain ⟨xs, hx⟩ := trod_list (sz := 3) (R := RTable) Tryd.underlying77 (by kernel_rfl) (by decide) (fun f cs x hl h => trod_table hl h) h
    exact ⟨v, xs, rfl, hx⟩
set_option maxRecDepth 100000 in
theorem trod_arc {H : Type} {enc : TypeId × Value → H} {w : World} {sp : Nat → Bool} {held : Bool} {fuel : Nat} {cs : List Value} {x : DataW H × List MemPlace} (hl : cs.length = 6) (h : DataW.trod enc Tryd.prog w 0 sp held fuel 79 cs = some x) : ∃ y : ArcD, RArc w cs y := by
  obtain ⟨ys, m, _, _, _, hyl, hf⟩ := DataW.trod_struct Tryd.underlying79 h
  match cs, hl with
  | [c0, c1, c2, c3, c4, c5], _ =>
    have e0 := hf 0 _ rfl
    obtain ⟨z0, f0⟩ := field_some e0 (by rw [hyl]; decide)
    clear e0
    have f0 : DataW.trod enc Tryd.prog w 0 sp held m 2 ((([c0, c1, c2, c3, c4, c5] : List Value).drop 0).take (Tryd.prog.cellsOf 2)) = some z0 := f0
    rw [show Tryd.prog.cellsOf 2 = 1 from by kernel_rfl] at f0
    obtain ⟨a0, q0⟩ := trod_i64 Tryd.underlying2 f0
    simp at q0
    subst q0
    have e1 := hf 1 _ rfl
    obtain ⟨z1, f1⟩ := field_some e1 (by rw [hyl]; decide)
    clear e1
    have f1 : DataW.trod enc Tryd.prog w 0 sp held m 2 ((([.int .i64 a0, c1, c2, c3, c4, c5] : List Value).drop 1).take (Tryd.prog.cellsOf 2)) = some z1 := f1
    rw [show Tryd.prog.cellsOf 2 = 1 from by kernel_rfl] at f1
    obtain ⟨a1, q1⟩ := trod_i64 Tryd.underlying2 f1
    simp at q1
    subst q1
    have e2 := hf 2 _ rfl
    obtain ⟨z2, f2⟩ := field_some e2 (by rw [hyl]; decide)
    clear e2
    have f2 : DataW.trod enc Tryd.prog w 0 sp held m 2 ((([.int .i64 a0, .int .i64 a1, c2, c3, c4, c5] : List Value).drop 2).take (Tryd.prog.cellsOf 2)) = some z2 := f2
    rw [show Tryd.prog.cellsOf 2 = 1 from by kernel_rfl] at f2
    obtain ⟨a2, q2⟩ := trod_i64 Tryd.underlying2 f2
    simp at q2
    subst q2
    have e3 := hf 3 _ rfl
    obtain ⟨z3, f3⟩ := field_some e3 (by rw [hyl]; decide)
    clear e3
    have f3 : DataW.trod enc Tryd.prog w 0 sp held m 2 ((([.int .i64 a0, .int .i64 a1, .int .i64 a2, c3, c4, c5] : List Value).drop 3).take (Tryd.prog.cellsOf 2)) = some z3 := f3
    rw [show Tryd.prog.cellsOf 2 = 1 from by kernel_rfl] at f3
    obtain ⟨a3, q3⟩ := trod_i64 Tryd.underlying2 f3
    simp at q3
    subst q3
    have e4 := hf 4 _ rfl
    obtain ⟨z4, f4⟩ := field_some e4 (by rw [hyl]; decide)
    clear e4
    have f4 : DataW.trod enc Tryd.prog w 0 sp held m 77 ((([.int .i64 a0, .int .i64 a1, .int .i64 a2, .int .i64 a3, c4, c5] : List Value).drop 4).take (Tryd.prog.cellsOf 77)) = some z4 := f4
    rw [show Tryd.prog.cellsOf 77 = 1 from by kernel_rfl] at f4
    obtain ⟨v4, a4, q4, r4⟩ := trod_tables f4 (by simp)
    simp at q4
    subst q4
    have e5 := hf 5 _ rfl
    obtain ⟨z5, f5⟩ := field_some e5 (by rw [hyl]; decide)
    clear e5
    have f5 : DataW.trod enc Tryd.prog w 0 sp held m 77 ((([.int .i64 a0, .int .i64 a1, .int .i64 a2, .int .i64 a3, c4, c5] : List Value).drop 5).take (Tryd.prog.cellsOf 77)) = some z5 := f5
    rw [show Tryd.prog.cellsOf 77 = 1 from by kernel_rfl] at f5
    obtain ⟨v5, a5, q5, r5⟩ := trod_tables f5 (by simp)
    simp at q5
    subst q5
    exact ⟨⟨a0, a1, a2, a3, a4, a5⟩, _, _, rfl, r4, r5⟩
theorem trod_arcs {H : Type} {enc : TypeId × Value → H} {w : World} {sp : Nat → Bool} {held : Bool} {fuel : Nat} {cs : List Value} {x : DataW H × List MemPlace} (h : DataW.trod enc Tryd.prog w 0 sp held fuel 23 cs = some x) (hl : cs.length = 1) : ∃ (v : Value) (xs : List ArcD), cs = [v] ∧ RList 6 RArc w v xs := by
  match cs, hl with
  | [v], _ =>
    obtain ⟨xs, hx⟩ := trod_list (sz := 6) (R := RArc) Tryd.underlying23 (by kernel_rfl) (by decide) (fun f cs x hl h => trod_arc hl h) h
    exact ⟨v, xs, rfl, hx⟩
set_option maxRecDepth 100000 in
theorem trod_cell {H : Type} {enc : TypeId × Value → H} {w : World} {sp : Nat → Bool} {held : Bool} {fuel : Nat} {cs : List Value} {x : DataW H × List MemPlace} (hl : cs.length = 7) (h : DataW.trod enc Tryd.prog w 0 sp held fuel 26 cs = some x) : ∃ y : CellD, RCell w cs y := by
  obtain ⟨ys, m, _, _, _, hyl, hf⟩ := DataW.trod_struct Tryd.underlying26 h
  match cs, hl with
  | [c0, c1, c2, c3, c4, c5, c6], _ =>
    have e0 := hf 0 _ rfl
    obtain ⟨z0, f0⟩ := field_some e0 (by rw [hyl]; decide)
    clear e0
    have f0 : DataW.trod enc Tryd.prog w 0 sp held m 9 ((([c0, c1, c2, c3, c4, c5, c6] : List Value).drop 0).take (Tryd.prog.cellsOf 9)) = some z0 := f0
    rw [show Tryd.prog.cellsOf 9 = 1 from by kernel_rfl] at f0
    obtain ⟨a0, q0, r0⟩ := trod_str Tryd.underlying9 f0
    simp at q0
    subst q0
    have e1 := hf 1 _ rfl
    obtain ⟨z1, f1⟩ := field_some e1 (by rw [hyl]; decide)
    clear e1
    have f1 : DataW.trod enc Tryd.prog w 0 sp held m 2 ((([.string a0, c1, c2, c3, c4, c5, c6] : List Value).drop 1).take (Tryd.prog.cellsOf 2)) = some z1 := f1
    rw [show Tryd.prog.cellsOf 2 = 1 from by kernel_rfl] at f1
    obtain ⟨a1, q1⟩ := trod_i64 Tryd.underlying2 f1
    simp at q1
    subst q1
    have e2 := hf 2 _ rfl
    obtain ⟨z2, f2⟩ := field_some e2 (by rw [hyl]; decide)
    clear e2
    have f2 : DataW.trod enc Tryd.prog w 0 sp held m 22 ((([.string a0, .int .i64 a1, c2, c3, c4, c5, c6] : List Value).drop 2).take (Tryd.prog.cellsOf 22)) = some z2 := f2
    rw [show Tryd.prog.cellsOf 22 = 1 from by kernel_rfl] at f2
    obtain ⟨v2, a2, q2, r2⟩ := trod_pins f2 (by simp)
    simp at q2
    subst q2
    have e3 := hf 3 _ rfl
    obtain ⟨z3, f3⟩ := field_some e3 (by rw [hyl]; decide)
    clear e3
    have f3 : DataW.trod enc Tryd.prog w 0 sp held m 23 ((([.string a0, .int .i64 a1, c2, c3, c4, c5, c6] : List Value).drop 3).take (Tryd.prog.cellsOf 23)) = some z3 := f3
    rw [show Tryd.prog.cellsOf 23 = 1 from by kernel_rfl] at f3
    obtain ⟨v3, a3, q3, r3⟩ := trod_arcs f3 (by simp)
    simp at q3
    subst q3
    have e4 := hf 4 _ rfl
    obtain ⟨z4, f4⟩ := field_some e4 (by rw [hyl]; decide)
    clear e4
    have f4 : DataW.trod enc Tryd.prog w 0 sp held m 24 ((([.string a0, .int .i64 a1, c2, c3, c4, c5, c6] : List Value).drop 4).take (Tryd.prog.cellsOf 24)) = some z4 := f4
    rw [show Tryd.prog.cellsOf 24 = 1 from by kernel_rfl] at f4
    obtain ⟨v4, a4, q4, r4⟩ := trod_ints f4 (by simp)
    simp at q4
    subst q4
    have e5 := hf 5 _ rfl
    obtain ⟨z5, f5⟩ := field_some e5 (by rw [hyl]; decide)
    clear e5
    have f5 : DataW.trod enc Tryd.prog w 0 sp held m 2 ((([.string a0, .int .i64 a1, c2, c3, c4, c5, c6] : List Value).drop 5).take (Tryd.prog.cellsOf 2)) = some z5 := f5
    rw [show Tryd.prog.cellsOf 2 = 1 from by kernel_rfl] at f5
    obtain ⟨a5, q5⟩ := trod_i64 Tryd.underlying2 f5
    simp at q5
    subst q5
    have e6 := hf 6 _ rfl
    obtain ⟨z6, f6⟩ := field_some e6 (by rw [hyl]; decide)
    clear e6
    have f6 : DataW.trod enc Tryd.prog w 0 sp held m 2 ((([.string a0, .int .i64 a1, c2, c3, c4, .int .i64 a5, c6] : List Value).drop 6).take (Tryd.prog.cellsOf 2)) = some z6 := f6
    rw [show Tryd.prog.cellsOf 2 = 1 from by kernel_rfl] at f6
    obtain ⟨a6, q6⟩ := trod_i64 Tryd.underlying2 f6
    simp at q6
    subst q6
    exact ⟨⟨a0, a1, a2, a3, a4, a5, a6⟩, _, _, _, rfl, r0, r2, r3, r4⟩
set_option maxRecDepth 100000 in
theorem open_Cell {H : Type} {enc : TypeId × Value → H} {W : World} {base : Nat} {v : Value} {d : DataW H} {p : List MemPlace}
    (hv : Value.okWide Tryd.prog W .any base 26 v) (h : DataW.Trod enc Tryd.prog W 0 (fun _ => true) true 26 v d p) (_ : ∀ x ∈ p, x.block < W.heap.size) :
    ∃ t : CellD, ∃ v0 v1 v2 v3 v4 v5 v6 : Value, v = .agg #[v0, v1, v2, v3, v4, v5, v6] ∧ RCell W [v0, v1, v2, v3, v4, v5, v6] t := by
  obtain ⟨cs, rfl, hsz⟩ := okWide_struct Tryd.underlying26 hv
  obtain ⟨fuel, hf⟩ := h
  have hl : cs.toList.length = 7 := by rw [Array.length_toList, hsz]; kernel_rfl
  obtain ⟨t, ht⟩ := trod_cell hl hf
  have ht' := ht
  obtain ⟨k1, k2, k3, e, _⟩ := ht
  rw [e] at ht'
  exact ⟨t, _, _, _, _, _, _, _, congrArg Value.agg (Array.toList_inj.1 (by rw [e])), ht'⟩
end Go.Proofs.YtcaklodecejkhaaDoor
