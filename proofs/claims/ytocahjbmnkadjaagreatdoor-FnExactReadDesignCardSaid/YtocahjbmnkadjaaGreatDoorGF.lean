/-
  Arguments that come in, opened: from the form's reading to the reading relations.
-/
import Derived.Test.YtocahjbmnkadjaaGreatDoorGA
import Derived.Test.YtocahjbmnkadjaaGreatDoorProg
import Derived.Deep.Slices
import Derived.Test.YtocahjbmnkadjaaGreatDoorGC
namespace Go.Proofs.YtocahjbmnkadjaaGreatDoor
open Go.ChangeShapes Go.WideShapes Go.ChangeAt Go.RowKit Go.Deep

theorem collect {α : Type} {Q : Nat → α → Prop} : ∀ n : Nat, (∀ i, i < n → ∃ y, Q i y) → ∃ ys : List α, ys.length = n ∧ ∀ (i : Nat) (y : α), ys[i]? = some y → Q i y
  | 0, _ => ⟨[], rfl, fun i y h => by simp at h⟩
  | n + 1, h => by
    obtain ⟨ys, hl, hq⟩ := collect n fun i hi => h i (by omega)
    obtain ⟨y, hy⟩ := h n (by omega)
    refine ⟨ys ++ [y], by simp [hl], fun i z hz => ?_⟩
    by_cases hi : i < ys.length
    · rw [List.getElem?_append_left hi] at hz
      exact hq i z hz
    · rw [List.getElem?_append_right (by omega)] at hz
      have hi0 : i - ys.length = 0 := by
        rcases Nat.eq_zero_or_pos (i - ys.length) with h0 | h0
        · exact h0
        · rw [List.getElem?_eq_none (by simp; omega)] at hz; cases hz
      rw [hi0] at hz
      simp at hz
      subst hz
      obtain rfl : i = n := by omega
      exact hy
theorem add_spotless {w : World} {a : Addr} {v : Value} (h : w.cell? a = some v) : a = ⟨a.block, a.off, none⟩ := by
  unfold World.cell? at h
  split at h
  · split at h
    · cases h
    · rename_i hs
      cases a with
      | mk b o s => cases s with
        | none => rfl
        | some s => simp at hs
  · cases h
theorem add_add' (a : Addr) (i j : Nat) : (a.add i).add j = a.add (i + j) := by
  unfold Addr.add
  by_cases hi : i = 0 <;> by_cases hj : j = 0 <;> simp [hi, hj, Nat.add_assoc]
theorem add_none (b o n : Nat) : (⟨b, o, none⟩ : Addr).add n = ⟨b, o + n, none⟩ := by
  unfold Addr.add
  by_cases h : n = 0 <;> simp [h]

section
variable {H : Type} {enc : TypeId × Value → H} {P : Program} {w : World} {sp : Nat → Bool} {held : Bool}
theorem trod_list {α : Type} {sz : Nat} {R : World → List Value → α → Prop} {t e : TypeId} {fuel : Nat} {v : Value} {x : DataW H × List MemPlace} (ht : P.underlying t = some (.slice e)) (hsz : P.cellsOf e = sz) (hpos : 0 < sz)
    (hel : ∀ (fuel : Nat) (cs : List Value) (x : DataW H × List MemPlace), cs.length = sz → DataW.trod enc P w 0 sp held fuel e cs = some x → ∃ y : α, R w cs y)
    (h : DataW.trod enc P w 0 sp held fuel t [v] = some x) : ∃ xs : List α, RList sz R w v xs := by
  rcases open_slice ht h with ⟨hv, _⟩ | ⟨a, len, cap, m, n, D, Pl, hv, hb, hl, hm, hmm, _, hc⟩
  · injection hv with hv _
    exact ⟨[], none, 0, hv, Nat.le_refl _, Nat.zero_le _, .inl rfl⟩
  · injection hv with hv _
    have hlm : len ≤ m := by rw [hmm]; split <;> omega
    obtain ⟨xs, hxl, hxs⟩ := collect (Q := fun i y => ∃ cs : List Value, cs.length = sz ∧ (∀ (j : Nat) (u : Value), cs[j]? = some u → w.cell? (a.add (i * sz + j)) = some u) ∧ R w cs y) len fun i hi => by
      obtain ⟨cs, h1, h2⟩ := hc i (by omega)
      rw [hsz] at h1
      obtain ⟨_, hcl, hat⟩ := World.cells?_some h1
      obtain ⟨y, hy⟩ := hel _ _ _ hcl h2
      refine ⟨y, cs, hcl, fun j u hu => ?_, hy⟩
      have hj : j < sz := by have := (List.getElem?_eq_some_iff.1 hu).1; omega
      rw [← add_add', hat j hj, hu]
    rcases Nat.eq_zero_or_pos len with h0 | h0
    · subst h0
      have hx0 : xs = [] := List.eq_nil_of_length_eq_zero hxl
      subst hx0
      exact ⟨[], some a, cap, hv, Nat.zero_le _, hm, .inl rfl⟩
    · have hsl : a = ⟨a.block, a.off, none⟩ := by
        obtain ⟨cs, hcl, hcs, _⟩ := hxs 0 xs[0] (List.getElem?_eq_getElem (by omega))
        have := hcs 0 cs[0] (List.getElem?_eq_getElem (by omega))
        simp only [Nat.zero_mul, Nat.add_zero] at this
        have e : a.add 0 = a := by unfold Addr.add; simp
        rw [e] at this
        exact add_spotless this
      refine ⟨xs, some a, cap, by rw [hxl]; exact hv, by omega, hm, .inr ⟨a.block, a.off, congrArg some hsl, fun i y hy => ?_⟩⟩
      obtain ⟨cs, hcl, hcs, hr⟩ := hxs i y hy
      refine ⟨cs, hcl, fun j u hu => ?_, hr⟩
      have := hcs j u hu
      rw [hsl, add_none] at this
      exact this
theorem trod_i64 {t : TypeId} {fuel : Nat} {cs : List Value} {x : DataW H × List MemPlace} (ht : P.underlying t = some (.int .i64)) (h : DataW.trod enc P w 0 sp held fuel t cs = some x) : ∃ y : Int, cs = [.int .i64 y] := by
  obtain ⟨y, hy, _⟩ := DataW.trod_int ht h
  exact ⟨y, hy⟩
theorem trod_str {t : TypeId} {fuel : Nat} {cs : List Value} {x : DataW H × List MemPlace} (ht : P.underlying t = some .string) (h : DataW.trod enc P w 0 sp held fuel t cs = some x) : ∃ y : ByteArray, cs = [.string y] ∧ y.size ≤ maxLen := by
  cases fuel with
  | zero => simp [DataW.trod] at h
  | succ n =>
    unfold DataW.trod at h
    rw [ht] at h
    split at h <;> simp_all
theorem trod_bool' {t : TypeId} {fuel : Nat} {cs : List Value} {x : DataW H × List MemPlace} (ht : P.underlying t = some .bool) (h : DataW.trod enc P w 0 sp held fuel t cs = some x) : ∃ y : Bool, cs = [.bool y] := by
  cases fuel with
  | zero => simp [DataW.trod] at h
  | succ n =>
    unfold DataW.trod at h
    rw [ht] at h
    split at h <;> simp_all
theorem field_some {o : Option (DataW H × List MemPlace)} {xs : List (DataW H × List MemPlace)} {i : Nat} (h : o = xs[i]?) (hl : i < xs.length) : ∃ x, o = some x := ⟨xs[i], by rw [h]; exact List.getElem?_eq_getElem hl⟩
end

theorem trod_ints {H : Type} {enc : TypeId × Value → H} {w : World} {sp : Nat → Bool} {held : Bool} {fuel : Nat} {cs : List Value} {x : DataW H × List MemPlace} (h : DataW.trod enc Tryz.prog w 0 sp held fuel 64 cs = some x) (hl : cs.length = 1) : ∃ (v : Value) (xs : List Int), cs = [v] ∧ RList 1 RI w v xs := by
  match cs, hl with
  | [v], _ =>
    obtain ⟨xs, hx⟩ := trod_list (sz := 1) (R := RI) Tryz.underlying64 (by kernel_rfl) (by decide) (fun f cs x hl h => by obtain ⟨y, hy⟩ := trod_i64 Tryz.underlying2 h; exact ⟨y, hy⟩) h
    exact ⟨v, xs, rfl, hx⟩
set_option maxRecDepth 100000 in
theorem trod_table {H : Type} {enc : TypeId × Value → H} {w : World} {sp : Nat → Bool} {held : Bool} {fuel : Nat} {cs : List Value} {x : DataW H × List MemPlace} (hl : cs.length = 3) (h : DataW.trod enc Tryz.prog w 0 sp held fuel 176 cs = some x) : ∃ y : TableD, RTable w cs y := by
  obtain ⟨ys, m, _, _, _, hyl, hf⟩ := DataW.trod_struct Tryz.underlying176 h
  match cs, hl with
  | [c0, c1, c2], _ =>
    have e0 := hf 0 _ rfl
    obtain ⟨z0, f0⟩ := field_some e0 (by rw [hyl]; decide)
    clear e0
    have f0 : DataW.trod enc Tryz.prog w 0 sp held m 64 ((([c0, c1, c2] : List Value).drop 0).take (Tryz.prog.cellsOf 64)) = some z0 := f0
    rw [show Tryz.prog.cellsOf 64 = 1 from by kernel_rfl] at f0
    obtain ⟨v0, a0, q0, r0⟩ := trod_ints f0 (by simp)
    simp at q0
    subst q0
    have e1 := hf 1 _ rfl
    obtain ⟨z1, f1⟩ := field_some e1 (by rw [hyl]; decide)
    clear e1
    have f1 : DataW.trod enc Tryz.prog w 0 sp held m 64 ((([c0, c1, c2] : List Value).drop 1).take (Tryz.prog.cellsOf 64)) = some z1 := f1
    rw [show Tryz.prog.cellsOf 64 = 1 from by kernel_rfl] at f1
    obtain ⟨v1, a1, q1, r1⟩ := trod_ints f1 (by simp)
    simp at q1
    subst q1
    have e2 := hf 2 _ rfl
    obtain ⟨z2, f2⟩ := field_some e2 (by rw [hyl]; decide)
    clear e2
    have f2 : DataW.trod enc Tryz.prog w 0 sp held m 64 ((([c0, c1, c2] : List Value).drop 2).take (Tryz.prog.cellsOf 64)) = some z2 := f2
    rw [show Tryz.prog.cellsOf 64 = 1 from by kernel_rfl] at f2
    obtain ⟨v2, a2, q2, r2⟩ := trod_ints f2 (by simp)
    simp at q2
    subst q2
    exact ⟨⟨a0, a1, a2⟩, _, _, _, rfl, r0, r1, r2⟩
set_option maxRecDepth 100000 in
theorem open_Table {H : Type} {enc : TypeId × Value → H} {W : World} {base : Nat} {v : Value} {d : DataW H} {p : List MemPlace}
    (hv : Value.okWide Tryz.prog W .any base 176 v) (h : DataW.Trod enc Tryz.prog W 0 (fun _ => true) true 176 v d p) (_ : ∀ x ∈ p, x.block < W.heap.size) :
    ∃ t : TableD, ∃ a b c : Value, v = .agg #[a, b, c] ∧ RTable W [a, b, c] t := by
  obtain ⟨cs, rfl, hsz⟩ := okWide_struct Tryz.underlying176 hv
  obtain ⟨fuel, hf⟩ := h
  have hl : cs.toList.length = 3 := by rw [Array.length_toList, hsz]; kernel_rfl
  obtain ⟨t, ht⟩ := trod_table hl hf
  have ht' := ht
  obtain ⟨a, b, c, e, _⟩ := ht
  rw [e] at ht'
  exact ⟨t, a, b, c, congrArg Value.agg (Array.toList_inj.1 (by rw [e])), ht'⟩
end Go.Proofs.YtocahjbmnkadjaaGreatDoor
/-
  An argument that is a cell, opened.
-/
namespace Go.Proofs.YtocahjbmnkadjaaGreatDoor
open Go.ChangeShapes Go.WideShapes Go.ChangeAt Go.RowKit Go.Deep

set_option maxRecDepth 100000 in
theorem trod_pin {H : Type} {enc : TypeId × Value → H} {w : World} {sp : Nat → Bool} {held : Bool} {fuel : Nat} {cs : List Value} {x : DataW H × List MemPlace} (hl : cs.length = 4) (h : DataW.trod enc Tryz.prog w 0 sp held fuel 128 cs = some x) : ∃ y : PinD, RPin w cs y := by
  obtain ⟨ys, m, _, _, _, hyl, hf⟩ := DataW.trod_struct Tryz.underlying128 h
  match cs, hl with
  | [c0, c1, c2, c3], _ =>
    have e0 := hf 0 _ rfl
    obtain ⟨z0, f0⟩ := field_some e0 (by rw [hyl]; decide)
    clear e0
    have f0 : DataW.trod enc Tryz.prog w 0 sp held m 9 ((([c0, c1, c2, c3] : List Value).drop 0).take (Tryz.prog.cellsOf 9)) = some z0 := f0
    rw [show Tryz.prog.cellsOf 9 = 1 from by kernel_rfl] at f0
    obtain ⟨a0, q0, r0⟩ := trod_str Tryz.underlying9 f0
    simp at q0
    subst q0
    have e1 := hf 1 _ rfl
    obtain ⟨z1, f1⟩ := field_some e1 (by rw [hyl]; decide)
    clear e1
    have f1 : DataW.trod enc Tryz.prog w 0 sp held m 2 ((([.string a0, c1, c2, c3] : List Value).drop 1).take (Tryz.prog.cellsOf 2)) = some z1 := f1
    rw [show Tryz.prog.cellsOf 2 = 1 from by kernel_rfl] at f1
    obtain ⟨a1, q1⟩ := trod_i64 Tryz.underlying2 f1
    simp at q1
    subst q1
    have e2 := hf 2 _ rfl
    obtain ⟨z2, f2⟩ := field_some e2 (by rw [hyl]; decide)
    clear e2
    have f2 : DataW.trod enc Tryz.prog w 0 sp held m 2 ((([.string a0, .int .i64 a1, c2, c3] : List Value).drop 2).take (Tryz.prog.cellsOf 2)) = some z2 := f2
    rw [show Tryz.prog.cellsOf 2 = 1 from by kernel_rfl] at f2
    obtain ⟨a2, q2⟩ := trod_i64 Tryz.underlying2 f2
    simp at q2
    subst q2
    have e3 := hf 3 _ rfl
    obtain ⟨z3, f3⟩ := field_some e3 (by rw [hyl]; decide)
    clear e3
    have f3 : DataW.trod enc Tryz.prog w 0 sp held m 4 ((([.string a0, .int .i64 a1, .int .i64 a2, c3] : List Value).drop 3).take (Tryz.prog.cellsOf 4)) = some z3 := f3
    rw [show Tryz.prog.cellsOf 4 = 1 from by kernel_rfl] at f3
    obtain ⟨a3, q3⟩ := trod_bool' Tryz.underlying4 f3
    simp at q3
    subst q3
    exact ⟨⟨a0, a1, a2, a3⟩, rfl, r0⟩
theorem trod_pins {H : Type} {enc : TypeId × Value → H} {w : World} {sp : Nat → Bool} {held : Bool} {fuel : Nat} {cs : List Value} {x : DataW H × List MemPlace} (h : DataW.trod enc Tryz.prog w 0 sp held fuel 62 cs = some x) (hl : cs.length = 1) : ∃ (v : Value) (xs : List PinD), cs = [v] ∧ RList 4 RPin w v xs := by
  match cs, hl with
  | [v], _ =>
    obtain ⟨xs, hx⟩ := trod_list (sz := 4) (R := RPin) Tryz.underlying62 (by kernel_rfl) (by decide) (fun f cs x hl h => trod_pin hl h) h
    exact ⟨v, xs, rfl, hx⟩
theorem trod_tables {H : Type} {enc : TypeId × Value → H} {w : World} {sp : Nat → Bool} {held : Bool} {fuel : Nat} {cs : List Value} {x : DataW H × List MemPlace} (h : DataW.trod enc Tryz.prog w 0 sp held fuel 130 cs = some x) (hl : cs.length = 1) : ∃ (v : Value) (xs : List TableD), cs = [v] ∧ RList 3 RTable w v xs := by
  match cs, hl with
  | [v], _ =>
    obtain ⟨xs, hx⟩ := trod_list (sz := 3) (R := RTable) Tryz.underlying130 (by kernel_rfl) (by decide) (fun f cs x hl h => trod_table hl h) h
    exact ⟨v, xs, rfl, hx⟩
set_option maxRecDepth 100000 in
theorem trod_arc {H : Type} {enc : TypeId × Value → H} {w : World} {sp : Nat → Bool} {held : Bool} {fuel : Nat} {cs : List Value} {x : DataW H × List MemPlace} (hl : cs.length = 6) (h : DataW.trod enc Tryz.prog w 0 sp held fuel 132 cs = some x) : ∃ y : ArcD, RArc w cs y := by
  obtain ⟨ys, m, _, _, _, hyl, hf⟩ := DataW.trod_struct Tryz.underlying132 h
  match cs, hl with
  | [c0, c1, c2, c3, c4, c5], _ =>
    have e0 := hf 0 _ rfl
    obtain ⟨z0, f0⟩ := field_some e0 (by rw [hyl]; decide)
    clear e0
    have f0 : DataW.trod enc Tryz.prog w 0 sp held m 2 ((([c0, c1, c2, c3, c4, c5] : List Value).drop 0).take (Tryz.prog.cellsOf 2)) = some z0 := f0
    rw [show Tryz.prog.cellsOf 2 = 1 from by kernel_rfl] at f0
    obtain ⟨a0, q0⟩ := trod_i64 Tryz.underlying2 f0
    simp at q0
    subst q0
    have e1 := hf 1 _ rfl
    obtain ⟨z1, f1⟩ := field_some e1 (by rw [hyl]; decide)
    clear e1
    have f1 : DataW.trod enc Tryz.prog w 0 sp held m 2 ((([.int .i64 a0, c1, c2, c3, c4, c5] : List Value).drop 1).take (Tryz.prog.cellsOf 2)) = some z1 := f1
    rw [show Tryz.prog.cellsOf 2 = 1 from by kernel_rfl] at f1
    obtain ⟨a1, q1⟩ := trod_i64 Tryz.underlying2 f1
    simp at q1
    subst q1
    have e2 := hf 2 _ rfl
    obtain ⟨z2, f2⟩ := field_some e2 (by rw [hyl]; decide)
    clear e2
    have f2 : DataW.trod enc Tryz.prog w 0 sp held m 2 ((([.int .i64 a0, .int .i64 a1, c2, c3, c4, c5] : List Value).drop 2).take (Tryz.prog.cellsOf 2)) = some z2 := f2
    rw [show Tryz.prog.cellsOf 2 = 1 from by kernel_rfl] at f2
    obtain ⟨a2, q2⟩ := trod_i64 Tryz.underlying2 f2
    simp at q2
    subst q2
    have e3 := hf 3 _ rfl
    obtain ⟨z3, f3⟩ := field_some e3 (by rw [hyl]; decide)
    clear e3
    have f3 : DataW.trod enc Tryz.prog w 0 sp held m 2 ((([.int .i64 a0, .int .i64 a1, .int .i64 a2, c3, c4, c5] : List Value).drop 3).take (Tryz.prog.cellsOf 2)) = some z3 := f3
    rw [show Tryz.prog.cellsOf 2 = 1 from by kernel_rfl] at f3
    obtain ⟨a3, q3⟩ := trod_i64 Tryz.underlying2 f3
    simp at q3
    subst q3
    have e4 := hf 4 _ rfl
    obtain ⟨z4, f4⟩ := field_some e4 (by rw [hyl]; decide)
    clear e4
    have f4 : DataW.trod enc Tryz.prog w 0 sp held m 130 ((([.int .i64 a0, .int .i64 a1, .int .i64 a2, .int .i64 a3, c4, c5] : List Value).drop 4).take (Tryz.prog.cellsOf 130)) = some z4 := f4
    rw [show Tryz.prog.cellsOf 130 = 1 from by kernel_rfl] at f4
    obtain ⟨v4, a4, q4, r4⟩ := trod_tables f4 (by simp)
    simp at q4
    subst q4
    have e5 := hf 5 _ rfl
    obtain ⟨z5, f5⟩ := field_some e5 (by rw [hyl]; decide)
    clear e5
    have f5 : DataW.trod enc Tryz.prog w 0 sp held m 130 ((([.int .i64 a0, .int .i64 a1, .int .i64 a2, .int .i64 a3, c4, c5] : List Value).drop 5).take (Tryz.prog.cellsOf 130)) = some z5 := f5
    rw [show Tryz.prog.cellsOf 130 = 1 from by kernel_rfl] at f5
    obtain ⟨v5, a5, q5, r5⟩ := trod_tables f5 (by simp)
    simp at q5
    subst q5
    exact ⟨⟨a0, a1, a2, a3, a4, a5⟩, _, _, rfl, r4, r5⟩
theorem trod_arcs {H : Type} {enc : TypeId × Value → H} {w : World} {sp : Nat → Bool} {held : Bool} {fuel : Nat} {cs : List Value} {x : DataW H × List MemPlace} (h : DataW.trod enc Tryz.prog w 0 sp held fuel 63 cs = some x) (hl : cs.length = 1) : ∃ (v : Value) (xs : List ArcD), cs = [v] ∧ RList 6 RArc w v xs := by
  match cs, hl with
  | [v], _ =>
    obtain ⟨xs, hx⟩ := trod_list (sz := 6) (R := RArc) Tryz.underlying63 (by kernel_rfl) (by decide) (fun f cs x hl h => trod_arc hl h) h
    exact ⟨v, xs, rfl, hx⟩
set_option maxRecDepth 100000 in
theorem trod_cell {H : Type} {enc : TypeId × Value → H} {w : World} {sp : Nat → Bool} {held : Bool} {fuel : Nat} {cs : List Value} {x : DataW H × List MemPlace} (hl : cs.length = 7) (h : DataW.trod enc Tryz.prog w 0 sp held fuel 66 cs = some x) : ∃ y : CellD, RCell w cs y := by
  obtain ⟨ys, m, _, _, _, hyl, hf⟩ := DataW.trod_struct Tryz.underlying66 h
  match cs, hl with
  | [c0, c1, c2, c3, c4, c5, c6], _ =>
    have e0 := hf 0 _ rfl
    obtain ⟨z0, f0⟩ := field_some e0 (by rw [hyl]; decide)
    clear e0
    have f0 : DataW.trod enc Tryz.prog w 0 sp held m 9 ((([c0, c1, c2, c3, c4, c5, c6] : List Value).drop 0).take (Tryz.prog.cellsOf 9)) = some z0 := f0
    rw [show Tryz.prog.cellsOf 9 = 1 from by kernel_rfl] at f0
    obtain ⟨a0, q0, r0⟩ := trod_str Tryz.underlying9 f0
    simp at q0
    subst q0
    have e1 := hf 1 _ rfl
    obtain ⟨z1, f1⟩ := field_some e1 (by rw [hyl]; decide)
    clear e1
    have f1 : DataW.trod enc Tryz.prog w 0 sp held m 2 ((([.string a0, c1, c2, c3, c4, c5, c6] : List Value).drop 1).take (Tryz.prog.cellsOf 2)) = some z1 := f1
    rw [show Tryz.prog.cellsOf 2 = 1 from by kernel_rfl] at f1
    obtain ⟨a1, q1⟩ := trod_i64 Tryz.underlying2 f1
    simp at q1
    subst q1
    have e2 := hf 2 _ rfl
    obtain ⟨z2, f2⟩ := field_some e2 (by rw [hyl]; decide)
    clear e2
    have f2 : DataW.trod enc Tryz.prog w 0 sp held m 62 ((([.string a0, .int .i64 a1, c2, c3, c4, c5, c6] : List Value).drop 2).take (Tryz.prog.cellsOf 62)) = some z2 := f2
    rw [show Tryz.prog.cellsOf 62 = 1 from by kernel_rfl] at f2
    obtain ⟨v2, a2, q2, r2⟩ := trod_pins f2 (by simp)
    simp at q2
    subst q2
    have e3 := hf 3 _ rfl
    obtain ⟨z3, f3⟩ := field_some e3 (by rw [hyl]; decide)
    clear e3
    have f3 : DataW.trod enc Tryz.prog w 0 sp held m 63 ((([.string a0, .int .i64 a1, c2, c3, c4, c5, c6] : List Value).drop 3).take (Tryz.prog.cellsOf 63)) = some z3 := f3
    rw [show Tryz.prog.cellsOf 63 = 1 from by kernel_rfl] at f3
    obtain ⟨v3, a3, q3, r3⟩ := trod_arcs f3 (by simp)
    simp at q3
    subst q3
    have e4 := hf 4 _ rfl
    obtain ⟨z4, f4⟩ := field_some e4 (by rw [hyl]; decide)
    clear e4
    have f4 : DataW.trod enc Tryz.prog w 0 sp held m 64 ((([.string a0, .int .i64 a1, c2, c3, c4, c5, c6] : List Value).drop 4).take (Tryz.prog.cellsOf 64)) = some z4 := f4
    rw [show Tryz.prog.cellsOf 64 = 1 from by kernel_rfl] at f4
    obtain ⟨v4, a4, q4, r4⟩ := trod_ints f4 (by simp)
    simp at q4
    subst q4
    have e5 := hf 5 _ rfl
    obtain ⟨z5, f5⟩ := field_some e5 (by rw [hyl]; decide)
    clear e5
    have f5 : DataW.trod enc Tryz.prog w 0 sp held m 2 ((([.string a0, .int .i64 a1, c2, c3, c4, c5, c6] : List Value).drop 5).take (Tryz.prog.cellsOf 2)) = some z5 := f5
    rw [show Tryz.prog.cellsOf 2 = 1 from by kernel_rfl] at f5
    obtain ⟨a5, q5⟩ := trod_i64 Tryz.underlying2 f5
    simp at q5
    subst q5
    have e6 := hf 6 _ rfl
    obtain ⟨z6, f6⟩ := field_some e6 (by rw [hyl]; decide)
    clear e6
    have f6 : DataW.trod enc Tryz.prog w 0 sp held m 2 ((([.string a0, .int .i64 a1, c2, c3, c4, .int .i64 a5, c6] : List Value).drop 6).take (Tryz.prog.cellsOf 2)) = some z6 := f6
    rw [show Tryz.prog.cellsOf 2 = 1 from by kernel_rfl] at f6
    obtain ⟨a6, q6⟩ := trod_i64 Tryz.underlying2 f6
    simp at q6
    subst q6
    exact ⟨⟨a0, a1, a2, a3, a4, a5, a6⟩, _, _, _, rfl, r0, r2, r3, r4⟩
set_option maxRecDepth 100000 in
theorem open_Cell {H : Type} {enc : TypeId × Value → H} {W : World} {base : Nat} {v : Value} {d : DataW H} {p : List MemPlace}
    (hv : Value.okWide Tryz.prog W .any base 66 v) (h : DataW.Trod enc Tryz.prog W 0 (fun _ => true) true 66 v d p) (_ : ∀ x ∈ p, x.block < W.heap.size) :
    ∃ t : CellD, ∃ v0 v1 v2 v3 v4 v5 v6 : Value, v = .agg #[v0, v1, v2, v3, v4, v5, v6] ∧ RCell W [v0, v1, v2, v3, v4, v5, v6] t := by
  obtain ⟨cs, rfl, hsz⟩ := okWide_struct Tryz.underlying66 hv
  obtain ⟨fuel, hf⟩ := h
  have hl : cs.toList.length = 7 := by rw [Array.length_toList, hsz]; kernel_rfl
  obtain ⟨t, ht⟩ := trod_cell hl hf
  have ht' := ht
  obtain ⟨k1, k2, k3, e, _⟩ := ht
  rw [e] at ht'
  exact ⟨t, _, _, _, _, _, _, _, congrArg Value.agg (Array.toList_inj.1 (by rw [e])), ht'⟩
end Go.Proofs.YtocahjbmnkadjaaGreatDoor
/-
  An argument that is a design, opened.
-/
namespace Go.Proofs.YtocahjbmnkadjaaGreatDoor
open Go.ChangeShapes Go.WideShapes Go.ChangeAt Go.RowKit Go.Deep
end Go.Proofs.YtocahjbmnkadjaaGreatDoor
/-
  An argument that is a slice of integers, opened.
-/
namespace Go.Proofs.YtocahjbmnkadjaaGreatDoor
open Go.ChangeShapes Go.WideShapes Go.ChangeAt Go.RowKit Go.Deep
set_option maxRecDepth 100000 in
theorem open_Ints {H : Type} {enc : TypeId × Value → H} {W : World} {base : Nat} {v : Value} {d : DataW H} {p : List MemPlace}
    (hv : Value.okWide Tryz.prog W .any base 64 v) (h : DataW.Trod enc Tryz.prog W 0 (fun _ => true) true 64 v d p) (_ : ∀ x ∈ p, x.block < W.heap.size) :
    ∃ xs : List Int, RInts W v xs := by
  obtain ⟨A, l, c, rfl⟩ := okWide_slice Tryz.underlying64 hv
  obtain ⟨fuel, hf⟩ := h
  obtain ⟨v', xs, e, hr⟩ := trod_ints hf rfl
  have e2 : ([.slice A l c] : List Value) = [v'] := e
  injection e2 with e3
  subst e3
  exact ⟨xs, hr⟩
end Go.Proofs.YtocahjbmnkadjaaGreatDoor
/-
  Arguments that are a library or a block, opened.
-/
namespace Go.Proofs.YtocahjbmnkadjaaGreatDoor
open Go.ChangeShapes Go.WideShapes Go.ChangeAt Go.RowKit Go.Deep

theorem trod_cells {H : Type} {enc : TypeId × Value → H} {w : World} {sp : Nat → Bool} {held : Bool} {fuel : Nat} {cs : List Value} {x : DataW H × List MemPlace} (h : DataW.trod enc Tryz.prog w 0 sp held fuel 22 cs = some x) (hl : cs.length = 1) : ∃ (v : Value) (xs : List CellD), cs = [v] ∧ RList 7 RCell w v xs := by
  match cs, hl with
  | [v], _ =>
    obtain ⟨xs, hx⟩ := trod_list (sz := 7) (R := RCell) Tryz.underlying22 (by kernel_rfl) (by decide) (fun f cs x hl h => trod_cell hl h) h
    exact ⟨v, xs, rfl, hx⟩
set_option maxRecDepth 100000 in
theorem trod_lib {H : Type} {enc : TypeId × Value → H} {w : World} {sp : Nat → Bool} {held : Bool} {fuel : Nat} {cs : List Value} {x : DataW H × List MemPlace} (hl : cs.length = 1) (h : DataW.trod enc Tryz.prog w 0 sp held fuel 24 cs = some x) : ∃ y : LibD, RLib w cs y := by
  obtain ⟨ys, m, _, _, _, hyl, hf⟩ := DataW.trod_struct Tryz.underlying24 h
  match cs, hl with
  | [c0], _ =>
    have e0 := hf 0 _ rfl
    obtain ⟨z0, f0⟩ := field_some e0 (by rw [hyl]; decide)
    clear e0
    have f0 : DataW.trod enc Tryz.prog w 0 sp held m 22 ((([c0] : List Value).drop 0).take (Tryz.prog.cellsOf 22)) = some z0 := f0
    rw [show Tryz.prog.cellsOf 22 = 1 from by kernel_rfl] at f0
    obtain ⟨v0, a0, q0, r0⟩ := trod_cells f0 (by simp)
    simp at q0
    subst q0
    exact ⟨⟨a0⟩, _, rfl, r0⟩
set_option maxRecDepth 100000 in
theorem open_Library {H : Type} {enc : TypeId × Value → H} {W : World} {base : Nat} {v : Value} {d : DataW H} {p : List MemPlace}
    (hv : Value.okWide Tryz.prog W .any base 24 v) (h : DataW.Trod enc Tryz.prog W 0 (fun _ => true) true 24 v d p) (_ : ∀ x ∈ p, x.block < W.heap.size) :
    ∃ t : LibD, ∃ v0 : Value, v = .agg #[v0] ∧ RLib W [v0] t := by
  obtain ⟨cs, rfl, hsz⟩ := okWide_struct Tryz.underlying24 hv
  obtain ⟨fuel, hf⟩ := h
  have hl : cs.toList.length = 1 := by rw [Array.length_toList, hsz]; kernel_rfl
  obtain ⟨t, ht⟩ := trod_lib hl hf
  have ht' := ht
  obtain ⟨v0, e, _⟩ := ht
  rw [e] at ht'
  exact ⟨t, v0, congrArg Value.agg (Array.toList_inj.1 (by rw [e])), ht'⟩
end Go.Proofs.YtocahjbmnkadjaaGreatDoor
