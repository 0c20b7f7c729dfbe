/-
  An argument that is a design, opened.
-/
import Derived.Test.YtcaklodecejkhaaOpen
namespace Go.Proofs.Ytcaklodecejkhaa
open Go.ChangeShapes Go.WideShapes Go.ChangeAt Go.RowKit Go.Deep

theorem trod_strs {H : Type} {enc : TypeId × Value → H} {w : World} {sp : Nat → Bool} {held : Bool} {fuel : Nat} {cs : List Value} {x : DataW H × List MemPlace} (h : DataW.trod enc Try.prog w 0 sp held fuel 23 cs = some x) (hl : cs.length = 1) : ∃ (v : Value) (xs : List ByteArray), cs = [v] ∧ RList 1 RS w v xs := by
  match cs, hl with
  | [v], _ =>
    obtain ⟨xs, hx⟩ := trod_list (sz := 1) (R := RS) Try.underlying23 (by kernel_rfl) (by decide) (fun f cs x hl h => by obtain ⟨y, hy, hz⟩ := trod_str Try.underlying9 h; exact ⟨y, hy, hz⟩) h
    exact ⟨v, xs, rfl, hx⟩
set_option maxRecDepth 100000 in
theorem trod_inst {H : Type} {enc : TypeId × Value → H} {w : World} {sp : Nat → Bool} {held : Bool} {fuel : Nat} {cs : List Value} {x : DataW H × List MemPlace} (hl : cs.length = 3) (h : DataW.trod enc Try.prog w 0 sp held fuel 57 cs = some x) : ∃ y : InstD, RInst w cs y := by
  obtain ⟨ys, m, _, _, _, hyl, hf⟩ := DataW.trod_struct Try.underlying57 h
  match cs, hl with
  | [c0, c1, c2], _ =>
    have e0 := hf 0 _ rfl
    obtain ⟨z0, f0⟩ := field_some e0 (by rw [hyl]; decide)
    clear e0
    have f0 : DataW.trod enc Try.prog w 0 sp held m 9 ((([c0, c1, c2] : List Value).drop 0).take (Try.prog.cellsOf 9)) = some z0 := f0
    rw [show Try.prog.cellsOf 9 = 1 from by kernel_rfl] at f0
    obtain ⟨a0, q0, r0⟩ := trod_str Try.underlying9 f0
    simp at q0
    subst q0
    have e1 := hf 1 _ rfl
    obtain ⟨z1, f1⟩ := field_some e1 (by rw [hyl]; decide)
    clear e1
    have f1 : DataW.trod enc Try.prog w 0 sp held m 2 ((([.string a0, c1, c2] : List Value).drop 1).take (Try.prog.cellsOf 2)) = some z1 := f1
    rw [show Try.prog.cellsOf 2 = 1 from by kernel_rfl] at f1
    obtain ⟨a1, q1⟩ := trod_i64 Try.underlying2 f1
    simp at q1
    subst q1
    have e2 := hf 2 _ rfl
    obtain ⟨z2, f2⟩ := field_some e2 (by rw [hyl]; decide)
    clear e2
    have f2 : DataW.trod enc Try.prog w 0 sp held m 39 ((([.string a0, .int .i64 a1, c2] : List Value).drop 2).take (Try.prog.cellsOf 39)) = some z2 := f2
    rw [show Try.prog.cellsOf 39 = 1 from by kernel_rfl] at f2
    obtain ⟨v2, a2, q2, r2⟩ := trod_ints f2 (by simp)
    simp at q2
    subst q2
    exact ⟨⟨a0, a1, a2⟩, _, rfl, r0, r2⟩
set_option maxRecDepth 100000 in
theorem trod_port {H : Type} {enc : TypeId × Value → H} {w : World} {sp : Nat → Bool} {held : Bool} {fuel : Nat} {cs : List Value} {x : DataW H × List MemPlace} (hl : cs.length = 3) (h : DataW.trod enc Try.prog w 0 sp held fuel 59 cs = some x) : ∃ y : PortD, RPort w cs y := by
  obtain ⟨ys, m, _, _, _, hyl, hf⟩ := DataW.trod_struct Try.underlying59 h
  match cs, hl with
  | [c0, c1, c2], _ =>
    have e0 := hf 0 _ rfl
    obtain ⟨z0, f0⟩ := field_some e0 (by rw [hyl]; decide)
    clear e0
    have f0 : DataW.trod enc Try.prog w 0 sp held m 9 ((([c0, c1, c2] : List Value).drop 0).take (Try.prog.cellsOf 9)) = some z0 := f0
    rw [show Try.prog.cellsOf 9 = 1 from by kernel_rfl] at f0
    obtain ⟨a0, q0, r0⟩ := trod_str Try.underlying9 f0
    simp at q0
    subst q0
    have e1 := hf 1 _ rfl
    obtain ⟨z1, f1⟩ := field_some e1 (by rw [hyl]; decide)
    clear e1
    have f1 : DataW.trod enc Try.prog w 0 sp held m 2 ((([.string a0, c1, c2] : List Value).drop 1).take (Try.prog.cellsOf 2)) = some z1 := f1
    rw [show Try.prog.cellsOf 2 = 1 from by kernel_rfl] at f1
    obtain ⟨a1, q1⟩ := trod_i64 Try.underlying2 f1
    simp at q1
    subst q1
    have e2 := hf 2 _ rfl
    obtain ⟨z2, f2⟩ := field_some e2 (by rw [hyl]; decide)
    clear e2
    have f2 : DataW.trod enc Try.prog w 0 sp held m 2 ((([.string a0, .int .i64 a1, c2] : List Value).drop 2).take (Try.prog.cellsOf 2)) = some z2 := f2
    rw [show Try.prog.cellsOf 2 = 1 from by kernel_rfl] at f2
    obtain ⟨a2, q2⟩ := trod_i64 Try.underlying2 f2
    simp at q2
    subst q2
    exact ⟨⟨a0, a1, a2⟩, rfl, r0⟩
theorem trod_insts {H : Type} {enc : TypeId × Value → H} {w : World} {sp : Nat → Bool} {held : Bool} {fuel : Nat} {cs : List Value} {x : DataW H × List MemPlace} (h : DataW.trod enc Try.prog w 0 sp held fuel 22 cs = some x) (hl : cs.length = 1) : ∃ (v : Value) (xs : List InstD), cs = [v] ∧ RList 3 RInst w v xs := by
  match cs, hl with
  | [v], _ =>
    obtain ⟨xs, hx⟩ := trod_list (sz := 3) (R := RInst) Try.underlying22 (by kernel_rfl) (by decide) (fun f cs x hl h => trod_inst hl h) h
    exact ⟨v, xs, rfl, hx⟩
theorem trod_ports {H : Type} {enc : TypeId × Value → H} {w : World} {sp : Nat → Bool} {held : Bool} {fuel : Nat} {cs : List Value} {x : DataW H × List MemPlace} (h : DataW.trod enc Try.prog w 0 sp held fuel 24 cs = some x) (hl : cs.length = 1) : ∃ (v : Value) (xs : List PortD), cs = [v] ∧ RList 3 RPort w v xs := by
  match cs, hl with
  | [v], _ =>
    obtain ⟨xs, hx⟩ := trod_list (sz := 3) (R := RPort) Try.underlying24 (by kernel_rfl) (by decide) (fun f cs x hl h => trod_port hl h) h
    exact ⟨v, xs, rfl, hx⟩
set_option maxRecDepth 100000 in
theorem trod_design {H : Type} {enc : TypeId × Value → H} {w : World} {sp : Nat → Bool} {held : Bool} {fuel : Nat} {cs : List Value} {x : DataW H × List MemPlace} (hl : cs.length = 3) (h : DataW.trod enc Try.prog w 0 sp held fuel 26 cs = some x) : ∃ y : DesignD, RDesign w cs y := by
  obtain ⟨ys, m, _, _, _, hyl, hf⟩ := DataW.trod_struct Try.underlying26 h
  match cs, hl with
  | [c0, c1, c2], _ =>
    have e0 := hf 0 _ rfl
    obtain ⟨z0, f0⟩ := field_some e0 (by rw [hyl]; decide)
    clear e0
    have f0 : DataW.trod enc Try.prog w 0 sp held m 22 ((([c0, c1, c2] : List Value).drop 0).take (Try.prog.cellsOf 22)) = some z0 := f0
    rw [show Try.prog.cellsOf 22 = 1 from by kernel_rfl] at f0
    obtain ⟨v0, a0, q0, r0⟩ := trod_insts f0 (by simp)
    simp at q0
    subst q0
    have e1 := hf 1 _ rfl
    obtain ⟨z1, f1⟩ := field_some e1 (by rw [hyl]; decide)
    clear e1
    have f1 : DataW.trod enc Try.prog w 0 sp held m 23 ((([c0, c1, c2] : List Value).drop 1).take (Try.prog.cellsOf 23)) = some z1 := f1
    rw [show Try.prog.cellsOf 23 = 1 from by kernel_rfl] at f1
    obtain ⟨v1, a1, q1, r1⟩ := trod_strs f1 (by simp)
    simp at q1
    subst q1
    have e2 := hf 2 _ rfl
    obtain ⟨z2, f2⟩ := field_some e2 (by rw [hyl]; decide)
    clear e2
    have f2 : DataW.trod enc Try.prog w 0 sp held m 24 ((([c0, c1, c2] : List Value).drop 2).take (Try.prog.cellsOf 24)) = some z2 := f2
    rw [show Try.prog.cellsOf 24 = 1 from by kernel_rfl] at f2
    obtain ⟨v2, a2, q2, r2⟩ := trod_ports f2 (by simp)
    simp at q2
    subst q2
    exact ⟨⟨a0, a1, a2⟩, _, _, _, rfl, r0, r1, r2⟩
set_option maxRecDepth 100000 in
theorem open_Design {H : Type} {enc : TypeId × Value → H} {W : World} {base : Nat} {v : Value} {d : DataW H} {p : List MemPlace}
    (hv : Value.okWide Try.prog W .any base 26 v) (h : DataW.Trod enc Try.prog W 0 (fun _ => true) true 26 v d p) (_ : ∀ x ∈ p, x.block < W.heap.size) :
    ∃ t : DesignD, ∃ v0 v1 v2 : Value, v = .agg #[v0, v1, v2] ∧ RDesign W [v0, v1, v2] t := by
  obtain ⟨cs, rfl, hsz⟩ := okWide_struct Try.underlying26 hv
  obtain ⟨fuel, hf⟩ := h
  have hl : cs.toList.length = 3 := by rw [Array.length_toList, hsz]; kernel_rfl
  obtain ⟨t, ht⟩ := trod_design hl hf
  have ht' := ht
  obtain ⟨v0, v1, v2, e, _⟩ := ht
  rw [e] at ht'
  exact ⟨t, v0, v1, v2, congrArg Value.agg (Array.toList_inj.1 (by rw [e])), ht'⟩
end Go.Proofs.Ytcaklodecejkhaa
