/-
  A slice of integers copied by append into a new one: the reference's l02Ints, the library's Clone.
-/
import Derived.Test.YtgglgghlndhfbaaOwn
import Derived.Laws.AppendOwn
import Derived.OwnWalk
import Derived.Lib.LazyBuf
namespace Go.Proofs.Ytgglgghlndhfbaa
open Go.RowKit

theorem own_row {w : World} {base : Nat} {v : Value} {xs : List Int} (h : w.ownsRow base 2 1 v xs.length (xs.map (.int .i64 ·))) (hn : 1 ≤ xs.length) :
    ∃ (g c : Nat), v = .slice (some ⟨g, 0, none⟩) xs.length c ∧ OInts w v xs [g] ∧ base ≤ g ∧ g < w.heap.size := by
  obtain ⟨hl, ⟨_, h0⟩ | ⟨g, c, cur, rfl, hb, hg, h1, h2, h3, h4⟩⟩ := h
  · omega
  · have hB : Blk w g 2 cur := hg
    refine ⟨g, c, rfl, .inr ⟨g, c, cur, List.replicate xs.length [], rfl, h1, h2, hB, by simp, ?_, fun i x hx => ?_⟩, hb, hB.lt⟩
    · congr 1
      symm
      rw [List.flatten_eq_nil_iff]
      intro l hl
      exact (List.mem_replicate.1 hl).2
    · have hi : i < xs.length := (List.getElem?_eq_some_iff.1 hx).1
      refine ⟨[.int .i64 x], [], rfl, fun j u hu => ?_, by rw [List.getElem?_replicate, if_pos hi], rfl, rfl⟩
      match j, hu with
      | 0, hu =>
        simp at hu
        subst hu
        have h5 : (cur.toList.take (xs.length * 1))[i]? = some (.int .i64 x) := by rw [h4, List.getElem?_map, hx]; rfl
        rw [List.getElem?_take_of_lt (by omega)] at h5
        simpa using h5
/-- what a slice of integers' copy is -/
def CopyPost (xs : List Int) (w : World) (e : Ending) (w' : World) : Prop :=
  ∃ (A : Option Addr) (c : Nat) (bs : List Nat), e = .returned (.slice A xs.length c) ∧ OInts w' (.slice A xs.length c) xs bs ∧ Own w.heap.size w'.heap.size bs ∧ Grows w w'
set_option maxHeartbeats 1000000 in
set_option maxRecDepth 100000 in
theorem l02Ints_any {v : Value} {xs : List Int} (w : World) (h : RInts w v xs) (hn1 : 1 ≤ xs.length) (hn : SmL xs) :
    Calls Try.prog 45 #[v] w (CopyPost xs w) := by
  unfold SmL at hn
  obtain ⟨i0, hi, hz0, hz1, hz2⟩ := info_parts info_i64
  obtain ⟨A, c, rfl, hle, hc, hx⟩ := h.form
  obtain ⟨x0, h0⟩ : ∃ x, xs[0]? = some x := ⟨_, List.getElem?_eq_getElem (by omega)⟩
  obtain ⟨b, off, rfl, -⟩ := hx 0 x0 h0
  have hcells : ∀ (j : Nat) (u : Value), (xs.map (.int .i64 ·))[j]? = some u → w.cell? ⟨b, off + j, none⟩ = some u := fun j u hu => by
    rw [List.getElem?_map] at hu
    obtain ⟨x, hx1, rfl⟩ := Option.map_eq_some_iff.1 hu
    obtain ⟨b', off', e, cs, hl1, hcs, hr⟩ := hx j x hx1
    cases e
    unfold RI at hr
    subst hr
    simpa using hcs 0 _ rfl
  have HC := hideIt hcells
  have h00 := hcells 0 (.int .i64 x0) (by rw [List.getElem?_map, h0]; rfl)
  have lb := cell_lt h00
  simp at lb
  clear hx hcells h0 h h00
  have G1 : Hid (Grows w (w.alloc (.cells #[] 2))) := hideIt ((Grows.refl w).alloc _)
  have own0 : Hid ((w.alloc (.cells #[] 2)).ownsRow w.heap.size 2 1 (.slice (some ⟨w.heap.size, 0, none⟩) 0 0) 0 []) :=
    hideIt ⟨rfl, .inr ⟨w.heap.size, 0, #[], rfl, Nat.le_refl _, Blk.new w _ _, Nat.le_refl _, Nat.zero_le _, rfl, rfl⟩⟩
  go_enter Try.func45, Try.ntmps45
  go_wp2_with (at_builtin; refine wpList_append_own _ rfl _ _ 22 rfl w.heap.size 2 i0 (.int .i64 0) 1 8 Try.underlying22 hi hz0 hz1 hz2 rfl (by decide) _ _ _ rfl own0.out ⟨b, off, none⟩ xs.length c (xs.map (.int .i64 ·)) rfl ?c1 ?c2 ?c3 ?c4 ?c5 ?c6 ?_)
  case c1 => simp
  case c2 =>
    intro j u hj
    have e : (⟨b, off, none⟩ : Addr).add j = ⟨b, off + j, none⟩ := by unfold Addr.add; split <;> simp_all
    rw [e]
    exact G1.out.keeps _ _ (HC.out j u hj)
  case c3 => intro u hu; obtain ⟨x, -, rfl⟩ := List.mem_map.1 hu; rfl
  case c4 => unfold maxLen; omega
  case c5 => omega
  case c6 => exact G1.out.size
  intro v' w1 hown hgrow hnil
  have g1 := G1.out.grown hgrow (fun k e => by injection e with e; exact Nat.le_of_eq e)
  obtain ⟨g, c', rfl, ho, hb, hlt⟩ := own_row (by simpa using hown) hn1
  have HP : Hid (CopyPost xs w (.returned (.slice (some ⟨g, 0, none⟩) xs.length c')) w1) := hideIt ⟨_, _, _, rfl, ho, Own.one hb hlt, g1⟩
  clear hown hgrow hnil ho g1
  go_wp2
  go_ret
  simpa using HP.out
set_option maxHeartbeats 1000000 in
set_option maxRecDepth 100000 in
theorem clone_any {v : Value} {xs : List Int} (w : World) (h : RInts w v xs) (hn1 : 1 ≤ xs.length) (hn : SmL xs) :
    Calls Try.prog 32 #[v] w (CopyPost xs w) := by
  unfold SmL at hn
  obtain ⟨i0, hi, hz0, hz1, hz2⟩ := info_parts info_i64
  obtain ⟨A, c, rfl, hle, hc, hx⟩ := h.form
  obtain ⟨x0, h0⟩ : ∃ x, xs[0]? = some x := ⟨_, List.getElem?_eq_getElem (by omega)⟩
  obtain ⟨b, off, rfl, -⟩ := hx 0 x0 h0
  have hcells : ∀ (j : Nat) (u : Value), (xs.map (.int .i64 ·))[j]? = some u → w.cell? ⟨b, off + j, none⟩ = some u := fun j u hu => by
    rw [List.getElem?_map] at hu
    obtain ⟨x, hx1, rfl⟩ := Option.map_eq_some_iff.1 hu
    obtain ⟨b', off', e, cs, hl1, hcs, hr⟩ := hx j x hx1
    cases e
    unfold RI at hr
    subst hr
    simpa using hcs 0 _ rfl
  have HC := hideIt hcells
  have h00 := hcells 0 (.int .i64 x0) (by rw [List.getElem?_map, h0]; rfl)
  have lb := cell_lt h00
  simp at lb
  clear hx hcells h0 h h00
  have G1 : Hid (Grows w (w.alloc (.cells #[] 2))) := hideIt ((Grows.refl w).alloc _)
  have own0 : Hid ((w.alloc (.cells #[] 2)).ownsRow w.heap.size 2 1 (.slice (some ⟨w.heap.size, 0, none⟩) 0 0) 0 []) :=
    hideIt ⟨rfl, .inr ⟨w.heap.size, 0, #[], rfl, Nat.le_refl _, Blk.new w _ _, Nat.le_refl _, Nat.zero_le _, rfl, rfl⟩⟩
  have hnil0 : ∀ w : World, (binOp .eql 22 (.slice (some ⟨b, off, none⟩) xs.length c) (.slice none 0 0)).run Try.prog w = .ok (.bool false) w := fun w => run_eql_slice_nil w 22 2 _ _ _ Try.underlying22
  go_enter Try.func32, Try.ntmps32
  go_wp2_with (at_builtin; refine wpList_append_own _ rfl _ _ 22 rfl w.heap.size 2 i0 (.int .i64 0) 1 8 Try.underlying22 hi hz0 hz1 hz2 rfl (by decide) _ _ _ rfl own0.out ⟨b, off, none⟩ xs.length c (xs.map (.int .i64 ·)) rfl ?c1 ?c2 ?c3 ?c4 ?c5 ?c6 ?_)
  case c1 => simp
  case c2 =>
    intro j u hj
    have e : (⟨b, off, none⟩ : Addr).add j = ⟨b, off + j, none⟩ := by unfold Addr.add; split <;> simp_all
    rw [e]
    exact G1.out.keeps _ _ (HC.out j u hj)
  case c3 => intro u hu; obtain ⟨x, -, rfl⟩ := List.mem_map.1 hu; rfl
  case c4 => unfold maxLen; omega
  case c5 => omega
  case c6 => exact G1.out.size
  intro v' w1 hown hgrow hnil
  have g1 := G1.out.grown hgrow (fun k e => by injection e with e; exact Nat.le_of_eq e)
  obtain ⟨g, c', rfl, ho, hb, hlt⟩ := own_row (by simpa using hown) hn1
  have HP : Hid (CopyPost xs w (.returned (.slice (some ⟨g, 0, none⟩) xs.length c')) w1) := hideIt ⟨_, _, _, rfl, ho, Own.one hb hlt, g1⟩
  clear hown hgrow hnil ho g1
  go_wp2
  go_ret
  simpa using HP.out
end Go.Proofs.Ytgglgghlndhfbaa
