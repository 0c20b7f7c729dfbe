/-
  Draws of times and spans.
-/
import Derived.Test.YtgglgghlndhfbaaDoorDraw
namespace Go.Proofs.YtgglgghlndhfbaaDoor
open Go.RowKit

theorem SrcAt.chg {w0 w w' : World} {b : Nat} {bs : List Nat} (h : SrcAt w0 w b) (c : Chg bs w w') (hb : b ∉ bs) (hg : ∀ g ∈ bs, w0.heap.size ≤ g) : SrcAt w0 w' b := by
  obtain ⟨v, xs, p, s, h1, h2, h3, h4, h5⟩ := h
  exact ⟨v, xs, p, s, h1, h2.chg c hg, h3, h4.chg c hb, h5⟩
theorem Chg.cells {bs : List Nat} {w w' : World} (h : Chg bs w w') : (∀ g o, g < w.heap.size → g ∉ bs → w'.cell? ⟨g, o, none⟩ = w.cell? ⟨g, o, none⟩) ∧ (∀ g o, g < w.heap.size → g ∉ bs → w'.frozen? ⟨g, o, none⟩ = w.frozen? ⟨g, o, none⟩) :=
  ⟨fun g o hg hn => World.cell?_of_block (a := ⟨g, o, none⟩) (h.block g hg hn), fun g o hg hn => World.frozen?_of_block (a := ⟨g, o, none⟩) (h.block g hg hn)⟩
theorem Chg.setNew {bs : List Nat} {a w : World} (h : Chg bs a w) {p : Addr} (hp : a.heap.size ≤ p.block) (u : Value) : Chg bs a (w.setCell p u) :=
  ⟨h.os, h.tape, h.output, by simpa [World.setCell] using h.size, fun g hg hn => (Below.heap_setCell w p u g (by rintro rfl; omega)).trans (h.block g hg hn)⟩
theorem ints4 {w : World} {g : Nat} {t : TypeId} {z0 z1 z2 z3 : Int} (h : Blk w g t #[.int .i64 z0, .int .i64 z1, .int .i64 z2, .int .i64 z3]) {q : Nat} (hq : q < 4) : ∃ z : Int, w.cell? ⟨g, q, none⟩ = some (.int .i64 z) ∧ (z = z0 ∨ z = z1 ∨ z = z2 ∨ z = z3) := by
  rw [h.cell]
  rcases (by omega : q = 0 ∨ q = 1 ∨ q = 2 ∨ q = 3) with rfl | rfl | rfl | rfl <;> exact ⟨_, rfl, by simp⟩

set_option maxHeartbeats 2000000 in
theorem l01Time_any {w0 w : World} {b : Nat} (h : SrcAt w0 w b) :
    Calls Tryd.prog 40 #[.pointer (some ⟨b, 0, none⟩)] w fun e w' => ∃ r : Int, e = .returned (.int .i64 r) ∧ -1000000001 ≤ r ∧ r ≤ 1000000001 ∧ SrcAt w0 w' b ∧ Chg [b] w w' := by
  replace h := hideIt h
  have C : Hid (Chg [b] w w) := hideIt (Chg.refl _ _)
  go_enter Tryd.func40, Tryd.ntmps40
  go_wp2_with fail
  refine (l01Next_any (w0 := w0) 16 h.out).mono ?_
  rintro e u1 ⟨r1, rfl, r1a, r1b, h_, c_⟩
  replace h := hideIt h_
  replace C := hideIt (C.out.trans c_)
  clear h_ c_
  have r1c := r1b (by omega)
  by_cases e0 : r1 = 0
  · subst e0
    go_wp2_with fail
    have lb := h.out.ge.2.2
    have h2 := hideIt (h.out.grows ((Grows.refl _).alloc (.cells #[.int .i64 1000000000, .int .i64 (-1000000000), .int .i64 1000000001, .int .i64 (-1000000001)] 2)))
    replace C := hideIt (C.out.alloc (.cells #[.int .i64 1000000000, .int .i64 (-1000000000), .int .i64 1000000001, .int .i64 (-1000000001)] 2))
    clear h
    have h := h2
    clear h2
    refine (l01Next_any (w0 := w0) _ h.out).mono ?_
    rintro e u2 ⟨r2, rfl, r2a, r2b, h_, c_⟩
    have bl := (Blk.new u1 2 #[.int .i64 1000000000, .int .i64 (-1000000000), .int .i64 1000000001, .int .i64 (-1000000001)]).chg c_ (by simp; omega)
    obtain ⟨q, rfl⟩ : ∃ q : Nat, r2 = (q : Int) := ⟨r2.toNat, by omega⟩
    have q4 : q < 4 := by have := r2b (by omega); omega
    obtain ⟨z, kz, hz⟩ := ints4 bl q4
    clear bl lb
    replace h := hideIt h_
    replace C := hideIt (C.out.trans c_)
    clear h_ c_
    go_wp2
    go_ret
    exact ⟨_, rfl, by omega, by omega, h.out, C.out⟩
  by_cases e1 : r1 = 1
  · subst e1
    go_wp2_with fail
    refine (l01Next_any (w0 := w0) 2000000 h.out).mono ?_
    rintro e u2 ⟨r2, rfl, r2a, r2b, h_, c_⟩
    replace h := hideIt h_
    replace C := hideIt (C.out.trans c_)
    clear h_ c_
    have r2c := r2b (by omega)
    go_wp2
    go_ret
    exact ⟨_, rfl, by omega, by omega, h.out, C.out⟩
  by_cases e2 : r1 = 2
  · subst e2
    go_wp2_with fail
    refine (l01Next_any (w0 := w0) 2000000 h.out).mono ?_
    rintro e u2 ⟨r2, rfl, r2a, r2b, h_, c_⟩
    replace h := hideIt h_
    replace C := hideIt (C.out.trans c_)
    clear h_ c_
    have r2c := r2b (by omega)
    go_wp2
    go_ret
    exact ⟨_, rfl, by omega, by omega, h.out, C.out⟩
  by_cases e3 : r1 = 3
  · subst e3
    go_wp2_with fail
    refine (l01Next_any (w0 := w0) 2000000 h.out).mono ?_
    rintro e u2 ⟨r2, rfl, r2a, r2b, h_, c_⟩
    replace h := hideIt h_
    replace C := hideIt (C.out.trans c_)
    clear h_ c_
    have r2c := r2b (by omega)
    go_wp2
    go_ret
    exact ⟨_, rfl, by omega, by omega, h.out, C.out⟩
  go_wp2_with fail
  refine (l01Next_any (w0 := w0) 2001 h.out).mono ?_
  rintro e u2 ⟨r2, rfl, r2a, r2b, h_, c_⟩
  replace h := hideIt h_
  replace C := hideIt (C.out.trans c_)
  clear h_ c_
  have r2c := r2b (by omega)
  go_wp2
  go_ret
  exact ⟨_, rfl, by omega, by omega, h.out, C.out⟩
end Go.Proofs.YtgglgghlndhfbaaDoor
