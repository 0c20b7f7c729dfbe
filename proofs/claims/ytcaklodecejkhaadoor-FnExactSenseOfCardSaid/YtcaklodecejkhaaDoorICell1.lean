/-
  Contracts of small methods of a cell: its output, its inputs, its clock, whether it has an arc of a kind.
-/
import Derived.Test.YtcaklodecejkhaaDoorCellI
import Derived.Test.YtcaklodecejkhaaDoorIPins
namespace Go.Proofs.YtcaklodecejkhaaDoor
open Go.RowKit

def chkB (k : Int) : Bool := decide (k = 4 ∨ k = 5)
set_option maxHeartbeats 400000 in
theorem isCheck_any (k : Int) (w : World) :
    Calls Tryd.prog 87 #[.int .i64 k] w fun e w' => e = .returned (.bool (chkB k)) ∧ w = w' := by
  cases h1 : (k == 4)
  · have E : Hid (chkB k = (k == 5)) := hideIt (by
      have : ¬ k = 4 := by simpa using h1
      unfold chkB
      rw [Bool.eq_iff_iff]
      simp [this])
    cases h2 : (k == 5)
    · have E2 := hideIt (E.out.trans h2)
      go_enter Tryd.func87, Tryd.ntmps87
      go_wp2
      go_ret
      exact ⟨ret_bool E2.out.symm, rfl⟩
    · have E2 := hideIt (E.out.trans h2)
      go_enter Tryd.func87, Tryd.ntmps87
      go_wp2
      go_ret
      exact ⟨ret_bool E2.out.symm, rfl⟩
  · have E : Hid (chkB k = true) := hideIt (by
      have : k = 4 := by simpa using h1
      unfold chkB
      simp [this])
    go_enter Tryd.func87, Tryd.ntmps87
    go_wp2
    go_ret
    exact ⟨ret_bool E.out.symm, rfl⟩
set_option maxHeartbeats 400000 in
theorem output_any {v0 v1 v2 v3 v4 v5 v6 : Value} {x : CellD} (w : World) (h : RCell w [v0, v1, v2, v3, v4, v5, v6] x) :
    Calls Tryd.prog 48 #[.agg #[v0, v1, v2, v3, v4, v5, v6]] w fun e w' => e = .returned (.int .i64 ((x.pins.length : Int) - 1)) ∧ Grows w w' := by
  obtain ⟨rfl, rfl, hp, -, -, rfl, rfl, -⟩ := h.parts
  have hl := RList.len hp
  obtain ⟨A, n0, rfl⟩ : ∃ (A : Option Addr) (n0 : Nat), v2 = .slice A x.pins.length n0 := by obtain ⟨D, c, e, -⟩ := RList.form hp; exact ⟨D, c, e⟩
  have H := hideIt hp
  clear hp h
  go_enter Tryd.func48, Tryd.ntmps48
  go_wp2_with (go_at_call 62; refine (lengthPin_any _ H.out).mono ?_; rintro e w' ⟨rfl, rfl⟩)
  go_ret
  exact ⟨rfl, (Grows.refl _).alloc _⟩
set_option maxHeartbeats 400000 in
theorem isInput_any {v0 v1 v2 v3 v4 v5 v6 : Value} {x : CellD} (p : Int) (w : World) (h : RCell w [v0, v1, v2, v3, v4, v5, v6] x) :
    Calls Tryd.prog 51 #[.agg #[v0, v1, v2, v3, v4, v5, v6], .int .i64 p] w fun e w' => e = .returned (.bool (inB p 0 ((x.pins.length : Int) - 1 - 1))) ∧ Grows w w' := by
  obtain ⟨A, n0, e2⟩ : ∃ (A : Option Addr) (n0 : Nat), v2 = .slice A x.pins.length n0 := by obtain ⟨D, c, e, -⟩ := RList.form h.parts.2.2.1; exact ⟨D, c, e⟩
  subst e2
  have hl := RList.len h.parts.2.2.1
  have g0 := (Grows.refl w).alloc (.cells #[v0, v1, .slice A x.pins.length n0, v3, v4, v5, v6] 32)
  have H := hideIt (h.keep g0.keeps)
  have G := hideIt g0
  clear h g0
  go_enter Tryd.func51, Tryd.ntmps51
  go_wp2_with fail
  refine (output_any _ H.out).mono ?_
  rintro e w1 ⟨rfl, g1⟩
  have G1 := hideIt (G.out.trans g1)
  clear g1
  go_wp2_with (go_at_call 39; refine (within_any _ _ _ _).mono ?_; rintro e w' ⟨rfl, rfl⟩)
  go_ret
  exact ⟨rfl, G1.out⟩
theorem clock1_any (x : PinD) (c0 c1 c2 c3 : Value) (W : World) (hr : RPin W [c0, c1, c2, c3] x) :
    Calls Tryd.prog 70 #[.agg #[c0, c1, c2, c3]] W fun e W' => e = .returned (.bool x.clock) ∧ Grows W W' := by
  obtain ⟨rfl, rfl, rfl, rfl, -⟩ := hr.parts
  clear hr
  go_enter Tryd.func70, Tryd.ntmps70
  go_wp2
  go_ret
  exact ⟨rfl, (Grows.refl _).alloc _⟩
set_option maxHeartbeats 400000 in
theorem clock_any {v0 v1 v2 v3 v4 v5 v6 : Value} {x : CellD} (w : World) (h : RCell w [v0, v1, v2, v3, v4, v5, v6] x) :
    Calls Tryd.prog 44 #[.agg #[v0, v1, v2, v3, v4, v5, v6]] w fun e w' => e = .returned (.int .i64 (clkI x.pins)) ∧ Grows w w' := by
  obtain ⟨rfl, rfl, hp, -, -, rfl, rfl, -⟩ := h.parts
  obtain ⟨A, n0, rfl⟩ : ∃ (A : Option Addr) (n0 : Nat), v2 = .slice A x.pins.length n0 := by obtain ⟨D, c, e, -⟩ := RList.form hp; exact ⟨D, c, e⟩
  have g0 := (Grows.refl w).alloc (.cells #[.string x.name, .int .i64 x.kind, .slice A x.pins.length n0, v3, v4, .int .i64 x.leak, .int .i64 x.energy] 32)
  have H := hideIt (RPins.keep hp g0.keeps)
  have G := hideIt g0
  clear hp h g0
  go_enter Tryd.func44, Tryd.ntmps44
  go_wp2_with fail
  refine (indexFuncPin_any 70 _ (fun args W => enters_of Tryd.func70 (by kernel_rfl) rfl args W) (fun p => p.clock) _ H.out ?_).mono ?_
  · intro y c0 c1 c2 c3 W _ _ hr
    exact clock1_any y c0 c1 c2 c3 W hr
  rintro e w1 ⟨rfl, g1⟩
  have G1 := hideIt (G.out.trans g1)
  clear g1
  go_wp2
  go_ret
  exact ⟨rfl, G1.out⟩
theorem has1_any (k : Int) (x : ArcD) (c0 c1 c2 c3 c4 c5 : Value) (g : Nat) (W : World) (hr : RArc W [c0, c1, c2, c3, c4, c5] x) (hb : W.cell? ⟨g, 0, none⟩ = some (.int .i64 k)) :
    Calls Tryd.prog 89 #[.agg #[c0, c1, c2, c3, c4, c5], .pointer (some ⟨g, 0, none⟩)] W fun e W' => e = .returned (.bool (decide (x.kind = k))) ∧ Grows W W' := by
  obtain ⟨rfl, rfl, rfl, rfl, -⟩ := hr.parts
  have lb := cell_lt hb
  simp at lb
  clear hr
  have E := hideIt (show (x.kind == k) = decide (x.kind = k) by rw [Bool.eq_iff_iff]; simp)
  go_enter Tryd.func89, Tryd.ntmps89
  go_wp2
  go_ret
  exact ⟨ret_bool (by rw [← E.out]), (Grows.refl _).alloc _⟩
set_option maxHeartbeats 400000 in
theorem has_any {v0 v1 v2 v3 v4 v5 v6 : Value} {x : CellD} (k : Int) (w : World) (h : RCell w [v0, v1, v2, v3, v4, v5, v6] x) :
    Calls Tryd.prog 66 #[.agg #[v0, v1, v2, v3, v4, v5, v6], .int .i64 k] w fun e w' => e = .returned (.bool (hasB x.arcs k)) ∧ Grows w w' := by
  obtain ⟨rfl, rfl, -, ha, -, rfl, rfl, -⟩ := h.parts
  obtain ⟨A, n0, rfl⟩ : ∃ (A : Option Addr) (n0 : Nat), v3 = .slice A x.arcs.length n0 := by obtain ⟨D, c, e, -⟩ := RList.form ha; exact ⟨D, c, e⟩
  have g0 := ((Grows.refl w).alloc (.cells #[.string x.name, .int .i64 x.kind, v2, .slice A x.arcs.length n0, v4, .int .i64 x.leak, .int .i64 x.energy] 32)).alloc (.cells #[.int .i64 k] 2)
  have H := hideIt (RArcs.keep ha g0.keeps)
  have G := hideIt g0
  clear ha h g0
  go_enter Tryd.func66, Tryd.ntmps66
  go_wp2_with fail
  refine (containsFuncArc_any 89 _ (fun args W => enters_of Tryd.func89 (by kernel_rfl) rfl args W) (fun a => decide (a.kind = k)) _ H.out ?_).mono ?_
  · intro y c0 c1 c2 c3 c4 c5 W _ gw hr
    exact has1_any k y c0 c1 c2 c3 c4 c5 _ W hr (gw.keeps _ _ (by simp))
  rintro e w1 ⟨rfl, g1⟩
  have G1 := hideIt (G.out.trans g1)
  clear g1
  go_wp2
  go_ret
  exact ⟨ret_bool (by rfl), G1.out⟩
end Go.Proofs.YtcaklodecejkhaaDoor
