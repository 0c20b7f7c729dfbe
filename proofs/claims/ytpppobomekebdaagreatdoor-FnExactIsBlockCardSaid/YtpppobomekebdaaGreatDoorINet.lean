/-
  Contracts of small methods of a design: whether a number is a net; lengths.
-/
import Derived.Test.YtpppobomekebdaaGreatDoorSParts
import Derived.Test.YtpppobomekebdaaGreatDoorGK
namespace Go.Proofs.YtpppobomekebdaaGreatDoor
open Go.RowKit
theorem lenStr_any {v : Value} {xs : List ByteArray} {w0 : World} (w : World) (h : RStrs w0 v xs) :
    Calls Tryz.prog 140 #[v] w fun e w' => e = .returned (.int .i64 (xs.length : Int)) ∧ Grows w w' := by
  have hl := RList.len h
  obtain ⟨A, c, rfl, -, -, -⟩ := RList.form h
  clear h
  go_enter Tryz.func140, Tryz.ntmps140
  go_wp2
  go_ret
  exact ⟨rfl, Grows.refl _⟩
theorem lenCell_any {v : Value} {xs : List CellD} {w0 : World} (w : World) (h : RCells w0 v xs) :
    Calls Tryz.prog 137 #[v] w fun e w' => e = .returned (.int .i64 (xs.length : Int)) ∧ Grows w w' := by
  have hl := RList.len h
  obtain ⟨A, c, rfl, -, -, -⟩ := RList.form h
  clear h
  go_enter Tryz.func137, Tryz.ntmps137
  go_wp2
  go_ret
  exact ⟨rfl, Grows.refl _⟩
theorem within_g (n lo hi : Int) (w : World) : Calls Tryz.prog 60 #[.int .i64 n, .int .i64 lo, .int .i64 hi] w fun e w' => e = .returned (.bool (inB n lo hi)) ∧ Grows w w' :=
  (within_any n lo hi w).mono fun _ _ ⟨he, hw⟩ => ⟨he, by rw [← hw]; exact Grows.refl _⟩
/-- a design's parts in visible shape -/
theorem des_open {w : World} {a b c : Value} {d : DesignD} (h : RDesign w [a, b, c] d) : ∃ (I N O : Option Addr) (ni nn no : Nat), a = .slice I d.insts.length ni ∧ b = .slice N d.nets.length nn ∧ c = .slice O d.ports.length no := by
  obtain ⟨h1, h2, h3⟩ := h.parts
  obtain ⟨I, ni, e1, -⟩ := RList.form h1
  obtain ⟨N, nn, e2, -⟩ := RList.form h2
  obtain ⟨O, no, e3, -⟩ := RList.form h3
  exact ⟨I, N, O, ni, nn, no, e1, e2, e3⟩
set_option maxHeartbeats 1000000 in
theorem isNet_any {a b c : Value} {d : DesignD} (n : Int) (w : World) (h : RDesign w [a, b, c] d) :
    Calls Tryz.prog 93 #[.agg #[a, b, c], .int .i64 n] w fun e w' => e = .returned (.bool (netIn d n)) ∧ Grows w w' := by
  have nl := RList.len h.parts.2.1
  obtain ⟨I, N, O, ni, nn, no, rfl, rfl, rfl⟩ := des_open h
  have g0 := (Grows.refl w).alloc (.cells #[.slice I d.insts.length ni, .slice N d.nets.length nn, .slice O d.ports.length no] 41)
  have HN := hideIt (RStrs.keep h.parts.2.1 g0.keeps)
  have G := hideIt g0
  clear h g0
  go_enter Tryz.func93, Tryz.ntmps93
  go_wp2_with fail
  refine (lenStr_any _ HN.out).mono ?_
  rintro e w1 ⟨rfl, g1⟩
  have G1 := hideIt (G.out.trans g1)
  clear g1
  go_wp2_with (go_at_call 60; refine (within_any _ _ _ _).mono ?_; rintro e w' ⟨rfl, rfl⟩)
  go_ret
  exact ⟨rfl, G1.out⟩
end Go.Proofs.YtpppobomekebdaaGreatDoor
