/-
  DrawAddSpans gives two spans.
-/
import Derived.Test.YtciflcnfimpfgaaDrawS
import Derived.Deep.RegionHeld3
namespace Go.Proofs.Ytciflcnfimpfgaa
open Go.RowKit
set_option maxHeartbeats 4000000 in
theorem drawAddSpans_any {v : Value} {xs : List Int} {w : World} (hx : RBytes w v xs) :
    Calls Try.prog 13 #[v] w fun e w' => ∃ a1 a2 b1 b2 : Int, e = .returned (.tuple #[.agg #[.int .i64 a1, .int .i64 a2], .agg #[.int .i64 b1, .int .i64 b2]]) ∧ Grows w w' := by
  have gg0 := ((Grows.refl w).alloc (.cells #[.int .i64 0, .int .i64 0] 29)).alloc (.cells #[.int .i64 0, .int .i64 0] 29)
  have HX := hideIt hx
  have R1 := hideIt ((Blk.new w 29 #[.int .i64 0, .int .i64 0]).grows ((Grows.refl _).alloc (.cells #[.int .i64 0, .int .i64 0] 29)))
  have R2 := hideIt (Blk.new (w.alloc (.cells #[.int .i64 0, .int .i64 0] 29)) 29 #[.int .i64 0, .int .i64 0])
  have G := hideIt gg0
  simp only [World.size_alloc] at R2
  clear gg0 hx
  go_enter Try.func13, Try.ntmps13
  go_wp2_with fail
  refine (l01From_at HX.out G.out).mono ?_
  rintro e u0 ⟨b, rfl, h, hb0, g⟩
  simp only [World.size_alloc] at hb0
  replace h := hideIt h
  replace R1 := hideIt (R1.out.grows g)
  replace R2 := hideIt (R2.out.grows g)
  replace G := hideIt (G.out.trans g)
  clear g
  have n1 : ¬ w.heap.size = b := by omega
  have n2 : ¬ w.heap.size + 1 = b := by omega
  go_wp2_with fail
  refine (l01DrawSpan_any h.out).mono ?_
  rintro e u1 ⟨a1, a2, rfl, h_, c_⟩
  replace h := hideIt (h_.grows ((Grows.refl _).alloc (.cells #[.int .i64 a1, .int .i64 a2] 29)))
  replace R1 := hideIt ((R1.out.chg c_ (by simpa using n1)).grows ((Grows.refl _).alloc (.cells #[.int .i64 a1, .int .i64 a2] 29)))
  replace R2 := hideIt ((R2.out.chg c_ (by simpa using n2)).grows ((Grows.refl _).alloc (.cells #[.int .i64 a1, .int .i64 a2] 29)))
  have G1 := hideIt ((G.out.chg c_ (by simp; omega)).alloc (.cells #[.int .i64 a1, .int .i64 a2] 29))
  have A := hideIt (Blk.new u1 29 #[.int .i64 a1, .int .i64 a2])
  have l1 : w.heap.size < u1.heap.size + 1 := by have := R1.out.lt; simpa using this
  have l2 : w.heap.size + 1 < u1.heap.size + 1 := by have := R2.out.lt; simpa using this
  have l4 : b < u1.heap.size := h_.ge.2.2
  have l3 : w.heap.size + 1 < u1.heap.size := by omega
  clear h_ c_ G
  obtain ⟨base, eb⟩ : ∃ base : World, base = u1.alloc (.cells #[.int .i64 a1, .int .i64 a2] 29) := ⟨_, rfl⟩
  have sb : base.heap.size = u1.heap.size + 1 := by rw [eb]; simp
  rw [← eb] at h R1 R2 G1 A
  have kA0 : base.cell? ⟨u1.heap.size, 0, none⟩ = some (.int .i64 a1) := A.out.cell 0
  have kA1 : base.cell? ⟨u1.heap.size, 1, none⟩ = some (.int .i64 a2) := A.out.cell 1
  have k10 : base.cell? ⟨w.heap.size, 0, none⟩ = some (.int .i64 0) := R1.out.cell 0
  have k11 : base.cell? ⟨w.heap.size, 1, none⟩ = some (.int .i64 0) := R1.out.cell 1
  have k20 : base.cell? ⟨w.heap.size + 1, 0, none⟩ = some (.int .i64 0) := R2.out.cell 0
  have k21 : base.cell? ⟨w.heap.size + 1, 1, none⟩ = some (.int .i64 0) := R2.out.cell 1
  have f1 := R1.out.frozen
  have f2 := R2.out.frozen
  go_wp2_with fail
  rw [← eb]
  clear eb
  have K0 : ∀ w', Chg [b, w.heap.size, w.heap.size + 1] base w' → w'.cell? ⟨u1.heap.size, 0, none⟩ = some (.int .i64 a1) ∧ w'.cell? ⟨u1.heap.size, 1, none⟩ = some (.int .i64 a2) ∧ Chg [b, w.heap.size, w.heap.size + 1] base w' := fun w' c =>
    ⟨(c.cells.1 _ _ (by omega) (by simp; omega)).trans kA0, (c.cells.1 _ _ (by omega) (by simp; omega)).trans kA1, c⟩
  have HK := hideIt K0
  clear K0
  have gg : Chg [b, w.heap.size, w.heap.size + 1] base base := Chg.refl _ _
  go_region_held3 (fun w' => w'.cell? ⟨u1.heap.size, 0, none⟩ = some (.int .i64 a1) ∧ w'.cell? ⟨u1.heap.size, 1, none⟩ = some (.int .i64 a2) ∧ Chg [b, w.heap.size, w.heap.size + 1] base w')
    ((refine HK.out _ ?_; (repeat (first | exact gg | refine Chg.drew ?_ | refine Chg.setCell ?_ (by simp) _))))
    (first | (go_at_call 44; refine (l01DrawSpan_any (w0 := w) (SrcAt.chg (bs := [w.heap.size, w.heap.size + 1]) h.out (by repeat (first | exact Chg.refl _ _ | refine Chg.drew ?_ | refine Chg.setCell ?_ (by simp) _)) (by simp; omega) (by simp))).mono ?_; rintro e wx ⟨b1, b2, rfl, h2, c2⟩; have x1 := fun o => c2.cells.1 w.heap.size o (by simp; omega) (by simpa using n1); have x2 := fun o => c2.cells.1 (w.heap.size + 1) o (by simp; omega) (by simpa using n2); have y1 := fun o => c2.cells.2 w.heap.size o (by simp; omega) (by simpa using n1); have y2 := fun o => c2.cells.2 (w.heap.size + 1) o (by simp; omega) (by simpa using n2); replace gg : Chg [b, w.heap.size, w.heap.size + 1] base wx := Chg.trans (by repeat (first | exact gg | refine Chg.drew ?_ | refine Chg.setCell ?_ (by simp) _)) (c2.mono (by simp))))
  all_goals go_split_ands
  all_goals go_wp2
  all_goals refine bodyPost_ret (by simp [*, results, Try.results13, go_sem]; try rfl) rfl ?_
  all_goals exact ⟨_, _, _, _, rfl, by repeat (first | exact G1.out.chg gg (by simp; omega) | refine Grows.drew ?_ | refine Grows.setCell ?_ (by simp <;> omega) _)⟩
end Go.Proofs.Ytciflcnfimpfgaa
