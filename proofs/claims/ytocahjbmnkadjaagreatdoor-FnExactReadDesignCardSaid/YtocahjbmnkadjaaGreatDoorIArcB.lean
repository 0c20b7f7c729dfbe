/-
  Contract of the program's test of an arc.
-/
import Derived.Test.YtocahjbmnkadjaaGreatDoorGJ
import Derived.Test.YtocahjbmnkadjaaGreatDoorGH
namespace Go.Proofs.YtocahjbmnkadjaaGreatDoor
open Go.RowKit
set_option maxHeartbeats 4000000 in
theorem isArc_oth {v0 v1 v3 v4 v5 v6 : Value} {x : CellD} {A D E : Option Addr} {n0 nd ne : Nat} {kind src dst sense : Int} {delay slew : List TableD} (w : World) (h : RCell w [v0, v1, .slice A x.pins.length n0, v3, v4, v5, v6] x) (hd : RTables w (.slice D delay.length nd) delay) (hs : RTables w (.slice E slew.length ne) slew) (hk : ¬ (kind = 4 ∨ kind = 5)) :
    Calls Tryz.prog 113 #[.agg #[v0, v1, .slice A x.pins.length n0, v3, v4, v5, v6], .agg #[.int .i64 kind, .int .i64 src, .int .i64 dst, .int .i64 sense, .slice D delay.length nd, .slice E slew.length ne]] w fun e w' => e = .returned (.bool (iArcB x.pins ⟨kind, src, dst, sense, delay, slew⟩)) ∧ Grows w w' := by
  have pl := RList.len h.parts.2.2.1
  have sl := RList.len hs
  have g0 := ((Grows.refl w).alloc (.cells #[v0, v1, .slice A x.pins.length n0, v3, v4, v5, v6] 71)).alloc (.cells #[.int .i64 kind, .int .i64 src, .int .i64 dst, .int .i64 sense, .slice D delay.length nd, .slice E slew.length ne] 101)
  have G := hideIt g0
  have HC := hideIt (h.keep g0.keeps)
  have HD := hideIt (hd.keep g0.keeps)
  have HS := hideIt (hs.keep g0.keeps)
  have B1 := hideIt ((Blk.new w 71 #[v0, v1, .slice A x.pins.length n0, v3, v4, v5, v6]).grows ((Grows.refl _).alloc (.cells #[.int .i64 kind, .int .i64 src, .int .i64 dst, .int .i64 sense, .slice D delay.length nd, .slice E slew.length ne] 101)))
  have B2 : Hid (Blk ((w.alloc (.cells #[v0, v1, .slice A x.pins.length n0, v3, v4, v5, v6] 71)).alloc (.cells #[.int .i64 kind, .int .i64 src, .int .i64 dst, .int .i64 sense, .slice D delay.length nd, .slice E slew.length ne] 101)) (w.heap.size + 1) 101 #[.int .i64 kind, .int .i64 src, .int .i64 dst, .int .i64 sense, .slice D delay.length nd, .slice E slew.length ne]) := by
    have := Blk.new (w.alloc (.cells #[v0, v1, .slice A x.pins.length n0, v3, v4, v5, v6] 71)) 101 #[.int .i64 kind, .int .i64 src, .int .i64 dst, .int .i64 sense, .slice D delay.length nd, .slice E slew.length ne]
    exact hideIt (by simpa using this)
  have CK := hideIt (show chkB kind = false by unfold chkB; exact decide_eq_false hk)
  have hx : ∀ (i : Nat) (p : PinD), x.pins[i]? = some p → ∃ b off : Nat, A = some ⟨b, off, none⟩ ∧ ((w.alloc (.cells #[v0, v1, .slice A x.pins.length n0, v3, v4, v5, v6] 71)).alloc (.cells #[.int .i64 kind, .int .i64 src, .int .i64 dst, .int .i64 sense, .slice D delay.length nd, .slice E slew.length ne] 101)).cell? ⟨b, off + i * 4 + 3, none⟩ = some (.bool p.clock) := by
    intro i p hp
    obtain ⟨A', n1, e, -, -, hx⟩ := RList.form h.parts.2.2.1
    injection e with e1 e2
    subst e1
    obtain ⟨b, off, rfl, cs, hl1, hcs, hr⟩ := hx i p hp
    obtain ⟨d0, d1, d2, d3, rfl⟩ := list4 hl1
    obtain ⟨rfl, rfl, rfl, rfl, -⟩ := hr.parts
    exact ⟨b, off, rfl, g0.keeps _ _ (by simpa [Nat.add_assoc] using hcs 3 _ rfl)⟩
  have HX := hideIt hx
  clear h hd hs g0 hx
  cases z2 : tablesB delay true
  · skip
    have K0 : ∀ w', Grows ((w.alloc (.cells #[v0, v1, .slice A x.pins.length n0, v3, v4, v5, v6] 71)).alloc (.cells #[.int .i64 kind, .int .i64 src, .int .i64 dst, .int .i64 sense, .slice D delay.length nd, .slice E slew.length ne] 101)) w' → w'.cell? ⟨w.heap.size, 0, none⟩ = some (v0) ∧ w'.cell? ⟨w.heap.size, 1, none⟩ = some (v1) ∧ w'.cell? ⟨w.heap.size, 2, none⟩ = some (.slice A x.pins.length n0) ∧ w'.cell? ⟨w.heap.size, 3, none⟩ = some (v3) ∧ w'.cell? ⟨w.heap.size, 4, none⟩ = some (v4) ∧ w'.cell? ⟨w.heap.size, 5, none⟩ = some (v5) ∧ w'.cell? ⟨w.heap.size, 6, none⟩ = some (v6) ∧ w'.cell? ⟨w.heap.size + 1, 0, none⟩ = some (.int .i64 kind) ∧ w'.cell? ⟨w.heap.size + 1, 1, none⟩ = some (.int .i64 src) ∧ w'.cell? ⟨w.heap.size + 1, 2, none⟩ = some (.int .i64 dst) ∧ w'.cell? ⟨w.heap.size + 1, 3, none⟩ = some (.int .i64 sense) ∧ w'.cell? ⟨w.heap.size + 1, 4, none⟩ = some (.slice D delay.length nd) ∧ w'.cell? ⟨w.heap.size + 1, 5, none⟩ = some (.slice E slew.length ne) ∧ Grows ((w.alloc (.cells #[v0, v1, .slice A x.pins.length n0, v3, v4, v5, v6] 71)).alloc (.cells #[.int .i64 kind, .int .i64 src, .int .i64 dst, .int .i64 sense, .slice D delay.length nd, .slice E slew.length ne] 101)) w' := fun w' G => ⟨(G.cells.1 _ _ (B1.out.lt)).trans (B1.out.cell 0), (G.cells.1 _ _ (B1.out.lt)).trans (B1.out.cell 1), (G.cells.1 _ _ (B1.out.lt)).trans (B1.out.cell 2), (G.cells.1 _ _ (B1.out.lt)).trans (B1.out.cell 3), (G.cells.1 _ _ (B1.out.lt)).trans (B1.out.cell 4), (G.cells.1 _ _ (B1.out.lt)).trans (B1.out.cell 5), (G.cells.1 _ _ (B1.out.lt)).trans (B1.out.cell 6), (G.cells.1 _ _ (B2.out.lt)).trans (B2.out.cell 0), (G.cells.1 _ _ (B2.out.lt)).trans (B2.out.cell 1), (G.cells.1 _ _ (B2.out.lt)).trans (B2.out.cell 2), (G.cells.1 _ _ (B2.out.lt)).trans (B2.out.cell 3), (G.cells.1 _ _ (B2.out.lt)).trans (B2.out.cell 4), (G.cells.1 _ _ (B2.out.lt)).trans (B2.out.cell 5), G⟩
    have HK := hideIt K0
    clear K0
    have gg : Grows ((w.alloc (.cells #[v0, v1, .slice A x.pins.length n0, v3, v4, v5, v6] 71)).alloc (.cells #[.int .i64 kind, .int .i64 src, .int .i64 dst, .int .i64 sense, .slice D delay.length nd, .slice E slew.length ne] 101)) ((w.alloc (.cells #[v0, v1, .slice A x.pins.length n0, v3, v4, v5, v6] 71)).alloc (.cells #[.int .i64 kind, .int .i64 src, .int .i64 dst, .int .i64 sense, .slice D delay.length nd, .slice E slew.length ne] 101)) := Grows.refl _
    have EP := hideIt (show iArcB x.pins ⟨kind, src, dst, sense, delay, slew⟩ = false by unfold iArcB; simp [hk, z2])
    have F4 := hideIt z2
    clear hk z2
    go_enter Tryz.func113, Tryz.ntmps113
    go_wp2_with (go_at_call 140; refine (isCheck_any _ _).mono ?_; rintro e w' ⟨rfl, rfl⟩; rw [CK.out])
    refine wp_region_held_drew (S := (fun w' => w'.cell? ⟨w.heap.size, 0, none⟩ = some (v0) ∧ w'.cell? ⟨w.heap.size, 1, none⟩ = some (v1) ∧ w'.cell? ⟨w.heap.size, 2, none⟩ = some (.slice A x.pins.length n0) ∧ w'.cell? ⟨w.heap.size, 3, none⟩ = some (v3) ∧ w'.cell? ⟨w.heap.size, 4, none⟩ = some (v4) ∧ w'.cell? ⟨w.heap.size, 5, none⟩ = some (v5) ∧ w'.cell? ⟨w.heap.size, 6, none⟩ = some (v6) ∧ w'.cell? ⟨w.heap.size + 1, 0, none⟩ = some (.int .i64 kind) ∧ w'.cell? ⟨w.heap.size + 1, 1, none⟩ = some (.int .i64 src) ∧ w'.cell? ⟨w.heap.size + 1, 2, none⟩ = some (.int .i64 dst) ∧ w'.cell? ⟨w.heap.size + 1, 3, none⟩ = some (.int .i64 sense) ∧ w'.cell? ⟨w.heap.size + 1, 4, none⟩ = some (.slice D delay.length nd) ∧ w'.cell? ⟨w.heap.size + 1, 5, none⟩ = some (.slice E slew.length ne) ∧ Grows ((w.alloc (.cells #[v0, v1, .slice A x.pins.length n0, v3, v4, v5, v6] 71)).alloc (.cells #[.int .i64 kind, .int .i64 src, .int .i64 dst, .int .i64 sense, .slice D delay.length nd, .slice E slew.length ne] 101)) w')) (by kernel_rfl) ?_ (fun hh0 => ?_)
    · (try dsimp only); exact HK.out _ gk
    refine regTk 0 hh0 ?_
    refine regTk 1 hh0 ?_
    refine regCall 2 (fun K hK => ?_)
    go_simp
    refine (areTables_any true _ (RTables.keep HD.out (Grows.keeps gk))).mono ?_
    rintro e wx ⟨rfl, g⟩
    rw [F4.out]
    replace gg := gg.gt g
    clear g
    (try go_wp2_with fail)
    refine hK.out _ _ ?_ (fun hh1 => ?_)
    · (try dsimp only); exact HK.out _ gk
    clear hK K hh0
    try simp only [Act.put, List.setIfInBounds_toArray, List.set_cons_zero, List.set_cons_succ]
    refine regTk 3 hh1 ?_
    refine regTk 4 hh1 ?_
    refine regSk 5 hh1 ?_
    refine regSk 6 hh1 ?_
    refine regSk 7 hh1 ?_
    refine regSk 8 hh1 ?_
    refine regTk 9 hh1 ?_
    refine regTk 10 hh1 ?_
    refine regSk 11 hh1 ?_
    refine regSk 12 hh1 ?_
    refine regSk 13 hh1 ?_
    refine regSk 14 hh1 ?_
    refine regSk 15 hh1 ?_
    refine regTk 16 hh1 ?_
    refine regTk 17 hh1 ?_
    refine regSk 18 hh1 ?_
    refine regSk 19 hh1 ?_
    refine regSk 20 hh1 ?_
    refine regSk 21 hh1 ?_
    refine regSk 22 hh1 ?_
    refine regTk 23 hh1 ?_
    refine wpAnyH_done (by kernel_rfl) ?_ _
    (try dsimp only at hh1)
    obtain ⟨y_0, y_1, y_2, y_3, y_4, y_5, y_6, y_7, y_8, y_9, y_10, y_11, y_12, -⟩ := hh1
    all_goals go_wp2
    all_goals go_ret
    all_goals exact ⟨ret_bool EP.out.symm, G.out.trans gk⟩
  cases z3 : tablesB slew true
  · skip
    have K0 : ∀ w', Grows ((w.alloc (.cells #[v0, v1, .slice A x.pins.length n0, v3, v4, v5, v6] 71)).alloc (.cells #[.int .i64 kind, .int .i64 src, .int .i64 dst, .int .i64 sense, .slice D delay.length nd, .slice E slew.length ne] 101)) w' → w'.cell? ⟨w.heap.size, 0, none⟩ = some (v0) ∧ w'.cell? ⟨w.heap.size, 1, none⟩ = some (v1) ∧ w'.cell? ⟨w.heap.size, 2, none⟩ = some (.slice A x.pins.length n0) ∧ w'.cell? ⟨w.heap.size, 3, none⟩ = some (v3) ∧ w'.cell? ⟨w.heap.size, 4, none⟩ = some (v4) ∧ w'.cell? ⟨w.heap.size, 5, none⟩ = some (v5) ∧ w'.cell? ⟨w.heap.size, 6, none⟩ = some (v6) ∧ w'.cell? ⟨w.heap.size + 1, 0, none⟩ = some (.int .i64 kind) ∧ w'.cell? ⟨w.heap.size + 1, 1, none⟩ = some (.int .i64 src) ∧ w'.cell? ⟨w.heap.size + 1, 2, none⟩ = some (.int .i64 dst) ∧ w'.cell? ⟨w.heap.size + 1, 3, none⟩ = some (.int .i64 sense) ∧ w'.cell? ⟨w.heap.size + 1, 4, none⟩ = some (.slice D delay.length nd) ∧ w'.cell? ⟨w.heap.size + 1, 5, none⟩ = some (.slice E slew.length ne) ∧ Grows ((w.alloc (.cells #[v0, v1, .slice A x.pins.length n0, v3, v4, v5, v6] 71)).alloc (.cells #[.int .i64 kind, .int .i64 src, .int .i64 dst, .int .i64 sense, .slice D delay.length nd, .slice E slew.length ne] 101)) w' := fun w' G => ⟨(G.cells.1 _ _ (B1.out.lt)).trans (B1.out.cell 0), (G.cells.1 _ _ (B1.out.lt)).trans (B1.out.cell 1), (G.cells.1 _ _ (B1.out.lt)).trans (B1.out.cell 2), (G.cells.1 _ _ (B1.out.lt)).trans (B1.out.cell 3), (G.cells.1 _ _ (B1.out.lt)).trans (B1.out.cell 4), (G.cells.1 _ _ (B1.out.lt)).trans (B1.out.cell 5), (G.cells.1 _ _ (B1.out.lt)).trans (B1.out.cell 6), (G.cells.1 _ _ (B2.out.lt)).trans (B2.out.cell 0), (G.cells.1 _ _ (B2.out.lt)).trans (B2.out.cell 1), (G.cells.1 _ _ (B2.out.lt)).trans (B2.out.cell 2), (G.cells.1 _ _ (B2.out.lt)).trans (B2.out.cell 3), (G.cells.1 _ _ (B2.out.lt)).trans (B2.out.cell 4), (G.cells.1 _ _ (B2.out.lt)).trans (B2.out.cell 5), G⟩
    have HK := hideIt K0
    clear K0
    have gg : Grows ((w.alloc (.cells #[v0, v1, .slice A x.pins.length n0, v3, v4, v5, v6] 71)).alloc (.cells #[.int .i64 kind, .int .i64 src, .int .i64 dst, .int .i64 sense, .slice D delay.length nd, .slice E slew.length ne] 101)) ((w.alloc (.cells #[v0, v1, .slice A x.pins.length n0, v3, v4, v5, v6] 71)).alloc (.cells #[.int .i64 kind, .int .i64 src, .int .i64 dst, .int .i64 sense, .slice D delay.length nd, .slice E slew.length ne] 101)) := Grows.refl _
    have EP := hideIt (show iArcB x.pins ⟨kind, src, dst, sense, delay, slew⟩ = false by unfold iArcB; simp [hk, z3])
    have F4 := hideIt z2
    have F5 := hideIt z3
    clear hk z2 z3
    go_enter Tryz.func113, Tryz.ntmps113
    go_wp2_with (go_at_call 140; refine (isCheck_any _ _).mono ?_; rintro e w' ⟨rfl, rfl⟩; rw [CK.out])
    refine wp_region_held_drew (S := (fun w' => w'.cell? ⟨w.heap.size, 0, none⟩ = some (v0) ∧ w'.cell? ⟨w.heap.size, 1, none⟩ = some (v1) ∧ w'.cell? ⟨w.heap.size, 2, none⟩ = some (.slice A x.pins.length n0) ∧ w'.cell? ⟨w.heap.size, 3, none⟩ = some (v3) ∧ w'.cell? ⟨w.heap.size, 4, none⟩ = some (v4) ∧ w'.cell? ⟨w.heap.size, 5, none⟩ = some (v5) ∧ w'.cell? ⟨w.heap.size, 6, none⟩ = some (v6) ∧ w'.cell? ⟨w.heap.size + 1, 0, none⟩ = some (.int .i64 kind) ∧ w'.cell? ⟨w.heap.size + 1, 1, none⟩ = some (.int .i64 src) ∧ w'.cell? ⟨w.heap.size + 1, 2, none⟩ = some (.int .i64 dst) ∧ w'.cell? ⟨w.heap.size + 1, 3, none⟩ = some (.int .i64 sense) ∧ w'.cell? ⟨w.heap.size + 1, 4, none⟩ = some (.slice D delay.length nd) ∧ w'.cell? ⟨w.heap.size + 1, 5, none⟩ = some (.slice E slew.length ne) ∧ Grows ((w.alloc (.cells #[v0, v1, .slice A x.pins.length n0, v3, v4, v5, v6] 71)).alloc (.cells #[.int .i64 kind, .int .i64 src, .int .i64 dst, .int .i64 sense, .slice D delay.length nd, .slice E slew.length ne] 101)) w')) (by kernel_rfl) ?_ (fun hh0 => ?_)
    · (try dsimp only); exact HK.out _ gk
    refine regTk 0 hh0 ?_
    refine regTk 1 hh0 ?_
    refine regCall 2 (fun K hK => ?_)
    go_simp
    refine (areTables_any true _ (RTables.keep HD.out (Grows.keeps gk))).mono ?_
    rintro e wx ⟨rfl, g⟩
    rw [F4.out]
    replace gg := gg.gt g
    clear g
    (try go_wp2_with fail)
    refine hK.out _ _ ?_ (fun hh1 => ?_)
    · (try dsimp only); exact HK.out _ gk
    clear hK K hh0
    try simp only [Act.put, List.setIfInBounds_toArray, List.set_cons_zero, List.set_cons_succ]
    refine regTk 3 hh1 ?_
    refine regTk 4 hh1 ?_
    refine regTk 5 hh1 ?_
    refine regTk 6 hh1 ?_
    refine regCall 7 (fun K hK => ?_)
    go_simp
    refine (areTables_any true _ (RTables.keep HS.out (Grows.keeps gk))).mono ?_
    rintro e wx ⟨rfl, g⟩
    rw [F5.out]
    replace gg := gg.gt g
    clear g
    (try go_wp2_with fail)
    refine hK.out _ _ ?_ (fun hh2 => ?_)
    · (try dsimp only); exact HK.out _ gk
    clear hK K hh1
    try simp only [Act.put, List.setIfInBounds_toArray, List.set_cons_zero, List.set_cons_succ]
    refine regTk 8 hh2 ?_
    refine regTk 9 hh2 ?_
    refine regTk 10 hh2 ?_
    refine regSk 11 hh2 ?_
    refine regSk 12 hh2 ?_
    refine regSk 13 hh2 ?_
    refine regSk 14 hh2 ?_
    refine regSk 15 hh2 ?_
    refine regTk 16 hh2 ?_
    refine regTk 17 hh2 ?_
    refine regSk 18 hh2 ?_
    refine regSk 19 hh2 ?_
    refine regSk 20 hh2 ?_
    refine regSk 21 hh2 ?_
    refine regSk 22 hh2 ?_
    refine regTk 23 hh2 ?_
    refine wpAnyH_done (by kernel_rfl) ?_ _
    (try dsimp only at hh2)
    obtain ⟨y_0, y_1, y_2, y_3, y_4, y_5, y_6, y_7, y_8, y_9, y_10, y_11, y_12, -⟩ := hh2
    all_goals go_wp2
    all_goals go_ret
    all_goals exact ⟨ret_bool EP.out.symm, G.out.trans gk⟩
  by_cases z4 : dst = (x.pins.length : Int) - 1
  rotate_left
  · have y4 : (dst != (x.pins.length : Int) - 1) = true := by simpa using z4
    have K0 : ∀ w', Grows ((w.alloc (.cells #[v0, v1, .slice A x.pins.length n0, v3, v4, v5, v6] 71)).alloc (.cells #[.int .i64 kind, .int .i64 src, .int .i64 dst, .int .i64 sense, .slice D delay.length nd, .slice E slew.length ne] 101)) w' → w'.cell? ⟨w.heap.size, 0, none⟩ = some (v0) ∧ w'.cell? ⟨w.heap.size, 1, none⟩ = some (v1) ∧ w'.cell? ⟨w.heap.size, 2, none⟩ = some (.slice A x.pins.length n0) ∧ w'.cell? ⟨w.heap.size, 3, none⟩ = some (v3) ∧ w'.cell? ⟨w.heap.size, 4, none⟩ = some (v4) ∧ w'.cell? ⟨w.heap.size, 5, none⟩ = some (v5) ∧ w'.cell? ⟨w.heap.size, 6, none⟩ = some (v6) ∧ w'.cell? ⟨w.heap.size + 1, 0, none⟩ = some (.int .i64 kind) ∧ w'.cell? ⟨w.heap.size + 1, 1, none⟩ = some (.int .i64 src) ∧ w'.cell? ⟨w.heap.size + 1, 2, none⟩ = some (.int .i64 dst) ∧ w'.cell? ⟨w.heap.size + 1, 3, none⟩ = some (.int .i64 sense) ∧ w'.cell? ⟨w.heap.size + 1, 4, none⟩ = some (.slice D delay.length nd) ∧ w'.cell? ⟨w.heap.size + 1, 5, none⟩ = some (.slice E slew.length ne) ∧ Grows ((w.alloc (.cells #[v0, v1, .slice A x.pins.length n0, v3, v4, v5, v6] 71)).alloc (.cells #[.int .i64 kind, .int .i64 src, .int .i64 dst, .int .i64 sense, .slice D delay.length nd, .slice E slew.length ne] 101)) w' := fun w' G => ⟨(G.cells.1 _ _ (B1.out.lt)).trans (B1.out.cell 0), (G.cells.1 _ _ (B1.out.lt)).trans (B1.out.cell 1), (G.cells.1 _ _ (B1.out.lt)).trans (B1.out.cell 2), (G.cells.1 _ _ (B1.out.lt)).trans (B1.out.cell 3), (G.cells.1 _ _ (B1.out.lt)).trans (B1.out.cell 4), (G.cells.1 _ _ (B1.out.lt)).trans (B1.out.cell 5), (G.cells.1 _ _ (B1.out.lt)).trans (B1.out.cell 6), (G.cells.1 _ _ (B2.out.lt)).trans (B2.out.cell 0), (G.cells.1 _ _ (B2.out.lt)).trans (B2.out.cell 1), (G.cells.1 _ _ (B2.out.lt)).trans (B2.out.cell 2), (G.cells.1 _ _ (B2.out.lt)).trans (B2.out.cell 3), (G.cells.1 _ _ (B2.out.lt)).trans (B2.out.cell 4), (G.cells.1 _ _ (B2.out.lt)).trans (B2.out.cell 5), G⟩
    have HK := hideIt K0
    clear K0
    have gg : Grows ((w.alloc (.cells #[v0, v1, .slice A x.pins.length n0, v3, v4, v5, v6] 71)).alloc (.cells #[.int .i64 kind, .int .i64 src, .int .i64 dst, .int .i64 sense, .slice D delay.length nd, .slice E slew.length ne] 101)) ((w.alloc (.cells #[v0, v1, .slice A x.pins.length n0, v3, v4, v5, v6] 71)).alloc (.cells #[.int .i64 kind, .int .i64 src, .int .i64 dst, .int .i64 sense, .slice D delay.length nd, .slice E slew.length ne] 101)) := Grows.refl _
    have EP := hideIt (show iArcB x.pins ⟨kind, src, dst, sense, delay, slew⟩ = false by unfold iArcB; simp [hk, z4])
    have F4 := hideIt z2
    have F5 := hideIt z3
    clear hk z2 z3 z4
    go_enter Tryz.func113, Tryz.ntmps113
    go_wp2_with (go_at_call 140; refine (isCheck_any _ _).mono ?_; rintro e w' ⟨rfl, rfl⟩; rw [CK.out])
    refine wp_region_held_drew (S := (fun w' => w'.cell? ⟨w.heap.size, 0, none⟩ = some (v0) ∧ w'.cell? ⟨w.heap.size, 1, none⟩ = some (v1) ∧ w'.cell? ⟨w.heap.size, 2, none⟩ = some (.slice A x.pins.length n0) ∧ w'.cell? ⟨w.heap.size, 3, none⟩ = some (v3) ∧ w'.cell? ⟨w.heap.size, 4, none⟩ = some (v4) ∧ w'.cell? ⟨w.heap.size, 5, none⟩ = some (v5) ∧ w'.cell? ⟨w.heap.size, 6, none⟩ = some (v6) ∧ w'.cell? ⟨w.heap.size + 1, 0, none⟩ = some (.int .i64 kind) ∧ w'.cell? ⟨w.heap.size + 1, 1, none⟩ = some (.int .i64 src) ∧ w'.cell? ⟨w.heap.size + 1, 2, none⟩ = some (.int .i64 dst) ∧ w'.cell? ⟨w.heap.size + 1, 3, none⟩ = some (.int .i64 sense) ∧ w'.cell? ⟨w.heap.size + 1, 4, none⟩ = some (.slice D delay.length nd) ∧ w'.cell? ⟨w.heap.size + 1, 5, none⟩ = some (.slice E slew.length ne) ∧ Grows ((w.alloc (.cells #[v0, v1, .slice A x.pins.length n0, v3, v4, v5, v6] 71)).alloc (.cells #[.int .i64 kind, .int .i64 src, .int .i64 dst, .int .i64 sense, .slice D delay.length nd, .slice E slew.length ne] 101)) w')) (by kernel_rfl) ?_ (fun hh0 => ?_)
    · (try dsimp only); exact HK.out _ gk
    refine regTk 0 hh0 ?_
    refine regTk 1 hh0 ?_
    refine regCall 2 (fun K hK => ?_)
    go_simp
    refine (areTables_any true _ (RTables.keep HD.out (Grows.keeps gk))).mono ?_
    rintro e wx ⟨rfl, g⟩
    rw [F4.out]
    replace gg := gg.gt g
    clear g
    (try go_wp2_with fail)
    refine hK.out _ _ ?_ (fun hh1 => ?_)
    · (try dsimp only); exact HK.out _ gk
    clear hK K hh0
    try simp only [Act.put, List.setIfInBounds_toArray, List.set_cons_zero, List.set_cons_succ]
    refine regTk 3 hh1 ?_
    refine regTk 4 hh1 ?_
    refine regTk 5 hh1 ?_
    refine regTk 6 hh1 ?_
    refine regCall 7 (fun K hK => ?_)
    go_simp
    refine (areTables_any true _ (RTables.keep HS.out (Grows.keeps gk))).mono ?_
    rintro e wx ⟨rfl, g⟩
    rw [F5.out]
    replace gg := gg.gt g
    clear g
    (try go_wp2_with fail)
    refine hK.out _ _ ?_ (fun hh2 => ?_)
    · (try dsimp only); exact HK.out _ gk
    clear hK K hh1
    try simp only [Act.put, List.setIfInBounds_toArray, List.set_cons_zero, List.set_cons_succ]
    refine regTk 8 hh2 ?_
    refine regTk 9 hh2 ?_
    refine regTk 10 hh2 ?_
    refine regTk 11 hh2 ?_
    refine regTk 12 hh2 ?_
    refine regTk 13 hh2 ?_
    refine regCall 14 (fun K hK => ?_)
    go_simp
    refine (output_any _ (HC.out.keep (Grows.keeps gk))).mono ?_
    rintro e wx ⟨rfl, g⟩
    replace gg := gg.gt g
    clear g
    (try go_wp2_with fail)
    refine hK.out _ _ ?_ (fun hh3 => ?_)
    · (try dsimp only); exact HK.out _ gk
    clear hK K hh2
    try simp only [Act.put, List.setIfInBounds_toArray, List.set_cons_zero, List.set_cons_succ]
    refine regTk 15 hh3 ?_
    refine regTk 16 hh3 ?_
    refine regTk 17 hh3 ?_
    refine regSk 18 hh3 ?_
    refine regSk 19 hh3 ?_
    refine regSk 20 hh3 ?_
    refine regSk 21 hh3 ?_
    refine regSk 22 hh3 ?_
    refine regTk 23 hh3 ?_
    refine wpAnyH_done (by kernel_rfl) ?_ _
    (try dsimp only at hh3)
    obtain ⟨y_0, y_1, y_2, y_3, y_4, y_5, y_6, y_7, y_8, y_9, y_10, y_11, y_12, -⟩ := hh3
    all_goals go_wp2
    all_goals go_ret
    all_goals exact ⟨ret_bool EP.out.symm, G.out.trans gk⟩
  have y4 : (dst != (x.pins.length : Int) - 1) = false := by simpa using z4
  cases z5 : inB src 0 ((x.pins.length : Int) - 1 - 1)
  · skip
    have K0 : ∀ w', Grows ((w.alloc (.cells #[v0, v1, .slice A x.pins.length n0, v3, v4, v5, v6] 71)).alloc (.cells #[.int .i64 kind, .int .i64 src, .int .i64 dst, .int .i64 sense, .slice D delay.length nd, .slice E slew.length ne] 101)) w' → w'.cell? ⟨w.heap.size, 0, none⟩ = some (v0) ∧ w'.cell? ⟨w.heap.size, 1, none⟩ = some (v1) ∧ w'.cell? ⟨w.heap.size, 2, none⟩ = some (.slice A x.pins.length n0) ∧ w'.cell? ⟨w.heap.size, 3, none⟩ = some (v3) ∧ w'.cell? ⟨w.heap.size, 4, none⟩ = some (v4) ∧ w'.cell? ⟨w.heap.size, 5, none⟩ = some (v5) ∧ w'.cell? ⟨w.heap.size, 6, none⟩ = some (v6) ∧ w'.cell? ⟨w.heap.size + 1, 0, none⟩ = some (.int .i64 kind) ∧ w'.cell? ⟨w.heap.size + 1, 1, none⟩ = some (.int .i64 src) ∧ w'.cell? ⟨w.heap.size + 1, 2, none⟩ = some (.int .i64 dst) ∧ w'.cell? ⟨w.heap.size + 1, 3, none⟩ = some (.int .i64 sense) ∧ w'.cell? ⟨w.heap.size + 1, 4, none⟩ = some (.slice D delay.length nd) ∧ w'.cell? ⟨w.heap.size + 1, 5, none⟩ = some (.slice E slew.length ne) ∧ Grows ((w.alloc (.cells #[v0, v1, .slice A x.pins.length n0, v3, v4, v5, v6] 71)).alloc (.cells #[.int .i64 kind, .int .i64 src, .int .i64 dst, .int .i64 sense, .slice D delay.length nd, .slice E slew.length ne] 101)) w' := fun w' G => ⟨(G.cells.1 _ _ (B1.out.lt)).trans (B1.out.cell 0), (G.cells.1 _ _ (B1.out.lt)).trans (B1.out.cell 1), (G.cells.1 _ _ (B1.out.lt)).trans (B1.out.cell 2), (G.cells.1 _ _ (B1.out.lt)).trans (B1.out.cell 3), (G.cells.1 _ _ (B1.out.lt)).trans (B1.out.cell 4), (G.cells.1 _ _ (B1.out.lt)).trans (B1.out.cell 5), (G.cells.1 _ _ (B1.out.lt)).trans (B1.out.cell 6), (G.cells.1 _ _ (B2.out.lt)).trans (B2.out.cell 0), (G.cells.1 _ _ (B2.out.lt)).trans (B2.out.cell 1), (G.cells.1 _ _ (B2.out.lt)).trans (B2.out.cell 2), (G.cells.1 _ _ (B2.out.lt)).trans (B2.out.cell 3), (G.cells.1 _ _ (B2.out.lt)).trans (B2.out.cell 4), (G.cells.1 _ _ (B2.out.lt)).trans (B2.out.cell 5), G⟩
    have HK := hideIt K0
    clear K0
    have gg : Grows ((w.alloc (.cells #[v0, v1, .slice A x.pins.length n0, v3, v4, v5, v6] 71)).alloc (.cells #[.int .i64 kind, .int .i64 src, .int .i64 dst, .int .i64 sense, .slice D delay.length nd, .slice E slew.length ne] 101)) ((w.alloc (.cells #[v0, v1, .slice A x.pins.length n0, v3, v4, v5, v6] 71)).alloc (.cells #[.int .i64 kind, .int .i64 src, .int .i64 dst, .int .i64 sense, .slice D delay.length nd, .slice E slew.length ne] 101)) := Grows.refl _
    have EP := hideIt (show iArcB x.pins ⟨kind, src, dst, sense, delay, slew⟩ = false by unfold iArcB; simp [hk, z5])
    have F4 := hideIt z2
    have F5 := hideIt z3
    have FI := hideIt z5
    clear hk z2 z3 z4 z5
    go_enter Tryz.func113, Tryz.ntmps113
    go_wp2_with (go_at_call 140; refine (isCheck_any _ _).mono ?_; rintro e w' ⟨rfl, rfl⟩; rw [CK.out])
    refine wp_region_held_drew (S := (fun w' => w'.cell? ⟨w.heap.size, 0, none⟩ = some (v0) ∧ w'.cell? ⟨w.heap.size, 1, none⟩ = some (v1) ∧ w'.cell? ⟨w.heap.size, 2, none⟩ = some (.slice A x.pins.length n0) ∧ w'.cell? ⟨w.heap.size, 3, none⟩ = some (v3) ∧ w'.cell? ⟨w.heap.size, 4, none⟩ = some (v4) ∧ w'.cell? ⟨w.heap.size, 5, none⟩ = some (v5) ∧ w'.cell? ⟨w.heap.size, 6, none⟩ = some (v6) ∧ w'.cell? ⟨w.heap.size + 1, 0, none⟩ = some (.int .i64 kind) ∧ w'.cell? ⟨w.heap.size + 1, 1, none⟩ = some (.int .i64 src) ∧ w'.cell? ⟨w.heap.size + 1, 2, none⟩ = some (.int .i64 dst) ∧ w'.cell? ⟨w.heap.size + 1, 3, none⟩ = some (.int .i64 sense) ∧ w'.cell? ⟨w.heap.size + 1, 4, none⟩ = some (.slice D delay.length nd) ∧ w'.cell? ⟨w.heap.size + 1, 5, none⟩ = some (.slice E slew.length ne) ∧ Grows ((w.alloc (.cells #[v0, v1, .slice A x.pins.length n0, v3, v4, v5, v6] 71)).alloc (.cells #[.int .i64 kind, .int .i64 src, .int .i64 dst, .int .i64 sense, .slice D delay.length nd, .slice E slew.length ne] 101)) w')) (by kernel_rfl) ?_ (fun hh0 => ?_)
    · (try dsimp only); exact HK.out _ gk
    refine regTk 0 hh0 ?_
    refine regTk 1 hh0 ?_
    refine regCall 2 (fun K hK => ?_)
    go_simp
    refine (areTables_any true _ (RTables.keep HD.out (Grows.keeps gk))).mono ?_
    rintro e wx ⟨rfl, g⟩
    rw [F4.out]
    replace gg := gg.gt g
    clear g
    (try go_wp2_with fail)
    refine hK.out _ _ ?_ (fun hh1 => ?_)
    · (try dsimp only); exact HK.out _ gk
    clear hK K hh0
    try simp only [Act.put, List.setIfInBounds_toArray, List.set_cons_zero, List.set_cons_succ]
    refine regTk 3 hh1 ?_
    refine regTk 4 hh1 ?_
    refine regTk 5 hh1 ?_
    refine regTk 6 hh1 ?_
    refine regCall 7 (fun K hK => ?_)
    go_simp
    refine (areTables_any true _ (RTables.keep HS.out (Grows.keeps gk))).mono ?_
    rintro e wx ⟨rfl, g⟩
    rw [F5.out]
    replace gg := gg.gt g
    clear g
    (try go_wp2_with fail)
    refine hK.out _ _ ?_ (fun hh2 => ?_)
    · (try dsimp only); exact HK.out _ gk
    clear hK K hh1
    try simp only [Act.put, List.setIfInBounds_toArray, List.set_cons_zero, List.set_cons_succ]
    refine regTk 8 hh2 ?_
    refine regTk 9 hh2 ?_
    refine regTk 10 hh2 ?_
    refine regTk 11 hh2 ?_
    refine regTk 12 hh2 ?_
    refine regTk 13 hh2 ?_
    refine regCall 14 (fun K hK => ?_)
    go_simp
    refine (output_any _ (HC.out.keep (Grows.keeps gk))).mono ?_
    rintro e wx ⟨rfl, g⟩
    replace gg := gg.gt g
    clear g
    (try go_wp2_with fail)
    refine hK.out _ _ ?_ (fun hh3 => ?_)
    · (try dsimp only); exact HK.out _ gk
    clear hK K hh2
    try simp only [Act.put, List.setIfInBounds_toArray, List.set_cons_zero, List.set_cons_succ]
    refine regTk 15 hh3 ?_
    refine regTk 16 hh3 ?_
    refine regTk 17 hh3 ?_
    refine regTk 18 hh3 ?_
    refine regTk 19 hh3 ?_
    refine regTk 20 hh3 ?_
    refine regCall 21 (fun K hK => ?_)
    go_simp
    refine (isInput_any _ _ (HC.out.keep (Grows.keeps gk))).mono ?_
    rintro e wx ⟨rfl, g⟩
    rw [FI.out]
    replace gg := gg.gt g
    clear g
    (try go_wp2_with fail)
    refine hK.out _ _ ?_ (fun hh4 => ?_)
    · (try dsimp only); exact HK.out _ gk
    clear hK K hh3
    try simp only [Act.put, List.setIfInBounds_toArray, List.set_cons_zero, List.set_cons_succ]
    refine regTk 22 hh4 ?_
    refine regTk 23 hh4 ?_
    refine wpAnyH_done (by kernel_rfl) ?_ _
    (try dsimp only at hh4)
    obtain ⟨y_0, y_1, y_2, y_3, y_4, y_5, y_6, y_7, y_8, y_9, y_10, y_11, y_12, -⟩ := hh4
    all_goals go_wp2
    all_goals go_ret
    all_goals exact ⟨ret_bool EP.out.symm, G.out.trans gk⟩
  obtain ⟨i, rfl⟩ : ∃ i : Nat, src = (i : Int) := ⟨src.toNat, by have := inB_true z5; omega⟩
  have hi : i < x.pins.length := by have := inB_true z5; omega
  obtain ⟨p, hp⟩ : ∃ p, x.pins[i]? = some p := ⟨_, List.getElem?_eq_getElem hi⟩
  have cp := clkAt_of hp
  obtain ⟨b, off, rfl, kp⟩ := HX.out i p hp
  have lbb := cell_lt kp
  simp only at lbb
  have KP := hideIt kp
  clear kp HX
  generalize hpc : p.clock = pc at *
  clear hpc hp p
  have K0 : ∀ w', Grows ((w.alloc (.cells #[v0, v1, .slice (some ⟨b, off, none⟩) x.pins.length n0, v3, v4, v5, v6] 71)).alloc (.cells #[.int .i64 kind, .int .i64 (i : Int), .int .i64 dst, .int .i64 sense, .slice D delay.length nd, .slice E slew.length ne] 101)) w' → w'.cell? ⟨w.heap.size, 0, none⟩ = some (v0) ∧ w'.cell? ⟨w.heap.size, 1, none⟩ = some (v1) ∧ w'.cell? ⟨w.heap.size, 2, none⟩ = some (.slice (some ⟨b, off, none⟩) x.pins.length n0) ∧ w'.cell? ⟨w.heap.size, 3, none⟩ = some (v3) ∧ w'.cell? ⟨w.heap.size, 4, none⟩ = some (v4) ∧ w'.cell? ⟨w.heap.size, 5, none⟩ = some (v5) ∧ w'.cell? ⟨w.heap.size, 6, none⟩ = some (v6) ∧ w'.cell? ⟨w.heap.size + 1, 0, none⟩ = some (.int .i64 kind) ∧ w'.cell? ⟨w.heap.size + 1, 1, none⟩ = some (.int .i64 (i : Int)) ∧ w'.cell? ⟨w.heap.size + 1, 2, none⟩ = some (.int .i64 dst) ∧ w'.cell? ⟨w.heap.size + 1, 3, none⟩ = some (.int .i64 sense) ∧ w'.cell? ⟨w.heap.size + 1, 4, none⟩ = some (.slice D delay.length nd) ∧ w'.cell? ⟨w.heap.size + 1, 5, none⟩ = some (.slice E slew.length ne) ∧ w'.cell? ⟨b, off + i * 4 + 3, none⟩ = some (.bool pc) ∧ Grows ((w.alloc (.cells #[v0, v1, .slice (some ⟨b, off, none⟩) x.pins.length n0, v3, v4, v5, v6] 71)).alloc (.cells #[.int .i64 kind, .int .i64 (i : Int), .int .i64 dst, .int .i64 sense, .slice D delay.length nd, .slice E slew.length ne] 101)) w' := fun w' G => ⟨(G.cells.1 _ _ (B1.out.lt)).trans (B1.out.cell 0), (G.cells.1 _ _ (B1.out.lt)).trans (B1.out.cell 1), (G.cells.1 _ _ (B1.out.lt)).trans (B1.out.cell 2), (G.cells.1 _ _ (B1.out.lt)).trans (B1.out.cell 3), (G.cells.1 _ _ (B1.out.lt)).trans (B1.out.cell 4), (G.cells.1 _ _ (B1.out.lt)).trans (B1.out.cell 5), (G.cells.1 _ _ (B1.out.lt)).trans (B1.out.cell 6), (G.cells.1 _ _ (B2.out.lt)).trans (B2.out.cell 0), (G.cells.1 _ _ (B2.out.lt)).trans (B2.out.cell 1), (G.cells.1 _ _ (B2.out.lt)).trans (B2.out.cell 2), (G.cells.1 _ _ (B2.out.lt)).trans (B2.out.cell 3), (G.cells.1 _ _ (B2.out.lt)).trans (B2.out.cell 4), (G.cells.1 _ _ (B2.out.lt)).trans (B2.out.cell 5), (G.cells.1 _ _ (lbb)).trans (KP.out), G⟩
  have HK := hideIt K0
  clear K0
  have gg : Grows ((w.alloc (.cells #[v0, v1, .slice (some ⟨b, off, none⟩) x.pins.length n0, v3, v4, v5, v6] 71)).alloc (.cells #[.int .i64 kind, .int .i64 (i : Int), .int .i64 dst, .int .i64 sense, .slice D delay.length nd, .slice E slew.length ne] 101)) ((w.alloc (.cells #[v0, v1, .slice (some ⟨b, off, none⟩) x.pins.length n0, v3, v4, v5, v6] 71)).alloc (.cells #[.int .i64 kind, .int .i64 (i : Int), .int .i64 dst, .int .i64 sense, .slice D delay.length nd, .slice E slew.length ne] 101)) := Grows.refl _
  by_cases k1 : kind = 1
  · have t1 : (kind == 1) = true := beq_iff_eq.2 k1
    cases pc
    rotate_left
    · skip
      have EP := hideIt (show iArcB x.pins ⟨kind, (i : Int), dst, sense, delay, slew⟩ = false by unfold iArcB; simp [k1, cp])
      have F4 := hideIt z2
      have F5 := hideIt z3
      have FI := hideIt z5
      clear hk z2 z3 z4 z5 cp k1
      go_enter Tryz.func113, Tryz.ntmps113
      go_wp2_with (go_at_call 140; refine (isCheck_any _ _).mono ?_; rintro e w' ⟨rfl, rfl⟩; rw [CK.out])
      refine wp_region_held_drew (S := (fun w' => w'.cell? ⟨w.heap.size, 0, none⟩ = some (v0) ∧ w'.cell? ⟨w.heap.size, 1, none⟩ = some (v1) ∧ w'.cell? ⟨w.heap.size, 2, none⟩ = some (.slice (some ⟨b, off, none⟩) x.pins.length n0) ∧ w'.cell? ⟨w.heap.size, 3, none⟩ = some (v3) ∧ w'.cell? ⟨w.heap.size, 4, none⟩ = some (v4) ∧ w'.cell? ⟨w.heap.size, 5, none⟩ = some (v5) ∧ w'.cell? ⟨w.heap.size, 6, none⟩ = some (v6) ∧ w'.cell? ⟨w.heap.size + 1, 0, none⟩ = some (.int .i64 kind) ∧ w'.cell? ⟨w.heap.size + 1, 1, none⟩ = some (.int .i64 (i : Int)) ∧ w'.cell? ⟨w.heap.size + 1, 2, none⟩ = some (.int .i64 dst) ∧ w'.cell? ⟨w.heap.size + 1, 3, none⟩ = some (.int .i64 sense) ∧ w'.cell? ⟨w.heap.size + 1, 4, none⟩ = some (.slice D delay.length nd) ∧ w'.cell? ⟨w.heap.size + 1, 5, none⟩ = some (.slice E slew.length ne) ∧ w'.cell? ⟨b, off + i * 4 + 3, none⟩ = some (.bool true) ∧ Grows ((w.alloc (.cells #[v0, v1, .slice (some ⟨b, off, none⟩) x.pins.length n0, v3, v4, v5, v6] 71)).alloc (.cells #[.int .i64 kind, .int .i64 (i : Int), .int .i64 dst, .int .i64 sense, .slice D delay.length nd, .slice E slew.length ne] 101)) w')) (by kernel_rfl) ?_ (fun hh0 => ?_)
      · (try dsimp only); exact HK.out _ gk
      refine regTk 0 hh0 ?_
      refine regTk 1 hh0 ?_
      refine regCall 2 (fun K hK => ?_)
      go_simp
      refine (areTables_any true _ (RTables.keep HD.out (Grows.keeps gk))).mono ?_
      rintro e wx ⟨rfl, g⟩
      rw [F4.out]
      replace gg := gg.gt g
      clear g
      (try go_wp2_with fail)
      refine hK.out _ _ ?_ (fun hh1 => ?_)
      · (try dsimp only); exact HK.out _ gk
      clear hK K hh0
      try simp only [Act.put, List.setIfInBounds_toArray, List.set_cons_zero, List.set_cons_succ]
      refine regTk 3 hh1 ?_
      refine regTk 4 hh1 ?_
      refine regTk 5 hh1 ?_
      refine regTk 6 hh1 ?_
      refine regCall 7 (fun K hK => ?_)
      go_simp
      refine (areTables_any true _ (RTables.keep HS.out (Grows.keeps gk))).mono ?_
      rintro e wx ⟨rfl, g⟩
      rw [F5.out]
      replace gg := gg.gt g
      clear g
      (try go_wp2_with fail)
      refine hK.out _ _ ?_ (fun hh2 => ?_)
      · (try dsimp only); exact HK.out _ gk
      clear hK K hh1
      try simp only [Act.put, List.setIfInBounds_toArray, List.set_cons_zero, List.set_cons_succ]
      refine regTk 8 hh2 ?_
      refine regTk 9 hh2 ?_
      refine regTk 10 hh2 ?_
      refine regTk 11 hh2 ?_
      refine regTk 12 hh2 ?_
      refine regTk 13 hh2 ?_
      refine regCall 14 (fun K hK => ?_)
      go_simp
      refine (output_any _ (HC.out.keep (Grows.keeps gk))).mono ?_
      rintro e wx ⟨rfl, g⟩
      replace gg := gg.gt g
      clear g
      (try go_wp2_with fail)
      refine hK.out _ _ ?_ (fun hh3 => ?_)
      · (try dsimp only); exact HK.out _ gk
      clear hK K hh2
      try simp only [Act.put, List.setIfInBounds_toArray, List.set_cons_zero, List.set_cons_succ]
      refine regTk 15 hh3 ?_
      refine regTk 16 hh3 ?_
      refine regTk 17 hh3 ?_
      refine regTk 18 hh3 ?_
      refine regTk 19 hh3 ?_
      refine regTk 20 hh3 ?_
      refine regCall 21 (fun K hK => ?_)
      go_simp
      refine (isInput_any _ _ (HC.out.keep (Grows.keeps gk))).mono ?_
      rintro e wx ⟨rfl, g⟩
      rw [FI.out]
      replace gg := gg.gt g
      clear g
      (try go_wp2_with fail)
      refine hK.out _ _ ?_ (fun hh4 => ?_)
      · (try dsimp only); exact HK.out _ gk
      clear hK K hh3
      try simp only [Act.put, List.setIfInBounds_toArray, List.set_cons_zero, List.set_cons_succ]
      refine regTk 22 hh4 ?_
      refine regTk 23 hh4 ?_
      refine wpAnyH_done (by kernel_rfl) ?_ _
      (try dsimp only at hh4)
      obtain ⟨y_0, y_1, y_2, y_3, y_4, y_5, y_6, y_7, y_8, y_9, y_10, y_11, y_12, y_13, -⟩ := hh4
      all_goals go_wp2
      all_goals go_ret
      all_goals exact ⟨ret_bool EP.out.symm, G.out.trans gg⟩
    cases z6 : inB sense 1 3
    · skip
      have EP := hideIt (show iArcB x.pins ⟨kind, (i : Int), dst, sense, delay, slew⟩ = false by unfold iArcB; simp [k1, z6])
      have F4 := hideIt z2
      have F5 := hideIt z3
      have FI := hideIt z5
      have F6 := hideIt z6
      clear hk z2 z3 z4 z5 cp z6 k1
      go_enter Tryz.func113, Tryz.ntmps113
      go_wp2_with (go_at_call 140; refine (isCheck_any _ _).mono ?_; rintro e w' ⟨rfl, rfl⟩; rw [CK.out])
      refine wp_region_held_drew (S := (fun w' => w'.cell? ⟨w.heap.size, 0, none⟩ = some (v0) ∧ w'.cell? ⟨w.heap.size, 1, none⟩ = some (v1) ∧ w'.cell? ⟨w.heap.size, 2, none⟩ = some (.slice (some ⟨b, off, none⟩) x.pins.length n0) ∧ w'.cell? ⟨w.heap.size, 3, none⟩ = some (v3) ∧ w'.cell? ⟨w.heap.size, 4, none⟩ = some (v4) ∧ w'.cell? ⟨w.heap.size, 5, none⟩ = some (v5) ∧ w'.cell? ⟨w.heap.size, 6, none⟩ = some (v6) ∧ w'.cell? ⟨w.heap.size + 1, 0, none⟩ = some (.int .i64 kind) ∧ w'.cell? ⟨w.heap.size + 1, 1, none⟩ = some (.int .i64 (i : Int)) ∧ w'.cell? ⟨w.heap.size + 1, 2, none⟩ = some (.int .i64 dst) ∧ w'.cell? ⟨w.heap.size + 1, 3, none⟩ = some (.int .i64 sense) ∧ w'.cell? ⟨w.heap.size + 1, 4, none⟩ = some (.slice D delay.length nd) ∧ w'.cell? ⟨w.heap.size + 1, 5, none⟩ = some (.slice E slew.length ne) ∧ w'.cell? ⟨b, off + i * 4 + 3, none⟩ = some (.bool false) ∧ Grows ((w.alloc (.cells #[v0, v1, .slice (some ⟨b, off, none⟩) x.pins.length n0, v3, v4, v5, v6] 71)).alloc (.cells #[.int .i64 kind, .int .i64 (i : Int), .int .i64 dst, .int .i64 sense, .slice D delay.length nd, .slice E slew.length ne] 101)) w')) (by kernel_rfl) ?_ (fun hh0 => ?_)
      · (try dsimp only); exact HK.out _ gk
      refine regTk 0 hh0 ?_
      refine regTk 1 hh0 ?_
      refine regCall 2 (fun K hK => ?_)
      go_simp
      refine (areTables_any true _ (RTables.keep HD.out (Grows.keeps gk))).mono ?_
      rintro e wx ⟨rfl, g⟩
      rw [F4.out]
      replace gg := gg.gt g
      clear g
      (try go_wp2_with fail)
      refine hK.out _ _ ?_ (fun hh1 => ?_)
      · (try dsimp only); exact HK.out _ gk
      clear hK K hh0
      try simp only [Act.put, List.setIfInBounds_toArray, List.set_cons_zero, List.set_cons_succ]
      refine regTk 3 hh1 ?_
      refine regTk 4 hh1 ?_
      refine regTk 5 hh1 ?_
      refine regTk 6 hh1 ?_
      refine regCall 7 (fun K hK => ?_)
      go_simp
      refine (areTables_any true _ (RTables.keep HS.out (Grows.keeps gk))).mono ?_
      rintro e wx ⟨rfl, g⟩
      rw [F5.out]
      replace gg := gg.gt g
      clear g
      (try go_wp2_with fail)
      refine hK.out _ _ ?_ (fun hh2 => ?_)
      · (try dsimp only); exact HK.out _ gk
      clear hK K hh1
      try simp only [Act.put, List.setIfInBounds_toArray, List.set_cons_zero, List.set_cons_succ]
      refine regTk 8 hh2 ?_
      refine regTk 9 hh2 ?_
      refine regTk 10 hh2 ?_
      refine regTk 11 hh2 ?_
      refine regTk 12 hh2 ?_
      refine regTk 13 hh2 ?_
      refine regCall 14 (fun K hK => ?_)
      go_simp
      refine (output_any _ (HC.out.keep (Grows.keeps gk))).mono ?_
      rintro e wx ⟨rfl, g⟩
      replace gg := gg.gt g
      clear g
      (try go_wp2_with fail)
      refine hK.out _ _ ?_ (fun hh3 => ?_)
      · (try dsimp only); exact HK.out _ gk
      clear hK K hh2
      try simp only [Act.put, List.setIfInBounds_toArray, List.set_cons_zero, List.set_cons_succ]
      refine regTk 15 hh3 ?_
      refine regTk 16 hh3 ?_
      refine regTk 17 hh3 ?_
      refine regTk 18 hh3 ?_
      refine regTk 19 hh3 ?_
      refine regTk 20 hh3 ?_
      refine regCall 21 (fun K hK => ?_)
      go_simp
      refine (isInput_any _ _ (HC.out.keep (Grows.keeps gk))).mono ?_
      rintro e wx ⟨rfl, g⟩
      rw [FI.out]
      replace gg := gg.gt g
      clear g
      (try go_wp2_with fail)
      refine hK.out _ _ ?_ (fun hh4 => ?_)
      · (try dsimp only); exact HK.out _ gk
      clear hK K hh3
      try simp only [Act.put, List.setIfInBounds_toArray, List.set_cons_zero, List.set_cons_succ]
      refine regTk 22 hh4 ?_
      refine regTk 23 hh4 ?_
      refine wpAnyH_done (by kernel_rfl) ?_ _
      (try dsimp only at hh4)
      obtain ⟨y_0, y_1, y_2, y_3, y_4, y_5, y_6, y_7, y_8, y_9, y_10, y_11, y_12, y_13, -⟩ := hh4
      all_goals go_wp2_with (go_at_call 92; refine (within_any _ _ _ _).mono ?_; rintro e w' ⟨rfl, rfl⟩; rw [F6.out])
      all_goals go_ret
      all_goals exact ⟨ret_bool EP.out.symm, G.out.trans gg⟩
    · skip
      have EP := hideIt (show iArcB x.pins ⟨kind, (i : Int), dst, sense, delay, slew⟩ = true by unfold iArcB; simp [k1, z2, z3, z4, z5, cp, z6])
      have F4 := hideIt z2
      have F5 := hideIt z3
      have FI := hideIt z5
      have F6 := hideIt z6
      clear hk z2 z3 z4 z5 cp z6 k1
      go_enter Tryz.func113, Tryz.ntmps113
      go_wp2_with (go_at_call 140; refine (isCheck_any _ _).mono ?_; rintro e w' ⟨rfl, rfl⟩; rw [CK.out])
      refine wp_region_held_drew (S := (fun w' => w'.cell? ⟨w.heap.size, 0, none⟩ = some (v0) ∧ w'.cell? ⟨w.heap.size, 1, none⟩ = some (v1) ∧ w'.cell? ⟨w.heap.size, 2, none⟩ = some (.slice (some ⟨b, off, none⟩) x.pins.length n0) ∧ w'.cell? ⟨w.heap.size, 3, none⟩ = some (v3) ∧ w'.cell? ⟨w.heap.size, 4, none⟩ = some (v4) ∧ w'.cell? ⟨w.heap.size, 5, none⟩ = some (v5) ∧ w'.cell? ⟨w.heap.size, 6, none⟩ = some (v6) ∧ w'.cell? ⟨w.heap.size + 1, 0, none⟩ = some (.int .i64 kind) ∧ w'.cell? ⟨w.heap.size + 1, 1, none⟩ = some (.int .i64 (i : Int)) ∧ w'.cell? ⟨w.heap.size + 1, 2, none⟩ = some (.int .i64 dst) ∧ w'.cell? ⟨w.heap.size + 1, 3, none⟩ = some (.int .i64 sense) ∧ w'.cell? ⟨w.heap.size + 1, 4, none⟩ = some (.slice D delay.length nd) ∧ w'.cell? ⟨w.heap.size + 1, 5, none⟩ = some (.slice E slew.length ne) ∧ w'.cell? ⟨b, off + i * 4 + 3, none⟩ = some (.bool false) ∧ Grows ((w.alloc (.cells #[v0, v1, .slice (some ⟨b, off, none⟩) x.pins.length n0, v3, v4, v5, v6] 71)).alloc (.cells #[.int .i64 kind, .int .i64 (i : Int), .int .i64 dst, .int .i64 sense, .slice D delay.length nd, .slice E slew.length ne] 101)) w')) (by kernel_rfl) ?_ (fun hh0 => ?_)
      · (try dsimp only); exact HK.out _ gk
      refine regTk 0 hh0 ?_
      refine regTk 1 hh0 ?_
      refine regCall 2 (fun K hK => ?_)
      go_simp
      refine (areTables_any true _ (RTables.keep HD.out (Grows.keeps gk))).mono ?_
      rintro e wx ⟨rfl, g⟩
      rw [F4.out]
      replace gg := gg.gt g
      clear g
      (try go_wp2_with fail)
      refine hK.out _ _ ?_ (fun hh1 => ?_)
      · (try dsimp only); exact HK.out _ gk
      clear hK K hh0
      try simp only [Act.put, List.setIfInBounds_toArray, List.set_cons_zero, List.set_cons_succ]
      refine regTk 3 hh1 ?_
      refine regTk 4 hh1 ?_
      refine regTk 5 hh1 ?_
      refine regTk 6 hh1 ?_
      refine regCall 7 (fun K hK => ?_)
      go_simp
      refine (areTables_any true _ (RTables.keep HS.out (Grows.keeps gk))).mono ?_
      rintro e wx ⟨rfl, g⟩
      rw [F5.out]
      replace gg := gg.gt g
      clear g
      (try go_wp2_with fail)
      refine hK.out _ _ ?_ (fun hh2 => ?_)
      · (try dsimp only); exact HK.out _ gk
      clear hK K hh1
      try simp only [Act.put, List.setIfInBounds_toArray, List.set_cons_zero, List.set_cons_succ]
      refine regTk 8 hh2 ?_
      refine regTk 9 hh2 ?_
      refine regTk 10 hh2 ?_
      refine regTk 11 hh2 ?_
      refine regTk 12 hh2 ?_
      refine regTk 13 hh2 ?_
      refine regCall 14 (fun K hK => ?_)
      go_simp
      refine (output_any _ (HC.out.keep (Grows.keeps gk))).mono ?_
      rintro e wx ⟨rfl, g⟩
      replace gg := gg.gt g
      clear g
      (try go_wp2_with fail)
      refine hK.out _ _ ?_ (fun hh3 => ?_)
      · (try dsimp only); exact HK.out _ gk
      clear hK K hh2
      try simp only [Act.put, List.setIfInBounds_toArray, List.set_cons_zero, List.set_cons_succ]
      refine regTk 15 hh3 ?_
      refine regTk 16 hh3 ?_
      refine regTk 17 hh3 ?_
      refine regTk 18 hh3 ?_
      refine regTk 19 hh3 ?_
      refine regTk 20 hh3 ?_
      refine regCall 21 (fun K hK => ?_)
      go_simp
      refine (isInput_any _ _ (HC.out.keep (Grows.keeps gk))).mono ?_
      rintro e wx ⟨rfl, g⟩
      rw [FI.out]
      replace gg := gg.gt g
      clear g
      (try go_wp2_with fail)
      refine hK.out _ _ ?_ (fun hh4 => ?_)
      · (try dsimp only); exact HK.out _ gk
      clear hK K hh3
      try simp only [Act.put, List.setIfInBounds_toArray, List.set_cons_zero, List.set_cons_succ]
      refine regTk 22 hh4 ?_
      refine regTk 23 hh4 ?_
      refine wpAnyH_done (by kernel_rfl) ?_ _
      (try dsimp only at hh4)
      obtain ⟨y_0, y_1, y_2, y_3, y_4, y_5, y_6, y_7, y_8, y_9, y_10, y_11, y_12, y_13, -⟩ := hh4
      all_goals go_wp2_with (go_at_call 92; refine (within_any _ _ _ _).mono ?_; rintro e w' ⟨rfl, rfl⟩; rw [F6.out])
      all_goals go_ret
      all_goals exact ⟨ret_bool EP.out.symm, G.out.trans gg⟩
  have t1 : (kind == 1) = false := beq_eq_false_iff_ne.2 k1
  by_cases k2 : kind = 2
  · have t2 : (kind == 2) = true := beq_iff_eq.2 k2
    cases pc
    · skip
      have EP := hideIt (show iArcB x.pins ⟨kind, (i : Int), dst, sense, delay, slew⟩ = false by unfold iArcB; simp [k2, cp])
      have F4 := hideIt z2
      have F5 := hideIt z3
      have FI := hideIt z5
      clear hk z2 z3 z4 z5 cp k1 k2
      go_enter Tryz.func113, Tryz.ntmps113
      go_wp2_with (go_at_call 140; refine (isCheck_any _ _).mono ?_; rintro e w' ⟨rfl, rfl⟩; rw [CK.out])
      refine wp_region_held_drew (S := (fun w' => w'.cell? ⟨w.heap.size, 0, none⟩ = some (v0) ∧ w'.cell? ⟨w.heap.size, 1, none⟩ = some (v1) ∧ w'.cell? ⟨w.heap.size, 2, none⟩ = some (.slice (some ⟨b, off, none⟩) x.pins.length n0) ∧ w'.cell? ⟨w.heap.size, 3, none⟩ = some (v3) ∧ w'.cell? ⟨w.heap.size, 4, none⟩ = some (v4) ∧ w'.cell? ⟨w.heap.size, 5, none⟩ = some (v5) ∧ w'.cell? ⟨w.heap.size, 6, none⟩ = some (v6) ∧ w'.cell? ⟨w.heap.size + 1, 0, none⟩ = some (.int .i64 kind) ∧ w'.cell? ⟨w.heap.size + 1, 1, none⟩ = some (.int .i64 (i : Int)) ∧ w'.cell? ⟨w.heap.size + 1, 2, none⟩ = some (.int .i64 dst) ∧ w'.cell? ⟨w.heap.size + 1, 3, none⟩ = some (.int .i64 sense) ∧ w'.cell? ⟨w.heap.size + 1, 4, none⟩ = some (.slice D delay.length nd) ∧ w'.cell? ⟨w.heap.size + 1, 5, none⟩ = some (.slice E slew.length ne) ∧ w'.cell? ⟨b, off + i * 4 + 3, none⟩ = some (.bool false) ∧ Grows ((w.alloc (.cells #[v0, v1, .slice (some ⟨b, off, none⟩) x.pins.length n0, v3, v4, v5, v6] 71)).alloc (.cells #[.int .i64 kind, .int .i64 (i : Int), .int .i64 dst, .int .i64 sense, .slice D delay.length nd, .slice E slew.length ne] 101)) w')) (by kernel_rfl) ?_ (fun hh0 => ?_)
      · (try dsimp only); exact HK.out _ gk
      refine regTk 0 hh0 ?_
      refine regTk 1 hh0 ?_
      refine regCall 2 (fun K hK => ?_)
      go_simp
      refine (areTables_any true _ (RTables.keep HD.out (Grows.keeps gk))).mono ?_
      rintro e wx ⟨rfl, g⟩
      rw [F4.out]
      replace gg := gg.gt g
      clear g
      (try go_wp2_with fail)
      refine hK.out _ _ ?_ (fun hh1 => ?_)
      · (try dsimp only); exact HK.out _ gk
      clear hK K hh0
      try simp only [Act.put, List.setIfInBounds_toArray, List.set_cons_zero, List.set_cons_succ]
      refine regTk 3 hh1 ?_
      refine regTk 4 hh1 ?_
      refine regTk 5 hh1 ?_
      refine regTk 6 hh1 ?_
      refine regCall 7 (fun K hK => ?_)
      go_simp
      refine (areTables_any true _ (RTables.keep HS.out (Grows.keeps gk))).mono ?_
      rintro e wx ⟨rfl, g⟩
      rw [F5.out]
      replace gg := gg.gt g
      clear g
      (try go_wp2_with fail)
      refine hK.out _ _ ?_ (fun hh2 => ?_)
      · (try dsimp only); exact HK.out _ gk
      clear hK K hh1
      try simp only [Act.put, List.setIfInBounds_toArray, List.set_cons_zero, List.set_cons_succ]
      refine regTk 8 hh2 ?_
      refine regTk 9 hh2 ?_
      refine regTk 10 hh2 ?_
      refine regTk 11 hh2 ?_
      refine regTk 12 hh2 ?_
      refine regTk 13 hh2 ?_
      refine regCall 14 (fun K hK => ?_)
      go_simp
      refine (output_any _ (HC.out.keep (Grows.keeps gk))).mono ?_
      rintro e wx ⟨rfl, g⟩
      replace gg := gg.gt g
      clear g
      (try go_wp2_with fail)
      refine hK.out _ _ ?_ (fun hh3 => ?_)
      · (try dsimp only); exact HK.out _ gk
      clear hK K hh2
      try simp only [Act.put, List.setIfInBounds_toArray, List.set_cons_zero, List.set_cons_succ]
      refine regTk 15 hh3 ?_
      refine regTk 16 hh3 ?_
      refine regTk 17 hh3 ?_
      refine regTk 18 hh3 ?_
      refine regTk 19 hh3 ?_
      refine regTk 20 hh3 ?_
      refine regCall 21 (fun K hK => ?_)
      go_simp
      refine (isInput_any _ _ (HC.out.keep (Grows.keeps gk))).mono ?_
      rintro e wx ⟨rfl, g⟩
      rw [FI.out]
      replace gg := gg.gt g
      clear g
      (try go_wp2_with fail)
      refine hK.out _ _ ?_ (fun hh4 => ?_)
      · (try dsimp only); exact HK.out _ gk
      clear hK K hh3
      try simp only [Act.put, List.setIfInBounds_toArray, List.set_cons_zero, List.set_cons_succ]
      refine regTk 22 hh4 ?_
      refine regTk 23 hh4 ?_
      refine wpAnyH_done (by kernel_rfl) ?_ _
      (try dsimp only at hh4)
      obtain ⟨y_0, y_1, y_2, y_3, y_4, y_5, y_6, y_7, y_8, y_9, y_10, y_11, y_12, y_13, -⟩ := hh4
      all_goals go_wp2
      all_goals go_ret
      all_goals exact ⟨ret_bool EP.out.symm, G.out.trans gg⟩
    by_cases z6 : sense = 0
    rotate_left
    · have y6 : (sense == 0) = false := by simpa using z6
      have EP := hideIt (show iArcB x.pins ⟨kind, (i : Int), dst, sense, delay, slew⟩ = false by unfold iArcB; simp [k2, z6])
      have F4 := hideIt z2
      have F5 := hideIt z3
      have FI := hideIt z5
      clear hk z2 z3 z4 z5 cp z6 k1 k2
      go_enter Tryz.func113, Tryz.ntmps113
      go_wp2_with (go_at_call 140; refine (isCheck_any _ _).mono ?_; rintro e w' ⟨rfl, rfl⟩; rw [CK.out])
      refine wp_region_held_drew (S := (fun w' => w'.cell? ⟨w.heap.size, 0, none⟩ = some (v0) ∧ w'.cell? ⟨w.heap.size, 1, none⟩ = some (v1) ∧ w'.cell? ⟨w.heap.size, 2, none⟩ = some (.slice (some ⟨b, off, none⟩) x.pins.length n0) ∧ w'.cell? ⟨w.heap.size, 3, none⟩ = some (v3) ∧ w'.cell? ⟨w.heap.size, 4, none⟩ = some (v4) ∧ w'.cell? ⟨w.heap.size, 5, none⟩ = some (v5) ∧ w'.cell? ⟨w.heap.size, 6, none⟩ = some (v6) ∧ w'.cell? ⟨w.heap.size + 1, 0, none⟩ = some (.int .i64 kind) ∧ w'.cell? ⟨w.heap.size + 1, 1, none⟩ = some (.int .i64 (i : Int)) ∧ w'.cell? ⟨w.heap.size + 1, 2, none⟩ = some (.int .i64 dst) ∧ w'.cell? ⟨w.heap.size + 1, 3, none⟩ = some (.int .i64 sense) ∧ w'.cell? ⟨w.heap.size + 1, 4, none⟩ = some (.slice D delay.length nd) ∧ w'.cell? ⟨w.heap.size + 1, 5, none⟩ = some (.slice E slew.length ne) ∧ w'.cell? ⟨b, off + i * 4 + 3, none⟩ = some (.bool true) ∧ Grows ((w.alloc (.cells #[v0, v1, .slice (some ⟨b, off, none⟩) x.pins.length n0, v3, v4, v5, v6] 71)).alloc (.cells #[.int .i64 kind, .int .i64 (i : Int), .int .i64 dst, .int .i64 sense, .slice D delay.length nd, .slice E slew.length ne] 101)) w')) (by kernel_rfl) ?_ (fun hh0 => ?_)
      · (try dsimp only); exact HK.out _ gk
      refine regTk 0 hh0 ?_
      refine regTk 1 hh0 ?_
      refine regCall 2 (fun K hK => ?_)
      go_simp
      refine (areTables_any true _ (RTables.keep HD.out (Grows.keeps gk))).mono ?_
      rintro e wx ⟨rfl, g⟩
      rw [F4.out]
      replace gg := gg.gt g
      clear g
      (try go_wp2_with fail)
      refine hK.out _ _ ?_ (fun hh1 => ?_)
      · (try dsimp only); exact HK.out _ gk
      clear hK K hh0
      try simp only [Act.put, List.setIfInBounds_toArray, List.set_cons_zero, List.set_cons_succ]
      refine regTk 3 hh1 ?_
      refine regTk 4 hh1 ?_
      refine regTk 5 hh1 ?_
      refine regTk 6 hh1 ?_
      refine regCall 7 (fun K hK => ?_)
      go_simp
      refine (areTables_any true _ (RTables.keep HS.out (Grows.keeps gk))).mono ?_
      rintro e wx ⟨rfl, g⟩
      rw [F5.out]
      replace gg := gg.gt g
      clear g
      (try go_wp2_with fail)
      refine hK.out _ _ ?_ (fun hh2 => ?_)
      · (try dsimp only); exact HK.out _ gk
      clear hK K hh1
      try simp only [Act.put, List.setIfInBounds_toArray, List.set_cons_zero, List.set_cons_succ]
      refine regTk 8 hh2 ?_
      refine regTk 9 hh2 ?_
      refine regTk 10 hh2 ?_
      refine regTk 11 hh2 ?_
      refine regTk 12 hh2 ?_
      refine regTk 13 hh2 ?_
      refine regCall 14 (fun K hK => ?_)
      go_simp
      refine (output_any _ (HC.out.keep (Grows.keeps gk))).mono ?_
      rintro e wx ⟨rfl, g⟩
      replace gg := gg.gt g
      clear g
      (try go_wp2_with fail)
      refine hK.out _ _ ?_ (fun hh3 => ?_)
      · (try dsimp only); exact HK.out _ gk
      clear hK K hh2
      try simp only [Act.put, List.setIfInBounds_toArray, List.set_cons_zero, List.set_cons_succ]
      refine regTk 15 hh3 ?_
      refine regTk 16 hh3 ?_
      refine regTk 17 hh3 ?_
      refine regTk 18 hh3 ?_
      refine regTk 19 hh3 ?_
      refine regTk 20 hh3 ?_
      refine regCall 21 (fun K hK => ?_)
      go_simp
      refine (isInput_any _ _ (HC.out.keep (Grows.keeps gk))).mono ?_
      rintro e wx ⟨rfl, g⟩
      rw [FI.out]
      replace gg := gg.gt g
      clear g
      (try go_wp2_with fail)
      refine hK.out _ _ ?_ (fun hh4 => ?_)
      · (try dsimp only); exact HK.out _ gk
      clear hK K hh3
      try simp only [Act.put, List.setIfInBounds_toArray, List.set_cons_zero, List.set_cons_succ]
      refine regTk 22 hh4 ?_
      refine regTk 23 hh4 ?_
      refine wpAnyH_done (by kernel_rfl) ?_ _
      (try dsimp only at hh4)
      obtain ⟨y_0, y_1, y_2, y_3, y_4, y_5, y_6, y_7, y_8, y_9, y_10, y_11, y_12, y_13, -⟩ := hh4
      all_goals go_wp2
      all_goals go_ret
      all_goals exact ⟨ret_bool EP.out.symm, G.out.trans gg⟩
    have y6 : (sense == 0) = true := by simpa using z6
    have EP := hideIt (show iArcB x.pins ⟨kind, (i : Int), dst, sense, delay, slew⟩ = true by unfold iArcB; simp [k2, z2, z3, z4, z5, cp, z6])
    have F4 := hideIt z2
    have F5 := hideIt z3
    have FI := hideIt z5
    clear hk z2 z3 z4 z5 cp z6 k1 k2
    go_enter Tryz.func113, Tryz.ntmps113
    go_wp2_with (go_at_call 140; refine (isCheck_any _ _).mono ?_; rintro e w' ⟨rfl, rfl⟩; rw [CK.out])
    refine wp_region_held_drew (S := (fun w' => w'.cell? ⟨w.heap.size, 0, none⟩ = some (v0) ∧ w'.cell? ⟨w.heap.size, 1, none⟩ = some (v1) ∧ w'.cell? ⟨w.heap.size, 2, none⟩ = some (.slice (some ⟨b, off, none⟩) x.pins.length n0) ∧ w'.cell? ⟨w.heap.size, 3, none⟩ = some (v3) ∧ w'.cell? ⟨w.heap.size, 4, none⟩ = some (v4) ∧ w'.cell? ⟨w.heap.size, 5, none⟩ = some (v5) ∧ w'.cell? ⟨w.heap.size, 6, none⟩ = some (v6) ∧ w'.cell? ⟨w.heap.size + 1, 0, none⟩ = some (.int .i64 kind) ∧ w'.cell? ⟨w.heap.size + 1, 1, none⟩ = some (.int .i64 (i : Int)) ∧ w'.cell? ⟨w.heap.size + 1, 2, none⟩ = some (.int .i64 dst) ∧ w'.cell? ⟨w.heap.size + 1, 3, none⟩ = some (.int .i64 sense) ∧ w'.cell? ⟨w.heap.size + 1, 4, none⟩ = some (.slice D delay.length nd) ∧ w'.cell? ⟨w.heap.size + 1, 5, none⟩ = some (.slice E slew.length ne) ∧ w'.cell? ⟨b, off + i * 4 + 3, none⟩ = some (.bool true) ∧ Grows ((w.alloc (.cells #[v0, v1, .slice (some ⟨b, off, none⟩) x.pins.length n0, v3, v4, v5, v6] 71)).alloc (.cells #[.int .i64 kind, .int .i64 (i : Int), .int .i64 dst, .int .i64 sense, .slice D delay.length nd, .slice E slew.length ne] 101)) w')) (by kernel_rfl) ?_ (fun hh0 => ?_)
    · (try dsimp only); exact HK.out _ gk
    refine regTk 0 hh0 ?_
    refine regTk 1 hh0 ?_
    refine regCall 2 (fun K hK => ?_)
    go_simp
    refine (areTables_any true _ (RTables.keep HD.out (Grows.keeps gk))).mono ?_
    rintro e wx ⟨rfl, g⟩
    rw [F4.out]
    replace gg := gg.gt g
    clear g
    (try go_wp2_with fail)
    refine hK.out _ _ ?_ (fun hh1 => ?_)
    · (try dsimp only); exact HK.out _ gk
    clear hK K hh0
    try simp only [Act.put, List.setIfInBounds_toArray, List.set_cons_zero, List.set_cons_succ]
    refine regTk 3 hh1 ?_
    refine regTk 4 hh1 ?_
    refine regTk 5 hh1 ?_
    refine regTk 6 hh1 ?_
    refine regCall 7 (fun K hK => ?_)
    go_simp
    refine (areTables_any true _ (RTables.keep HS.out (Grows.keeps gk))).mono ?_
    rintro e wx ⟨rfl, g⟩
    rw [F5.out]
    replace gg := gg.gt g
    clear g
    (try go_wp2_with fail)
    refine hK.out _ _ ?_ (fun hh2 => ?_)
    · (try dsimp only); exact HK.out _ gk
    clear hK K hh1
    try simp only [Act.put, List.setIfInBounds_toArray, List.set_cons_zero, List.set_cons_succ]
    refine regTk 8 hh2 ?_
    refine regTk 9 hh2 ?_
    refine regTk 10 hh2 ?_
    refine regTk 11 hh2 ?_
    refine regTk 12 hh2 ?_
    refine regTk 13 hh2 ?_
    refine regCall 14 (fun K hK => ?_)
    go_simp
    refine (output_any _ (HC.out.keep (Grows.keeps gk))).mono ?_
    rintro e wx ⟨rfl, g⟩
    replace gg := gg.gt g
    clear g
    (try go_wp2_with fail)
    refine hK.out _ _ ?_ (fun hh3 => ?_)
    · (try dsimp only); exact HK.out _ gk
    clear hK K hh2
    try simp only [Act.put, List.setIfInBounds_toArray, List.set_cons_zero, List.set_cons_succ]
    refine regTk 15 hh3 ?_
    refine regTk 16 hh3 ?_
    refine regTk 17 hh3 ?_
    refine regTk 18 hh3 ?_
    refine regTk 19 hh3 ?_
    refine regTk 20 hh3 ?_
    refine regCall 21 (fun K hK => ?_)
    go_simp
    refine (isInput_any _ _ (HC.out.keep (Grows.keeps gk))).mono ?_
    rintro e wx ⟨rfl, g⟩
    rw [FI.out]
    replace gg := gg.gt g
    clear g
    (try go_wp2_with fail)
    refine hK.out _ _ ?_ (fun hh4 => ?_)
    · (try dsimp only); exact HK.out _ gk
    clear hK K hh3
    try simp only [Act.put, List.setIfInBounds_toArray, List.set_cons_zero, List.set_cons_succ]
    refine regTk 22 hh4 ?_
    refine regTk 23 hh4 ?_
    refine wpAnyH_done (by kernel_rfl) ?_ _
    (try dsimp only at hh4)
    obtain ⟨y_0, y_1, y_2, y_3, y_4, y_5, y_6, y_7, y_8, y_9, y_10, y_11, y_12, y_13, -⟩ := hh4
    all_goals go_wp2
    all_goals go_ret
    all_goals exact ⟨ret_bool EP.out.symm, G.out.trans gg⟩
  have t2 : (kind == 2) = false := beq_eq_false_iff_ne.2 k2
  by_cases k3 : kind = 3
  · have t3 : (kind == 3) = true := beq_iff_eq.2 k3
    cases pc
    · skip
      have EP := hideIt (show iArcB x.pins ⟨kind, (i : Int), dst, sense, delay, slew⟩ = false by unfold iArcB; simp [k3, cp])
      have F4 := hideIt z2
      have F5 := hideIt z3
      have FI := hideIt z5
      clear hk z2 z3 z4 z5 cp k1 k2 k3
      go_enter Tryz.func113, Tryz.ntmps113
      go_wp2_with (go_at_call 140; refine (isCheck_any _ _).mono ?_; rintro e w' ⟨rfl, rfl⟩; rw [CK.out])
      refine wp_region_held_drew (S := (fun w' => w'.cell? ⟨w.heap.size, 0, none⟩ = some (v0) ∧ w'.cell? ⟨w.heap.size, 1, none⟩ = some (v1) ∧ w'.cell? ⟨w.heap.size, 2, none⟩ = some (.slice (some ⟨b, off, none⟩) x.pins.length n0) ∧ w'.cell? ⟨w.heap.size, 3, none⟩ = some (v3) ∧ w'.cell? ⟨w.heap.size, 4, none⟩ = some (v4) ∧ w'.cell? ⟨w.heap.size, 5, none⟩ = some (v5) ∧ w'.cell? ⟨w.heap.size, 6, none⟩ = some (v6) ∧ w'.cell? ⟨w.heap.size + 1, 0, none⟩ = some (.int .i64 kind) ∧ w'.cell? ⟨w.heap.size + 1, 1, none⟩ = some (.int .i64 (i : Int)) ∧ w'.cell? ⟨w.heap.size + 1, 2, none⟩ = some (.int .i64 dst) ∧ w'.cell? ⟨w.heap.size + 1, 3, none⟩ = some (.int .i64 sense) ∧ w'.cell? ⟨w.heap.size + 1, 4, none⟩ = some (.slice D delay.length nd) ∧ w'.cell? ⟨w.heap.size + 1, 5, none⟩ = some (.slice E slew.length ne) ∧ w'.cell? ⟨b, off + i * 4 + 3, none⟩ = some (.bool false) ∧ Grows ((w.alloc (.cells #[v0, v1, .slice (some ⟨b, off, none⟩) x.pins.length n0, v3, v4, v5, v6] 71)).alloc (.cells #[.int .i64 kind, .int .i64 (i : Int), .int .i64 dst, .int .i64 sense, .slice D delay.length nd, .slice E slew.length ne] 101)) w')) (by kernel_rfl) ?_ (fun hh0 => ?_)
      · (try dsimp only); exact HK.out _ gk
      refine regTk 0 hh0 ?_
      refine regTk 1 hh0 ?_
      refine regCall 2 (fun K hK => ?_)
      go_simp
      refine (areTables_any true _ (RTables.keep HD.out (Grows.keeps gk))).mono ?_
      rintro e wx ⟨rfl, g⟩
      rw [F4.out]
      replace gg := gg.gt g
      clear g
      (try go_wp2_with fail)
      refine hK.out _ _ ?_ (fun hh1 => ?_)
      · (try dsimp only); exact HK.out _ gk
      clear hK K hh0
      try simp only [Act.put, List.setIfInBounds_toArray, List.set_cons_zero, List.set_cons_succ]
      refine regTk 3 hh1 ?_
      refine regTk 4 hh1 ?_
      refine regTk 5 hh1 ?_
      refine regTk 6 hh1 ?_
      refine regCall 7 (fun K hK => ?_)
      go_simp
      refine (areTables_any true _ (RTables.keep HS.out (Grows.keeps gk))).mono ?_
      rintro e wx ⟨rfl, g⟩
      rw [F5.out]
      replace gg := gg.gt g
      clear g
      (try go_wp2_with fail)
      refine hK.out _ _ ?_ (fun hh2 => ?_)
      · (try dsimp only); exact HK.out _ gk
      clear hK K hh1
      try simp only [Act.put, List.setIfInBounds_toArray, List.set_cons_zero, List.set_cons_succ]
      refine regTk 8 hh2 ?_
      refine regTk 9 hh2 ?_
      refine regTk 10 hh2 ?_
      refine regTk 11 hh2 ?_
      refine regTk 12 hh2 ?_
      refine regTk 13 hh2 ?_
      refine regCall 14 (fun K hK => ?_)
      go_simp
      refine (output_any _ (HC.out.keep (Grows.keeps gk))).mono ?_
      rintro e wx ⟨rfl, g⟩
      replace gg := gg.gt g
      clear g
      (try go_wp2_with fail)
      refine hK.out _ _ ?_ (fun hh3 => ?_)
      · (try dsimp only); exact HK.out _ gk
      clear hK K hh2
      try simp only [Act.put, List.setIfInBounds_toArray, List.set_cons_zero, List.set_cons_succ]
      refine regTk 15 hh3 ?_
      refine regTk 16 hh3 ?_
      refine regTk 17 hh3 ?_
      refine regTk 18 hh3 ?_
      refine regTk 19 hh3 ?_
      refine regTk 20 hh3 ?_
      refine regCall 21 (fun K hK => ?_)
      go_simp
      refine (isInput_any _ _ (HC.out.keep (Grows.keeps gk))).mono ?_
      rintro e wx ⟨rfl, g⟩
      rw [FI.out]
      replace gg := gg.gt g
      clear g
      (try go_wp2_with fail)
      refine hK.out _ _ ?_ (fun hh4 => ?_)
      · (try dsimp only); exact HK.out _ gk
      clear hK K hh3
      try simp only [Act.put, List.setIfInBounds_toArray, List.set_cons_zero, List.set_cons_succ]
      refine regTk 22 hh4 ?_
      refine regTk 23 hh4 ?_
      refine wpAnyH_done (by kernel_rfl) ?_ _
      (try dsimp only at hh4)
      obtain ⟨y_0, y_1, y_2, y_3, y_4, y_5, y_6, y_7, y_8, y_9, y_10, y_11, y_12, y_13, -⟩ := hh4
      all_goals go_wp2
      all_goals go_ret
      all_goals exact ⟨ret_bool EP.out.symm, G.out.trans gg⟩
    by_cases z6 : sense = 0
    rotate_left
    · have y6 : (sense == 0) = false := by simpa using z6
      have EP := hideIt (show iArcB x.pins ⟨kind, (i : Int), dst, sense, delay, slew⟩ = false by unfold iArcB; simp [k3, z6])
      have F4 := hideIt z2
      have F5 := hideIt z3
      have FI := hideIt z5
      clear hk z2 z3 z4 z5 cp z6 k1 k2 k3
      go_enter Tryz.func113, Tryz.ntmps113
      go_wp2_with (go_at_call 140; refine (isCheck_any _ _).mono ?_; rintro e w' ⟨rfl, rfl⟩; rw [CK.out])
      refine wp_region_held_drew (S := (fun w' => w'.cell? ⟨w.heap.size, 0, none⟩ = some (v0) ∧ w'.cell? ⟨w.heap.size, 1, none⟩ = some (v1) ∧ w'.cell? ⟨w.heap.size, 2, none⟩ = some (.slice (some ⟨b, off, none⟩) x.pins.length n0) ∧ w'.cell? ⟨w.heap.size, 3, none⟩ = some (v3) ∧ w'.cell? ⟨w.heap.size, 4, none⟩ = some (v4) ∧ w'.cell? ⟨w.heap.size, 5, none⟩ = some (v5) ∧ w'.cell? ⟨w.heap.size, 6, none⟩ = some (v6) ∧ w'.cell? ⟨w.heap.size + 1, 0, none⟩ = some (.int .i64 kind) ∧ w'.cell? ⟨w.heap.size + 1, 1, none⟩ = some (.int .i64 (i : Int)) ∧ w'.cell? ⟨w.heap.size + 1, 2, none⟩ = some (.int .i64 dst) ∧ w'.cell? ⟨w.heap.size + 1, 3, none⟩ = some (.int .i64 sense) ∧ w'.cell? ⟨w.heap.size + 1, 4, none⟩ = some (.slice D delay.length nd) ∧ w'.cell? ⟨w.heap.size + 1, 5, none⟩ = some (.slice E slew.length ne) ∧ w'.cell? ⟨b, off + i * 4 + 3, none⟩ = some (.bool true) ∧ Grows ((w.alloc (.cells #[v0, v1, .slice (some ⟨b, off, none⟩) x.pins.length n0, v3, v4, v5, v6] 71)).alloc (.cells #[.int .i64 kind, .int .i64 (i : Int), .int .i64 dst, .int .i64 sense, .slice D delay.length nd, .slice E slew.length ne] 101)) w')) (by kernel_rfl) ?_ (fun hh0 => ?_)
      · (try dsimp only); exact HK.out _ gk
      refine regTk 0 hh0 ?_
      refine regTk 1 hh0 ?_
      refine regCall 2 (fun K hK => ?_)
      go_simp
      refine (areTables_any true _ (RTables.keep HD.out (Grows.keeps gk))).mono ?_
      rintro e wx ⟨rfl, g⟩
      rw [F4.out]
      replace gg := gg.gt g
      clear g
      (try go_wp2_with fail)
      refine hK.out _ _ ?_ (fun hh1 => ?_)
      · (try dsimp only); exact HK.out _ gk
      clear hK K hh0
      try simp only [Act.put, List.setIfInBounds_toArray, List.set_cons_zero, List.set_cons_succ]
      refine regTk 3 hh1 ?_
      refine regTk 4 hh1 ?_
      refine regTk 5 hh1 ?_
      refine regTk 6 hh1 ?_
      refine regCall 7 (fun K hK => ?_)
      go_simp
      refine (areTables_any true _ (RTables.keep HS.out (Grows.keeps gk))).mono ?_
      rintro e wx ⟨rfl, g⟩
      rw [F5.out]
      replace gg := gg.gt g
      clear g
      (try go_wp2_with fail)
      refine hK.out _ _ ?_ (fun hh2 => ?_)
      · (try dsimp only); exact HK.out _ gk
      clear hK K hh1
      try simp only [Act.put, List.setIfInBounds_toArray, List.set_cons_zero, List.set_cons_succ]
      refine regTk 8 hh2 ?_
      refine regTk 9 hh2 ?_
      refine regTk 10 hh2 ?_
      refine regTk 11 hh2 ?_
      refine regTk 12 hh2 ?_
      refine regTk 13 hh2 ?_
      refine regCall 14 (fun K hK => ?_)
      go_simp
      refine (output_any _ (HC.out.keep (Grows.keeps gk))).mono ?_
      rintro e wx ⟨rfl, g⟩
      replace gg := gg.gt g
      clear g
      (try go_wp2_with fail)
      refine hK.out _ _ ?_ (fun hh3 => ?_)
      · (try dsimp only); exact HK.out _ gk
      clear hK K hh2
      try simp only [Act.put, List.setIfInBounds_toArray, List.set_cons_zero, List.set_cons_succ]
      refine regTk 15 hh3 ?_
      refine regTk 16 hh3 ?_
      refine regTk 17 hh3 ?_
      refine regTk 18 hh3 ?_
      refine regTk 19 hh3 ?_
      refine regTk 20 hh3 ?_
      refine regCall 21 (fun K hK => ?_)
      go_simp
      refine (isInput_any _ _ (HC.out.keep (Grows.keeps gk))).mono ?_
      rintro e wx ⟨rfl, g⟩
      rw [FI.out]
      replace gg := gg.gt g
      clear g
      (try go_wp2_with fail)
      refine hK.out _ _ ?_ (fun hh4 => ?_)
      · (try dsimp only); exact HK.out _ gk
      clear hK K hh3
      try simp only [Act.put, List.setIfInBounds_toArray, List.set_cons_zero, List.set_cons_succ]
      refine regTk 22 hh4 ?_
      refine regTk 23 hh4 ?_
      refine wpAnyH_done (by kernel_rfl) ?_ _
      (try dsimp only at hh4)
      obtain ⟨y_0, y_1, y_2, y_3, y_4, y_5, y_6, y_7, y_8, y_9, y_10, y_11, y_12, y_13, -⟩ := hh4
      all_goals go_wp2
      all_goals go_ret
      all_goals exact ⟨ret_bool EP.out.symm, G.out.trans gg⟩
    have y6 : (sense == 0) = true := by simpa using z6
    have EP := hideIt (show iArcB x.pins ⟨kind, (i : Int), dst, sense, delay, slew⟩ = true by unfold iArcB; simp [k3, z2, z3, z4, z5, cp, z6])
    have F4 := hideIt z2
    have F5 := hideIt z3
    have FI := hideIt z5
    clear hk z2 z3 z4 z5 cp z6 k1 k2 k3
    go_enter Tryz.func113, Tryz.ntmps113
    go_wp2_with (go_at_call 140; refine (isCheck_any _ _).mono ?_; rintro e w' ⟨rfl, rfl⟩; rw [CK.out])
    refine wp_region_held_drew (S := (fun w' => w'.cell? ⟨w.heap.size, 0, none⟩ = some (v0) ∧ w'.cell? ⟨w.heap.size, 1, none⟩ = some (v1) ∧ w'.cell? ⟨w.heap.size, 2, none⟩ = some (.slice (some ⟨b, off, none⟩) x.pins.length n0) ∧ w'.cell? ⟨w.heap.size, 3, none⟩ = some (v3) ∧ w'.cell? ⟨w.heap.size, 4, none⟩ = some (v4) ∧ w'.cell? ⟨w.heap.size, 5, none⟩ = some (v5) ∧ w'.cell? ⟨w.heap.size, 6, none⟩ = some (v6) ∧ w'.cell? ⟨w.heap.size + 1, 0, none⟩ = some (.int .i64 kind) ∧ w'.cell? ⟨w.heap.size + 1, 1, none⟩ = some (.int .i64 (i : Int)) ∧ w'.cell? ⟨w.heap.size + 1, 2, none⟩ = some (.int .i64 dst) ∧ w'.cell? ⟨w.heap.size + 1, 3, none⟩ = some (.int .i64 sense) ∧ w'.cell? ⟨w.heap.size + 1, 4, none⟩ = some (.slice D delay.length nd) ∧ w'.cell? ⟨w.heap.size + 1, 5, none⟩ = some (.slice E slew.length ne) ∧ w'.cell? ⟨b, off + i * 4 + 3, none⟩ = some (.bool true) ∧ Grows ((w.alloc (.cells #[v0, v1, .slice (some ⟨b, off, none⟩) x.pins.length n0, v3, v4, v5, v6] 71)).alloc (.cells #[.int .i64 kind, .int .i64 (i : Int), .int .i64 dst, .int .i64 sense, .slice D delay.length nd, .slice E slew.length ne] 101)) w')) (by kernel_rfl) ?_ (fun hh0 => ?_)
    · (try dsimp only); exact HK.out _ gk
    refine regTk 0 hh0 ?_
    refine regTk 1 hh0 ?_
    refine regCall 2 (fun K hK => ?_)
    go_simp
    refine (areTables_any true _ (RTables.keep HD.out (Grows.keeps gk))).mono ?_
    rintro e wx ⟨rfl, g⟩
    rw [F4.out]
    replace gg := gg.gt g
    clear g
    (try go_wp2_with fail)
    refine hK.out _ _ ?_ (fun hh1 => ?_)
    · (try dsimp only); exact HK.out _ gk
    clear hK K hh0
    try simp only [Act.put, List.setIfInBounds_toArray, List.set_cons_zero, List.set_cons_succ]
    refine regTk 3 hh1 ?_
    refine regTk 4 hh1 ?_
    refine regTk 5 hh1 ?_
    refine regTk 6 hh1 ?_
    refine regCall 7 (fun K hK => ?_)
    go_simp
    refine (areTables_any true _ (RTables.keep HS.out (Grows.keeps gk))).mono ?_
    rintro e wx ⟨rfl, g⟩
    rw [F5.out]
    replace gg := gg.gt g
    clear g
    (try go_wp2_with fail)
    refine hK.out _ _ ?_ (fun hh2 => ?_)
    · (try dsimp only); exact HK.out _ gk
    clear hK K hh1
    try simp only [Act.put, List.setIfInBounds_toArray, List.set_cons_zero, List.set_cons_succ]
    refine regTk 8 hh2 ?_
    refine regTk 9 hh2 ?_
    refine regTk 10 hh2 ?_
    refine regTk 11 hh2 ?_
    refine regTk 12 hh2 ?_
    refine regTk 13 hh2 ?_
    refine regCall 14 (fun K hK => ?_)
    go_simp
    refine (output_any _ (HC.out.keep (Grows.keeps gk))).mono ?_
    rintro e wx ⟨rfl, g⟩
    replace gg := gg.gt g
    clear g
    (try go_wp2_with fail)
    refine hK.out _ _ ?_ (fun hh3 => ?_)
    · (try dsimp only); exact HK.out _ gk
    clear hK K hh2
    try simp only [Act.put, List.setIfInBounds_toArray, List.set_cons_zero, List.set_cons_succ]
    refine regTk 15 hh3 ?_
    refine regTk 16 hh3 ?_
    refine regTk 17 hh3 ?_
    refine regTk 18 hh3 ?_
    refine regTk 19 hh3 ?_
    refine regTk 20 hh3 ?_
    refine regCall 21 (fun K hK => ?_)
    go_simp
    refine (isInput_any _ _ (HC.out.keep (Grows.keeps gk))).mono ?_
    rintro e wx ⟨rfl, g⟩
    rw [FI.out]
    replace gg := gg.gt g
    clear g
    (try go_wp2_with fail)
    refine hK.out _ _ ?_ (fun hh4 => ?_)
    · (try dsimp only); exact HK.out _ gk
    clear hK K hh3
    try simp only [Act.put, List.setIfInBounds_toArray, List.set_cons_zero, List.set_cons_succ]
    refine regTk 22 hh4 ?_
    refine regTk 23 hh4 ?_
    refine wpAnyH_done (by kernel_rfl) ?_ _
    (try dsimp only at hh4)
    obtain ⟨y_0, y_1, y_2, y_3, y_4, y_5, y_6, y_7, y_8, y_9, y_10, y_11, y_12, y_13, -⟩ := hh4
    all_goals go_wp2
    all_goals go_ret
    all_goals exact ⟨ret_bool EP.out.symm, G.out.trans gg⟩
  have t3 : (kind == 3) = false := beq_eq_false_iff_ne.2 k3
  have EP := hideIt (show iArcB x.pins ⟨kind, (i : Int), dst, sense, delay, slew⟩ = false by unfold iArcB; simp [k1, k2, k3, hk])
  have F4 := hideIt z2
  have F5 := hideIt z3
  have FI := hideIt z5
  clear hk z2 z3 z4 z5 cp k1 k2 k3
  go_enter Tryz.func113, Tryz.ntmps113
  go_wp2_with (go_at_call 140; refine (isCheck_any _ _).mono ?_; rintro e w' ⟨rfl, rfl⟩; rw [CK.out])
  refine wp_region_held_drew (S := (fun w' => w'.cell? ⟨w.heap.size, 0, none⟩ = some (v0) ∧ w'.cell? ⟨w.heap.size, 1, none⟩ = some (v1) ∧ w'.cell? ⟨w.heap.size, 2, none⟩ = some (.slice (some ⟨b, off, none⟩) x.pins.length n0) ∧ w'.cell? ⟨w.heap.size, 3, none⟩ = some (v3) ∧ w'.cell? ⟨w.heap.size, 4, none⟩ = some (v4) ∧ w'.cell? ⟨w.heap.size, 5, none⟩ = some (v5) ∧ w'.cell? ⟨w.heap.size, 6, none⟩ = some (v6) ∧ w'.cell? ⟨w.heap.size + 1, 0, none⟩ = some (.int .i64 kind) ∧ w'.cell? ⟨w.heap.size + 1, 1, none⟩ = some (.int .i64 (i : Int)) ∧ w'.cell? ⟨w.heap.size + 1, 2, none⟩ = some (.int .i64 dst) ∧ w'.cell? ⟨w.heap.size + 1, 3, none⟩ = some (.int .i64 sense) ∧ w'.cell? ⟨w.heap.size + 1, 4, none⟩ = some (.slice D delay.length nd) ∧ w'.cell? ⟨w.heap.size + 1, 5, none⟩ = some (.slice E slew.length ne) ∧ w'.cell? ⟨b, off + i * 4 + 3, none⟩ = some (.bool pc) ∧ Grows ((w.alloc (.cells #[v0, v1, .slice (some ⟨b, off, none⟩) x.pins.length n0, v3, v4, v5, v6] 71)).alloc (.cells #[.int .i64 kind, .int .i64 (i : Int), .int .i64 dst, .int .i64 sense, .slice D delay.length nd, .slice E slew.length ne] 101)) w')) (by kernel_rfl) ?_ (fun hh0 => ?_)
  · (try dsimp only); exact HK.out _ gk
  refine regTk 0 hh0 ?_
  refine regTk 1 hh0 ?_
  refine regCall 2 (fun K hK => ?_)
  go_simp
  refine (areTables_any true _ (RTables.keep HD.out (Grows.keeps gk))).mono ?_
  rintro e wx ⟨rfl, g⟩
  rw [F4.out]
  replace gg := gg.gt g
  clear g
  (try go_wp2_with fail)
  refine hK.out _ _ ?_ (fun hh1 => ?_)
  · (try dsimp only); exact HK.out _ gk
  clear hK K hh0
  try simp only [Act.put, List.setIfInBounds_toArray, List.set_cons_zero, List.set_cons_succ]
  refine regTk 3 hh1 ?_
  refine regTk 4 hh1 ?_
  refine regTk 5 hh1 ?_
  refine regTk 6 hh1 ?_
  refine regCall 7 (fun K hK => ?_)
  go_simp
  refine (areTables_any true _ (RTables.keep HS.out (Grows.keeps gk))).mono ?_
  rintro e wx ⟨rfl, g⟩
  rw [F5.out]
  replace gg := gg.gt g
  clear g
  (try go_wp2_with fail)
  refine hK.out _ _ ?_ (fun hh2 => ?_)
  · (try dsimp only); exact HK.out _ gk
  clear hK K hh1
  try simp only [Act.put, List.setIfInBounds_toArray, List.set_cons_zero, List.set_cons_succ]
  refine regTk 8 hh2 ?_
  refine regTk 9 hh2 ?_
  refine regTk 10 hh2 ?_
  refine regTk 11 hh2 ?_
  refine regTk 12 hh2 ?_
  refine regTk 13 hh2 ?_
  refine regCall 14 (fun K hK => ?_)
  go_simp
  refine (output_any _ (HC.out.keep (Grows.keeps gk))).mono ?_
  rintro e wx ⟨rfl, g⟩
  replace gg := gg.gt g
  clear g
  (try go_wp2_with fail)
  refine hK.out _ _ ?_ (fun hh3 => ?_)
  · (try dsimp only); exact HK.out _ gk
  clear hK K hh2
  try simp only [Act.put, List.setIfInBounds_toArray, List.set_cons_zero, List.set_cons_succ]
  refine regTk 15 hh3 ?_
  refine regTk 16 hh3 ?_
  refine regTk 17 hh3 ?_
  refine regTk 18 hh3 ?_
  refine regTk 19 hh3 ?_
  refine regTk 20 hh3 ?_
  refine regCall 21 (fun K hK => ?_)
  go_simp
  refine (isInput_any _ _ (HC.out.keep (Grows.keeps gk))).mono ?_
  rintro e wx ⟨rfl, g⟩
  rw [FI.out]
  replace gg := gg.gt g
  clear g
  (try go_wp2_with fail)
  refine hK.out _ _ ?_ (fun hh4 => ?_)
  · (try dsimp only); exact HK.out _ gk
  clear hK K hh3
  try simp only [Act.put, List.setIfInBounds_toArray, List.set_cons_zero, List.set_cons_succ]
  refine regTk 22 hh4 ?_
  refine regTk 23 hh4 ?_
  refine wpAnyH_done (by kernel_rfl) ?_ _
  (try dsimp only at hh4)
  obtain ⟨y_0, y_1, y_2, y_3, y_4, y_5, y_6, y_7, y_8, y_9, y_10, y_11, y_12, y_13, -⟩ := hh4
  all_goals go_wp2
  all_goals go_ret
  all_goals exact ⟨ret_bool EP.out.symm, G.out.trans gg⟩
end Go.Proofs.YtocahjbmnkadjaaGreatDoor
