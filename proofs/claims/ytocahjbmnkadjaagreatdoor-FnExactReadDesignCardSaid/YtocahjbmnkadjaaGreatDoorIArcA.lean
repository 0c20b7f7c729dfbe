/-
  Contract of the program's test of an arc.
-/
import Derived.Test.YtocahjbmnkadjaaGreatDoorGJ
import Derived.Test.YtocahjbmnkadjaaGreatDoorGH
namespace Go.Proofs.YtocahjbmnkadjaaGreatDoor
open Go.RowKit
set_option maxHeartbeats 4000000 in
theorem isArc_chk {v0 v1 v3 v4 v5 v6 : Value} {x : CellD} {A D E : Option Addr} {n0 nd ne : Nat} {kind src dst sense : Int} {delay slew : List TableD} (w : World) (h : RCell w [v0, v1, .slice A x.pins.length n0, v3, v4, v5, v6] x) (hd : RTables w (.slice D delay.length nd) delay) (hs : RTables w (.slice E slew.length ne) slew) (hk : kind = 4 ∨ kind = 5) :
    Calls Tryz.prog 113 #[.agg #[v0, v1, .slice A x.pins.length n0, v3, v4, v5, v6], .agg #[.int .i64 kind, .int .i64 src, .int .i64 dst, .int .i64 sense, .slice D delay.length nd, .slice E slew.length ne]] w fun e w' => e = .returned (.bool (iArcB x.pins ⟨kind, src, dst, sense, delay, slew⟩)) ∧ Grows w w' := by
  have pl := RList.len h.parts.2.2.1
  have sl := RList.len hs
  have g0 := ((Grows.refl w).alloc (.cells #[v0, v1, .slice A x.pins.length n0, v3, v4, v5, v6] 71)).alloc (.cells #[.int .i64 kind, .int .i64 src, .int .i64 dst, .int .i64 sense, .slice D delay.length nd, .slice E slew.length ne] 101)
  have G := hideIt g0
  have HC := hideIt (h.keep g0.keeps)
  have HD := hideIt (hd.keep g0.keeps)
  have HS := hideIt (hs.keep g0.keeps)
  have B1 := hideIt ((Blk.new w 71 #[v0, v1, .slice A x.pins.length n0, v3, v4, v5, v6]).grows ((Grows.refl _).alloc (.cells #[.int .i64 kind, .int .i64 src, .int .i64 dst, .int .i64 sense, .slice D delay.length nd, .slice E slew.length ne] 101)))
  have B2 : Hid (Blk ((w.alloc (.cells #[v0, v1, .slice A x.pins.length n0, v3, v4, v5, v6] 71)).alloc (.cells #[.int .i64 kind, .int .i64 src, .int .i64 dst, .int .i64 sense, .slice D delay.length nd, .slice E slew.length ne] 101)) (w.heap.size + 1) 101 #[.int .i64 kind, .int .i64 src, .int .i64 dst, .int .i64 sense, .slice D delay.length nd, .slice E slew.length ne]) := by
    have := Blk.new (w.alloc (.cells #[v0, v1, .slice A x.pins.length n0, v3, v4, v5, v6] 71)) 101 #[.int .i64 kind, .int .i64 src, .int .i64 dst, .int .i64 sense, .slice D delay.length nd, .slice E slew.length ne]
    exact hideIt (by simpa using this)
  have CK := hideIt (show chkB kind = true by unfold chkB; exact decide_eq_true hk)
  clear h hd hs g0
  by_cases z0 : sense = 0
  rotate_left
  · have y0 : (sense == 0) = false := by simpa using z0
    have EP := hideIt (show iArcB x.pins ⟨kind, src, dst, sense, delay, slew⟩ = false by unfold iArcB; simp [hk, z0])
    clear hk z0
    go_enter Tryz.func113, Tryz.ntmps113
    go_wp2_with (go_at_call 140; refine (isCheck_any _ _).mono ?_; rintro e w' ⟨rfl, rfl⟩; rw [CK.out])
    go_quiet (fail)
    all_goals go_wp2
    all_goals go_ret
    all_goals exact ⟨ret_bool EP.out.symm, G.out.drewN _⟩
  have y0 : (sense == 0) = true := by simpa using z0
  by_cases z1 : slew.length = 0
  rotate_left
  · have y1 : ((slew.length : Int) == 0) = false := by rw [beq_eq_false_iff_ne]; omega
    have EP := hideIt (show iArcB x.pins ⟨kind, src, dst, sense, delay, slew⟩ = false by unfold iArcB; simp [hk, z0, z1])
    clear hk z0 z1
    go_enter Tryz.func113, Tryz.ntmps113
    go_wp2_with (go_at_call 140; refine (isCheck_any _ _).mono ?_; rintro e w' ⟨rfl, rfl⟩; rw [CK.out])
    go_quiet (fail)
    all_goals go_wp2
    all_goals go_ret
    all_goals exact ⟨ret_bool EP.out.symm, G.out.drewN _⟩
  have y1 : ((slew.length : Int) == 0) = true := by rw [beq_iff_eq]; omega
  have K0 : ∀ w', Grows ((w.alloc (.cells #[v0, v1, .slice A x.pins.length n0, v3, v4, v5, v6] 71)).alloc (.cells #[.int .i64 kind, .int .i64 src, .int .i64 dst, .int .i64 sense, .slice D delay.length nd, .slice E slew.length ne] 101)) w' → w'.cell? ⟨w.heap.size, 0, none⟩ = some (v0) ∧ w'.cell? ⟨w.heap.size, 1, none⟩ = some (v1) ∧ w'.cell? ⟨w.heap.size, 2, none⟩ = some (.slice A x.pins.length n0) ∧ w'.cell? ⟨w.heap.size, 3, none⟩ = some (v3) ∧ w'.cell? ⟨w.heap.size, 4, none⟩ = some (v4) ∧ w'.cell? ⟨w.heap.size, 5, none⟩ = some (v5) ∧ w'.cell? ⟨w.heap.size, 6, none⟩ = some (v6) ∧ w'.cell? ⟨w.heap.size + 1, 0, none⟩ = some (.int .i64 kind) ∧ w'.cell? ⟨w.heap.size + 1, 1, none⟩ = some (.int .i64 src) ∧ w'.cell? ⟨w.heap.size + 1, 2, none⟩ = some (.int .i64 dst) ∧ w'.cell? ⟨w.heap.size + 1, 3, none⟩ = some (.int .i64 sense) ∧ w'.cell? ⟨w.heap.size + 1, 4, none⟩ = some (.slice D delay.length nd) ∧ w'.cell? ⟨w.heap.size + 1, 5, none⟩ = some (.slice E slew.length ne) ∧ Grows ((w.alloc (.cells #[v0, v1, .slice A x.pins.length n0, v3, v4, v5, v6] 71)).alloc (.cells #[.int .i64 kind, .int .i64 src, .int .i64 dst, .int .i64 sense, .slice D delay.length nd, .slice E slew.length ne] 101)) w' := fun w' G => ⟨(G.cells.1 _ _ (B1.out.lt)).trans (B1.out.cell 0), (G.cells.1 _ _ (B1.out.lt)).trans (B1.out.cell 1), (G.cells.1 _ _ (B1.out.lt)).trans (B1.out.cell 2), (G.cells.1 _ _ (B1.out.lt)).trans (B1.out.cell 3), (G.cells.1 _ _ (B1.out.lt)).trans (B1.out.cell 4), (G.cells.1 _ _ (B1.out.lt)).trans (B1.out.cell 5), (G.cells.1 _ _ (B1.out.lt)).trans (B1.out.cell 6), (G.cells.1 _ _ (B2.out.lt)).trans (B2.out.cell 0), (G.cells.1 _ _ (B2.out.lt)).trans (B2.out.cell 1), (G.cells.1 _ _ (B2.out.lt)).trans (B2.out.cell 2), (G.cells.1 _ _ (B2.out.lt)).trans (B2.out.cell 3), (G.cells.1 _ _ (B2.out.lt)).trans (B2.out.cell 4), (G.cells.1 _ _ (B2.out.lt)).trans (B2.out.cell 5), G⟩
  have HK := hideIt K0
  clear K0
  have gg : Grows ((w.alloc (.cells #[v0, v1, .slice A x.pins.length n0, v3, v4, v5, v6] 71)).alloc (.cells #[.int .i64 kind, .int .i64 src, .int .i64 dst, .int .i64 sense, .slice D delay.length nd, .slice E slew.length ne] 101)) ((w.alloc (.cells #[v0, v1, .slice A x.pins.length n0, v3, v4, v5, v6] 71)).alloc (.cells #[.int .i64 kind, .int .i64 src, .int .i64 dst, .int .i64 sense, .slice D delay.length nd, .slice E slew.length ne] 101)) := Grows.refl _
  cases z2 : tablesB delay false
  · skip
    have EP := hideIt (show iArcB x.pins ⟨kind, src, dst, sense, delay, slew⟩ = false by unfold iArcB; simp [hk, z0, z1, z2])
    have F4 := hideIt z2
    clear hk z0 z1 z2
    go_enter Tryz.func113, Tryz.ntmps113
    go_wp2_with (go_at_call 140; refine (isCheck_any _ _).mono ?_; rintro e w' ⟨rfl, rfl⟩; rw [CK.out])
    refine wp_region_held_drew (S := (fun w' => w'.cell? ⟨w.heap.size, 0, none⟩ = some (v0) ∧ w'.cell? ⟨w.heap.size, 1, none⟩ = some (v1) ∧ w'.cell? ⟨w.heap.size, 2, none⟩ = some (.slice A x.pins.length n0) ∧ w'.cell? ⟨w.heap.size, 3, none⟩ = some (v3) ∧ w'.cell? ⟨w.heap.size, 4, none⟩ = some (v4) ∧ w'.cell? ⟨w.heap.size, 5, none⟩ = some (v5) ∧ w'.cell? ⟨w.heap.size, 6, none⟩ = some (v6) ∧ w'.cell? ⟨w.heap.size + 1, 0, none⟩ = some (.int .i64 kind) ∧ w'.cell? ⟨w.heap.size + 1, 1, none⟩ = some (.int .i64 src) ∧ w'.cell? ⟨w.heap.size + 1, 2, none⟩ = some (.int .i64 dst) ∧ w'.cell? ⟨w.heap.size + 1, 3, none⟩ = some (.int .i64 sense) ∧ w'.cell? ⟨w.heap.size + 1, 4, none⟩ = some (.slice D delay.length nd) ∧ w'.cell? ⟨w.heap.size + 1, 5, none⟩ = some (.slice E slew.length ne) ∧ Grows ((w.alloc (.cells #[v0, v1, .slice A x.pins.length n0, v3, v4, v5, v6] 71)).alloc (.cells #[.int .i64 kind, .int .i64 src, .int .i64 dst, .int .i64 sense, .slice D delay.length nd, .slice E slew.length ne] 101)) w')) (by kernel_rfl) ?_ (fun hh0 => ?_)
    · (try dsimp only); exact HK.out _ gk
    refine regTk 0 hh0 ?_
    refine regTk 1 hh0 ?_
    refine regTk 2 hh0 ?_
    refine regTk 3 hh0 ?_
    refine regTk 4 hh0 ?_
    refine regTk 5 hh0 ?_
    refine regTk 6 hh0 ?_
    refine regTk 7 hh0 ?_
    refine regTk 8 hh0 ?_
    refine regTk 9 hh0 ?_
    refine regTk 10 hh0 ?_
    refine regTk 11 hh0 ?_
    refine regCall 12 (fun K hK => ?_)
    go_simp
    refine (areTables_any false _ (RTables.keep HD.out (Grows.keeps gk))).mono ?_
    rintro e wx ⟨rfl, g⟩
    rw [F4.out]
    replace gg := gg.gt g
    clear g
    (try go_wp2_with fail)
    refine hK.out _ _ ?_ (fun hh1 => ?_)
    · (try dsimp only); exact HK.out _ gk
    clear hK K hh0
    try simp only [Act.put, List.setIfInBounds_toArray, List.set_cons_zero, List.set_cons_succ]
    refine regTk 13 hh1 ?_
    refine regTk 14 hh1 ?_
    refine regSk 15 hh1 ?_
    refine regSk 16 hh1 ?_
    refine regSk 17 hh1 ?_
    refine regSk 18 hh1 ?_
    refine regSk 19 hh1 ?_
    refine regTk 20 hh1 ?_
    refine regTk 21 hh1 ?_
    refine regSk 22 hh1 ?_
    refine regSk 23 hh1 ?_
    refine regSk 24 hh1 ?_
    refine regTk 25 hh1 ?_
    refine regTk 26 hh1 ?_
    refine regSk 27 hh1 ?_
    refine regSk 28 hh1 ?_
    refine regSk 29 hh1 ?_
    refine regSk 30 hh1 ?_
    refine regTk 31 hh1 ?_
    refine regTk 32 hh1 ?_
    refine regSk 33 hh1 ?_
    refine regSk 34 hh1 ?_
    refine regSk 35 hh1 ?_
    refine regSk 36 hh1 ?_
    refine regSk 37 hh1 ?_
    refine regTk 38 hh1 ?_
    refine regTk 39 hh1 ?_
    refine wpAnyH_done (by kernel_rfl) ?_ _
    (try dsimp only at hh1)
    obtain ⟨y_0, y_1, y_2, y_3, y_4, y_5, y_6, y_7, y_8, y_9, y_10, y_11, y_12, -⟩ := hh1
    all_goals go_wp2
    all_goals go_ret
    all_goals exact ⟨ret_bool EP.out.symm, G.out.trans gk⟩
  generalize hci : clkI x.pins = ci at *
  by_cases z3 : src = ci
  rotate_left
  · have y3 : (src == ci) = false := by simpa using z3
    have EP := hideIt (show iArcB x.pins ⟨kind, src, dst, sense, delay, slew⟩ = false by unfold iArcB; simp [hk, z0, z1, z2, hci, z3])
    have F4 := hideIt z2
    have FC := hideIt hci
    clear hk z0 z1 z2 hci z3
    go_enter Tryz.func113, Tryz.ntmps113
    go_wp2_with (go_at_call 140; refine (isCheck_any _ _).mono ?_; rintro e w' ⟨rfl, rfl⟩; rw [CK.out])
    refine wp_region_held_drew (S := (fun w' => w'.cell? ⟨w.heap.size, 0, none⟩ = some (v0) ∧ w'.cell? ⟨w.heap.size, 1, none⟩ = some (v1) ∧ w'.cell? ⟨w.heap.size, 2, none⟩ = some (.slice A x.pins.length n0) ∧ w'.cell? ⟨w.heap.size, 3, none⟩ = some (v3) ∧ w'.cell? ⟨w.heap.size, 4, none⟩ = some (v4) ∧ w'.cell? ⟨w.heap.size, 5, none⟩ = some (v5) ∧ w'.cell? ⟨w.heap.size, 6, none⟩ = some (v6) ∧ w'.cell? ⟨w.heap.size + 1, 0, none⟩ = some (.int .i64 kind) ∧ w'.cell? ⟨w.heap.size + 1, 1, none⟩ = some (.int .i64 src) ∧ w'.cell? ⟨w.heap.size + 1, 2, none⟩ = some (.int .i64 dst) ∧ w'.cell? ⟨w.heap.size + 1, 3, none⟩ = some (.int .i64 sense) ∧ w'.cell? ⟨w.heap.size + 1, 4, none⟩ = some (.slice D delay.length nd) ∧ w'.cell? ⟨w.heap.size + 1, 5, none⟩ = some (.slice E slew.length ne) ∧ Grows ((w.alloc (.cells #[v0, v1, .slice A x.pins.length n0, v3, v4, v5, v6] 71)).alloc (.cells #[.int .i64 kind, .int .i64 src, .int .i64 dst, .int .i64 sense, .slice D delay.length nd, .slice E slew.length ne] 101)) w')) (by kernel_rfl) ?_ (fun hh0 => ?_)
    · (try dsimp only); exact HK.out _ gk
    refine regTk 0 hh0 ?_
    refine regTk 1 hh0 ?_
    refine regTk 2 hh0 ?_
    refine regTk 3 hh0 ?_
    refine regTk 4 hh0 ?_
    refine regTk 5 hh0 ?_
    refine regTk 6 hh0 ?_
    refine regTk 7 hh0 ?_
    refine regTk 8 hh0 ?_
    refine regTk 9 hh0 ?_
    refine regTk 10 hh0 ?_
    refine regTk 11 hh0 ?_
    refine regCall 12 (fun K hK => ?_)
    go_simp
    refine (areTables_any false _ (RTables.keep HD.out (Grows.keeps gk))).mono ?_
    rintro e wx ⟨rfl, g⟩
    rw [F4.out]
    replace gg := gg.gt g
    clear g
    (try go_wp2_with fail)
    refine hK.out _ _ ?_ (fun hh1 => ?_)
    · (try dsimp only); exact HK.out _ gk
    clear hK K hh0
    try simp only [Act.put, List.setIfInBounds_toArray, List.set_cons_zero, List.set_cons_succ]
    refine regTk 13 hh1 ?_
    refine regTk 14 hh1 ?_
    refine regTk 15 hh1 ?_
    refine regTk 16 hh1 ?_
    refine regTk 17 hh1 ?_
    refine regCall 18 (fun K hK => ?_)
    go_simp
    refine (clock_any _ (HC.out.keep (Grows.keeps gk))).mono ?_
    rintro e wx ⟨rfl, g⟩
    rw [FC.out]
    replace gg := gg.gt g
    clear g
    (try go_wp2_with fail)
    refine hK.out _ _ ?_ (fun hh2 => ?_)
    · (try dsimp only); exact HK.out _ gk
    clear hK K hh1
    try simp only [Act.put, List.setIfInBounds_toArray, List.set_cons_zero, List.set_cons_succ]
    refine regTk 19 hh2 ?_
    refine regTk 20 hh2 ?_
    refine regTk 21 hh2 ?_
    refine regSk 22 hh2 ?_
    refine regSk 23 hh2 ?_
    refine regSk 24 hh2 ?_
    refine regTk 25 hh2 ?_
    refine regTk 26 hh2 ?_
    refine regSk 27 hh2 ?_
    refine regSk 28 hh2 ?_
    refine regSk 29 hh2 ?_
    refine regSk 30 hh2 ?_
    refine regTk 31 hh2 ?_
    refine regTk 32 hh2 ?_
    refine regSk 33 hh2 ?_
    refine regSk 34 hh2 ?_
    refine regSk 35 hh2 ?_
    refine regSk 36 hh2 ?_
    refine regSk 37 hh2 ?_
    refine regTk 38 hh2 ?_
    refine regTk 39 hh2 ?_
    refine wpAnyH_done (by kernel_rfl) ?_ _
    (try dsimp only at hh2)
    obtain ⟨y_0, y_1, y_2, y_3, y_4, y_5, y_6, y_7, y_8, y_9, y_10, y_11, y_12, -⟩ := hh2
    all_goals go_wp2
    all_goals go_ret
    all_goals exact ⟨ret_bool EP.out.symm, G.out.trans gk⟩
  have y3 : (src == ci) = true := by simpa using z3
  by_cases z4 : 0 ≤ src
  rotate_left
  · have y4 : decide (0 ≤ src) = false := decide_eq_false z4
    have EP := hideIt (show iArcB x.pins ⟨kind, src, dst, sense, delay, slew⟩ = false by unfold iArcB; simp [hk, z4])
    have F4 := hideIt z2
    have FC := hideIt hci
    clear hk z0 z1 z2 hci z3
    go_enter Tryz.func113, Tryz.ntmps113
    go_wp2_with (go_at_call 140; refine (isCheck_any _ _).mono ?_; rintro e w' ⟨rfl, rfl⟩; rw [CK.out])
    refine wp_region_held_drew (S := (fun w' => w'.cell? ⟨w.heap.size, 0, none⟩ = some (v0) ∧ w'.cell? ⟨w.heap.size, 1, none⟩ = some (v1) ∧ w'.cell? ⟨w.heap.size, 2, none⟩ = some (.slice A x.pins.length n0) ∧ w'.cell? ⟨w.heap.size, 3, none⟩ = some (v3) ∧ w'.cell? ⟨w.heap.size, 4, none⟩ = some (v4) ∧ w'.cell? ⟨w.heap.size, 5, none⟩ = some (v5) ∧ w'.cell? ⟨w.heap.size, 6, none⟩ = some (v6) ∧ w'.cell? ⟨w.heap.size + 1, 0, none⟩ = some (.int .i64 kind) ∧ w'.cell? ⟨w.heap.size + 1, 1, none⟩ = some (.int .i64 src) ∧ w'.cell? ⟨w.heap.size + 1, 2, none⟩ = some (.int .i64 dst) ∧ w'.cell? ⟨w.heap.size + 1, 3, none⟩ = some (.int .i64 sense) ∧ w'.cell? ⟨w.heap.size + 1, 4, none⟩ = some (.slice D delay.length nd) ∧ w'.cell? ⟨w.heap.size + 1, 5, none⟩ = some (.slice E slew.length ne) ∧ Grows ((w.alloc (.cells #[v0, v1, .slice A x.pins.length n0, v3, v4, v5, v6] 71)).alloc (.cells #[.int .i64 kind, .int .i64 src, .int .i64 dst, .int .i64 sense, .slice D delay.length nd, .slice E slew.length ne] 101)) w')) (by kernel_rfl) ?_ (fun hh0 => ?_)
    · (try dsimp only); exact HK.out _ gk
    refine regTk 0 hh0 ?_
    refine regTk 1 hh0 ?_
    refine regTk 2 hh0 ?_
    refine regTk 3 hh0 ?_
    refine regTk 4 hh0 ?_
    refine regTk 5 hh0 ?_
    refine regTk 6 hh0 ?_
    refine regTk 7 hh0 ?_
    refine regTk 8 hh0 ?_
    refine regTk 9 hh0 ?_
    refine regTk 10 hh0 ?_
    refine regTk 11 hh0 ?_
    refine regCall 12 (fun K hK => ?_)
    go_simp
    refine (areTables_any false _ (RTables.keep HD.out (Grows.keeps gk))).mono ?_
    rintro e wx ⟨rfl, g⟩
    rw [F4.out]
    replace gg := gg.gt g
    clear g
    (try go_wp2_with fail)
    refine hK.out _ _ ?_ (fun hh1 => ?_)
    · (try dsimp only); exact HK.out _ gk
    clear hK K hh0
    try simp only [Act.put, List.setIfInBounds_toArray, List.set_cons_zero, List.set_cons_succ]
    refine regTk 13 hh1 ?_
    refine regTk 14 hh1 ?_
    refine regTk 15 hh1 ?_
    refine regTk 16 hh1 ?_
    refine regTk 17 hh1 ?_
    refine regCall 18 (fun K hK => ?_)
    go_simp
    refine (clock_any _ (HC.out.keep (Grows.keeps gk))).mono ?_
    rintro e wx ⟨rfl, g⟩
    rw [FC.out]
    replace gg := gg.gt g
    clear g
    (try go_wp2_with fail)
    refine hK.out _ _ ?_ (fun hh2 => ?_)
    · (try dsimp only); exact HK.out _ gk
    clear hK K hh1
    try simp only [Act.put, List.setIfInBounds_toArray, List.set_cons_zero, List.set_cons_succ]
    refine regTk 19 hh2 ?_
    refine regTk 20 hh2 ?_
    refine regTk 21 hh2 ?_
    refine regTk 22 hh2 ?_
    refine regTk 23 hh2 ?_
    refine regTk 24 hh2 ?_
    refine regTk 25 hh2 ?_
    refine regTk 26 hh2 ?_
    refine regSk 27 hh2 ?_
    refine regSk 28 hh2 ?_
    refine regSk 29 hh2 ?_
    refine regSk 30 hh2 ?_
    refine regTk 31 hh2 ?_
    refine regTk 32 hh2 ?_
    refine regSk 33 hh2 ?_
    refine regSk 34 hh2 ?_
    refine regSk 35 hh2 ?_
    refine regSk 36 hh2 ?_
    refine regSk 37 hh2 ?_
    refine regTk 38 hh2 ?_
    refine regTk 39 hh2 ?_
    refine wpAnyH_done (by kernel_rfl) ?_ _
    (try dsimp only at hh2)
    obtain ⟨y_0, y_1, y_2, y_3, y_4, y_5, y_6, y_7, y_8, y_9, y_10, y_11, y_12, -⟩ := hh2
    all_goals go_wp2
    all_goals go_ret
    all_goals exact ⟨ret_bool EP.out.symm, G.out.trans gk⟩
  have y4 : decide (0 ≤ src) = true := decide_eq_true z4
  cases z5 : inB dst 0 ((x.pins.length : Int) - 1 - 1)
  · skip
    have EP := hideIt (show iArcB x.pins ⟨kind, src, dst, sense, delay, slew⟩ = false by unfold iArcB; simp [hk, z5])
    have F4 := hideIt z2
    have FC := hideIt hci
    have FI := hideIt z5
    clear hk z0 z1 z2 hci z3 z5
    go_enter Tryz.func113, Tryz.ntmps113
    go_wp2_with (go_at_call 140; refine (isCheck_any _ _).mono ?_; rintro e w' ⟨rfl, rfl⟩; rw [CK.out])
    refine wp_region_held_drew (S := (fun w' => w'.cell? ⟨w.heap.size, 0, none⟩ = some (v0) ∧ w'.cell? ⟨w.heap.size, 1, none⟩ = some (v1) ∧ w'.cell? ⟨w.heap.size, 2, none⟩ = some (.slice A x.pins.length n0) ∧ w'.cell? ⟨w.heap.size, 3, none⟩ = some (v3) ∧ w'.cell? ⟨w.heap.size, 4, none⟩ = some (v4) ∧ w'.cell? ⟨w.heap.size, 5, none⟩ = some (v5) ∧ w'.cell? ⟨w.heap.size, 6, none⟩ = some (v6) ∧ w'.cell? ⟨w.heap.size + 1, 0, none⟩ = some (.int .i64 kind) ∧ w'.cell? ⟨w.heap.size + 1, 1, none⟩ = some (.int .i64 src) ∧ w'.cell? ⟨w.heap.size + 1, 2, none⟩ = some (.int .i64 dst) ∧ w'.cell? ⟨w.heap.size + 1, 3, none⟩ = some (.int .i64 sense) ∧ w'.cell? ⟨w.heap.size + 1, 4, none⟩ = some (.slice D delay.length nd) ∧ w'.cell? ⟨w.heap.size + 1, 5, none⟩ = some (.slice E slew.length ne) ∧ Grows ((w.alloc (.cells #[v0, v1, .slice A x.pins.length n0, v3, v4, v5, v6] 71)).alloc (.cells #[.int .i64 kind, .int .i64 src, .int .i64 dst, .int .i64 sense, .slice D delay.length nd, .slice E slew.length ne] 101)) w')) (by kernel_rfl) ?_ (fun hh0 => ?_)
    · (try dsimp only); exact HK.out _ gk
    refine regTk 0 hh0 ?_
    refine regTk 1 hh0 ?_
    refine regTk 2 hh0 ?_
    refine regTk 3 hh0 ?_
    refine regTk 4 hh0 ?_
    refine regTk 5 hh0 ?_
    refine regTk 6 hh0 ?_
    refine regTk 7 hh0 ?_
    refine regTk 8 hh0 ?_
    refine regTk 9 hh0 ?_
    refine regTk 10 hh0 ?_
    refine regTk 11 hh0 ?_
    refine regCall 12 (fun K hK => ?_)
    go_simp
    refine (areTables_any false _ (RTables.keep HD.out (Grows.keeps gk))).mono ?_
    rintro e wx ⟨rfl, g⟩
    rw [F4.out]
    replace gg := gg.gt g
    clear g
    (try go_wp2_with fail)
    refine hK.out _ _ ?_ (fun hh1 => ?_)
    · (try dsimp only); exact HK.out _ gk
    clear hK K hh0
    try simp only [Act.put, List.setIfInBounds_toArray, List.set_cons_zero, List.set_cons_succ]
    refine regTk 13 hh1 ?_
    refine regTk 14 hh1 ?_
    refine regTk 15 hh1 ?_
    refine regTk 16 hh1 ?_
    refine regTk 17 hh1 ?_
    refine regCall 18 (fun K hK => ?_)
    go_simp
    refine (clock_any _ (HC.out.keep (Grows.keeps gk))).mono ?_
    rintro e wx ⟨rfl, g⟩
    rw [FC.out]
    replace gg := gg.gt g
    clear g
    (try go_wp2_with fail)
    refine hK.out _ _ ?_ (fun hh2 => ?_)
    · (try dsimp only); exact HK.out _ gk
    clear hK K hh1
    try simp only [Act.put, List.setIfInBounds_toArray, List.set_cons_zero, List.set_cons_succ]
    refine regTk 19 hh2 ?_
    refine regTk 20 hh2 ?_
    refine regTk 21 hh2 ?_
    refine regTk 22 hh2 ?_
    refine regTk 23 hh2 ?_
    refine regTk 24 hh2 ?_
    refine regTk 25 hh2 ?_
    refine regTk 26 hh2 ?_
    refine regTk 27 hh2 ?_
    refine regTk 28 hh2 ?_
    refine regTk 29 hh2 ?_
    refine regCall 30 (fun K hK => ?_)
    go_simp
    refine (isInput_any _ _ (HC.out.keep (Grows.keeps gk))).mono ?_
    rintro e wx ⟨rfl, g⟩
    rw [FI.out]
    replace gg := gg.gt g
    clear g
    (try go_wp2_with fail)
    refine hK.out _ _ ?_ (fun hh3 => ?_)
    · (try dsimp only); exact HK.out _ gk
    clear hK K hh2
    try simp only [Act.put, List.setIfInBounds_toArray, List.set_cons_zero, List.set_cons_succ]
    refine regTk 31 hh3 ?_
    refine regTk 32 hh3 ?_
    refine regSk 33 hh3 ?_
    refine regSk 34 hh3 ?_
    refine regSk 35 hh3 ?_
    refine regSk 36 hh3 ?_
    refine regSk 37 hh3 ?_
    refine regTk 38 hh3 ?_
    refine regTk 39 hh3 ?_
    refine wpAnyH_done (by kernel_rfl) ?_ _
    (try dsimp only at hh3)
    obtain ⟨y_0, y_1, y_2, y_3, y_4, y_5, y_6, y_7, y_8, y_9, y_10, y_11, y_12, -⟩ := hh3
    all_goals go_wp2
    all_goals go_ret
    all_goals exact ⟨ret_bool EP.out.symm, G.out.trans gk⟩
  by_cases z6 : dst = src
  · have y6 : (dst != src) = false := by simpa using z6
    have EP := hideIt (show iArcB x.pins ⟨kind, src, dst, sense, delay, slew⟩ = false by unfold iArcB; simp [hk, z6])
    have F4 := hideIt z2
    have FC := hideIt hci
    have FI := hideIt z5
    clear hk z0 z1 z2 hci z3 z5 z6
    go_enter Tryz.func113, Tryz.ntmps113
    go_wp2_with (go_at_call 140; refine (isCheck_any _ _).mono ?_; rintro e w' ⟨rfl, rfl⟩; rw [CK.out])
    refine wp_region_held_drew (S := (fun w' => w'.cell? ⟨w.heap.size, 0, none⟩ = some (v0) ∧ w'.cell? ⟨w.heap.size, 1, none⟩ = some (v1) ∧ w'.cell? ⟨w.heap.size, 2, none⟩ = some (.slice A x.pins.length n0) ∧ w'.cell? ⟨w.heap.size, 3, none⟩ = some (v3) ∧ w'.cell? ⟨w.heap.size, 4, none⟩ = some (v4) ∧ w'.cell? ⟨w.heap.size, 5, none⟩ = some (v5) ∧ w'.cell? ⟨w.heap.size, 6, none⟩ = some (v6) ∧ w'.cell? ⟨w.heap.size + 1, 0, none⟩ = some (.int .i64 kind) ∧ w'.cell? ⟨w.heap.size + 1, 1, none⟩ = some (.int .i64 src) ∧ w'.cell? ⟨w.heap.size + 1, 2, none⟩ = some (.int .i64 dst) ∧ w'.cell? ⟨w.heap.size + 1, 3, none⟩ = some (.int .i64 sense) ∧ w'.cell? ⟨w.heap.size + 1, 4, none⟩ = some (.slice D delay.length nd) ∧ w'.cell? ⟨w.heap.size + 1, 5, none⟩ = some (.slice E slew.length ne) ∧ Grows ((w.alloc (.cells #[v0, v1, .slice A x.pins.length n0, v3, v4, v5, v6] 71)).alloc (.cells #[.int .i64 kind, .int .i64 src, .int .i64 dst, .int .i64 sense, .slice D delay.length nd, .slice E slew.length ne] 101)) w')) (by kernel_rfl) ?_ (fun hh0 => ?_)
    · (try dsimp only); exact HK.out _ gk
    refine regTk 0 hh0 ?_
    refine regTk 1 hh0 ?_
    refine regTk 2 hh0 ?_
    refine regTk 3 hh0 ?_
    refine regTk 4 hh0 ?_
    refine regTk 5 hh0 ?_
    refine regTk 6 hh0 ?_
    refine regTk 7 hh0 ?_
    refine regTk 8 hh0 ?_
    refine regTk 9 hh0 ?_
    refine regTk 10 hh0 ?_
    refine regTk 11 hh0 ?_
    refine regCall 12 (fun K hK => ?_)
    go_simp
    refine (areTables_any false _ (RTables.keep HD.out (Grows.keeps gk))).mono ?_
    rintro e wx ⟨rfl, g⟩
    rw [F4.out]
    replace gg := gg.gt g
    clear g
    (try go_wp2_with fail)
    refine hK.out _ _ ?_ (fun hh1 => ?_)
    · (try dsimp only); exact HK.out _ gk
    clear hK K hh0
    try simp only [Act.put, List.setIfInBounds_toArray, List.set_cons_zero, List.set_cons_succ]
    refine regTk 13 hh1 ?_
    refine regTk 14 hh1 ?_
    refine regTk 15 hh1 ?_
    refine regTk 16 hh1 ?_
    refine regTk 17 hh1 ?_
    refine regCall 18 (fun K hK => ?_)
    go_simp
    refine (clock_any _ (HC.out.keep (Grows.keeps gk))).mono ?_
    rintro e wx ⟨rfl, g⟩
    rw [FC.out]
    replace gg := gg.gt g
    clear g
    (try go_wp2_with fail)
    refine hK.out _ _ ?_ (fun hh2 => ?_)
    · (try dsimp only); exact HK.out _ gk
    clear hK K hh1
    try simp only [Act.put, List.setIfInBounds_toArray, List.set_cons_zero, List.set_cons_succ]
    refine regTk 19 hh2 ?_
    refine regTk 20 hh2 ?_
    refine regTk 21 hh2 ?_
    refine regTk 22 hh2 ?_
    refine regTk 23 hh2 ?_
    refine regTk 24 hh2 ?_
    refine regTk 25 hh2 ?_
    refine regTk 26 hh2 ?_
    refine regTk 27 hh2 ?_
    refine regTk 28 hh2 ?_
    refine regTk 29 hh2 ?_
    refine regCall 30 (fun K hK => ?_)
    go_simp
    refine (isInput_any _ _ (HC.out.keep (Grows.keeps gk))).mono ?_
    rintro e wx ⟨rfl, g⟩
    rw [FI.out]
    replace gg := gg.gt g
    clear g
    (try go_wp2_with fail)
    refine hK.out _ _ ?_ (fun hh3 => ?_)
    · (try dsimp only); exact HK.out _ gk
    clear hK K hh2
    try simp only [Act.put, List.setIfInBounds_toArray, List.set_cons_zero, List.set_cons_succ]
    refine regTk 31 hh3 ?_
    refine regTk 32 hh3 ?_
    refine regTk 33 hh3 ?_
    refine regTk 34 hh3 ?_
    refine regTk 35 hh3 ?_
    refine regTk 36 hh3 ?_
    refine regTk 37 hh3 ?_
    refine regTk 38 hh3 ?_
    refine regTk 39 hh3 ?_
    refine wpAnyH_done (by kernel_rfl) ?_ _
    (try dsimp only at hh3)
    obtain ⟨y_0, y_1, y_2, y_3, y_4, y_5, y_6, y_7, y_8, y_9, y_10, y_11, y_12, -⟩ := hh3
    all_goals go_wp2
    all_goals go_ret
    all_goals exact ⟨ret_bool EP.out.symm, G.out.trans gk⟩
  have y6 : (dst != src) = true := by simpa using z6
  have EP := hideIt (show iArcB x.pins ⟨kind, src, dst, sense, delay, slew⟩ = true by unfold iArcB; simp [hk, z0, z1, z2, hci, ← z3, z4, z5, z6])
  have F4 := hideIt z2
  have FC := hideIt hci
  have FI := hideIt z5
  clear hk z0 z1 z2 hci z3 z5 z6
  go_enter Tryz.func113, Tryz.ntmps113
  go_wp2_with (go_at_call 140; refine (isCheck_any _ _).mono ?_; rintro e w' ⟨rfl, rfl⟩; rw [CK.out])
  refine wp_region_held_drew (S := (fun w' => w'.cell? ⟨w.heap.size, 0, none⟩ = some (v0) ∧ w'.cell? ⟨w.heap.size, 1, none⟩ = some (v1) ∧ w'.cell? ⟨w.heap.size, 2, none⟩ = some (.slice A x.pins.length n0) ∧ w'.cell? ⟨w.heap.size, 3, none⟩ = some (v3) ∧ w'.cell? ⟨w.heap.size, 4, none⟩ = some (v4) ∧ w'.cell? ⟨w.heap.size, 5, none⟩ = some (v5) ∧ w'.cell? ⟨w.heap.size, 6, none⟩ = some (v6) ∧ w'.cell? ⟨w.heap.size + 1, 0, none⟩ = some (.int .i64 kind) ∧ w'.cell? ⟨w.heap.size + 1, 1, none⟩ = some (.int .i64 src) ∧ w'.cell? ⟨w.heap.size + 1, 2, none⟩ = some (.int .i64 dst) ∧ w'.cell? ⟨w.heap.size + 1, 3, none⟩ = some (.int .i64 sense) ∧ w'.cell? ⟨w.heap.size + 1, 4, none⟩ = some (.slice D delay.length nd) ∧ w'.cell? ⟨w.heap.size + 1, 5, none⟩ = some (.slice E slew.length ne) ∧ Grows ((w.alloc (.cells #[v0, v1, .slice A x.pins.length n0, v3, v4, v5, v6] 71)).alloc (.cells #[.int .i64 kind, .int .i64 src, .int .i64 dst, .int .i64 sense, .slice D delay.length nd, .slice E slew.length ne] 101)) w')) (by kernel_rfl) ?_ (fun hh0 => ?_)
  · (try dsimp only); exact HK.out _ gk
  refine regTk 0 hh0 ?_
  refine regTk 1 hh0 ?_
  refine regTk 2 hh0 ?_
  refine regTk 3 hh0 ?_
  refine regTk 4 hh0 ?_
  refine regTk 5 hh0 ?_
  refine regTk 6 hh0 ?_
  refine regTk 7 hh0 ?_
  refine regTk 8 hh0 ?_
  refine regTk 9 hh0 ?_
  refine regTk 10 hh0 ?_
  refine regTk 11 hh0 ?_
  refine regCall 12 (fun K hK => ?_)
  go_simp
  refine (areTables_any false _ (RTables.keep HD.out (Grows.keeps gk))).mono ?_
  rintro e wx ⟨rfl, g⟩
  rw [F4.out]
  replace gg := gg.gt g
  clear g
  (try go_wp2_with fail)
  refine hK.out _ _ ?_ (fun hh1 => ?_)
  · (try dsimp only); exact HK.out _ gk
  clear hK K hh0
  try simp only [Act.put, List.setIfInBounds_toArray, List.set_cons_zero, List.set_cons_succ]
  refine regTk 13 hh1 ?_
  refine regTk 14 hh1 ?_
  refine regTk 15 hh1 ?_
  refine regTk 16 hh1 ?_
  refine regTk 17 hh1 ?_
  refine regCall 18 (fun K hK => ?_)
  go_simp
  refine (clock_any _ (HC.out.keep (Grows.keeps gk))).mono ?_
  rintro e wx ⟨rfl, g⟩
  rw [FC.out]
  replace gg := gg.gt g
  clear g
  (try go_wp2_with fail)
  refine hK.out _ _ ?_ (fun hh2 => ?_)
  · (try dsimp only); exact HK.out _ gk
  clear hK K hh1
  try simp only [Act.put, List.setIfInBounds_toArray, List.set_cons_zero, List.set_cons_succ]
  refine regTk 19 hh2 ?_
  refine regTk 20 hh2 ?_
  refine regTk 21 hh2 ?_
  refine regTk 22 hh2 ?_
  refine regTk 23 hh2 ?_
  refine regTk 24 hh2 ?_
  refine regTk 25 hh2 ?_
  refine regTk 26 hh2 ?_
  refine regTk 27 hh2 ?_
  refine regTk 28 hh2 ?_
  refine regTk 29 hh2 ?_
  refine regCall 30 (fun K hK => ?_)
  go_simp
  refine (isInput_any _ _ (HC.out.keep (Grows.keeps gk))).mono ?_
  rintro e wx ⟨rfl, g⟩
  rw [FI.out]
  replace gg := gg.gt g
  clear g
  (try go_wp2_with fail)
  refine hK.out _ _ ?_ (fun hh3 => ?_)
  · (try dsimp only); exact HK.out _ gk
  clear hK K hh2
  try simp only [Act.put, List.setIfInBounds_toArray, List.set_cons_zero, List.set_cons_succ]
  refine regTk 31 hh3 ?_
  refine regTk 32 hh3 ?_
  refine regTk 33 hh3 ?_
  refine regTk 34 hh3 ?_
  refine regTk 35 hh3 ?_
  refine regTk 36 hh3 ?_
  refine regTk 37 hh3 ?_
  refine regTk 38 hh3 ?_
  refine regTk 39 hh3 ?_
  refine wpAnyH_done (by kernel_rfl) ?_ _
  (try dsimp only at hh3)
  obtain ⟨y_0, y_1, y_2, y_3, y_4, y_5, y_6, y_7, y_8, y_9, y_10, y_11, y_12, -⟩ := hh3
  all_goals go_wp2
  all_goals go_ret
  all_goals exact ⟨ret_bool EP.out.symm, G.out.trans gk⟩
end Go.Proofs.YtocahjbmnkadjaaGreatDoor
