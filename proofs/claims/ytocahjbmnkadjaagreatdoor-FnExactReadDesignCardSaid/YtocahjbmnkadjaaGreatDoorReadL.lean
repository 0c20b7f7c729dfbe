/-
  The program's reading of a line.
-/
import Derived.Test.YtocahjbmnkadjaaGreatDoorReadI
import Derived.Test.YtocahjbmnkadjaaGreatDoorRC
import Derived.Test.YtocahjbmnkadjaaGreatDoorRB
namespace Go.Proofs.YtocahjbmnkadjaaGreatDoor
open Go.RowKit
/-- what reading a line does to the design in box bd -/
def LinePost (lo bd : Nat) (cs : List CellD) (d : DesignD) (ws : List ByteArray) (w : World) (e : Ending) (w' : World) : Prop :=
  (∃ v, e = .returned v) ∧ Kp lo bd w w' ∧ ∃ vi vn vp, Blk w' bd 30 #[vi, vn, vp] ∧ RSt lo [] w' vi vn vp (stepD cs d ws)
theorem LinePost.mk' {lo bd : Nat} {cs : List CellD} {d d' : DesignD} {ws : List ByteArray} {w w' : World} {v vi vn vp : Value} (k : Kp lo bd w w') (b : Blk w' bd 30 #[vi, vn, vp]) (r : RSt lo [] w' vi vn vp d') (hd : stepD cs d ws = d') : LinePost lo bd cs d ws w (.returned v) w' :=
  ⟨⟨_, rfl⟩, k, vi, vn, vp, b, by rw [hd]; exact r⟩
theorem strs_cell {u : World} {g : Nat} {ws : List ByteArray} (h : Blk u g 9 (ws.map Value.string).toArray) {j : Nat} {x : ByteArray} (hx : ws[j]? = some x) : u.cell? ⟨g, j, none⟩ = some (.string x) := by
  rw [h.cell, List.getElem?_toArray, List.getElem?_map, hx]
  rfl
set_option maxHeartbeats 8000000 in
set_option maxRecDepth 10000 in
theorem readLine_any {lv vi vn vp : Value} {cs : List CellD} {d : DesignD} {lo bd : Nat} (s : ByteArray) (w : World) (hl : RCells w lv cs) (hb : Blk w bd 30 #[vi, vn, vp]) (hr : RSt lo [] w vi vn vp d) (hlo : lo ≤ w.heap.size) (hbd : bd < lo) (hs : s.size ≤ 6000) (hz : SzD 6001 6001 d) (hm : TM w) :
    Calls Tryz.prog 43 #[.pointer (some ⟨bd, 0, none⟩), .agg #[lv], .string s] w (LinePost lo bd cs d (piecesB 32 s) w) := by
  obtain ⟨iS, hiS, hzS, hsS, hbS⟩ := info_parts info_str
  obtain ⟨iI, hiI, hzI, hsI, hbI⟩ := info_parts info_inst
  obtain ⟨iP, hiP, hzP, hsP, hbP⟩ := info_parts info_port
  obtain ⟨⟨Ai, ci, rfl⟩, ⟨An, cn, rfl⟩, ⟨Ap, cp, rfl⟩⟩ := hr.slices
  have z1 := hz.1.1
  have z2 := hz.1.2.1
  have z3 := hz.1.2.2
  have W1 := pieces_one 32 s
  have W2 := pieces_many 32 s
  have HW : Hid (∀ k, (wAt (piecesB 32 s) k).size ≤ 6000) := hideIt (fun k => Nat.le_trans (wAt_small (fun p hp => pieces_small hp) k) hs)
  have HL := hideIt hl
  have HB := hideIt hb
  have HR := hideIt hr
  have HM := hideIt hm
  have hblt := hb.lt
  clear hl hr hm hz hb
  go_enter Tryz.func43, Tryz.ntmps43
  go_upto_region 1 with fail
  refine at_c (fun u => Grows w u ∧ Blk u w.heap.size 35 #[lv] ∧ u.heap.size = w.heap.size + 1) ⟨(Grows.refl w).alloc _, Blk.new w _ _, by simp⟩ (fun u hu => ?_)
  obtain ⟨g0, b0, hsz⟩ := hu
  have G0 := hideIt g0
  have B0 := hideIt b0
  have M0 := hideIt (HM.out.keep g0)
  clear g0 b0
  go_wp2_with fail
  refine (iSplit_any s 32 _ (by omega) M0.out).mono ?_
  rintro e u1 ⟨rfl, e1⟩
  have hsz1 : u1.heap.size = w.heap.size + 2 := by rw [e1]; simp; omega
  have BW := hideIt (Blk.new u 9 ((piecesB 32 s).map Value.string).toArray)
  rw [← e1, hsz] at BW
  have G1 := hideIt ((Grows.refl u).alloc (.cells ((piecesB 32 s).map Value.string).toArray 9))
  rw [← e1] at G1
  replace B0 := hideIt (B0.out.grows G1.out)
  replace G0 := hideIt (G0.out.trans G1.out)
  rw [hsz]
  clear e1 G1 M0
  obtain ⟨ws, hws⟩ : ∃ ws, ws = piecesB 32 s := ⟨_, rfl⟩
  rw [← hws] at W1 W2 HW BW ⊢
  obtain ⟨n, hn⟩ : ∃ n : Nat, n = ws.length := ⟨_, rfl⟩
  rw [← hn] at W1 W2 ⊢
  have WS := hideIt hws
  have WN := hideIt hn
  have HC : Hid (∀ k, k < n → ∀ w', Blk w' (w.heap.size + 1) 9 (ws.map Value.string).toArray → w'.cell? ⟨w.heap.size + 1, k, none⟩ = some (.string (wAt ws k))) := hideIt (fun k hk w' hb => strs_cell hb (wAt_some (by omega)))
  have hsz3 : w.heap.size + 1 < u1.heap.size := by omega
  clear hws hn hsz hsz1
  have C0 : u1.cell? ⟨w.heap.size + 1, 0, none⟩ = some (.string (wAt ws 0)) := HC.out 0 (by omega) _ BW.out
  obtain ⟨q0, hq0⟩ : ∃ q, q = wAt ws 0 := ⟨_, rfl⟩
  rw [← hq0] at C0
  have Q0 := hideIt hq0
  clear hq0
  have hBD := hideIt (HB.out.grows G0.out)
  go_upto_region 2 with fail
  by_cases hn : q0 = rNet ∧ n = 2
  · skip
    have hq : q0 = ⟨#[110, 101, 116]⟩ := hn.1
    have t_q : q0.toList = [110, 101, 116] := by rw [hq]; exact lit_net
    obtain rfl : n = 2 := hn.2
    have HQ := hideIt hq
    clear hq hn
    obtain ⟨q1, hq1⟩ : ∃ q, q = wAt ws 1 := ⟨_, rfl⟩
    have Q1 := hideIt hq1
    clear hq1
    go_upto_region 3 with fail
    obtain ⟨yw, rfl⟩ : ∃ y : World, y = u1 := ⟨_, rfl⟩
    have HS : Hid (∀ w', Grows yw w' → Blk w' bd 30 #[.slice Ai d.insts.length ci, .slice An d.nets.length cn, .slice Ap d.ports.length cp] ∧ Blk w' (w.heap.size + 1) 9 (ws.map Value.string).toArray ∧ Blk w' w.heap.size 35 #[lv]) := hideIt (fun w' gq => ⟨hBD.out.grows gq, BW.out.grows gq, B0.out.grows gq⟩)
    have gg : Grows yw yw := Grows.refl _
    obtain ⟨rc, hrw, FIN⟩ := HR.out.net
    have RW0 := hideIt hrw
    have FN := hideIt FIN
    clear hrw FIN
    refine wp_region_L (k := 12) (S := (fun w' => Blk w' bd 30 #[.slice Ai d.insts.length ci, .slice An d.nets.length cn, .slice Ap d.ports.length cp] ∧ Blk w' (w.heap.size + 1) 9 (ws.map Value.string).toArray ∧ Blk w' w.heap.size 35 #[lv])) (by kernel_rfl) ?_ (fun hh0 => ?_)
    · (try dsimp only); (first | exact S4 | exact HS.out _ (by repeat with_reducible (first | exact gg | exact Grows.refl _ | refine Grows.drew ?_ | refine Grows.alloc ?_ _)))
    refine ltTk 0 hh0 ?_
    refine ltTk 1 hh0 ?_
    refine ltTk 2 hh0 ?_
    refine ltTk 3 hh0 ?_
    refine ltTake 4 (v := .slice An d.nets.length cn) (fun w hw => ?_) hh0 ?_
    · have k0 := hw.1.cell 0
      have k1 := hw.1.cell 1
      have k2 := hw.1.cell 2
      simp at k0 k1 k2
      go_simp
    try simp only [Act.put, List.setIfInBounds_toArray, List.set_cons_zero, List.set_cons_succ]
    refine ltTk 5 hh0 ?_
    refine ltTk 6 hh0 ?_
    refine ltTake 7 (v := .string q1) (fun w hw => ?_) hh0 ?_
    · have k0 := HC.out 1 (by omega) _ hw.2.1
      simp only [← Q1.out] at k0
      go_simp
    try simp only [Act.put, List.setIfInBounds_toArray, List.set_cons_zero, List.set_cons_succ]
    refine ltCall 8 (fun K hK => ?_)
    go_simp
    (try go_wp2_with fail)
    refine hK.out _ _ ?_ (fun hh1 => ?_)
    · (try dsimp only); (first | exact S4 | exact HS.out _ (by repeat with_reducible (first | exact gg | exact Grows.refl _ | refine Grows.drew ?_ | refine Grows.alloc ?_ _)))
    clear hK K hh0
    try simp only [Act.put, List.setIfInBounds_toArray, List.set_cons_zero, List.set_cons_succ]
    refine ltCall 9 (fun K hK => ?_)
    have ga : Grows yw (yw.drew.alloc (.cells #[.string q1] 9)) := gg.drew.alloc _
    have hrl := HR.out.lt.2.2.1
    have hrow := ownsRow_same RW0.out (fun q hq => Below.block (G0.out.trans ga) q (hrl q (by simpa using hq)).2)
    have hb9 := HS.out _ ga
    refine wp_append_at _ _ 27 rfl Tryz.underlying27 hiS hzS hsS (by rw [hbS]; decide) rfl (by decide) (.slice An d.nets.length cn) d.nets.length rc rfl hrow ⟨yw.heap.size, 0, none⟩ 1 [.string q1] rfl rfl (cells_new _ _ _) (by intro u hu; simp at hu; subst hu; rfl) (by omega) ?_
    intro v9 w4 hr4 g4 ho4
    have S4 : Blk w4 bd 30 #[.slice Ai d.insts.length ci, .slice An d.nets.length cn, .slice Ap d.ports.length cp] ∧ Blk w4 (w.heap.size + 1) 9 (ws.map Value.string).toArray ∧ Blk w4 w.heap.size 35 #[lv] := ⟨blk_grown hb9.1 g4 (fun q e => by have := hrl q e; omega), blk_grown hb9.2.1 g4 (fun q e => by have := hrl q e; omega), blk_grown hb9.2.2 g4 (fun q e => by have := hrl q e; omega)⟩
    obtain ⟨A8, c8, e8⟩ := own_slice' hr4
    subst e8
    have x1 := S4.1.cell 1
    have fX := S4.1.frozen
    have lX := S4.1.lt
    simp at x1
    refine hK.out _ _ ?_ (fun hh2 => ?_)
    · (try dsimp only); (first | exact S4 | exact HS.out _ (by repeat with_reducible (first | exact gg | exact Grows.refl _ | refine Grows.drew ?_ | refine Grows.alloc ?_ _)))
    clear hK K hh1
    try simp only [Act.put, List.setIfInBounds_toArray, List.set_cons_zero, List.set_cons_succ]
    refine ltCall 10 (fun K hK => ?_)
    go_simp
    (try go_wp2_with fail)
    refine hK.out _ _ ?_ (fun hh3 => ?_)
    · (try dsimp only); (first | exact S4 | exact HS.out _ (by repeat with_reducible (first | exact gg | exact Grows.refl _ | refine Grows.drew ?_ | refine Grows.alloc ?_ _)))
    clear hK K hh2
    try simp only [Act.put, List.setIfInBounds_toArray, List.set_cons_zero, List.set_cons_succ]
    refine ltTk 11 hh3 ?_
    refine ltLast (fun K hK => ?_)
    go_simp
    (try go_wp2_with fail)
    refine hK.out _ _ ?_
    clear hK K hh3
    refine wpAnyL_done (by kernel_rfl) ?_ _
    have K4 : Hid (Kp lo bd w w4) := hideIt ((Kp.of_grows (G0.out.trans ga)).grown g4 (fun k e => (hrl k e).1) (row_cells hrow))
    have RS := FN.out (yw.drew.alloc (.cells #[.string q1] 9)) w4 (.slice A8 (d.nets.length + 1) c8) q1 (fun q _ hq => Below.block (G0.out.trans ga) q hq) (G0.out.trans ga).size (Nat.le_trans hlo (G0.out.trans ga).size) (by have h := HW.out 1; rw [← Q1.out] at h; unfold maxLen; omega) g4 (by simpa using ho4) hr4
    have B4 := hideIt (S4.1.set_ 1 (.slice A8 (d.nets.length + 1) c8))
    replace RS := hideIt (RS.chg (ds := [bd]) ((Chg.refl _ _).setCell (p := ⟨bd, 1, none⟩) (by simp) (.slice A8 (d.nets.length + 1) c8)) (by simpa using hbd))
    replace K4 := hideIt (K4.out.set 1 (.slice A8 (d.nets.length + 1) c8))
    clear hr4 g4 ho4 S4 x1 fX lX hrow hb9 HS
    go_wp2
    refine bodyPost_ret (by simp [*, results, Tryz.results43, go_sem]; try rfl) rfl ?_
    rw [← WS.out]
    exact LinePost.mk' K4.out B4.out RS.out (step_net (Q0.out.symm.trans HQ.out) WN.out.symm Q1.out.symm)
  have NN1 := hideIt hn
  clear hn
  by_cases hp : q0 = rPort ∧ n = 4
  · skip
    have hq : q0 = ⟨#[112, 111, 114, 116]⟩ := hp.1
    have t_q : q0.toList = [112, 111, 114, 116] := by rw [hq]; exact lit_port
    obtain rfl : n = 4 := hp.2
    have HQ := hideIt hq
    clear hq hp
    obtain ⟨q1, hq1⟩ : ∃ q, q = wAt ws 1 := ⟨_, rfl⟩
    have Q1 := hideIt hq1
    obtain ⟨q2, hq2⟩ : ∃ q, q = wAt ws 2 := ⟨_, rfl⟩
    have Q2 := hideIt hq2
    obtain ⟨q3, hq3⟩ : ∃ q, q = wAt ws 3 := ⟨_, rfl⟩
    have Q3 := hideIt hq3
    have C2 : u1.cell? ⟨w.heap.size + 1, 2, none⟩ = some (.string (wAt ws 2)) := HC.out 2 (by omega) _ BW.out
    rw [← hq2] at C2
    clear hq1 hq2 hq3
    obtain ⟨rc, hrw, FIN⟩ := HR.out.port
    have RW0 := hideIt hrw
    have FN := hideIt FIN
    clear hrw FIN
    by_cases ho : q2 = rOut
    · skip
      have t_out : q2.toList = [111, 117, 116] := by rw [ho]; exact lit_out
      have HO := hideIt ho
      clear ho
      go_upto_region 8 with fail
      obtain ⟨yw, rfl⟩ : ∃ y : World, y = u1 := ⟨_, rfl⟩
      have HS : Hid (∀ w', Grows yw w' → Blk w' bd 30 #[.slice Ai d.insts.length ci, .slice An d.nets.length cn, .slice Ap d.ports.length cp] ∧ Blk w' (w.heap.size + 1) 9 (ws.map Value.string).toArray ∧ Blk w' w.heap.size 35 #[lv]) := hideIt (fun w' gq => ⟨hBD.out.grows gq, BW.out.grows gq, B0.out.grows gq⟩)
      have gg : Grows yw yw := Grows.refl _
      refine wp_region_L (k := 21) (S := (fun w' => Blk w' bd 30 #[.slice Ai d.insts.length ci, .slice An d.nets.length cn, .slice Ap d.ports.length cp] ∧ Blk w' (w.heap.size + 1) 9 (ws.map Value.string).toArray ∧ Blk w' w.heap.size 35 #[lv])) (by kernel_rfl) ?_ (fun hh0 => ?_)
      · (try dsimp only); (first | exact S4 | exact HS.out _ (by repeat with_reducible (first | exact gg | exact Grows.refl _ | refine Grows.drew ?_ | refine Grows.alloc ?_ _)))
      refine ltTk 0 hh0 ?_
      refine ltTk 1 hh0 ?_
      refine ltTk 2 hh0 ?_
      refine ltTk 3 hh0 ?_
      refine ltTake 4 (v := .slice Ap d.ports.length cp) (fun w hw => ?_) hh0 ?_
      · have k0 := hw.1.cell 0
        have k1 := hw.1.cell 1
        have k2 := hw.1.cell 2
        simp at k0 k1 k2
        go_simp
      try simp only [Act.put, List.setIfInBounds_toArray, List.set_cons_zero, List.set_cons_succ]
      refine ltTk 5 hh0 ?_
      refine ltTk 6 hh0 ?_
      refine ltTake 7 (v := .string q1) (fun w hw => ?_) hh0 ?_
      · have k0 := HC.out 1 (by omega) _ hw.2.1
        simp only [← Q1.out] at k0
        go_simp
      try simp only [Act.put, List.setIfInBounds_toArray, List.set_cons_zero, List.set_cons_succ]
      refine ltTk 8 hh0 ?_
      refine ltTk 9 hh0 ?_
      refine ltTk 10 hh0 ?_
      refine ltTake 11 (v := .agg #[.slice Ai d.insts.length ci, .slice An d.nets.length cn, .slice Ap d.ports.length cp]) (fun w hw => ?_) hh0 ?_
      · have k0 := hw.1.cell 0
        have k1 := hw.1.cell 1
        have k2 := hw.1.cell 2
        simp at k0 k1 k2
        go_simp
      try simp only [Act.put, List.setIfInBounds_toArray, List.set_cons_zero, List.set_cons_succ]
      refine ltTk 12 hh0 ?_
      refine ltTk 13 hh0 ?_
      refine ltTake 14 (v := .string q3) (fun w hw => ?_) hh0 ?_
      · have k0 := HC.out 3 (by omega) _ hw.2.1
        simp only [← Q3.out] at k0
        go_simp
      try simp only [Act.put, List.setIfInBounds_toArray, List.set_cons_zero, List.set_cons_succ]
      refine ltCall 15 (fun K hK => ?_)
      go_simp
      have gq := (Grows.refl yw).drew
      refine (netNamed_any q3 _ (HR.out.reads.keep (G0.out.trans gq).keeps)).mono ?_
      rintro e u3 ⟨rfl, g⟩
      have gg : Grows yw u3 := gq.trans g
      clear g gq
      (try go_wp2_with fail)
      refine hK.out _ _ ?_ (fun hh1 => ?_)
      · (try dsimp only); (first | exact S4 | exact HS.out _ (by repeat with_reducible (first | exact gg | exact Grows.refl _ | refine Grows.drew ?_ | refine Grows.alloc ?_ _)))
      clear hK K hh0
      try simp only [Act.put, List.setIfInBounds_toArray, List.set_cons_zero, List.set_cons_succ]
      refine ltTk 16 hh1 ?_
      refine ltCall 17 (fun K hK => ?_)
      go_simp
      (try go_wp2_with fail)
      refine hK.out _ _ ?_ (fun hh2 => ?_)
      · (try dsimp only); (first | exact S4 | exact HS.out _ (by repeat with_reducible (first | exact gg | exact Grows.refl _ | refine Grows.drew ?_ | refine Grows.alloc ?_ _)))
      clear hK K hh1
      try simp only [Act.put, List.setIfInBounds_toArray, List.set_cons_zero, List.set_cons_succ]
      refine ltCall 18 (fun K hK => ?_)
      have ga : Grows yw (u3.alloc (.cells #[.string q1, .int .i64 2, .int .i64 (netI d q3)] 75)) := gg.alloc _
      have hrl := HR.out.lt.2.2.2
      have hrow := ownsRow_same RW0.out (fun q hq => Below.block (G0.out.trans ga) q (hrl q (by simpa using hq)).2)
      have hb9 := HS.out _ ga
      refine wp_append_at _ _ 28 rfl Tryz.underlying28 hiP hzP hsP (by rw [hbP]; decide) rfl (by decide) (.slice Ap d.ports.length cp) d.ports.length rc rfl hrow ⟨u3.heap.size, 0, none⟩ 1 [.string q1, .int .i64 2, .int .i64 (netI d q3)] rfl rfl (cells_new _ _ _) (by intro u hu; simp at hu; rcases hu with rfl | rfl | rfl <;> rfl) (by omega) ?_
      intro v9 w4 hr4 g4 ho4
      have S4 : Blk w4 bd 30 #[.slice Ai d.insts.length ci, .slice An d.nets.length cn, .slice Ap d.ports.length cp] ∧ Blk w4 (w.heap.size + 1) 9 (ws.map Value.string).toArray ∧ Blk w4 w.heap.size 35 #[lv] := ⟨blk_grown hb9.1 g4 (fun q e => by have := hrl q e; omega), blk_grown hb9.2.1 g4 (fun q e => by have := hrl q e; omega), blk_grown hb9.2.2 g4 (fun q e => by have := hrl q e; omega)⟩
      obtain ⟨A8, c8, e8⟩ := own_slice3 hr4
      subst e8
      have x1 := S4.1.cell 2
      have fX := S4.1.frozen
      have lX := S4.1.lt
      simp at x1
      refine hK.out _ _ ?_ (fun hh3 => ?_)
      · (try dsimp only); (first | exact S4 | exact HS.out _ (by repeat with_reducible (first | exact gg | exact Grows.refl _ | refine Grows.drew ?_ | refine Grows.alloc ?_ _)))
      clear hK K hh2
      try simp only [Act.put, List.setIfInBounds_toArray, List.set_cons_zero, List.set_cons_succ]
      refine ltCall 19 (fun K hK => ?_)
      go_simp
      (try go_wp2_with fail)
      refine hK.out _ _ ?_ (fun hh4 => ?_)
      · (try dsimp only); (first | exact S4 | exact HS.out _ (by repeat with_reducible (first | exact gg | exact Grows.refl _ | refine Grows.drew ?_ | refine Grows.alloc ?_ _)))
      clear hK K hh3
      try simp only [Act.put, List.setIfInBounds_toArray, List.set_cons_zero, List.set_cons_succ]
      refine ltTk 20 hh4 ?_
      refine ltLast (fun K hK => ?_)
      go_simp
      (try go_wp2_with fail)
      refine hK.out _ _ ?_
      clear hK K hh4
      refine wpAnyL_done (by kernel_rfl) ?_ _
      have K4 : Hid (Kp lo bd w w4) := hideIt ((Kp.of_grows (G0.out.trans ga)).grown g4 (fun k e => (hrl k e).1) (row_cells hrow))
      have RS := FN.out (u3.alloc (.cells #[.string q1, .int .i64 2, .int .i64 (netI d q3)] 75)) w4 (.slice A8 (d.ports.length + 1) c8) ⟨q1, 2, netI d q3⟩ (fun q _ hq => Below.block (G0.out.trans ga) q hq) (G0.out.trans ga).size (Nat.le_trans hlo (G0.out.trans ga).size) (by have h := HW.out 1; rw [← Q1.out] at h; show q1.size ≤ maxLen; unfold maxLen; omega) g4 (by simpa using ho4) hr4
      have B4 := hideIt (S4.1.set_ 2 (.slice A8 (d.ports.length + 1) c8))
      replace RS := hideIt (RS.chg (ds := [bd]) ((Chg.refl _ _).setCell (p := ⟨bd, 2, none⟩) (by simp) (.slice A8 (d.ports.length + 1) c8)) (by simpa using hbd))
      replace K4 := hideIt (K4.out.set 2 (.slice A8 (d.ports.length + 1) c8))
      clear hr4 g4 ho4 S4 x1 fX lX hrow hb9 HS
      go_wp2
      refine bodyPost_ret (by simp [*, results, Tryz.results43, go_sem]; try rfl) rfl ?_
      rw [← WS.out]
      exact LinePost.mk' K4.out B4.out RS.out (step_port (Q0.out.symm.trans HQ.out) WN.out.symm (by unfold rdPort; rw [← Q1.out, ← Q2.out, ← Q3.out, if_pos HO.out]))
    · skip
      have t_out : (q2.toList == [111, 117, 116]) = false := lit_ne lit_out ho
      have HO := hideIt ho
      clear ho
      go_upto_region 8 with fail
      obtain ⟨yw, rfl⟩ : ∃ y : World, y = u1 := ⟨_, rfl⟩
      have HS : Hid (∀ w', Grows yw w' → Blk w' bd 30 #[.slice Ai d.insts.length ci, .slice An d.nets.length cn, .slice Ap d.ports.length cp] ∧ Blk w' (w.heap.size + 1) 9 (ws.map Value.string).toArray ∧ Blk w' w.heap.size 35 #[lv]) := hideIt (fun w' gq => ⟨hBD.out.grows gq, BW.out.grows gq, B0.out.grows gq⟩)
      have gg : Grows yw yw := Grows.refl _
      refine wp_region_L (k := 21) (S := (fun w' => Blk w' bd 30 #[.slice Ai d.insts.length ci, .slice An d.nets.length cn, .slice Ap d.ports.length cp] ∧ Blk w' (w.heap.size + 1) 9 (ws.map Value.string).toArray ∧ Blk w' w.heap.size 35 #[lv])) (by kernel_rfl) ?_ (fun hh0 => ?_)
      · (try dsimp only); (first | exact S4 | exact HS.out _ (by repeat with_reducible (first | exact gg | exact Grows.refl _ | refine Grows.drew ?_ | refine Grows.alloc ?_ _)))
      refine ltTk 0 hh0 ?_
      refine ltTk 1 hh0 ?_
      refine ltTk 2 hh0 ?_
      refine ltTk 3 hh0 ?_
      refine ltTake 4 (v := .slice Ap d.ports.length cp) (fun w hw => ?_) hh0 ?_
      · have k0 := hw.1.cell 0
        have k1 := hw.1.cell 1
        have k2 := hw.1.cell 2
        simp at k0 k1 k2
        go_simp
      try simp only [Act.put, List.setIfInBounds_toArray, List.set_cons_zero, List.set_cons_succ]
      refine ltTk 5 hh0 ?_
      refine ltTk 6 hh0 ?_
      refine ltTake 7 (v := .string q1) (fun w hw => ?_) hh0 ?_
      · have k0 := HC.out 1 (by omega) _ hw.2.1
        simp only [← Q1.out] at k0
        go_simp
      try simp only [Act.put, List.setIfInBounds_toArray, List.set_cons_zero, List.set_cons_succ]
      refine ltTk 8 hh0 ?_
      refine ltTk 9 hh0 ?_
      refine ltTk 10 hh0 ?_
      refine ltTake 11 (v := .agg #[.slice Ai d.insts.length ci, .slice An d.nets.length cn, .slice Ap d.ports.length cp]) (fun w hw => ?_) hh0 ?_
      · have k0 := hw.1.cell 0
        have k1 := hw.1.cell 1
        have k2 := hw.1.cell 2
        simp at k0 k1 k2
        go_simp
      try simp only [Act.put, List.setIfInBounds_toArray, List.set_cons_zero, List.set_cons_succ]
      refine ltTk 12 hh0 ?_
      refine ltTk 13 hh0 ?_
      refine ltTake 14 (v := .string q3) (fun w hw => ?_) hh0 ?_
      · have k0 := HC.out 3 (by omega) _ hw.2.1
        simp only [← Q3.out] at k0
        go_simp
      try simp only [Act.put, List.setIfInBounds_toArray, List.set_cons_zero, List.set_cons_succ]
      refine ltCall 15 (fun K hK => ?_)
      go_simp
      have gq := (Grows.refl yw).drew
      refine (netNamed_any q3 _ (HR.out.reads.keep (G0.out.trans gq).keeps)).mono ?_
      rintro e u3 ⟨rfl, g⟩
      have gg : Grows yw u3 := gq.trans g
      clear g gq
      (try go_wp2_with fail)
      refine hK.out _ _ ?_ (fun hh1 => ?_)
      · (try dsimp only); (first | exact S4 | exact HS.out _ (by repeat with_reducible (first | exact gg | exact Grows.refl _ | refine Grows.drew ?_ | refine Grows.alloc ?_ _)))
      clear hK K hh0
      try simp only [Act.put, List.setIfInBounds_toArray, List.set_cons_zero, List.set_cons_succ]
      refine ltTk 16 hh1 ?_
      refine ltCall 17 (fun K hK => ?_)
      go_simp
      (try go_wp2_with fail)
      refine hK.out _ _ ?_ (fun hh2 => ?_)
      · (try dsimp only); (first | exact S4 | exact HS.out _ (by repeat with_reducible (first | exact gg | exact Grows.refl _ | refine Grows.drew ?_ | refine Grows.alloc ?_ _)))
      clear hK K hh1
      try simp only [Act.put, List.setIfInBounds_toArray, List.set_cons_zero, List.set_cons_succ]
      refine ltCall 18 (fun K hK => ?_)
      have ga : Grows yw (u3.alloc (.cells #[.string q1, .int .i64 1, .int .i64 (netI d q3)] 75)) := gg.alloc _
      have hrl := HR.out.lt.2.2.2
      have hrow := ownsRow_same RW0.out (fun q hq => Below.block (G0.out.trans ga) q (hrl q (by simpa using hq)).2)
      have hb9 := HS.out _ ga
      refine wp_append_at _ _ 28 rfl Tryz.underlying28 hiP hzP hsP (by rw [hbP]; decide) rfl (by decide) (.slice Ap d.ports.length cp) d.ports.length rc rfl hrow ⟨u3.heap.size, 0, none⟩ 1 [.string q1, .int .i64 1, .int .i64 (netI d q3)] rfl rfl (cells_new _ _ _) (by intro u hu; simp at hu; rcases hu with rfl | rfl | rfl <;> rfl) (by omega) ?_
      intro v9 w4 hr4 g4 ho4
      have S4 : Blk w4 bd 30 #[.slice Ai d.insts.length ci, .slice An d.nets.length cn, .slice Ap d.ports.length cp] ∧ Blk w4 (w.heap.size + 1) 9 (ws.map Value.string).toArray ∧ Blk w4 w.heap.size 35 #[lv] := ⟨blk_grown hb9.1 g4 (fun q e => by have := hrl q e; omega), blk_grown hb9.2.1 g4 (fun q e => by have := hrl q e; omega), blk_grown hb9.2.2 g4 (fun q e => by have := hrl q e; omega)⟩
      obtain ⟨A8, c8, e8⟩ := own_slice3 hr4
      subst e8
      have x1 := S4.1.cell 2
      have fX := S4.1.frozen
      have lX := S4.1.lt
      simp at x1
      refine hK.out _ _ ?_ (fun hh3 => ?_)
      · (try dsimp only); (first | exact S4 | exact HS.out _ (by repeat with_reducible (first | exact gg | exact Grows.refl _ | refine Grows.drew ?_ | refine Grows.alloc ?_ _)))
      clear hK K hh2
      try simp only [Act.put, List.setIfInBounds_toArray, List.set_cons_zero, List.set_cons_succ]
      refine ltCall 19 (fun K hK => ?_)
      go_simp
      (try go_wp2_with fail)
      refine hK.out _ _ ?_ (fun hh4 => ?_)
      · (try dsimp only); (first | exact S4 | exact HS.out _ (by repeat with_reducible (first | exact gg | exact Grows.refl _ | refine Grows.drew ?_ | refine Grows.alloc ?_ _)))
      clear hK K hh3
      try simp only [Act.put, List.setIfInBounds_toArray, List.set_cons_zero, List.set_cons_succ]
      refine ltTk 20 hh4 ?_
      refine ltLast (fun K hK => ?_)
      go_simp
      (try go_wp2_with fail)
      refine hK.out _ _ ?_
      clear hK K hh4
      refine wpAnyL_done (by kernel_rfl) ?_ _
      have K4 : Hid (Kp lo bd w w4) := hideIt ((Kp.of_grows (G0.out.trans ga)).grown g4 (fun k e => (hrl k e).1) (row_cells hrow))
      have RS := FN.out (u3.alloc (.cells #[.string q1, .int .i64 1, .int .i64 (netI d q3)] 75)) w4 (.slice A8 (d.ports.length + 1) c8) ⟨q1, 1, netI d q3⟩ (fun q _ hq => Below.block (G0.out.trans ga) q hq) (G0.out.trans ga).size (Nat.le_trans hlo (G0.out.trans ga).size) (by have h := HW.out 1; rw [← Q1.out] at h; show q1.size ≤ maxLen; unfold maxLen; omega) g4 (by simpa using ho4) hr4
      have B4 := hideIt (S4.1.set_ 2 (.slice A8 (d.ports.length + 1) c8))
      replace RS := hideIt (RS.chg (ds := [bd]) ((Chg.refl _ _).setCell (p := ⟨bd, 2, none⟩) (by simp) (.slice A8 (d.ports.length + 1) c8)) (by simpa using hbd))
      replace K4 := hideIt (K4.out.set 2 (.slice A8 (d.ports.length + 1) c8))
      clear hr4 g4 ho4 S4 x1 fX lX hrow hb9 HS
      go_wp2
      refine bodyPost_ret (by simp [*, results, Tryz.results43, go_sem]; try rfl) rfl ?_
      rw [← WS.out]
      exact LinePost.mk' K4.out B4.out RS.out (step_port (Q0.out.symm.trans HQ.out) WN.out.symm (by unfold rdPort; rw [← Q1.out, ← Q2.out, ← Q3.out, if_neg HO.out]))
  have HP := hideIt hp
  clear hp
  by_cases hi : q0 = rInst ∧ 3 ≤ n
  · skip
    have hq : q0 = ⟨#[105, 110, 115, 116]⟩ := hi.1
    have t_q : q0.toList = [105, 110, 115, 116] := by rw [hq]; exact lit_inst
    have hn3 : 3 ≤ n := hi.2
    have hi3 : (3 : Int) ≤ (n : Int) := by omega
    have HQ := hideIt hq
    clear hq hi
    obtain ⟨rc, hrw, FIN⟩ := HR.out.inst
    have RW0 := hideIt hrw
    have FN := hideIt FIN
    clear hrw FIN
    go_upto_region 10 with fail
    obtain ⟨yw, rfl⟩ : ∃ y : World, y = u1 := ⟨_, rfl⟩
    have HS : Hid (∀ w', Grows yw w' → Blk w' bd 30 #[.slice Ai d.insts.length ci, .slice An d.nets.length cn, .slice Ap d.ports.length cp] ∧ Blk w' (w.heap.size + 1) 9 (ws.map Value.string).toArray ∧ Blk w' w.heap.size 35 #[lv]) := hideIt (fun w' gq => ⟨hBD.out.grows gq, BW.out.grows gq, B0.out.grows gq⟩)
    have gg : Grows yw yw := Grows.refl _
    refine wp_region_L (k := 15) (S := (fun w' => Blk w' bd 30 #[.slice Ai d.insts.length ci, .slice An d.nets.length cn, .slice Ap d.ports.length cp] ∧ Blk w' (w.heap.size + 1) 9 (ws.map Value.string).toArray ∧ Blk w' w.heap.size 35 #[lv])) (by kernel_rfl) ?_ (fun hh0 => ?_)
    · (try dsimp only); (first | exact S4 | exact HS.out _ (by repeat with_reducible (first | exact gg | exact Grows.refl _ | refine Grows.drew ?_ | refine Grows.alloc ?_ _)))
    refine ltTk 0 hh0 ?_
    refine ltTk 1 hh0 ?_
    refine ltTk 2 hh0 ?_
    refine ltTk 3 hh0 ?_
    refine ltTake 4 (v := .slice Ai d.insts.length ci) (fun w hw => ?_) hh0 ?_
    · have k0 := hw.1.cell 0
      have k1 := hw.1.cell 1
      have k2 := hw.1.cell 2
      simp at k0 k1 k2
      go_simp
    try simp only [Act.put, List.setIfInBounds_toArray, List.set_cons_zero, List.set_cons_succ]
    refine ltTk 5 hh0 ?_
    refine ltTk 6 hh0 ?_
    refine ltTake 7 (v := .agg #[.slice Ai d.insts.length ci, .slice An d.nets.length cn, .slice Ap d.ports.length cp]) (fun w hw => ?_) hh0 ?_
    · have k0 := hw.1.cell 0
      have k1 := hw.1.cell 1
      have k2 := hw.1.cell 2
      simp at k0 k1 k2
      go_simp
    try simp only [Act.put, List.setIfInBounds_toArray, List.set_cons_zero, List.set_cons_succ]
    refine ltTake 8 (v := .agg #[lv]) (fun w hw => ?_) hh0 ?_
    · have k0 := hw.2.2.cell 0
      simp at k0
      go_simp
    try simp only [Act.put, List.setIfInBounds_toArray, List.set_cons_zero, List.set_cons_succ]
    refine ltTk 9 hh0 ?_
    refine ltCall 10 (fun K hK => ?_)
    go_simp
    have gq := (Grows.refl yw).drew
    have RI := readInst_any (ws := ws) (w.heap.size + 1) yw.drew (RCells.keep HL.out (G0.out.trans gq).keeps) (HR.out.reads.keep (G0.out.trans gq).keeps) (fun j x hx => strs_cell (BW.out.grows gq) hx) (by have := WN.out; omega) (by have := WN.out; omega)
    rw [← WN.out] at RI
    refine RI.mono ?_
    clear RI
    rintro e u3 ⟨vx, rfl, hvx, g⟩
    obtain ⟨Ax, cx, bx, rfl, ox, wx⟩ := own_oints (xs := (ws.drop 3).map (netI d)) (by rw [List.length_map]; exact hvx)
    have gg : Grows yw u3 := gq.trans g
    obtain ⟨ys, hys⟩ : ∃ ys, ys = (ws.drop 3).map (netI d) := ⟨_, rfl⟩
    rw [← hys] at ox ⊢
    have YS := hideIt hys
    have OX := hideIt ox
    have WX : Hid (Own yw.heap.size u3.heap.size bx) := hideIt wx
    clear g gq hvx hys ox wx
    (try go_wp2_with fail)
    refine hK.out _ _ ?_ (fun hh1 => ?_)
    · (try dsimp only); (first | exact S4 | exact HS.out _ (by repeat with_reducible (first | exact gg | exact Grows.refl _ | refine Grows.drew ?_ | refine Grows.alloc ?_ _)))
    clear hK K hh0
    try simp only [Act.put, List.setIfInBounds_toArray, List.set_cons_zero, List.set_cons_succ]
    refine ltCall 11 (fun K hK => ?_)
    go_simp
    (try go_wp2_with fail)
    refine hK.out _ _ ?_ (fun hh2 => ?_)
    · (try dsimp only); (first | exact S4 | exact HS.out _ (by repeat with_reducible (first | exact gg | exact Grows.refl _ | refine Grows.drew ?_ | refine Grows.alloc ?_ _)))
    clear hK K hh1
    try simp only [Act.put, List.setIfInBounds_toArray, List.set_cons_zero, List.set_cons_succ]
    refine ltCall 12 (fun K hK => ?_)
    have ga : Grows yw (u3.alloc (.cells #[.string (wAt ws 1), .int .i64 (cellI (wAt ws 2) cs), .slice Ax ys.length cx] 77)) := gg.alloc _
    have hrl := HR.out.lt.2.1
    have hrow := ownsRow_same RW0.out (fun q hq => Below.block (G0.out.trans ga) q (hrl q (by simpa using hq)).2)
    have hb9 := HS.out _ ga
    refine wp_append_at _ _ 26 rfl Tryz.underlying26 hiI hzI hsI (by rw [hbI]; decide) rfl (by decide) (.slice Ai d.insts.length ci) d.insts.length rc rfl hrow ⟨u3.heap.size, 0, none⟩ 1 [.string (wAt ws 1), .int .i64 (cellI (wAt ws 2) cs), .slice Ax ys.length cx] rfl rfl (cells_new _ _ _) (by intro u hu; simp at hu; rcases hu with rfl | rfl | rfl <;> rfl) (by omega) ?_
    intro v9 w4 hr4 g4 ho4
    have S4 : Blk w4 bd 30 #[.slice Ai d.insts.length ci, .slice An d.nets.length cn, .slice Ap d.ports.length cp] ∧ Blk w4 (w.heap.size + 1) 9 (ws.map Value.string).toArray ∧ Blk w4 w.heap.size 35 #[lv] := ⟨blk_grown hb9.1 g4 (fun q e => by have := hrl q e; omega), blk_grown hb9.2.1 g4 (fun q e => by have := hrl q e; omega), blk_grown hb9.2.2 g4 (fun q e => by have := hrl q e; omega)⟩
    obtain ⟨A8, c8, e8⟩ := own_slice3 hr4
    subst e8
    have x1 := S4.1.cell 0
    have fX := S4.1.frozen
    have lX := S4.1.lt
    simp at x1
    refine hK.out _ _ ?_ (fun hh3 => ?_)
    · (try dsimp only); (first | exact S4 | exact HS.out _ (by repeat with_reducible (first | exact gg | exact Grows.refl _ | refine Grows.drew ?_ | refine Grows.alloc ?_ _)))
    clear hK K hh2
    try simp only [Act.put, List.setIfInBounds_toArray, List.set_cons_zero, List.set_cons_succ]
    refine ltCall 13 (fun K hK => ?_)
    go_simp
    (try go_wp2_with fail)
    refine hK.out _ _ ?_ (fun hh4 => ?_)
    · (try dsimp only); (first | exact S4 | exact HS.out _ (by repeat with_reducible (first | exact gg | exact Grows.refl _ | refine Grows.drew ?_ | refine Grows.alloc ?_ _)))
    clear hK K hh3
    try simp only [Act.put, List.setIfInBounds_toArray, List.set_cons_zero, List.set_cons_succ]
    refine ltTk 14 hh4 ?_
    refine ltLast (fun K hK => ?_)
    go_simp
    (try go_wp2_with fail)
    refine hK.out _ _ ?_
    clear hK K hh4
    refine wpAnyL_done (by kernel_rfl) ?_ _
    have K4 : Hid (Kp lo bd w w4) := hideIt ((Kp.of_grows (G0.out.trans ga)).grown g4 (fun k e => (hrl k e).1) (row_cells hrow))
    have RS := FN.out (u3.alloc (.cells #[.string (wAt ws 1), .int .i64 (cellI (wAt ws 2) cs), .slice Ax ys.length cx] 77)) w4 (.slice A8 (d.insts.length + 1) c8) ⟨wAt ws 1, cellI (wAt ws 2) cs, ys⟩ [.string (wAt ws 1), .int .i64 (cellI (wAt ws 2) cs), .slice Ax ys.length cx] bx (fun q _ hq => Below.block (G0.out.trans ga) q hq) (G0.out.trans ga).size hlo
      ⟨_, _, rfl, by have h := HW.out 1; show (wAt ws 1).size ≤ maxLen; unfold maxLen; omega, OX.out.same ((SameOn.refl _ _).grows OX.out.lt ((Grows.refl _).alloc _)), rfl⟩ rfl (WX.out.mono G0.out.size (by simp)) g4 (by simpa using ho4) hr4
    have B4 := hideIt (S4.1.set_ 0 (.slice A8 (d.insts.length + 1) c8))
    replace RS := hideIt (RS.chg (ds := [bd]) ((Chg.refl _ _).setCell (p := ⟨bd, 0, none⟩) (by simp) (.slice A8 (d.insts.length + 1) c8)) (by simpa using hbd))
    replace K4 := hideIt (K4.out.set 0 (.slice A8 (d.insts.length + 1) c8))
    clear hr4 g4 ho4 S4 x1 fX lX hrow hb9 HS
    go_wp2
    refine bodyPost_ret (by simp [*, results, Tryz.results43, go_sem]; try rfl) rfl ?_
    rw [← WS.out]
    have ES := step_inst (cs := cs) (d := d) (Q0.out.symm.trans HQ.out) (by have := WN.out; omega : 3 ≤ ws.length)
    refine LinePost.mk' K4.out B4.out RS.out (ES.trans ?_)
    unfold rdInst
    rw [← YS.out]
  have HI := hideIt hi
  clear hi
  by_cases a_net : q0 = rNet
  · have hq : q0 = ⟨#[110, 101, 116]⟩ := a_net
    have t_q : q0.toList = [110, 101, 116] := by rw [hq]; exact lit_net
    have hk : ((n : Int) == 2) = false := by have h := NN1.out; simp; exact fun e => h ⟨hq, by omega⟩
    clear hq a_net
    have KP := hideIt (Kp.of_grows (lo := lo) (b := bd) G0.out)
    have RS := hideIt (HR.out.grows G0.out)
    have NO : Hid (stepD cs d ws = d) := hideIt (step_none (by rw [← WN.out, ← Q0.out]; exact NN1.out) (by rw [← WN.out, ← Q0.out]; exact HP.out) (by rw [← WN.out, ← Q0.out]; exact HI.out))
    go_wp2
    refine bodyPost_ret (by simp [*, results, Tryz.results43, go_sem]; try rfl) rfl ?_
    rw [← WS.out]
    exact LinePost.mk' KP.out hBD.out RS.out NO.out
  have n_net := a_net
  by_cases a_port : q0 = rPort
  · have hq : q0 = ⟨#[112, 111, 114, 116]⟩ := a_port
    have t_q : q0.toList = [112, 111, 114, 116] := by rw [hq]; exact lit_port
    have hk : ((n : Int) == 4) = false := by have h := HP.out; simp; exact fun e => h ⟨hq, by omega⟩
    clear hq a_port
    have KP := hideIt (Kp.of_grows (lo := lo) (b := bd) G0.out)
    have RS := hideIt (HR.out.grows G0.out)
    have NO : Hid (stepD cs d ws = d) := hideIt (step_none (by rw [← WN.out, ← Q0.out]; exact NN1.out) (by rw [← WN.out, ← Q0.out]; exact HP.out) (by rw [← WN.out, ← Q0.out]; exact HI.out))
    go_wp2
    refine bodyPost_ret (by simp [*, results, Tryz.results43, go_sem]; try rfl) rfl ?_
    rw [← WS.out]
    exact LinePost.mk' KP.out hBD.out RS.out NO.out
  have n_port := a_port
  by_cases a_inst : q0 = rInst
  · have hq : q0 = ⟨#[105, 110, 115, 116]⟩ := a_inst
    have t_q : q0.toList = [105, 110, 115, 116] := by rw [hq]; exact lit_inst
    have hk : ¬ (3 : Int) ≤ (n : Int) := by have h := HI.out; exact fun e => h ⟨hq, by omega⟩
    clear hq a_inst
    have KP := hideIt (Kp.of_grows (lo := lo) (b := bd) G0.out)
    have RS := hideIt (HR.out.grows G0.out)
    have NO : Hid (stepD cs d ws = d) := hideIt (step_none (by rw [← WN.out, ← Q0.out]; exact NN1.out) (by rw [← WN.out, ← Q0.out]; exact HP.out) (by rw [← WN.out, ← Q0.out]; exact HI.out))
    go_wp2
    refine bodyPost_ret (by simp [*, results, Tryz.results43, go_sem]; try rfl) rfl ?_
    rw [← WS.out]
    exact LinePost.mk' KP.out hBD.out RS.out NO.out
  have n_inst := a_inst
  have t_net : (q0.toList == [110, 101, 116]) = false := lit_ne lit_net n_net
  have t_port : (q0.toList == [112, 111, 114, 116]) = false := lit_ne lit_port n_port
  have t_inst : (q0.toList == [105, 110, 115, 116]) = false := lit_ne lit_inst n_inst
  have KP := hideIt (Kp.of_grows (lo := lo) (b := bd) G0.out)
  have RS := hideIt (HR.out.grows G0.out)
  have NO : Hid (stepD cs d ws = d) := hideIt (step_none (by rw [← WN.out, ← Q0.out]; exact NN1.out) (by rw [← WN.out, ← Q0.out]; exact HP.out) (by rw [← WN.out, ← Q0.out]; exact HI.out))
  go_wp2
  refine bodyPost_ret (by simp [*, results, Tryz.results43, go_sem]; try rfl) rfl ?_
  rw [← WS.out]
  exact LinePost.mk' KP.out hBD.out RS.out NO.out
end Go.Proofs.YtocahjbmnkadjaaGreatDoor
