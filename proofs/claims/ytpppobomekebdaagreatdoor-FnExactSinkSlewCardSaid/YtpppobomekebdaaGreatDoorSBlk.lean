/-
  The reference's IsBlock and code of a net.
-/
import Derived.Test.YtpppobomekebdaaGreatDoorGT
import Derived.Test.YtpppobomekebdaaGreatDoorGU
import Derived.Test.YtpppobomekebdaaGreatDoorSDes
import Derived.Test.YtpppobomekebdaaGreatDoorGV
import Derived.Test.YtpppobomekebdaaGreatDoorGJ
namespace Go.Proofs.YtpppobomekebdaaGreatDoor
open Go.RowKit

set_option maxHeartbeats 16000000 in
set_option maxRecDepth 10000 in
theorem sIsBlk_any {lv a b c wv : Value} {cs : List CellD} {d : DesignD} {ws : List WireD} (w : World) (hl : RCells w lv cs) (hd : RDesign w [a, b, c] d) (hw : RWires w wv ws) :
    Calls Tryz.prog 10 #[.agg #[lv, a, b, c, wv]] w fun e w' => e = .returned (.bool (blkB cs d ws)) ∧ Grows w w' := by
  have cl := RList.len hl
  have wl := RList.len hw
  obtain ⟨C, nc, rfl⟩ : ∃ (D : Option Addr) (q : Nat), lv = .slice D cs.length q := by obtain ⟨D, q, e, -⟩ := RList.form hl; exact ⟨D, q, e⟩
  obtain ⟨W, nw, rfl⟩ : ∃ (D : Option Addr) (q : Nat), wv = .slice D ws.length q := by obtain ⟨D, q, e, -⟩ := RList.form hw; exact ⟨D, q, e⟩
  have nl := RList.len hd.parts.2.1
  obtain ⟨I, N, O, ni, nn, no, rfl, rfl, rfl⟩ := des_open hd
  have g : Grows w w := Grows.refl w
  have G : Hid (Grows w (w.alloc (.cells #[.slice C cs.length nc, .slice I d.insts.length ni, .slice N d.nets.length nn, .slice O d.ports.length no, .slice W ws.length nw] 44))) := hideIt ((Grows.refl w).alloc _)
  clear g
  have SB : Hid (Blk (w.alloc (.cells #[.slice C cs.length nc, .slice I d.insts.length ni, .slice N d.nets.length nn, .slice O d.ports.length no, .slice W ws.length nw] 44)) (w.heap.size) 44 #[.slice C cs.length nc, .slice I d.insts.length ni, .slice N d.nets.length nn, .slice O d.ports.length no, .slice W ws.length nw]) := by
    have := (Blk.new w 44 #[.slice C cs.length nc, .slice I d.insts.length ni, .slice N d.nets.length nn, .slice O d.ports.length no, .slice W ws.length nw]).grows (Grows.refl (w.alloc (.cells #[.slice C cs.length nc, .slice I d.insts.length ni, .slice N d.nets.length nn, .slice O d.ports.length no, .slice W ws.length nw] 44)))
    exact hideIt (by simpa using this)
  replace hl := hideIt (hl.keep G.out.keeps)
  replace hd := hideIt (hd.keep G.out.keeps)
  replace hw := hideIt (hw.keep G.out.keeps)
  go_enter Tryz.func10, Tryz.ntmps10
  go_wp2_with fail
  refine (sIsDes_any _ hl.out hd.out).mono ?_
  rintro e u1 ⟨rfl, g⟩
  replace G := hideIt (G.out.trans g)
  replace hl := hideIt (hl.out.keep g.keeps)
  replace hd := hideIt (hd.out.keep g.keeps)
  replace hw := hideIt (hw.out.keep g.keeps)
  replace SB := hideIt (SB.out.grows g)
  clear g
  have kSB_0 : u1.cell? ⟨w.heap.size, 0, none⟩ = some (.slice C cs.length nc) := SB.out.cell 0
  have kSB_1 : u1.cell? ⟨w.heap.size, 1, none⟩ = some (.slice I d.insts.length ni) := SB.out.cell 1
  have kSB_2 : u1.cell? ⟨w.heap.size, 2, none⟩ = some (.slice N d.nets.length nn) := SB.out.cell 2
  have kSB_3 : u1.cell? ⟨w.heap.size, 3, none⟩ = some (.slice O d.ports.length no) := SB.out.cell 3
  have kSB_4 : u1.cell? ⟨w.heap.size, 4, none⟩ = some (.slice W ws.length nw) := SB.out.cell 4
  have fSB := SB.out.frozen
  have lSB : w.heap.size < u1.heap.size := SB.out.lt
  cases hc : desB cs d
  · have E2 := hideIt (show blkB cs d ws = false from pB_false fun h => by have h2 := pB_true h.des; rw [show pB (DesP cs d) = false from hc] at h2; cases h2)
    clear hc
    go_wp2
    go_ret
    exact ⟨ret_bool E2.out.symm, G.out⟩
  · have DP := hideIt (pB_iff.1 (show pB (DesP cs d) = true from hc))
    clear hc
    by_cases hlen : ws.length = d.nets.length
    case neg =>
      have E2 := hideIt (show blkB cs d ws = false from pB_false fun h => hlen h.len)
      have t1 : ((ws.length : Int) != (d.nets.length : Int)) = true := by rw [bne_iff_ne]; omega
      clear hlen
      go_wp2
      go_ret
      exact ⟨ret_bool E2.out.symm, G.out⟩
    have t1 : ((ws.length : Int) != (d.nets.length : Int)) = false := by rw [bne_eq_false_iff_eq]; omega
    have HLEN := hideIt hlen
    have hle1 : ws.length ≤ d.nets.length := by omega
    have hle2 : d.nets.length ≤ ws.length := by omega
    have hnn := DP.out.nn
    clear hlen
    go_wp2
    clear kSB_0 kSB_1 kSB_2 kSB_3 kSB_4 fSB lSB
    go_loopw [3] (fun z wr => ∃ k : Nat, k ≤ ws.length ∧ z = .int .i64 (k : Int) ∧ Hid (∀ (j : Nat) (y : WireD), j < k → ws[j]? = some y → wireB y ((sinksL d (j : Int)).length : Int) = true) ∧ Grows u1 wr) (fun z _ => ws.length - (intOf z).toNat)
    case atStart => exact ⟨0, Nat.zero_le _, rfl, fun j y hj => absurd hj (by omega), Grows.refl _⟩
    case round =>
      obtain ⟨k, hk, rfl, hco, hg⟩ := hrel
      have HG := hideIt hg
      clear hg
      have TB := hideIt (SB.out.grows HG.out)
      have kSB_4 : wr.cell? ⟨w.heap.size, 4, none⟩ = some (.slice W ws.length nw) := TB.out.cell 4
      by_cases hlt : k < ws.length
      · obtain ⟨x, hx⟩ : ∃ x, ws[k]? = some x := ⟨_, List.getElem?_eq_getElem hlt⟩
        obtain ⟨bi, oi, A0, A1, A2, A3, m0, m1, m2, m3, rfl, q0, q1, q2, q3, hxr⟩ := wires_at (RWires.keep hw.out HG.out.keeps) hx
        have HXR := hideIt hxr
        have P1 := hideIt hx
        have l1 : (k : Int) < (ws.length : Int) := by omega
        have l4 : (0 : Int) ≤ (k : Int) := by omega
        clear hx hxr
        have K0 : ∀ w', Grows wr w' → w'.cell? ⟨w.heap.size, 1, none⟩ = some (.slice I d.insts.length ni) ∧ w'.cell? ⟨w.heap.size, 2, none⟩ = some (.slice N d.nets.length nn) ∧ w'.cell? ⟨w.heap.size, 3, none⟩ = some (.slice O d.ports.length no) ∧ w'.cell? ⟨w.heap.size, 4, none⟩ = some (.slice (some ⟨bi, oi, none⟩) ws.length nw) ∧ w'.cell? ⟨bi, oi + k * 4, none⟩ = some (.slice A0 x.parent.length m0) ∧ w'.cell? ⟨bi, oi + k * 4 + 1, none⟩ = some (.slice A1 x.res.length m1) ∧ w'.cell? ⟨bi, oi + k * 4 + 2, none⟩ = some (.slice A2 x.cap.length m2) ∧ w'.cell? ⟨bi, oi + k * 4 + 3, none⟩ = some (.slice A3 x.sink.length m3) ∧ Grows wr w' := fun w' G => ⟨(G.cells.1 _ _ TB.out.lt).trans (TB.out.cell 1), (G.cells.1 _ _ TB.out.lt).trans (TB.out.cell 2), (G.cells.1 _ _ TB.out.lt).trans (TB.out.cell 3), (G.cells.1 _ _ TB.out.lt).trans (TB.out.cell 4), G.keeps _ _ q0, G.keeps _ _ q1, G.keeps _ _ q2, G.keeps _ _ q3, G⟩
        have HK := hideIt K0
        clear K0
        have gg : Grows wr wr := Grows.refl _
        cases hb : wireB x ((sinksL d (k : Int)).length : Int)
        · have HB := hideIt hb
          clear hb
          go_wp2
          refine wp_region_held_drew (S := (fun w' => w'.cell? ⟨w.heap.size, 1, none⟩ = some (.slice I d.insts.length ni) ∧ w'.cell? ⟨w.heap.size, 2, none⟩ = some (.slice N d.nets.length nn) ∧ w'.cell? ⟨w.heap.size, 3, none⟩ = some (.slice O d.ports.length no) ∧ w'.cell? ⟨w.heap.size, 4, none⟩ = some (.slice (some ⟨bi, oi, none⟩) ws.length nw) ∧ w'.cell? ⟨bi, oi + k * 4, none⟩ = some (.slice A0 x.parent.length m0) ∧ w'.cell? ⟨bi, oi + k * 4 + 1, none⟩ = some (.slice A1 x.res.length m1) ∧ w'.cell? ⟨bi, oi + k * 4 + 2, none⟩ = some (.slice A2 x.cap.length m2) ∧ w'.cell? ⟨bi, oi + k * 4 + 3, none⟩ = some (.slice A3 x.sink.length m3) ∧ Grows wr w')) (by kernel_rfl) ?_ (fun hh0 => ?_)
          · (try dsimp only); exact HK.out _ gk
          refine regTk 0 hh0 ?_
          refine regTk 1 hh0 ?_
          refine regTk 2 hh0 ?_
          refine regTk 3 hh0 ?_
          refine regTk 4 hh0 ?_
          refine regTk 5 hh0 ?_
          refine regTk 6 hh0 ?_
          refine regTk 7 hh0 ?_
          refine regCall 8 (fun K hK => ?_)
          go_simp
          refine (sSinks_in (k : Int) _ (hd.out.keep (Grows.keeps (HG.out.trans gk))) DP.out).mono ?_
          rintro e wx1 ⟨A9, c9, bs9, rfl, ho, how, g⟩
          replace gg := gg.gt g
          clear g ho how
          (try go_wp2_with fail)
          refine hK.out _ _ ?_ (fun hh1 => ?_)
          · (try dsimp only); exact HK.out _ gk
          clear hK K hh0
          try simp only [Act.put, List.setIfInBounds_toArray, List.set_cons_zero, List.set_cons_succ]
          refine regTk 9 hh1 ?_
          refine regCall 10 (fun K hK => ?_)
          go_simp
          refine (sIsWire_any _ (HXR.out.keep (Grows.keeps gk))).mono ?_
          rintro e wx2 ⟨rfl, g⟩
          rw [HB.out]
          replace gg := gg.gt g
          clear g
          (try go_wp2_with fail)
          refine hK.out _ _ ?_ (fun hh2 => ?_)
          · (try dsimp only); exact HK.out _ gk
          clear hK K hh1
          try simp only [Act.put, List.setIfInBounds_toArray, List.set_cons_zero, List.set_cons_succ]
          refine regTk 11 hh2 ?_
          refine wpAnyH_done (by kernel_rfl) ?_ _
          clear hh2 HK
          have E2 := hideIt (show blkB cs d ws = false from pB_false fun h => by have h2 := h.wire k x P1.out; rw [HB.out] at h2; cases h2)
          go_wp2
          go_ret
          exact ⟨ret_bool E2.out.symm, (G.out.trans HG.out).trans gg⟩
        · have HB := hideIt hb
          clear hb
          go_wp2
          refine wp_region_held_drew (S := (fun w' => w'.cell? ⟨w.heap.size, 1, none⟩ = some (.slice I d.insts.length ni) ∧ w'.cell? ⟨w.heap.size, 2, none⟩ = some (.slice N d.nets.length nn) ∧ w'.cell? ⟨w.heap.size, 3, none⟩ = some (.slice O d.ports.length no) ∧ w'.cell? ⟨w.heap.size, 4, none⟩ = some (.slice (some ⟨bi, oi, none⟩) ws.length nw) ∧ w'.cell? ⟨bi, oi + k * 4, none⟩ = some (.slice A0 x.parent.length m0) ∧ w'.cell? ⟨bi, oi + k * 4 + 1, none⟩ = some (.slice A1 x.res.length m1) ∧ w'.cell? ⟨bi, oi + k * 4 + 2, none⟩ = some (.slice A2 x.cap.length m2) ∧ w'.cell? ⟨bi, oi + k * 4 + 3, none⟩ = some (.slice A3 x.sink.length m3) ∧ Grows wr w')) (by kernel_rfl) ?_ (fun hh0 => ?_)
          · (try dsimp only); exact HK.out _ gk
          refine regTk 0 hh0 ?_
          refine regTk 1 hh0 ?_
          refine regTk 2 hh0 ?_
          refine regTk 3 hh0 ?_
          refine regTk 4 hh0 ?_
          refine regTk 5 hh0 ?_
          refine regTk 6 hh0 ?_
          refine regTk 7 hh0 ?_
          refine regCall 8 (fun K hK => ?_)
          go_simp
          refine (sSinks_in (k : Int) _ (hd.out.keep (Grows.keeps (HG.out.trans gk))) DP.out).mono ?_
          rintro e wx1 ⟨A9, c9, bs9, rfl, ho, how, g⟩
          replace gg := gg.gt g
          clear g ho how
          (try go_wp2_with fail)
          refine hK.out _ _ ?_ (fun hh1 => ?_)
          · (try dsimp only); exact HK.out _ gk
          clear hK K hh0
          try simp only [Act.put, List.setIfInBounds_toArray, List.set_cons_zero, List.set_cons_succ]
          refine regTk 9 hh1 ?_
          refine regCall 10 (fun K hK => ?_)
          go_simp
          refine (sIsWire_any _ (HXR.out.keep (Grows.keeps gk))).mono ?_
          rintro e wx2 ⟨rfl, g⟩
          rw [HB.out]
          replace gg := gg.gt g
          clear g
          (try go_wp2_with fail)
          refine hK.out _ _ ?_ (fun hh2 => ?_)
          · (try dsimp only); exact HK.out _ gk
          clear hK K hh1
          try simp only [Act.put, List.setIfInBounds_toArray, List.set_cons_zero, List.set_cons_succ]
          refine regTk 11 hh2 ?_
          refine wpAnyH_done (by kernel_rfl) ?_ _
          clear hh2 HK
          have GN := hideIt (HG.out.trans gg)
          clear gg
          go_wp2
          go_roundw
          case rel => exact ⟨k + 1, by omega, by go_num, fun j y hj hy => by
            by_cases e : j = k
            · subst e; rw [P1.out] at hy; injection hy with hy; rw [← hy]; exact HB.out
            · exact hco.out j y (by omega) hy, GN.out⟩
          case measure => simp [intOf]; omega
      · obtain rfl : k = ws.length := by omega
        have E2 := hideIt (show blkB cs d ws = true from pB_true ⟨DP.out, HLEN.out, fun j y hy => hco.out j y ((List.getElem?_eq_some_iff.1 hy).1) hy⟩)
        clear hco
        go_wp2
        go_ret
        exact ⟨ret_bool E2.out.symm, G.out.trans HG.out⟩

set_option maxHeartbeats 8000000 in
set_option maxRecDepth 10000 in
theorem sCode_any {lv a b c wv : Value} {cs : List CellD} {d : DesignD} {ws : List WireD} (n : Int) (w : World) (hl : RCells w lv cs) (hd : RDesign w [a, b, c] d) (hw : RWires w wv ws) :
    Calls Tryz.prog 47 #[.agg #[lv, a, b, c, wv], .int .i64 n] w fun e w' => e = .returned (.int .i64 (codeV cs d ws n)) ∧ Grows w w' := by
  have cl := RList.len hl
  have wl := RList.len hw
  obtain ⟨C, nc, rfl⟩ : ∃ (D : Option Addr) (q : Nat), lv = .slice D cs.length q := by obtain ⟨D, q, e, -⟩ := RList.form hl; exact ⟨D, q, e⟩
  obtain ⟨W, nw, rfl⟩ : ∃ (D : Option Addr) (q : Nat), wv = .slice D ws.length q := by obtain ⟨D, q, e, -⟩ := RList.form hw; exact ⟨D, q, e⟩
  have nl := RList.len hd.parts.2.1
  obtain ⟨I, N, O, ni, nn, no, rfl, rfl, rfl⟩ := des_open hd
  have g : Grows w w := Grows.refl w
  have G : Hid (Grows w (w.alloc (.cells #[.slice C cs.length nc, .slice I d.insts.length ni, .slice N d.nets.length nn, .slice O d.ports.length no, .slice W ws.length nw] 44))) := hideIt ((Grows.refl w).alloc _)
  clear g
  have SB : Hid (Blk (w.alloc (.cells #[.slice C cs.length nc, .slice I d.insts.length ni, .slice N d.nets.length nn, .slice O d.ports.length no, .slice W ws.length nw] 44)) (w.heap.size) 44 #[.slice C cs.length nc, .slice I d.insts.length ni, .slice N d.nets.length nn, .slice O d.ports.length no, .slice W ws.length nw]) := by
    have := (Blk.new w 44 #[.slice C cs.length nc, .slice I d.insts.length ni, .slice N d.nets.length nn, .slice O d.ports.length no, .slice W ws.length nw]).grows (Grows.refl (w.alloc (.cells #[.slice C cs.length nc, .slice I d.insts.length ni, .slice N d.nets.length nn, .slice O d.ports.length no, .slice W ws.length nw] 44)))
    exact hideIt (by simpa using this)
  replace hl := hideIt (hl.keep G.out.keeps)
  replace hd := hideIt (hd.keep G.out.keeps)
  replace hw := hideIt (hw.keep G.out.keeps)
  go_enter Tryz.func47, Tryz.ntmps47
  go_wp2_with fail
  refine (sIsBlk_any _ hl.out hd.out hw.out).mono ?_
  rintro e u1 ⟨rfl, g⟩
  replace G := hideIt (G.out.trans g)
  replace hl := hideIt (hl.out.keep g.keeps)
  replace hd := hideIt (hd.out.keep g.keeps)
  replace hw := hideIt (hw.out.keep g.keeps)
  replace SB := hideIt (SB.out.grows g)
  clear g
  have kSB_0 : u1.cell? ⟨w.heap.size, 0, none⟩ = some (.slice C cs.length nc) := SB.out.cell 0
  have kSB_1 : u1.cell? ⟨w.heap.size, 1, none⟩ = some (.slice I d.insts.length ni) := SB.out.cell 1
  have kSB_2 : u1.cell? ⟨w.heap.size, 2, none⟩ = some (.slice N d.nets.length nn) := SB.out.cell 2
  have kSB_3 : u1.cell? ⟨w.heap.size, 3, none⟩ = some (.slice O d.ports.length no) := SB.out.cell 3
  have kSB_4 : u1.cell? ⟨w.heap.size, 4, none⟩ = some (.slice W ws.length nw) := SB.out.cell 4
  have fSB := SB.out.frozen
  have lSB : w.heap.size < u1.heap.size := SB.out.lt
  cases hc : blkB cs d ws
  · have E2 := hideIt (show codeV cs d ws n = 1 from if_neg (by rw [hc]; decide))
    clear hc
    go_wp2
    go_ret
    exact ⟨ret_int E2.out.symm, G.out⟩
  · have BP := hideIt (pB_iff.1 (show pB (BlkP cs d ws) = true from hc))
    have E2 := hideIt (show codeV cs d ws n = if inB n 0 ((ws.length : Int) - 1) = true then 0 else 2 from if_pos hc)
    clear hc
    go_wp2_with fail
    refine (l01In_any _ _ _ _).mono ?_
    rintro e wq ⟨rfl, rfl⟩
    cases hi : inB n 0 ((ws.length : Int) - 1)
    · have E3 := hideIt (E2.out.trans (if_neg (by rw [hi]; decide)))
      clear hi
      go_wp2
      go_ret
      exact ⟨ret_int E3.out.symm, G.out⟩
    · have E3 := hideIt (E2.out.trans (if_pos hi))
      clear hi
      go_wp2
      go_ret
      exact ⟨ret_int E3.out.symm, G.out⟩

end Go.Proofs.YtpppobomekebdaaGreatDoor
