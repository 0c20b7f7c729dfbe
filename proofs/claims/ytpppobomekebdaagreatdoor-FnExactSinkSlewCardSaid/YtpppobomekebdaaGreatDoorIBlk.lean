/-
  The program's IsBlock and code of a net.
-/
import Derived.Test.YtpppobomekebdaaGreatDoorGT
import Derived.Test.YtpppobomekebdaaGreatDoorGU
import Derived.Test.YtpppobomekebdaaGreatDoorIDes
import Derived.Test.YtpppobomekebdaaGreatDoorIPlaces
import Derived.Test.YtpppobomekebdaaGreatDoorGJ
import Derived.Test.YtpppobomekebdaaGreatDoorGV
import Derived.Test.YtpppobomekebdaaGreatDoorGR
import Derived.Test.YtpppobomekebdaaGreatDoorSDes
import Derived.Test.YtpppobomekebdaaGreatDoorGO
namespace Go.Proofs.YtpppobomekebdaaGreatDoor
open Go.RowKit

set_option maxHeartbeats 16000000 in
set_option maxRecDepth 10000 in
theorem iIsBlk_any {lv a b c wv : Value} {cs : List CellD} {d : DesignD} {ws : List WireD} (w : World) (hl : RCells w lv cs) (hd : RDesign w [a, b, c] d) (hw : RWires w wv ws) (hsl : SmCells cs) (hsd : SmDesign d) :
    Calls Tryz.prog 12 #[.agg #[lv, a, b, c, wv]] w fun e w' => e = .returned (.bool (blkB cs d ws)) ∧ Grows w w' := by
  have cl := RList.len hl
  have wl := RList.len hw
  obtain ⟨C, nc, rfl⟩ : ∃ (D : Option Addr) (q : Nat), lv = .slice D cs.length q := by obtain ⟨D, q, e, -⟩ := RList.form hl; exact ⟨D, q, e⟩
  obtain ⟨W, nw, rfl⟩ : ∃ (D : Option Addr) (q : Nat), wv = .slice D ws.length q := by obtain ⟨D, q, e, -⟩ := RList.form hw; exact ⟨D, q, e⟩
  have nl := RList.len hd.parts.2.1
  obtain ⟨I, N, O, ni, nn, no, rfl, rfl, rfl⟩ := des_open hd
  have SA := hideIt hsl
  have SM := hideIt hsd
  clear hsl hsd
  obtain ⟨j0, hj, hy0, hy1, hy2⟩ := info_parts info_i64'
  have g : Grows w w := Grows.refl w
  have G : Hid (Grows w (w.alloc (.cells #[.slice C cs.length nc, .slice I d.insts.length ni, .slice N d.nets.length nn, .slice O d.ports.length no, .slice W ws.length nw] 44))) := hideIt ((Grows.refl w).alloc _)
  clear g
  have SB : Hid (Blk (w.alloc (.cells #[.slice C cs.length nc, .slice I d.insts.length ni, .slice N d.nets.length nn, .slice O d.ports.length no, .slice W ws.length nw] 44)) (w.heap.size) 44 #[.slice C cs.length nc, .slice I d.insts.length ni, .slice N d.nets.length nn, .slice O d.ports.length no, .slice W ws.length nw]) := by
    have := (Blk.new w 44 #[.slice C cs.length nc, .slice I d.insts.length ni, .slice N d.nets.length nn, .slice O d.ports.length no, .slice W ws.length nw]).grows (Grows.refl (w.alloc (.cells #[.slice C cs.length nc, .slice I d.insts.length ni, .slice N d.nets.length nn, .slice O d.ports.length no, .slice W ws.length nw] 44)))
    exact hideIt (by simpa using this)
  replace hl := hideIt (hl.keep G.out.keeps)
  replace hd := hideIt (hd.keep G.out.keeps)
  replace hw := hideIt (hw.keep G.out.keeps)
  go_enter Tryz.func12, Tryz.ntmps12
  go_wp2_with fail
  refine (iIsDes_any _ hl.out hd.out SA.out SM.out).mono ?_
  rintro e u1 ⟨rfl, g⟩
  replace G := hideIt (G.out.trans g)
  replace hl := hideIt (hl.out.keep g.keeps)
  replace hd := hideIt (hd.out.keep g.keeps)
  replace hw := hideIt (hw.out.keep g.keeps)
  replace SB := hideIt (SB.out.grows g)
  clear g
  have kSB_0 : u1.cell? ⟨w.heap.size, 0, none⟩ = some (.slice C cs.length nc) := SB.out.cell 0
  have kSB_1 : u1.cell? ⟨w.heap.size, 1, none⟩ = some (.slice I d.insts.length ni) := SB.out.cell 1
  have kSB_2 : u1.cell? ⟨w.heap.size, 2, none⟩ = some (.slice N d.nets.length nn) := SB.out.cell 2
  have kSB_3 : u1.cell? ⟨w.heap.size, 3, none⟩ = some (.slice O d.ports.length no) := SB.out.cell 3
  have kSB_4 : u1.cell? ⟨w.heap.size, 4, none⟩ = some (.slice W ws.length nw) := SB.out.cell 4
  have fSB := SB.out.frozen
  have lSB : w.heap.size < u1.heap.size := SB.out.lt
  cases hc : desB cs d
  · have E2 := hideIt (show blkB cs d ws = false from pB_false fun h => by have h2 := pB_true h.des; rw [show pB (DesP cs d) = false from hc] at h2; cases h2)
    clear hc
    go_wp2
    go_ret
    exact ⟨ret_bool E2.out.symm, G.out⟩
  · have DP := hideIt (pB_iff.1 (show pB (DesP cs d) = true from hc))
    clear hc
    by_cases hlen : ws.length = d.nets.length
    case neg =>
      have E2 := hideIt (show blkB cs d ws = false from pB_false fun h => hlen h.len)
      have t1 : ((ws.length : Int) != (d.nets.length : Int)) = true := by rw [bne_iff_ne]; omega
      clear hlen
      go_wp2
      go_ret
      exact ⟨ret_bool E2.out.symm, G.out⟩
    have t1 : ((ws.length : Int) != (d.nets.length : Int)) = false := by rw [bne_eq_false_iff_eq]; omega
    have HLEN := hideIt hlen
    have hle1 : ws.length ≤ d.nets.length := by omega
    have hle2 : d.nets.length ≤ ws.length := by omega
    have hnn := DP.out.nn
    clear hlen
    have hmk : ∀ z : World, (Instr.makeSlice 51 (.int .i64 (ws.length : Int)) (.int .i64 (ws.length : Int))).run Tryz.prog z =
        .ok (.slice (some ⟨z.heap.size, 0, none⟩) ws.length ws.length) (z.alloc (.cells (madeCells #[.int .i64 0] ws.length) 2)) := fun z => by
      have h := run_make (P := Tryz.prog) z 51 2 j0 (.int .i64 0) Tryz.underlying51 hj hy0 .i64 .i64 (ws.length : Int) (ws.length : Int) (by omega) (Int.le_refl _) (by rw [hy2]; omega) (by omega)
      simpa [hy1, Value.cells] using h
    have DR := hideIt (Drv.start u1 2 ws.length)
    have GA : Hid (Grows u1 (u1.alloc (.cells (madeCells #[.int .i64 0] ws.length) 2))) := hideIt ((Grows.refl _).alloc _)
    have hdA := hideIt (hd.out.keep GA.out.keeps)
    go_wp2_with fail
    refine (iPlaces_n _ hdA.out DP.out).mono ?_
    rintro e u9 ⟨v, rfl, rp, hnb, g⟩
    have pl := places_len DP.out
    obtain ⟨A, m, rfl⟩ : ∃ (D : Option Addr) (q : Nat), v = .slice D (placesL d).length q := by obtain ⟨D, q, e, -⟩ := RList.form rp; exact ⟨D, q, e⟩
    have RP := hideIt rp
    have NB := hideIt hnb
    have G9 := hideIt (GA.out.trans g)
    have GG := hideIt g
    have D9 := hideIt (DR.out.grows g)
    clear g rp hnb
    have B9 := hideIt (SB.out.grows G9.out)
    have kSB_4 : u9.cell? ⟨w.heap.size, 4, none⟩ = some (.slice W ws.length nw) := B9.out.cell 4
    have lSB := B9.out.lt
    go_wp2
    go_loopw [5, 32] (fun _ z wr => ∃ k : Nat, k ≤ (placesL d).length ∧ z = .int .i64 (k : Int) ∧ Hid (Drv wr u1.heap.size 2 ws.length (fun j => (snkL (j : Int) (placesL d) k).length)) ∧ Hid (Chg [u1.heap.size] u9 wr)) (fun _ z _ => (placesL d).length - (intOf z).toNat)
    case atStart => exact ⟨0, Nat.zero_le _, rfl, hideIt (D9.out.same fun j _ => by simp [snkL]), hideIt (Chg.refl _ _)⟩
    case round =>
      obtain ⟨k, hk, rfl, hdr, hch⟩ := hrel
      by_cases hlt : k < (placesL d).length
      · obtain ⟨p, hp⟩ : ∃ p, (placesL d)[k]? = some p := ⟨_, List.getElem?_eq_getElem hlt⟩
        have hpn := inB_true (show inB p.net 0 ((d.nets.length : Int) - 1) = true from (place_ok DP.out (List.mem_of_getElem? hp)).net)
        obtain ⟨m9, hm9⟩ : ∃ m9 : Nat, p.net = (m9 : Int) := ⟨p.net.toNat, by omega⟩
        obtain ⟨bi, oi, rfl, a0, a1, a2, a3⟩ := place_at RP.out hp
        have ne : bi ≠ u1.heap.size := by have h1 := NB.out bi rfl; simp at h1; omega
        have q0 := hch.out.cell a0 (by simp [ne])
        have q1 := hch.out.cell a1 (by simp [ne])
        have q2 := hch.out.cell a2 (by simp [ne])
        have q3 := hch.out.cell a3 (by simp [ne])
        rw [hm9] at q2
        have hm : m9 < ws.length := by omega
        have HM9 := hideIt hm9
        have SS := hideIt (fun j : Int => snkL_succ (n := j) hp)
        have l1 : (k : Int) < ((placesL d).length : Int) := by omega
        have l4 : (0 : Int) ≤ (k : Int) := by omega
        have l5 : (0 : Int) ≤ (m9 : Int) := by omega
        have l6 : (m9 : Int) < (ws.length : Int) := by omega
        have sl := snkL_len (m9 : Int) (placesL d) k
        have dlt := hdr.out.lt
        clear hp a0 a1 a2 a3 hpn hm9
        cases e2 : p.drives
        · rw [e2] at q3
          have HE := hideIt e2
          clear e2
          have dj := hdr.out.cell hm
          have fj := hdr.out.frozen m9
          have ST := hideIt (hdr.out.step hm (g := fun j => (snkL (j : Int) (placesL d) (k + 1)).length) fun j => by
            rw [SS.out, List.length_append]
            by_cases e : (m9 : Int) = (j : Int)
            · rw [if_pos (show snkAt (j : Int) p = true by unfold snkAt; simp [HM9.out, HE.out, e]), if_pos e]; rfl
            · rw [if_neg (show ¬ snkAt (j : Int) p = true by unfold snkAt; simp [HM9.out, e]), if_neg e]; rfl)
          clear hdr
          generalize (snkL (m9 : Int) (placesL d) k).length = dv at *
          go_wp2
          go_roundw
          case rel => exact ⟨k + 1, by omega, by go_num, hideIt (ST.out.grows ((Grows.refl _).alloc _)), hideIt ((hch.out.setCell (by simp) _).alloc _)⟩
          case measure => simp [intOf]; omega
        · rw [e2] at q3
          have HE := hideIt e2
          clear e2
          have CA := hideIt (hch.out.alloc (.cells #[.int .i64 p.inst, .int .i64 p.pin, .int .i64 (m9 : Int), .bool true] 87))
          have DA := hideIt (hdr.out.grows ((Grows.refl wr).alloc (.cells #[.int .i64 p.inst, .int .i64 p.pin, .int .i64 (m9 : Int), .bool true] 87)))
          have ST := hideIt (DA.out.same (g := fun j => (snkL (j : Int) (placesL d) (k + 1)).length) fun j _ => by
            rw [SS.out, if_neg (show ¬ snkAt (j : Int) p = true by unfold snkAt; simp [HE.out]), List.append_nil])
          clear hdr
          go_wp2
          go_roundw
          case rel => exact ⟨k + 1, by omega, by go_num, ST, CA⟩
          case measure => simp [intOf]; omega
      · obtain rfl : k = (placesL d).length := by omega
        obtain ⟨w3, ew3⟩ : ∃ w3 : World, w3 = wr := ⟨_, rfl⟩
        subst ew3
        have DF := hideIt (hdr.out.same (g := fun j => (sinksL d (j : Int)).length) fun j _ => rfl)
        have G3 := hideIt (show Grows u1 w3 from G9.out.chg hch.out (by simp))
        have B3 := hideIt (SB.out.grows G3.out)
        have HW := hideIt (hw.out.keep G3.out.keeps)
        have kSB_4 : w3.cell? ⟨w.heap.size, 4, none⟩ = some (.slice W ws.length nw) := B3.out.cell 4
        have lSB := B3.out.lt
        have slb : ∀ j : Nat, (sinksL d (j : Int)).length ≤ 78 := fun j => by have := snkL_len (j : Int) (placesL d) (placesL d).length; unfold sinksL; omega
        have SLB := hideIt slb
        clear hdr hch hlt hk slb
        go_wp2
        clear kSB_4
        go_loopw [6, 7, 50] (fun _ _ z wr => ∃ k : Nat, k ≤ ws.length ∧ z = .int .i64 (k : Int) ∧ Hid (∀ (j : Nat) (y : WireD), j < k → ws[j]? = some y → wireB y ((sinksL d (j : Int)).length : Int) = true) ∧ Grows w3 wr) (fun _ _ z _ => ws.length - (intOf z).toNat)
        case atStart => exact ⟨0, Nat.zero_le _, rfl, fun j y hj => absurd hj (by omega), Grows.refl _⟩
        case round =>
          obtain ⟨k, hk, rfl, hco, hg⟩ := hrel
          have HG := hideIt hg
          clear hg
          by_cases hlt : k < ws.length
          · obtain ⟨x, hx⟩ : ∃ x, ws[k]? = some x := ⟨_, List.getElem?_eq_getElem hlt⟩
            obtain ⟨bi, oi, A0, A1, A2, A3, m0, m1, m2, m3, rfl, q0, q1, q2, q3, hxr⟩ := wires_at (RWires.keep HW.out HG.out.keeps) hx
            have P1 := hideIt hx
            have l1 : (k : Int) < (ws.length : Int) := by omega
            have l4 : (0 : Int) ≤ (k : Int) := by omega
            have dk := hideIt ((DF.out.grows HG.out).cell hlt)
            have dlt := (DF.out.grows HG.out).lt
            have HS := hideIt (SLB.out k)
            have GX : Hid (Grows wr (wr.alloc (.cells #[.slice A0 x.parent.length m0, .slice A1 x.res.length m1, .slice A2 x.cap.length m2, .slice A3 x.sink.length m3] 79))) := hideIt ((Grows.refl _).alloc _)
            have HXR := hideIt (hxr.keep GX.out.keeps)
            have XB := hideIt (Blk.new wr 79 #[.slice A0 x.parent.length m0, .slice A1 x.res.length m1, .slice A2 x.cap.length m2, .slice A3 x.sink.length m3])
            clear hx hxr
            have K0 : ∀ w', Grows (wr.alloc (.cells #[.slice A0 x.parent.length m0, .slice A1 x.res.length m1, .slice A2 x.cap.length m2, .slice A3 x.sink.length m3] 79)) w' → w'.cell? ⟨wr.heap.size, 0, none⟩ = some (.slice A0 x.parent.length m0) ∧ w'.cell? ⟨wr.heap.size, 1, none⟩ = some (.slice A1 x.res.length m1) ∧ w'.cell? ⟨wr.heap.size, 2, none⟩ = some (.slice A2 x.cap.length m2) ∧ w'.cell? ⟨wr.heap.size, 3, none⟩ = some (.slice A3 x.sink.length m3) ∧ w'.cell? ⟨u1.heap.size, k, none⟩ = some (.int .i64 ((sinksL d (k : Int)).length : Int)) ∧ Grows (wr.alloc (.cells #[.slice A0 x.parent.length m0, .slice A1 x.res.length m1, .slice A2 x.cap.length m2, .slice A3 x.sink.length m3] 79)) w' := fun w' G => ⟨G.keeps _ _ (XB.out.cell 0), G.keeps _ _ (XB.out.cell 1), G.keeps _ _ (XB.out.cell 2), G.keeps _ _ (XB.out.cell 3), G.keeps _ _ (GX.out.keeps _ _ dk.out), G⟩
            have HK := hideIt K0
            clear K0
            have gg : Grows (wr.alloc (.cells #[.slice A0 x.parent.length m0, .slice A1 x.res.length m1, .slice A2 x.cap.length m2, .slice A3 x.sink.length m3] 79)) (wr.alloc (.cells #[.slice A0 x.parent.length m0, .slice A1 x.res.length m1, .slice A2 x.cap.length m2, .slice A3 x.sink.length m3] 79)) := Grows.refl _
            cases hb : wireB x ((sinksL d (k : Int)).length : Int)
            · have HB := hideIt hb
              clear hb
              go_wp2
              refine wp_region_held_drew (S := (fun w' => w'.cell? ⟨wr.heap.size, 0, none⟩ = some (.slice A0 x.parent.length m0) ∧ w'.cell? ⟨wr.heap.size, 1, none⟩ = some (.slice A1 x.res.length m1) ∧ w'.cell? ⟨wr.heap.size, 2, none⟩ = some (.slice A2 x.cap.length m2) ∧ w'.cell? ⟨wr.heap.size, 3, none⟩ = some (.slice A3 x.sink.length m3) ∧ w'.cell? ⟨u1.heap.size, k, none⟩ = some (.int .i64 ((sinksL d (k : Int)).length : Int)) ∧ Grows (wr.alloc (.cells #[.slice A0 x.parent.length m0, .slice A1 x.res.length m1, .slice A2 x.cap.length m2, .slice A3 x.sink.length m3] 79)) w')) (by kernel_rfl) ?_ (fun hh0 => ?_)
              · (try dsimp only); exact HK.out _ gk
              refine regTk 0 hh0 ?_
              refine regTk 1 hh0 ?_
              refine regTk 2 hh0 ?_
              refine regTk 3 hh0 ?_
              refine regTk 4 hh0 ?_
              refine regCall 5 (fun K hK => ?_)
              go_simp
              refine (iIsWire_any _ (HXR.out.keep (Grows.keeps gk))).mono ?_
              rintro e wx2 ⟨rfl, g⟩
              rw [HB.out]
              replace gg := gg.gt g
              clear g
              (try go_wp2_with fail)
              refine hK.out _ _ ?_ (fun hh1 => ?_)
              · (try dsimp only); exact HK.out _ gk
              clear hK K hh0
              try simp only [Act.put, List.setIfInBounds_toArray, List.set_cons_zero, List.set_cons_succ]
              refine regTk 6 hh1 ?_
              refine wpAnyH_done (by kernel_rfl) ?_ _
              clear hh1 HK
              have E2 := hideIt (show blkB cs d ws = false from pB_false fun h => by have h2 := h.wire k x P1.out; rw [HB.out] at h2; cases h2)
              go_wp2
              go_ret
              exact ⟨ret_bool E2.out.symm, (G.out.trans (G3.out.trans (HG.out.trans GX.out))).trans gg⟩
            · have HB := hideIt hb
              clear hb
              go_wp2
              refine wp_region_held_drew (S := (fun w' => w'.cell? ⟨wr.heap.size, 0, none⟩ = some (.slice A0 x.parent.length m0) ∧ w'.cell? ⟨wr.heap.size, 1, none⟩ = some (.slice A1 x.res.length m1) ∧ w'.cell? ⟨wr.heap.size, 2, none⟩ = some (.slice A2 x.cap.length m2) ∧ w'.cell? ⟨wr.heap.size, 3, none⟩ = some (.slice A3 x.sink.length m3) ∧ w'.cell? ⟨u1.heap.size, k, none⟩ = some (.int .i64 ((sinksL d (k : Int)).length : Int)) ∧ Grows (wr.alloc (.cells #[.slice A0 x.parent.length m0, .slice A1 x.res.length m1, .slice A2 x.cap.length m2, .slice A3 x.sink.length m3] 79)) w')) (by kernel_rfl) ?_ (fun hh0 => ?_)
              · (try dsimp only); exact HK.out _ gk
              refine regTk 0 hh0 ?_
              refine regTk 1 hh0 ?_
              refine regTk 2 hh0 ?_
              refine regTk 3 hh0 ?_
              refine regTk 4 hh0 ?_
              refine regCall 5 (fun K hK => ?_)
              go_simp
              refine (iIsWire_any _ (HXR.out.keep (Grows.keeps gk))).mono ?_
              rintro e wx2 ⟨rfl, g⟩
              rw [HB.out]
              replace gg := gg.gt g
              clear g
              (try go_wp2_with fail)
              refine hK.out _ _ ?_ (fun hh1 => ?_)
              · (try dsimp only); exact HK.out _ gk
              clear hK K hh0
              try simp only [Act.put, List.setIfInBounds_toArray, List.set_cons_zero, List.set_cons_succ]
              refine regTk 6 hh1 ?_
              refine wpAnyH_done (by kernel_rfl) ?_ _
              clear hh1 HK
              have GN := hideIt (HG.out.trans (GX.out.trans gg))
              clear gg
              go_wp2
              go_roundw
              case rel => exact ⟨k + 1, by omega, by go_num, fun j y hj hy => by
                by_cases e : j = k
                · subst e; rw [P1.out] at hy; injection hy with hy; rw [← hy]; exact HB.out
                · exact hco.out j y (by omega) hy, GN.out⟩
              case measure => simp [intOf]; omega
          · obtain rfl : k = ws.length := by omega
            have E2 := hideIt (show blkB cs d ws = true from pB_true ⟨DP.out, HLEN.out, fun j y hy => hco.out j y ((List.getElem?_eq_some_iff.1 hy).1) hy⟩)
            clear hco
            go_wp2
            go_ret
            exact ⟨ret_bool E2.out.symm, G.out.trans (G3.out.trans HG.out)⟩

set_option maxHeartbeats 8000000 in
set_option maxRecDepth 10000 in
theorem iCode_any {lv a b c wv : Value} {cs : List CellD} {d : DesignD} {ws : List WireD} (n : Int) (w : World) (hl : RCells w lv cs) (hd : RDesign w [a, b, c] d) (hw : RWires w wv ws) (hsl : SmCells cs) (hsd : SmDesign d) :
    Calls Tryz.prog 49 #[.agg #[lv, a, b, c, wv], .int .i64 n] w fun e w' => e = .returned (.int .i64 (codeV cs d ws n)) ∧ Grows w w' := by
  have cl := RList.len hl
  have wl := RList.len hw
  obtain ⟨C, nc, rfl⟩ : ∃ (D : Option Addr) (q : Nat), lv = .slice D cs.length q := by obtain ⟨D, q, e, -⟩ := RList.form hl; exact ⟨D, q, e⟩
  obtain ⟨W, nw, rfl⟩ : ∃ (D : Option Addr) (q : Nat), wv = .slice D ws.length q := by obtain ⟨D, q, e, -⟩ := RList.form hw; exact ⟨D, q, e⟩
  have nl := RList.len hd.parts.2.1
  obtain ⟨I, N, O, ni, nn, no, rfl, rfl, rfl⟩ := des_open hd
  have SA := hideIt hsl
  have SM := hideIt hsd
  clear hsl hsd
  have g : Grows w w := Grows.refl w
  have G : Hid (Grows w (w.alloc (.cells #[.slice C cs.length nc, .slice I d.insts.length ni, .slice N d.nets.length nn, .slice O d.ports.length no, .slice W ws.length nw] 44))) := hideIt ((Grows.refl w).alloc _)
  clear g
  have SB : Hid (Blk (w.alloc (.cells #[.slice C cs.length nc, .slice I d.insts.length ni, .slice N d.nets.length nn, .slice O d.ports.length no, .slice W ws.length nw] 44)) (w.heap.size) 44 #[.slice C cs.length nc, .slice I d.insts.length ni, .slice N d.nets.length nn, .slice O d.ports.length no, .slice W ws.length nw]) := by
    have := (Blk.new w 44 #[.slice C cs.length nc, .slice I d.insts.length ni, .slice N d.nets.length nn, .slice O d.ports.length no, .slice W ws.length nw]).grows (Grows.refl (w.alloc (.cells #[.slice C cs.length nc, .slice I d.insts.length ni, .slice N d.nets.length nn, .slice O d.ports.length no, .slice W ws.length nw] 44)))
    exact hideIt (by simpa using this)
  replace hl := hideIt (hl.keep G.out.keeps)
  replace hd := hideIt (hd.keep G.out.keeps)
  replace hw := hideIt (hw.keep G.out.keeps)
  go_enter Tryz.func49, Tryz.ntmps49
  go_wp2_with fail
  refine (iIsBlk_any _ hl.out hd.out hw.out SA.out SM.out).mono ?_
  rintro e u1 ⟨rfl, g⟩
  replace G := hideIt (G.out.trans g)
  replace hl := hideIt (hl.out.keep g.keeps)
  replace hd := hideIt (hd.out.keep g.keeps)
  replace hw := hideIt (hw.out.keep g.keeps)
  replace SB := hideIt (SB.out.grows g)
  clear g
  have kSB_0 : u1.cell? ⟨w.heap.size, 0, none⟩ = some (.slice C cs.length nc) := SB.out.cell 0
  have kSB_1 : u1.cell? ⟨w.heap.size, 1, none⟩ = some (.slice I d.insts.length ni) := SB.out.cell 1
  have kSB_2 : u1.cell? ⟨w.heap.size, 2, none⟩ = some (.slice N d.nets.length nn) := SB.out.cell 2
  have kSB_3 : u1.cell? ⟨w.heap.size, 3, none⟩ = some (.slice O d.ports.length no) := SB.out.cell 3
  have kSB_4 : u1.cell? ⟨w.heap.size, 4, none⟩ = some (.slice W ws.length nw) := SB.out.cell 4
  have fSB := SB.out.frozen
  have lSB : w.heap.size < u1.heap.size := SB.out.lt
  cases hc : blkB cs d ws
  · have E2 := hideIt (show codeV cs d ws n = 1 from if_neg (by rw [hc]; decide))
    clear hc
    go_wp2
    go_ret
    exact ⟨ret_int E2.out.symm, G.out⟩
  · have BP := hideIt (pB_iff.1 (show pB (BlkP cs d ws) = true from hc))
    have E2 := hideIt (show codeV cs d ws n = if inB n 0 ((ws.length : Int) - 1) = true then 0 else 2 from if_pos hc)
    clear hc
    have EL := hideIt (show netIn d n = inB n 0 ((ws.length : Int) - 1) by unfold netIn; rw [BP.out.len])
    go_wp2_with fail
    clear kSB_0 kSB_1 kSB_2 kSB_3 kSB_4 fSB lSB
    refine (isNet_any n _ hd.out).mono ?_
    rintro e u2 ⟨rfl, g⟩
    replace G := hideIt (G.out.trans g)
    replace hl := hideIt (hl.out.keep g.keeps)
    replace hd := hideIt (hd.out.keep g.keeps)
    replace hw := hideIt (hw.out.keep g.keeps)
    replace SB := hideIt (SB.out.grows g)
    clear g
    have kSB_0 : u2.cell? ⟨w.heap.size, 0, none⟩ = some (.slice C cs.length nc) := SB.out.cell 0
    have kSB_1 : u2.cell? ⟨w.heap.size, 1, none⟩ = some (.slice I d.insts.length ni) := SB.out.cell 1
    have kSB_2 : u2.cell? ⟨w.heap.size, 2, none⟩ = some (.slice N d.nets.length nn) := SB.out.cell 2
    have kSB_3 : u2.cell? ⟨w.heap.size, 3, none⟩ = some (.slice O d.ports.length no) := SB.out.cell 3
    have kSB_4 : u2.cell? ⟨w.heap.size, 4, none⟩ = some (.slice W ws.length nw) := SB.out.cell 4
    have fSB := SB.out.frozen
    have lSB : w.heap.size < u2.heap.size := SB.out.lt
    rw [EL.out]
    cases hi : inB n 0 ((ws.length : Int) - 1)
    · have E3 := hideIt (E2.out.trans (if_neg (by rw [hi]; decide)))
      clear hi
      go_wp2
      go_ret
      exact ⟨ret_int E3.out.symm, G.out⟩
    · have E3 := hideIt (E2.out.trans (if_pos hi))
      clear hi
      go_wp2
      go_ret
      exact ⟨ret_int E3.out.symm, G.out⟩

end Go.Proofs.YtpppobomekebdaaGreatDoor
