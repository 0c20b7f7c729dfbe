/-
  A drawn flop or latch.
-/
import Derived.Test.YtlnpefiipdkafaaGreatDoorL3B
namespace Go.Proofs.YtlnpefiipdkafaaGreatDoor
open Go.RowKit
set_option maxHeartbeats 16000000 in
set_option maxRecDepth 10000 in
theorem l03DrawFlop_any {w0 w : World} {b : Nat} {name : ByteArray} {kind edge : Int} (h : SrcAt w0 w b) (hz : name.size ≤ 8) :
    Calls Tryz.prog 103 #[.pointer (some ⟨b, 0, none⟩), .string name, .int .i64 kind, .int .i64 edge] w (CellPost w0 w b w.heap.size) := by
  have hbw : Hid (b < w.heap.size) := hideIt h.ge.2.2
  have HG : Hid (w0.heap.size ≤ w.heap.size) := hideIt h.ge.2.1.size
  obtain ⟨iA, hiA, hzA, hsA, hbA⟩ := info_two info_Arc bytes_Arc
  have HS := hideIt (h.alloc (.cells #[.string .empty, .int .i64 0, .slice none 0 0, .slice none 0 0, .slice none 0 0, .int .i64 0, .int .i64 0] 112))
  have HC : Hid (Chg [b] w (w.alloc (.cells #[.string .empty, .int .i64 0, .slice none 0 0, .slice none 0 0, .slice none 0 0, .int .i64 0, .int .i64 0] 112))) := hideIt ((Chg.refl _ _).alloc _)
  have R : Hid (Blk (w.alloc (.cells #[.string .empty, .int .i64 0, .slice none 0 0, .slice none 0 0, .slice none 0 0, .int .i64 0, .int .i64 0] 112)) w.heap.size 112 #[.string .empty, .int .i64 0, .slice none 0 0, .slice none 0 0, .slice none 0 0, .int .i64 0, .int .i64 0]) := hideIt (Blk.new w _ _)
  have NR : Hid (w.heap.size ∉ [b]) := hideIt (by have := hbw.out; simp; omega)
  clear h
  go_enter Tryz.func103, Tryz.ntmps103
  go_wp2_with fail
  refine (l01Next_any (w0 := w0) 50 HS.out).mono ?_
  rintro e u1 ⟨lk, rfl, lka, lkb, h_, c_⟩
  have S1 : Hid (w.heap.size + 1 ≤ u1.heap.size) := hideIt (by simpa using c_.size)
  replace HS := hideIt h_
  replace HC := hideIt (HC.out.trans c_)
  replace R := hideIt (R.out.chg c_ NR.out)
  have lkc := lkb (by omega)
  clear h_ c_ lkb
  go_wp2_with fail
  refine (l01Next_any (w0 := w0) 80 HS.out).mono ?_
  rintro e u2 ⟨en, rfl, ena, enb, h_, c_⟩
  have S2 : Hid (u1.heap.size ≤ u2.heap.size) := hideIt (by simpa using c_.size)
  replace HS := hideIt h_
  replace HC := hideIt (HC.out.trans c_)
  replace R := hideIt (R.out.chg c_ NR.out)
  have enc := enb (by omega)
  clear h_ c_ enb
  obtain ⟨ua, hua⟩ : ∃ ua, ua = u2.alloc (.cells #[.string name, .int .i64 kind, .slice none 0 0, .slice none 0 0, .slice none 0 0, .int .i64 lk, .int .i64 en] 112) := ⟨_, rfl⟩
  have za : Hid (u2.heap.size + 1 = ua.heap.size) := hideIt (by rw [hua]; simp)
  have KB : Hid (Blk ua u2.heap.size 112 #[.string name, .int .i64 kind, .slice none 0 0, .slice none 0 0, .slice none 0 0, .int .i64 lk, .int .i64 en]) := hideIt (by rw [hua]; exact Blk.new _ _ _)
  have NB : Hid (u2.heap.size ∉ [b]) := hideIt (by have := hbw.out; have := S1.out; have := S2.out; simp; omega)
  replace HS : Hid (SrcAt w0 ua b) := hideIt (by rw [hua]; exact HS.out.alloc _)
  replace HC : Hid (Chg [b] w ua) := hideIt (by rw [hua]; exact HC.out.alloc _)
  replace R : Hid (Blk ua w.heap.size 112 #[.string .empty, .int .i64 0, .slice none 0 0, .slice none 0 0, .slice none 0 0, .int .i64 0, .int .i64 0]) := hideIt (by rw [hua]; exact R.out.grows ((Grows.refl _).alloc _))
  have HU := hideIt hua
  clear hua
  go_wp2_with fail
  refine at_w (fun u => u = ua) HU.out.symm (fun u hu => ?_)
  subst hu
  refine (l01Next_any (w0 := w0) 9 HS.out).mono ?_
  rintro e u3 ⟨c1, rfl, c1a, c1b, h_, c_⟩
  have S3 : Hid (u.heap.size ≤ u3.heap.size) := hideIt c_.size
  replace HS := hideIt h_
  replace HC := hideIt (HC.out.trans c_)
  replace R := hideIt (R.out.chg c_ NR.out)
  replace KB := hideIt (KB.out.chg c_ NB.out)
  have c1c := c1b (by omega)
  have ew1 : IntKind.i64.wrap (1 + c1) = 1 + c1 := IntWalk.i64_in _ (by omega)
  clear h_ c_ c1b
  go_wp2_with fail
  refine (l01Next_any (w0 := w0) 9 HS.out).mono ?_
  rintro e u4 ⟨c2, rfl, c2a, c2b, h_, c_⟩
  have S4 : Hid (u3.heap.size ≤ u4.heap.size) := hideIt c_.size
  replace HS := hideIt h_
  replace HC := hideIt (HC.out.trans c_)
  replace R := hideIt (R.out.chg c_ NR.out)
  replace KB := hideIt (KB.out.chg c_ NB.out)
  have c2c := c2b (by omega)
  have ew2 : IntKind.i64.wrap (1 + c2) = 1 + c2 := IntWalk.i64_in _ (by omega)
  clear h_ c_ c2b
  have fR := KB.out.frozen
  have lR := KB.out.lt
  have k0 := KB.out.cell 0
  have k1 := KB.out.cell 1
  have k2 := KB.out.cell 2
  have k3 := KB.out.cell 3
  have k4 := KB.out.cell 4
  have k5 := KB.out.cell 5
  have k6 := KB.out.cell 6
  simp at k0 k1 k2 k3 k4 k5 k6
  go_wp2_with fail
  obtain ⟨ps, hps⟩ : ∃ ps : List PinD, ps = [⟨⟨#[100]⟩, 1, 1 + c1, false⟩, ⟨⟨#[99, 107]⟩, 1, 1 + c2, true⟩, ⟨⟨#[113]⟩, 2, 0, false⟩] := ⟨_, rfl⟩
  have PL : Hid (ps.length = 3) := hideIt (by rw [hps]; rfl)
  obtain ⟨uc, huc⟩ : ∃ uc, uc = (u4.setCell ⟨u2.heap.size, 2, none⟩ (.slice (some ⟨u4.heap.size, 0, none⟩) 3 3)).alloc (.cells #[.string ⟨#[100]⟩, .int .i64 1, .int .i64 (1 + c1), .bool false, .string ⟨#[99, 107]⟩, .int .i64 1, .int .i64 (1 + c2), .bool true, .string ⟨#[113]⟩, .int .i64 2, .int .i64 0, .bool false] 125) := ⟨_, rfl⟩
  have zs : (u4.setCell ⟨u2.heap.size, 2, none⟩ (.slice (some ⟨u4.heap.size, 0, none⟩) 3 3)).heap.size = u4.heap.size := by simp [World.setCell]
  have zc : Hid (u4.heap.size + 1 = uc.heap.size) := hideIt (by rw [huc]; simp [World.setCell])
  have cu : Chg [u2.heap.size] u4 uc := by rw [huc]; exact ((Chg.refl _ _).setCell (by simp) _).alloc _
  have UW : Hid (w.heap.size < u2.heap.size) := hideIt (by have := S1.out; have := S2.out; omega)
  have UC : Hid (Blk uc u2.heap.size 112 #[.string name, .int .i64 kind, .slice (some ⟨u4.heap.size, 0, none⟩) 3 3, .slice none 0 0, .slice none 0 0, .int .i64 lk, .int .i64 en]) := hideIt (by rw [huc]; exact (KB.out.setE (i := 2) rfl).grows ((Grows.refl _).alloc _))
  have RC : Hid (Blk uc w.heap.size 112 #[.string .empty, .int .i64 0, .slice none 0 0, .slice none 0 0, .slice none 0 0, .int .i64 0, .int .i64 0]) := hideIt (R.out.chg cu (by have := UW.out; simp; omega))
  have CU : Hid (Chg [b] w uc) := hideIt (by rw [huc]; exact (HC.out.setNew (Nat.le_of_lt UW.out) _).alloc _)
  have SU : Hid (SrcAt w0 uc b) := hideIt (HS.out.chg cu (by have := NB.out; simp at this ⊢; omega) (fun g hg => by simp at hg; have := UW.out; have := HG.out; omega))
  have pc : ORow 4 125 OPinB u.heap.size uc (.slice (some ⟨u4.heap.size, 0, none⟩) 3 3) ps [[], [], []] := by
    have h := ORow.lit (sz := 4) (t := 125) (O := OPinB) (lo := u.heap.size) (w := u4.setCell ⟨u2.heap.size, 2, none⟩ (.slice (some ⟨u4.heap.size, 0, none⟩) 3 3)) (xs := ps) (bss := [[], [], []]) (cs := #[.string ⟨#[100]⟩, .int .i64 1, .int .i64 (1 + c1), .bool false, .string ⟨#[99, 107]⟩, .int .i64 1, .int .i64 (1 + c2), .bool true, .string ⟨#[113]⟩, .int .i64 2, .int .i64 0, .bool false]) (by
      rw [hps]
      exact Els.cons (es := [_, _, _, _]) rfl ⟨⟨rfl, by dsimp only; decide, rfl⟩, by dsimp only; decide⟩ (Els.cons (es := [_, _, _, _]) rfl ⟨⟨rfl, by dsimp only; decide, rfl⟩, by dsimp only; decide⟩ (Els.cons (es := [_, _, _, _]) rfl ⟨⟨rfl, by dsimp only; decide, rfl⟩, by dsimp only; decide⟩ Els.nil))) (by rw [PL.out]; unfold maxLen; omega) (by have := S3.out; have := S4.out; rw [zs]; omega) Own.nil
    rw [PL.out, zs] at h
    rw [huc]
    exact h
  have PC := hideIt pc
  have QC : Hid (u.heap.size ≤ uc.heap.size ∧ b < uc.heap.size ∧ b < u.heap.size) := hideIt (by have := hbw.out; have := UW.out; have := S3.out; have := S4.out; have := zc.out; have := za.out; omega)
  refine at_w (fun u => u = uc) huc.symm (fun ud hu => ?_)
  have HX : Hid (ud = uc) := hideIt hu
  clear hu huc zs hps cu pc k0 k1 k2 k3 k4 k5 k6 fR lR KB HS HC R
  have key : Hid (∀ (A3 : Option Addr) (c3 : Nat) (ax : List ArcD) (wr w9 : World), Hid (RowSt 6 134 OArcB w0 uc b (.slice A3 ax.length c3) ax wr) → 1 ≤ ax.length → ax.length ≤ 8 → Chg [u2.heap.size, w.heap.size] wr w9 → wr.heap.size = w9.heap.size → Chg [b] w w9 →
      CellPost w0 w b w.heap.size (.returned (.agg #[.string name, .int .i64 kind, .slice (some ⟨u4.heap.size, 0, none⟩) 3 3, .slice A3 ax.length c3, .slice none 0 0, .int .i64 lk, .int .i64 en])) w9) := hideIt (fun A3 c3 ax wr w9 ST A1 al8 c9 e9 h9 => by
    obtain ⟨⟨ass, ar⟩, hs, hc⟩ := ST.out
    have q1 := UW.out
    have q4 := za.out
    have q5 := QC.out
    have q8 := PL.out
    have q9 := hc.size
    have kp := (PC.out.chg hc (fun g hg => by simp at hg; omega) (fun w' es x b h g => h.same g)).chg c9 (fun g hg => by simp at hg; omega) (fun w' es x b h g => h.same g)
    have ka := ar.chg c9 (fun g hg => by simp at hg; omega) (fun w' es x b h g => h.same g)
    refine ⟨_, _, _, ⟨name, kind, ps, ax, [], lk, en⟩, _, rfl, ⟨_, _, _, _, ass, rfl, kp.base (Nat.zero_le _), ka.base (Nat.zero_le _), ⟨rfl, .inl ⟨rfl, rfl⟩⟩, rfl, ⟨hz, ⟨by show 2 ≤ ps.length; omega, by show ps.length ≤ 5; omega⟩, ⟨A1, al8⟩, by simp⟩⟩, ?_, hs.chg c9 (by have := hbw.out; simp; omega) (fun g hg => by have := HG.out; simp at hg; omega), h9⟩
    exact (PC.out.own.append ar.own (m := uc.heap.size) (by omega) (by omega)).mono (by omega) (Nat.le_of_eq e9))
  rw [HX.out]
  clear HX
  refine (l03DrawArc_any (w0 := w0) _ _ _ _ SU.out).mono ?_
  rintro e v1 ⟨g1, n1, A1, m1, sn1, ts1, ss1, bs1, rfl, oa, tl, sl, sm1, sm2, ow, hs, hc⟩
  have OA1 : Hid (OArcB v1 [.int .i64 edge, .int .i64 1, .int .i64 2, .int .i64 sn1, .slice (some ⟨g1, 0, none⟩) 2 n1, .slice A1 ss1.length m1] ⟨edge, 1, 2, sn1, ts1, ss1⟩ bs1) := hideIt ⟨oa, tl, sl, sm1, sm2⟩
  have OW1 := hideIt ow
  have V1 := hideIt hs
  have D1 := hideIt hc
  clear oa tl sl sm1 sm2 ow hs hc
  go_wp2_with fail
  refine (l03DrawArc_any (w0 := w0) _ _ _ _ V1.out).mono ?_
  rintro e v2 ⟨g2, n2, A2, m2, sn2, ts2, ss2, bs2, rfl, oa, tl, sl, sm1, sm2, ow, hs, hc⟩
  have OA2 : Hid (OArcB v2 [.int .i64 4, .int .i64 1, .int .i64 0, .int .i64 sn2, .slice (some ⟨g2, 0, none⟩) 2 n2, .slice A2 ss2.length m2] ⟨4, 1, 0, sn2, ts2, ss2⟩ bs2) := hideIt ⟨oa, tl, sl, sm1, sm2⟩
  have OW2 := hideIt ow
  have V2 := hideIt hs
  have D2 := hideIt hc
  clear oa tl sl sm1 sm2 ow hs hc
  go_wp2_with fail
  refine (l03DrawArc_any (w0 := w0) _ _ _ _ V2.out).mono ?_
  rintro e v3 ⟨g3, n3, A3, m3, sn3, ts3, ss3, bs3, rfl, oa, tl, sl, sm1, sm2, ow, hs, hc⟩
  have OA3 : Hid (OArcB v3 [.int .i64 5, .int .i64 1, .int .i64 0, .int .i64 sn3, .slice (some ⟨g3, 0, none⟩) 2 n3, .slice A3 ss3.length m3] ⟨5, 1, 0, sn3, ts3, ss3⟩ bs3) := hideIt ⟨oa, tl, sl, sm1, sm2⟩
  have OW3 := hideIt ow
  have V3 := hideIt hs
  have D3 := hideIt hc
  clear oa tl sl sm1 sm2 ow hs hc
  have T3 : Hid (Chg [b] uc v3) := hideIt ((D1.out.trans D2.out).trans D3.out)
  have ST : Hid (RowSt 6 134 OArcB w0 uc b (.slice (some ⟨v3.heap.size, 0, none⟩) 3 3) ([⟨edge, 1, 2, sn1, ts1, ss1⟩, ⟨4, 1, 0, sn2, ts2, ss2⟩, ⟨5, 1, 0, sn3, ts3, ss3⟩] : List ArcD) (v3.alloc (.cells #[.int .i64 edge, .int .i64 1, .int .i64 2, .int .i64 sn1, .slice (some ⟨g1, 0, none⟩) 2 n1, .slice A1 ss1.length m1, .int .i64 4, .int .i64 1, .int .i64 0, .int .i64 sn2, .slice (some ⟨g2, 0, none⟩) 2 n2, .slice A2 ss2.length m2, .int .i64 5, .int .i64 1, .int .i64 0, .int .i64 sn3, .slice (some ⟨g3, 0, none⟩) 2 n3, .slice A3 ss3.length m3] 134))) := hideIt ⟨⟨[bs1, bs2, bs3], ORow.lit (cs := #[.int .i64 edge, .int .i64 1, .int .i64 2, .int .i64 sn1, .slice (some ⟨g1, 0, none⟩) 2 n1, .slice A1 ss1.length m1, .int .i64 4, .int .i64 1, .int .i64 0, .int .i64 sn2, .slice (some ⟨g2, 0, none⟩) 2 n2, .slice A2 ss2.length m2, .int .i64 5, .int .i64 1, .int .i64 0, .int .i64 sn3, .slice (some ⟨g3, 0, none⟩) 2 n3, .slice A3 ss3.length m3]) (xs := [⟨edge, 1, 2, sn1, ts1, ss1⟩, ⟨4, 1, 0, sn2, ts2, ss2⟩, ⟨5, 1, 0, sn3, ts3, ss3⟩]) (Els.cons (es := [_, _, _, _, _, _]) rfl (OArcB.same OA1.out (Chg.same ((D2.out.trans D3.out).alloc _) (OArcB.lt OA1.out) (fun g hg => by have := OW1.out.2 g hg; have := QC.out; have := D1.out.size; have := D2.out.size; have := D3.out.size; simp; omega))) (Els.cons (es := [_, _, _, _, _, _]) rfl (OArcB.same OA2.out (Chg.same (D3.out.alloc _) (OArcB.lt OA2.out) (fun g hg => by have := OW2.out.2 g hg; have := QC.out; have := D1.out.size; have := D2.out.size; have := D3.out.size; simp; omega))) (Els.cons (es := [_, _, _, _, _, _]) rfl (OArcB.same OA3.out (Chg.same ((Chg.refl [b] _).alloc _) (OArcB.lt OA3.out) (fun g hg => by have := OW3.out.2 g hg; have := QC.out; have := D1.out.size; have := D2.out.size; have := D3.out.size; simp; omega))) Els.nil))) (by show 3 ≤ maxLen; decide) (by have := T3.out.size; omega) (by
    have := D1.out.size
    have := D2.out.size
    have := D3.out.size
    have q := OW1.out.append (OW2.out.append OW3.out (by omega) (by omega)) (by omega) (by omega)
    simpa using q)⟩, V3.out.alloc _, T3.out.alloc _⟩
  have NE : Hid (b < uc.heap.size) := hideIt QC.out.2.1
  clear OA1 OA2 OA3 OW1 OW2 OW3 V1 V2 D1 D2 D3 V3 SU
  go_upto_region 4 with fail
  refine at_c (fun u => RowSt 6 134 OArcB w0 uc b (.slice (some ⟨v3.heap.size, 0, none⟩) 3 3) ([⟨edge, 1, 2, sn1, ts1, ss1⟩, ⟨4, 1, 0, sn2, ts2, ss2⟩, ⟨5, 1, 0, sn3, ts3, ss3⟩] : List ArcD) u) ST.out (fun v4 hv => ?_)
  have ST4 := hideIt hv
  clear hv ST T3
  by_cases hk : kind = 3
  · subst hk
    go_wp2_with fail
    refine (l03DrawArc_any (w0 := w0) _ _ _ _ ST4.out.2.1).mono ?_
    rintro e v5 ⟨g4, n4, A4, m4, sn4, ts4, ss4, bs4, rfl, oa, tl, sl, sm1, sm2, ow, hs, hc⟩
    have OA4 : Hid (OArcB v5 [.int .i64 1, .int .i64 0, .int .i64 2, .int .i64 sn4, .slice (some ⟨g4, 0, none⟩) 2 n4, .slice A4 ss4.length m4] ⟨1, 0, 2, sn4, ts4, ss4⟩ bs4) := hideIt ⟨oa, tl, sl, sm1, sm2⟩
    have OW4 := hideIt ow
    have V5 := hideIt hs
    have D5 := hideIt hc
    clear oa tl sl sm1 sm2 ow hs hc
    go_wp2_with (at_builtin; go_loud (refine wpList_append_st rfl _ _ 110 rfl Tryz.underlying110 hiA hzA hsA hbA rfl (by decide) rfl ST4.out NE.out (fun _ _ _ _ _ h g => h.same g) (D5.out.alloc _) (V5.out.alloc _) ⟨v5.heap.size, 0, none⟩ 1 [.int .i64 1, .int .i64 0, .int .i64 2, .int .i64 sn4, .slice (some ⟨g4, 0, none⟩) 2 n4, .slice A4 ss4.length m4] ⟨1, 0, 2, sn4, ts4, ss4⟩ bs4 rfl rfl (cells_new _ _ _) (by intro u hu; simp at hu; rcases hu with rfl | rfl | rfl | rfl | rfl | rfl <;> rfl) (by simp) (OArcB.same OA4.out ((SameOn.refl _ _).grows (OArcB.lt OA4.out) ((Grows.refl _).alloc _))) (OW4.out.mono (Nat.le_refl _) (by simp)) ?_))
    intro v' w8 r1 r2
    obtain ⟨A9, c9, ev⟩ := r1.slice
    have ev2 : v' = .slice A9 4 c9 := ev
    clear ev
    subst ev2
    have ST8 := hideIt r1
    have CW : Hid (Chg [b] w w8) := hideIt (CU.out.trans r1.2.2)
    clear r1 r2 OA4 OW4 V5 D5 ST4
    have KC := hideIt (UC.out.chg ST8.out.2.2 NB.out)
    have KR := hideIt (RC.out.chg ST8.out.2.2 NR.out)
    have fR := KC.out.frozen
    have lR := KC.out.lt
    have fR2 := KR.out.frozen
    have lR2 := KR.out.lt
    have k0 := KC.out.cell 0
    have k1 := KC.out.cell 1
    have k2 := KC.out.cell 2
    have k3 := KC.out.cell 3
    have k4 := KC.out.cell 4
    have k5 := KC.out.cell 5
    have k6 := KC.out.cell 6
    simp at k0 k1 k2 k3 k4 k5 k6
    have z0 := KR.out.cell 0
    have z1 := KR.out.cell 1
    have z2 := KR.out.cell 2
    have z3 := KR.out.cell 3
    have z4 := KR.out.cell 4
    have z5 := KR.out.cell 5
    have z6 := KR.out.cell 6
    simp at z0 z1 z2 z3 z4 z5 z6
    have ne1 : w.heap.size ≠ u2.heap.size := by have := UW.out; omega
    have ne2 : u2.heap.size ≠ w.heap.size := fun e => ne1 e.symm
    go_wp2
    refine bodyPost_ret (by simp [*, results, Tryz.results103, go_sem]; try rfl) rfl ?_
    refine key.out A9 c9 (([⟨edge, 1, 2, sn1, ts1, ss1⟩, ⟨4, 1, 0, sn2, ts2, ss2⟩, ⟨5, 1, 0, sn3, ts3, ss3⟩] : List ArcD) ++ [(⟨1, 0, 2, sn4, ts4, ss4⟩ : ArcD)] : List ArcD) w8 _ ST8 (by simp) (by simp) ?_ ?_ ?_
    · repeat (first | refine Chg.setCell ?_ (by simp) _ | with_reducible exact Chg.refl _ _)
    · simp [World.setCell]
    · repeat (first | refine Chg.setNew ?_ (by first | exact Nat.le_of_lt UW.out | simp) _ | with_reducible exact CW.out)
  · have hk2 : (kind == 3) = false := by simpa using hk
    have CW : Hid (Chg [b] w v4) := hideIt (CU.out.trans ST4.out.2.2)
    have KC := hideIt (UC.out.chg ST4.out.2.2 NB.out)
    have KR := hideIt (RC.out.chg ST4.out.2.2 NR.out)
    have fR := KC.out.frozen
    have lR := KC.out.lt
    have fR2 := KR.out.frozen
    have lR2 := KR.out.lt
    have k0 := KC.out.cell 0
    have k1 := KC.out.cell 1
    have k2 := KC.out.cell 2
    have k3 := KC.out.cell 3
    have k4 := KC.out.cell 4
    have k5 := KC.out.cell 5
    have k6 := KC.out.cell 6
    simp at k0 k1 k2 k3 k4 k5 k6
    have z0 := KR.out.cell 0
    have z1 := KR.out.cell 1
    have z2 := KR.out.cell 2
    have z3 := KR.out.cell 3
    have z4 := KR.out.cell 4
    have z5 := KR.out.cell 5
    have z6 := KR.out.cell 6
    simp at z0 z1 z2 z3 z4 z5 z6
    have ne1 : w.heap.size ≠ u2.heap.size := by have := UW.out; omega
    have ne2 : u2.heap.size ≠ w.heap.size := fun e => ne1 e.symm
    go_wp2
    refine bodyPost_ret (by simp [*, results, Tryz.results103, go_sem]; try rfl) rfl ?_
    refine key.out _ _ [⟨edge, 1, 2, sn1, ts1, ss1⟩, ⟨4, 1, 0, sn2, ts2, ss2⟩, ⟨5, 1, 0, sn3, ts3, ss3⟩] v4 _ ST4 (by simp) (by simp) ?_ ?_ ?_
    · repeat (first | refine Chg.setCell ?_ (by simp) _ | with_reducible exact Chg.refl _ _)
    · simp [World.setCell]
    · repeat (first | refine Chg.setNew ?_ (by first | exact Nat.le_of_lt UW.out | simp) _ | with_reducible exact CW.out)
end Go.Proofs.YtlnpefiipdkafaaGreatDoor
