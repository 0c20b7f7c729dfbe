/-
  The reference's reading of a design.
-/
import Derived.Test.YtocahjbmnkadjaaGreatDoorRC
import Derived.Test.YtocahjbmnkadjaaGreatDoorRB
import Derived.Test.YtocahjbmnkadjaaGreatDoorRE
import Derived.Test.YtocahjbmnkadjaaGreatDoorRD
namespace Go.Proofs.YtocahjbmnkadjaaGreatDoor
open Go.RowKit
def rWire : ByteArray := ⟨#[119, 105, 114, 101]⟩
theorem lit_wire : rWire.toList = [119, 105, 114, 101] := by simp [rWire]
theorem take3' {ws : List ByteArray} {k : Nat} {x : ByteArray} {f : ByteArray → Int} (h : ws[3 + k]? = some x) : ((ws.drop 3).take (k + 1)).map f = ((ws.drop 3).take k).map f ++ [f x] := by
  rw [List.take_add_one, List.getElem?_drop, h, List.map_append]
  rfl
theorem info_strs : (Tryz.prog.info? 27).map (fun i => (i.zero, i.size, i.bytes)) = some (some (.slice none 0 0), 1, 24) := by kernel_rfl
/-- what the reference's reading gives -/
def GuessPost (cs : List CellD) (s : ByteArray) (w : World) (e : Ending) (w' : World) : Prop :=
  ∃ (A0 : Option Addr) (c0 : Nat) (A1 : Option Addr) (c1 : Nat) (A2 : Option Addr) (c2 : Nat) (A3 : Option Addr) (n3 c3 : Nat), e = .returned (.tuple #[.agg #[.slice A0 (upD cs (piecesB 10 s)).insts.length c0, .slice A1 (upD cs (piecesB 10 s)).nets.length c1, .slice A2 (upD cs (piecesB 10 s)).ports.length c2], .slice A3 n3 c3]) ∧
    (∃ bs, ODesign w' [.slice A0 (upD cs (piecesB 10 s)).insts.length c0, .slice A1 (upD cs (piecesB 10 s)).nets.length c1, .slice A2 (upD cs (piecesB 10 s)).ports.length c2] (upD cs (piecesB 10 s)) bs ∧ Own w.heap.size w'.heap.size bs) ∧ Grows w w'
theorem GuessPost.mk' {cs : List CellD} {s : ByteArray} {w w' : World} {d : DesignD} {A0 A1 A2 A3 : Option Addr} {c0 c1 c2 n3 c3 : Nat} (hd : d = upD cs (piecesB 10 s)) (h : ∃ bs, ODesign w' [.slice A0 d.insts.length c0, .slice A1 d.nets.length c1, .slice A2 d.ports.length c2] d bs ∧ Own w.heap.size w'.heap.size bs) (g : Grows w w') :
    GuessPost cs s w (.returned (.tuple #[.agg #[.slice A0 d.insts.length c0, .slice A1 d.nets.length c1, .slice A2 d.ports.length c2], .slice A3 n3 c3])) w' := by
  subst hd
  exact ⟨_, _, _, _, _, _, _, _, _, rfl, h, g⟩
/-- the four empty rows -/
theorem rst_start {w0 : World} : RSt w0.heap.size [w0.heap.size + 3] ((((w0.alloc (.cells #[] 9)).alloc (.cells #[] 75)).alloc (.cells #[] 77)).alloc (.cells #[] 27))
    (.slice (some ⟨w0.heap.size + 2, 0, none⟩) 0 0) (.slice (some ⟨w0.heap.size, 0, none⟩) 0 0) (.slice (some ⟨w0.heap.size + 1, 0, none⟩) 0 0) noD := by
  have e1 : (w0.alloc (.cells #[] 9)).heap.size = w0.heap.size + 1 := by simp
  have e2 : ((w0.alloc (.cells #[] 9)).alloc (.cells #[] 75)).heap.size = w0.heap.size + 2 := by simp
  have r0 := RW.empty (sz := 1) (t := 9) (O := OS) (w := w0)
  have r1 := RW.empty (sz := 3) (t := 75) (O := OPort) (w := w0.alloc (.cells #[] 9))
  have r2 := RW.empty (sz := 3) (t := 77) (O := OInst) (w := (w0.alloc (.cells #[] 9)).alloc (.cells #[] 75))
  rw [e1] at r1
  rw [e2] at r2
  refine ⟨[], RW.keep r2 (fun q hq => ?_) (fun _ _ _ h g => h.same g), RW.keep r0 (fun q hq => ?_) (fun _ _ _ h _ => h), RW.keep r1 (fun q hq => ?_) (fun _ _ _ h _ => h), ?_⟩
  · simp [Value.ownBlock] at hq
    subst hq
    exact Below.block ((Grows.refl _).alloc _) _ (by simp)
  · simp [Value.ownBlock] at hq
    subst hq
    exact Below.block ((((Grows.refl _).alloc _).alloc _).alloc _) _ (by simp)
  · simp [Value.ownBlock] at hq
    subst hq
    exact Below.block (((Grows.refl _).alloc _).alloc _) _ (by simp)
  · refine ⟨by simp [Value.ownBlock], fun g hg => ?_⟩
    simp [Value.ownBlock] at hg
    simp
    omega
theorem RSt.more {lo g : Nat} {ex : List Nat} {w w' : World} {vi vn vp : Value} {d : DesignD} (h : RSt lo ex w vi vn vp d) (gr : Grows w w') (h1 : w.heap.size ≤ g) (h2 : g < w'.heap.size) (hl : lo ≤ g) : RSt lo (ex ++ [g]) w' vi vn vp d := by
  obtain ⟨r, k1, k2, k3, k4⟩ := h
  have key : ∀ bs : List Nat, (∀ q ∈ bs, q ∈ ex ++ (vn.ownBlock.toList ++ (vp.ownBlock.toList ++ (vi.ownBlock.toList ++ r)))) → SameOn bs w w' := fun bs hb q hq => Below.block gr q (k4.2 q (hb q hq)).2
  refine ⟨r, RW.keep k1 (key _ fun q hq => List.mem_append_right _ (List.mem_append_right _ (List.mem_append_right _ hq))) (fun _ _ _ h g => h.same g), RW.keep k2 (key _ fun q hq => List.mem_append_right _ (List.mem_append_left _ (by simpa using hq))) (fun _ _ _ h _ => h), RW.keep k3 (key _ fun q hq => List.mem_append_right _ (List.mem_append_right _ (List.mem_append_left _ (by simpa using hq)))) (fun _ _ _ h _ => h), ?_⟩
  have h5 : Own lo w.heap.size (ex ++ ((none : Option Nat).toList ++ (vn.ownBlock.toList ++ (vp.ownBlock.toList ++ (vi.ownBlock.toList ++ r))))) := k4
  have h6 := own_mid (hi' := w'.heap.size) (a' := some g) (n := g) h5 (.inr rfl) h1 hl (fun _ => h2) gr.size
  rw [List.append_assoc]
  exact h6
theorem wires_start {w0 : World} : ((((w0.alloc (.cells #[] 9)).alloc (.cells #[] 75)).alloc (.cells #[] 77)).alloc (.cells #[] 27)).ownsRow 0 27 1 (.slice (some ⟨w0.heap.size + 3, 0, none⟩) 0 0) 0 [] := by
  have e : ((w0.alloc (.cells #[] 9)).alloc (.cells #[] 75)).alloc (.cells #[] 77) = ((w0.alloc (.cells #[] 9)).alloc (.cells #[] 75)).alloc (.cells #[] 77) := rfl
  refine ⟨rfl, .inr ⟨_, 0, #[], rfl, Nat.zero_le _, ?_, Nat.le_refl _, Nat.zero_le _, rfl, rfl⟩⟩
  have h := Blk.new (((w0.alloc (.cells #[] 9)).alloc (.cells #[] 75)).alloc (.cells #[] 77)) 27 #[]
  have e3 : (((w0.alloc (.cells #[] 9)).alloc (.cells #[] 75)).alloc (.cells #[] 77)).heap.size = w0.heap.size + 3 := by simp
  rw [e3] at h
  exact h
set_option maxHeartbeats 16000000 in
set_option maxRecDepth 10000 in
theorem guess_any {lv : Value} {cs : List CellD} (s : ByteArray) (w : World) (hl : RCells w lv cs) (hs : s.size ≤ 6000) :
    Calls Tryz.prog 15 #[.agg #[lv], .string s] w (GuessPost cs s w) := by
  obtain ⟨AL, cL, rfl⟩ : ∃ (D : Option Addr) (nd : Nat), lv = .slice D cs.length nd := by obtain ⟨D, c, e, -⟩ := RList.form hl; exact ⟨D, c, e⟩
  obtain ⟨iS, hiS, hzS, hsS, hbS⟩ := info_parts info_str
  obtain ⟨iN, hiN, hzN, hsN, hbN⟩ := info_parts info_inst
  obtain ⟨iP, hiP, hzP, hsP, hbP⟩ := info_parts info_port
  obtain ⟨iI, hiI, hzI, hsI, hbI⟩ := info_parts info_i64'
  obtain ⟨iW, hiW, hzW, hsW, hbW⟩ := info_parts info_strs
  have HL := hideIt hl
  clear hl
  go_enter Tryz.func15, Tryz.ntmps15
  go_upto_region 5 with fail
  refine at_c (fun u => ∃ w0 : World, w0.heap.size = w.heap.size + 2 ∧ Grows w w0 ∧ Blk w0 w.heap.size 35 #[.slice AL cs.length cL] ∧ Blk w0 (w.heap.size + 1) 30 #[.slice none 0 0, .slice none 0 0, .slice none 0 0] ∧ Grows w0 u ∧ RSt w0.heap.size [w.heap.size + 5] u (.slice (some ⟨w.heap.size + 4, 0, none⟩) 0 0) (.slice (some ⟨w.heap.size + 2, 0, none⟩) 0 0) (.slice (some ⟨w.heap.size + 3, 0, none⟩) 0 0) noD ∧ u.ownsRow 0 27 1 (.slice (some ⟨w.heap.size + 5, 0, none⟩) 0 0) 0 []) ?_ (fun u hu => ?_)
  · refine ⟨(w.alloc (.cells #[.slice AL cs.length cL] 35)).alloc (.cells #[.slice none 0 0, .slice none 0 0, .slice none 0 0] 30), by simp, ((Grows.refl w).alloc _).alloc _, (Blk.new w _ _).grows ((Grows.refl _).alloc _), ?_, ((((Grows.refl _).alloc _).alloc _).alloc _).alloc _, ?_, ?_⟩
    · have h := Blk.new (w.alloc (.cells #[.slice AL cs.length cL] 35)) 30 #[.slice none 0 0, .slice none 0 0, .slice none 0 0]
      rwa [World.size_alloc] at h
    · have h := rst_start (w0 := (w.alloc (.cells #[.slice AL cs.length cL] 35)).alloc (.cells #[.slice none 0 0, .slice none 0 0, .slice none 0 0] 30))
      simpa using h
    · have h := wires_start (w0 := (w.alloc (.cells #[.slice AL cs.length cL] 35)).alloc (.cells #[.slice none 0 0, .slice none 0 0, .slice none 0 0] 30))
      simpa using h
  obtain ⟨w0, z0, gw0, b0, b1, g0, rs, ow⟩ := hu
  have Z0 := hideIt z0
  have GW0 := hideIt gw0
  have B0 := hideIt b0
  have B1 := hideIt b1
  have G0 := hideIt g0
  have RS := hideIt rs
  have OW := hideIt ow
  clear z0 gw0 b0 b1 g0 rs ow
  go_wp2_with fail
  refine (split_own s 10 10 rfl _ (by omega)).mono ?_
  rintro e u0 ⟨v, rfl, ho, g⟩
  obtain ⟨gl, cl, lc, rfl, hgl, hbl, hlc⟩ := own_blk ho (pieces_one 10 s)
  obtain ⟨ls, hls⟩ : ∃ ls, ls = piecesB 10 s := ⟨_, rfl⟩
  rw [← hls] at hlc ⊢
  have GS0 : Hid (GSt w0 cs gl lc ls u0 (.slice (some ⟨w.heap.size + 2, 0, none⟩) 0 0) (.slice (some ⟨w.heap.size + 3, 0, none⟩) 0 0) (.slice (some ⟨w.heap.size + 4, 0, none⟩) 0 0) (.slice (some ⟨w.heap.size + 5, 0, none⟩) 0 0) 0) := hideIt
    ⟨G0.out.trans g, RS.out.more g hgl hbl.lt (Nat.le_trans G0.out.size hgl), ⟨0, [], Nat.le_refl _, ownsRow_same OW.out (fun q hq => Below.block g q (OW.out.lt q (by simpa using hq)).2)⟩, hbl⟩
  have HLC := hideIt hlc
  have LS := hideIt hls
  have hl1 : ls.length ≤ 6001 := by rw [hls]; have := pieces_many 10 s; omega
  have LSM : Hid (∀ x ∈ ls, x.size ≤ 6000) := hideIt (fun x hx => by rw [hls] at hx; have := pieces_small hx; omega)
  have SZ : Hid (∀ k, SzD 6001 6001 (upD cs (ls.take k))) := hideIt (fun k => upD_cut cs _ hs (by rw [hls]; exact List.take_prefix _ _))
  clear hlc hls ho hbl hgl g
  go_wp2
  go_loopw [6, 7, 8, 9, 11] (fun vn vp vi vw iv wr => ∃ (k : Nat) (zn zp zi zw : Value), zn = vn ∧ zp = vp ∧ zi = vi ∧ zw = vw ∧ k ≤ ls.length ∧ iv = .int .i64 (k : Int) ∧ Hid (GSt w0 cs gl lc ls wr zn zp zi zw k)) (fun _ _ _ _ i _ => ls.length - (intOf i).toNat)
  case atStart => exact ⟨0, _, _, _, _, rfl, rfl, rfl, rfl, Nat.zero_le _, rfl, GS0⟩
  case round =>
    clear GS0 RS OW
    obtain ⟨k, zn, zp, zi, zw, rfl, rfl, rfl, rfl, hk, rfl, GS⟩ := hrel
    obtain ⟨d, hd⟩ : ∃ d, d = upD cs (ls.take k) := ⟨_, rfl⟩
    have hsz := SZ.out k
    have hsh := GS.out.2.1.slices
    rw [← hd] at hsz hsh
    obtain ⟨⟨Ai, ci, rfl⟩, ⟨An, cn, rfl⟩, ⟨Ap, cp, rfl⟩⟩ := hsh
    obtain ⟨Aw, mw, cw, rfl⟩ : ∃ (A : Option Addr) (m c : Nat), zw = .slice A m c := by
      obtain ⟨-, -, ⟨m, cells, -, h⟩, -⟩ := GS.out
      obtain ⟨A, c, e⟩ := own_slice' h
      exact ⟨A, m, c, e⟩
    have z1 := hsz.1.1
    have z2 := hsz.1.2.1
    have z3 := hsz.1.2.2
    have DE := hideIt hd
    clear hsz hd
    by_cases hlt : k < ls.length
    · obtain ⟨x, hx⟩ : ∃ x, ls[k]? = some x := ⟨_, List.getElem?_eq_getElem hlt⟩
      have hxs := LSM.out x (List.mem_of_getElem? hx)
      have cX : wr.cell? ⟨gl, k, none⟩ = some (.string x) := by rw [GS.out.2.2.2.cell]; exact HLC.out k x hx
      have HX := hideIt hx
      clear hx
      go_wp2_with fail
      refine (split_own x 32 32 rfl _ (by omega)).mono ?_
      rintro e u1 ⟨v, rfl, ho, g1⟩
      obtain ⟨ws, hws⟩ : ∃ ws, ws = piecesB 32 x := ⟨_, rfl⟩
      have W1 := pieces_one 32 x
      have W2 := pieces_many 32 x
      have HW : Hid (∀ k, (wAt (piecesB 32 x) k).size ≤ 6000) := hideIt (fun k => Nat.le_trans (wAt_small (fun p hp => pieces_small hp) k) hxs)
      rw [← hws] at ho W1 W2 HW
      obtain ⟨gw, cw2, wc, rfl, hgw, hbw, hwc⟩ := own_blk ho W1
      obtain ⟨n, hn⟩ : ∃ n : Nat, n = ws.length := ⟨_, rfl⟩
      rw [← hn] at W1 W2 ⊢
      have WS := hideIt hws
      have WN := hideIt hn
      have BW := hideIt hbw
      have G1 := hideIt g1
      have HC : Hid (∀ k, k < n → ∀ w', Blk w' gw 9 wc → w'.cell? ⟨gw, k, none⟩ = some (.string (wAt ws k))) := hideIt (fun k hk w' hb => by rw [hb.cell]; exact hwc k _ (wAt_some (by omega)))
      have C0 : u1.cell? ⟨gw, 0, none⟩ = some (.string (wAt ws 0)) := HC.out 0 (by omega) _ hbw
      obtain ⟨q0, hq0⟩ : ∃ q, q = wAt ws 0 := ⟨_, rfl⟩
      rw [← hq0] at C0
      have Q0 := hideIt hq0
      have GS1 := hideIt (GS.out.grows g1)
      have hwr : wr.heap.size ≤ u1.heap.size := g1.size
      clear hws hn hbw hwc hq0 ho g1 cX
      go_upto_region 10 with fail
      by_cases hn : q0 = rNet ∧ n = 2
      · skip
        have hq : q0 = ⟨#[110, 101, 116]⟩ := hn.1
        have t_q : q0.toList = [110, 101, 116] := by rw [hq]; exact lit_net
        obtain rfl : n = 2 := hn.2
        have HQ := hideIt hq
        clear hq hn
        obtain ⟨q1, hq1⟩ : ∃ q, q = wAt ws 1 := ⟨_, rfl⟩
        have C1 : u1.cell? ⟨gw, 1, none⟩ = some (.string (wAt ws 1)) := HC.out 1 (by omega) _ BW.out
        rw [← hq1] at C1
        have Q1 := hideIt hq1
        clear hq1
        have SN := step_net (cs := cs) (d := upD cs (ls.take k)) (ws := piecesB 32 x) (q1 := q1) (by rw [← WS.out]; exact Q0.out.symm.trans HQ.out) (by rw [← WS.out]; exact WN.out.symm) (by rw [← WS.out]; exact Q1.out.symm)
        obtain ⟨rc, hrw, FIN⟩ := GS1.out.net HX.out SN (by have h := HW.out 1; rw [← Q1.out] at h; unfold maxLen; omega)
        rw [← DE.out] at hrw FIN
        have ROW := hideIt (ownsRow_same hrw (fun q hq => Below.block ((Grows.refl u1).alloc (.cells #[.string q1] 9)) q (hrw.lt q (by simpa using hq)).2))
        have FN := hideIt FIN
        clear hrw FIN SN
        go_wp2_with (at_builtin; go_loud (refine wpList_append_own_at _ rfl _ _ 27 rfl 0 9 iS (.string .empty) 1 16 Tryz.underlying27 hiS hzS hsS hbS rfl (by decide) (.slice An d.nets.length cn) (d.nets.length) rc rfl ROW.out ⟨u1.heap.size, 0, none⟩ 1 1 [.string q1] rfl rfl (cells_new _ _ _) (by intro u hu; simp at hu; subst hu; rfl) (by unfold maxLen; omega) (by omega) (Nat.zero_le _) ?_))
        intro v9 w4 hr4 g4 hnil hat
        have NX := hideIt (FN.out _ w4 v9 ((Grows.refl u1).alloc (.cells #[.string q1] 9)) g4 (by simpa using hat) hr4)
        clear hr4 g4 hnil hat ROW FN GS1
        go_wp2
        go_roundw
        case rel => exact ⟨k + 1, _, _, _, _, rfl, rfl, rfl, rfl, by omega, by go_num, NX⟩
        case measure => simp [intOf]; omega
      have NN1 := hideIt hn
      clear hn
      by_cases hp : q0 = rPort ∧ n = 4
      · skip
        have hq : q0 = ⟨#[112, 111, 114, 116]⟩ := hp.1
        have t_q : q0.toList = [112, 111, 114, 116] := by rw [hq]; exact lit_port
        obtain rfl : n = 4 := hp.2
        have HQ := hideIt hq
        clear hq hp
        obtain ⟨q1, hq1⟩ : ∃ q, q = wAt ws 1 := ⟨_, rfl⟩
        have C1 : u1.cell? ⟨gw, 1, none⟩ = some (.string (wAt ws 1)) := HC.out 1 (by omega) _ BW.out
        rw [← hq1] at C1
        have Q1 := hideIt hq1
        clear hq1
        obtain ⟨q2, hq2⟩ : ∃ q, q = wAt ws 2 := ⟨_, rfl⟩
        have C2 : u1.cell? ⟨gw, 2, none⟩ = some (.string (wAt ws 2)) := HC.out 2 (by omega) _ BW.out
        rw [← hq2] at C2
        have Q2 := hideIt hq2
        clear hq2
        obtain ⟨q3, hq3⟩ : ∃ q, q = wAt ws 3 := ⟨_, rfl⟩
        have C3 : u1.cell? ⟨gw, 3, none⟩ = some (.string (wAt ws 3)) := HC.out 3 (by omega) _ BW.out
        rw [← hq3] at C3
        have Q3 := hideIt hq3
        clear hq3
        clear C1 C3
        have NM : Hid (RStrs u1 (.slice An d.nets.length cn) d.nets) := hideIt (by have h := GS1.out.2.1.names; rwa [← DE.out] at h)
        by_cases ho : q2 = rOut
        · skip
          have t_out : q2.toList = [111, 117, 116] := by rw [ho]; exact lit_out
          have SN := step_port (cs := cs) (d := upD cs (ls.take k)) (ws := piecesB 32 x) (y := ⟨q1, 2, netI d q3⟩) (by rw [← WS.out]; exact Q0.out.symm.trans HQ.out) (by rw [← WS.out]; exact WN.out.symm) (by rw [← WS.out, ← DE.out]; unfold rdPort; rw [← Q1.out, ← Q2.out, ← Q3.out, if_pos ho])
          obtain ⟨rc, hrw, FIN⟩ := GS1.out.port HX.out SN (by have h := HW.out 1; rw [← Q1.out] at h; show q1.size ≤ maxLen; unfold maxLen; omega)
          rw [← DE.out] at hrw FIN
          have RW0 := hideIt hrw
          have FN := hideIt FIN
          clear hrw FIN SN ho
          go_upto_region 16 with fail
          obtain ⟨yw, rfl⟩ : ∃ y : World, y = u1 := ⟨_, rfl⟩
          have gg : Grows yw yw := Grows.refl _
          refine wp_region_held_drew (S := (fun w' => Blk w' gw 9 wc)) (by kernel_rfl) ?_ (fun hh0 => ?_)
          · (try dsimp only); (first | exact S4 | exact BW.out.grows (by (repeat with_reducible (first | exact gg | exact Grows.refl _ | refine Grows.drew ?_ | refine Grows.alloc ?_ _ | refine Grows.setCell ?_ (by first | omega | (simp <;> omega)) _))))
          refine regTk 0 hh0 ?_
          refine regTk 1 hh0 ?_
          refine regTk 2 hh0 ?_
          refine regTake 3 (v := .string q1) (fun w hw => ?_) hh0 ?_
          · have k0 := HC.out 1 (by omega) _ hw
            simp only [← Q1.out] at k0
            go_simp
          try simp only [Act.put, List.setIfInBounds_toArray, List.set_cons_zero, List.set_cons_succ]
          refine regTk 4 hh0 ?_
          refine regTk 5 hh0 ?_
          refine regTk 6 hh0 ?_
          refine regTk 7 hh0 ?_
          refine regTake 8 (v := .string q3) (fun w hw => ?_) hh0 ?_
          · have k0 := HC.out 3 (by omega) _ hw
            simp only [← Q3.out] at k0
            go_simp
          try simp only [Act.put, List.setIfInBounds_toArray, List.set_cons_zero, List.set_cons_succ]
          refine regCall 9 (fun K hK => ?_)
          go_simp
          have gq := (Grows.refl yw).drew
          refine (l04Index_any q3 _ (RStrs.keep NM.out gq.keeps)).mono ?_
          rintro e u3 ⟨rfl, rfl⟩
          have gg : Grows yw yw.drew := gq
          clear gq
          (try go_wp2_with fail)
          refine hK.out _ _ ?_ (fun hh1 => ?_)
          · (try dsimp only); (first | exact S4 | exact BW.out.grows (by (repeat with_reducible (first | exact gg | exact Grows.refl _ | refine Grows.drew ?_ | refine Grows.alloc ?_ _ | refine Grows.setCell ?_ (by first | omega | (simp <;> omega)) _))))
          clear hK K hh0
          try simp only [Act.put, List.setIfInBounds_toArray, List.set_cons_zero, List.set_cons_succ]
          refine regTk 10 hh1 ?_
          refine regCall 11 (fun K hK => ?_)
          go_simp
          
          (try go_wp2_with fail)
          refine hK.out _ _ ?_ (fun hh2 => ?_)
          · (try dsimp only); (first | exact S4 | exact BW.out.grows (by (repeat with_reducible (first | exact gg | exact Grows.refl _ | refine Grows.drew ?_ | refine Grows.alloc ?_ _ | refine Grows.setCell ?_ (by first | omega | (simp <;> omega)) _))))
          clear hK K hh1
          try simp only [Act.put, List.setIfInBounds_toArray, List.set_cons_zero, List.set_cons_succ]
          refine regCall 12 (fun K hK => ?_)
          have ga : Grows yw (yw.drew.alloc (.cells #[.string q1, .int .i64 2, .int .i64 (netI d q3)] 75)) := gg.alloc _
          have hrow := ownsRow_same RW0.out (fun q hq => Below.block ga q (RW0.out.lt q (by simpa using hq)).2)
          have hb9 := BW.out.grows ga
          have hfar : ∀ q, (Value.slice Ap d.ports.length cp).ownBlock = some q → q ≠ gw := fun q e => by have := (GS.out.2.1.lt.2.2.2 q e).2; omega
          refine wp_append_at _ _ 28 rfl Tryz.underlying28 hiP hzP hsP (by rw [hbP]; decide) rfl (by decide) (.slice Ap d.ports.length cp) d.ports.length rc rfl hrow ⟨yw.heap.size, 0, none⟩ 1 [.string q1, .int .i64 2, .int .i64 (netI d q3)] rfl rfl (cells_new _ _ _) (by intro u hu; simp at hu; rcases hu with rfl | rfl | rfl <;> rfl) (by omega) ?_
          intro v9 w4 hr4 g4 ho4
          have S4 : Blk w4 gw 9 wc := blk_grown hb9 g4 hfar
          obtain ⟨A8, c8, e8⟩ := own_slice3 hr4
          subst e8
          refine hK.out _ _ ?_ (fun hh3 => ?_)
          · (try dsimp only); (first | exact S4 | exact BW.out.grows (by (repeat with_reducible (first | exact gg | exact Grows.refl _ | refine Grows.drew ?_ | refine Grows.alloc ?_ _ | refine Grows.setCell ?_ (by first | omega | (simp <;> omega)) _))))
          clear hK K hh2
          try simp only [Act.put, List.setIfInBounds_toArray, List.set_cons_zero, List.set_cons_succ]
          refine regTk 13 hh3 ?_
          refine wpAnyH_done (by kernel_rfl) ?_ _
          clear hh3
          have NX := hideIt (FN.out (yw.drew.alloc (.cells #[.string q1, .int .i64 2, .int .i64 (netI d q3)] 75)) w4 (.slice A8 (d.ports.length + 1) c8) ga g4 (by simpa using ho4) hr4)
          clear hr4 g4 ho4 S4 hrow hb9 hfar RW0 FN GS1 ga gg NM GS
          go_wp2
          go_roundw
          case rel => exact ⟨k + 1, _, _, _, _, rfl, rfl, rfl, rfl, by omega, by go_num, NX⟩
          case measure => simp [intOf]; omega
        · skip
          have t_out : (q2.toList == [111, 117, 116]) = false := lit_ne lit_out ho
          have SN := step_port (cs := cs) (d := upD cs (ls.take k)) (ws := piecesB 32 x) (y := ⟨q1, 1, netI d q3⟩) (by rw [← WS.out]; exact Q0.out.symm.trans HQ.out) (by rw [← WS.out]; exact WN.out.symm) (by rw [← WS.out, ← DE.out]; unfold rdPort; rw [← Q1.out, ← Q2.out, ← Q3.out, if_neg ho])
          obtain ⟨rc, hrw, FIN⟩ := GS1.out.port HX.out SN (by have h := HW.out 1; rw [← Q1.out] at h; show q1.size ≤ maxLen; unfold maxLen; omega)
          rw [← DE.out] at hrw FIN
          have RW0 := hideIt hrw
          have FN := hideIt FIN
          clear hrw FIN SN ho
          go_upto_region 16 with fail
          obtain ⟨yw, rfl⟩ : ∃ y : World, y = u1 := ⟨_, rfl⟩
          have gg : Grows yw yw := Grows.refl _
          refine wp_region_held_drew (S := (fun w' => Blk w' gw 9 wc)) (by kernel_rfl) ?_ (fun hh0 => ?_)
          · (try dsimp only); (first | exact S4 | exact BW.out.grows (by (repeat with_reducible (first | exact gg | exact Grows.refl _ | refine Grows.drew ?_ | refine Grows.alloc ?_ _ | refine Grows.setCell ?_ (by first | omega | (simp <;> omega)) _))))
          refine regTk 0 hh0 ?_
          refine regTk 1 hh0 ?_
          refine regTk 2 hh0 ?_
          refine regTake 3 (v := .string q1) (fun w hw => ?_) hh0 ?_
          · have k0 := HC.out 1 (by omega) _ hw
            simp only [← Q1.out] at k0
            go_simp
          try simp only [Act.put, List.setIfInBounds_toArray, List.set_cons_zero, List.set_cons_succ]
          refine regTk 4 hh0 ?_
          refine regTk 5 hh0 ?_
          refine regTk 6 hh0 ?_
          refine regTk 7 hh0 ?_
          refine regTake 8 (v := .string q3) (fun w hw => ?_) hh0 ?_
          · have k0 := HC.out 3 (by omega) _ hw
            simp only [← Q3.out] at k0
            go_simp
          try simp only [Act.put, List.setIfInBounds_toArray, List.set_cons_zero, List.set_cons_succ]
          refine regCall 9 (fun K hK => ?_)
          go_simp
          have gq := (Grows.refl yw).drew
          refine (l04Index_any q3 _ (RStrs.keep NM.out gq.keeps)).mono ?_
          rintro e u3 ⟨rfl, rfl⟩
          have gg : Grows yw yw.drew := gq
          clear gq
          (try go_wp2_with fail)
          refine hK.out _ _ ?_ (fun hh1 => ?_)
          · (try dsimp only); (first | exact S4 | exact BW.out.grows (by (repeat with_reducible (first | exact gg | exact Grows.refl _ | refine Grows.drew ?_ | refine Grows.alloc ?_ _ | refine Grows.setCell ?_ (by first | omega | (simp <;> omega)) _))))
          clear hK K hh0
          try simp only [Act.put, List.setIfInBounds_toArray, List.set_cons_zero, List.set_cons_succ]
          refine regTk 10 hh1 ?_
          refine regCall 11 (fun K hK => ?_)
          go_simp
          
          (try go_wp2_with fail)
          refine hK.out _ _ ?_ (fun hh2 => ?_)
          · (try dsimp only); (first | exact S4 | exact BW.out.grows (by (repeat with_reducible (first | exact gg | exact Grows.refl _ | refine Grows.drew ?_ | refine Grows.alloc ?_ _ | refine Grows.setCell ?_ (by first | omega | (simp <;> omega)) _))))
          clear hK K hh1
          try simp only [Act.put, List.setIfInBounds_toArray, List.set_cons_zero, List.set_cons_succ]
          refine regCall 12 (fun K hK => ?_)
          have ga : Grows yw (yw.drew.alloc (.cells #[.string q1, .int .i64 1, .int .i64 (netI d q3)] 75)) := gg.alloc _
          have hrow := ownsRow_same RW0.out (fun q hq => Below.block ga q (RW0.out.lt q (by simpa using hq)).2)
          have hb9 := BW.out.grows ga
          have hfar : ∀ q, (Value.slice Ap d.ports.length cp).ownBlock = some q → q ≠ gw := fun q e => by have := (GS.out.2.1.lt.2.2.2 q e).2; omega
          refine wp_append_at _ _ 28 rfl Tryz.underlying28 hiP hzP hsP (by rw [hbP]; decide) rfl (by decide) (.slice Ap d.ports.length cp) d.ports.length rc rfl hrow ⟨yw.heap.size, 0, none⟩ 1 [.string q1, .int .i64 1, .int .i64 (netI d q3)] rfl rfl (cells_new _ _ _) (by intro u hu; simp at hu; rcases hu with rfl | rfl | rfl <;> rfl) (by omega) ?_
          intro v9 w4 hr4 g4 ho4
          have S4 : Blk w4 gw 9 wc := blk_grown hb9 g4 hfar
          obtain ⟨A8, c8, e8⟩ := own_slice3 hr4
          subst e8
          refine hK.out _ _ ?_ (fun hh3 => ?_)
          · (try dsimp only); (first | exact S4 | exact BW.out.grows (by (repeat with_reducible (first | exact gg | exact Grows.refl _ | refine Grows.drew ?_ | refine Grows.alloc ?_ _ | refine Grows.setCell ?_ (by first | omega | (simp <;> omega)) _))))
          clear hK K hh2
          try simp only [Act.put, List.setIfInBounds_toArray, List.set_cons_zero, List.set_cons_succ]
          refine regTk 13 hh3 ?_
          refine wpAnyH_done (by kernel_rfl) ?_ _
          clear hh3
          have NX := hideIt (FN.out (yw.drew.alloc (.cells #[.string q1, .int .i64 1, .int .i64 (netI d q3)] 75)) w4 (.slice A8 (d.ports.length + 1) c8) ga g4 (by simpa using ho4) hr4)
          clear hr4 g4 ho4 S4 hrow hb9 hfar RW0 FN GS1 ga gg NM GS
          go_wp2
          go_roundw
          case rel => exact ⟨k + 1, _, _, _, _, rfl, rfl, rfl, rfl, by omega, by go_num, NX⟩
          case measure => simp [intOf]; omega
      have HP := hideIt hp
      clear hp
      by_cases hi : q0 = rInst ∧ 3 ≤ n
      · skip
        have hq : q0 = ⟨#[105, 110, 115, 116]⟩ := hi.1
        have t_q : q0.toList = [105, 110, 115, 116] := by rw [hq]; exact lit_inst
        have hn3 : 3 ≤ n := hi.2
        have hi3 : (3 : Int) ≤ (n : Int) := by omega
        have i1 : (1 : Int) < (n : Int) := by omega
        have i2 : (2 : Int) < (n : Int) := by omega
        have hn9 : n ≤ 6001 := by omega
        have HQ := hideIt hq
        clear hq hi
        obtain ⟨q1, hq1⟩ : ∃ q, q = wAt ws 1 := ⟨_, rfl⟩
        have C1 : u1.cell? ⟨gw, 1, none⟩ = some (.string (wAt ws 1)) := HC.out 1 (by omega) _ BW.out
        rw [← hq1] at C1
        have Q1 := hideIt hq1
        clear hq1
        obtain ⟨q2, hq2⟩ : ∃ q, q = wAt ws 2 := ⟨_, rfl⟩
        have C2 : u1.cell? ⟨gw, 2, none⟩ = some (.string (wAt ws 2)) := HC.out 2 (by omega) _ BW.out
        rw [← hq2] at C2
        have Q2 := hideIt hq2
        clear hq2
        have NM : Hid (RStrs u1 (.slice An d.nets.length cn) d.nets) := hideIt (by have h := GS1.out.2.1.names; rwa [← DE.out] at h)
        have SN := step_inst (cs := cs) (d := upD cs (ls.take k)) (ws := piecesB 32 x) (by rw [← WS.out]; exact Q0.out.symm.trans HQ.out) (by rw [← WS.out]; have := WN.out; omega)
        rw [← WS.out] at SN
        obtain ⟨rc, hrw, FIN⟩ := GS1.out.inst (y := rdInst cs d ws) HX.out (by rw [← WS.out, SN, ← DE.out])
        rw [← DE.out] at hrw FIN
        have RW0 := hideIt hrw
        have FN := hideIt FIN
        have LB := (B0.out.grows GS1.out.1).cell 0
        simp at LB
        have LL : Hid (∀ w', Grows u1 w' → w'.cell? ⟨gw, 1, none⟩ = some (.string q1) ∧ w'.cell? ⟨gw, 2, none⟩ = some (.string q2) ∧ w'.cell? ⟨w.heap.size, 0, none⟩ = some (.slice AL cs.length cL)) := hideIt (fun w' gu => ⟨gu.keeps _ _ C1, gu.keeps _ _ C2, gu.keeps _ _ LB⟩)
        have GU : Hid (Grows w u1) := hideIt (GW0.out.trans GS1.out.1)
        clear hrw FIN SN C1 C2 LB
        go_upto_region 18 with fail
        have gg : Grows u1 u1 := Grows.refl u1
        refine wp_region_held_drew (S := (fun w' => Grows u1 w')) (by kernel_rfl) ?_ (fun hh0 => ?_)
        · (try dsimp only); (repeat with_reducible (first | exact gg | exact Grows.refl _ | refine Grows.drew ?_ | refine Grows.alloc ?_ _ | refine Grows.setCell ?_ (by first | omega | (simp <;> omega)) _))
        refine regTk 0 hh0 ?_
        refine regTk 1 hh0 ?_
        refine regTake 2 (v := .string q1) (fun w hw => ?_) hh0 ?_
        · obtain ⟨k0, -⟩ := LL.out w hw
          go_simp
        try simp only [Act.put, List.setIfInBounds_toArray, List.set_cons_zero, List.set_cons_succ]
        refine regTake 3 (v := .agg #[.slice AL cs.length cL]) (fun w hw => ?_) hh0 ?_
        · obtain ⟨-, -, k0⟩ := LL.out w hw
          go_simp
        try simp only [Act.put, List.setIfInBounds_toArray, List.set_cons_zero, List.set_cons_succ]
        refine regTk 4 hh0 ?_
        refine regTk 5 hh0 ?_
        refine regTake 6 (v := .string q2) (fun w hw => ?_) hh0 ?_
        · obtain ⟨-, k0, -⟩ := LL.out w hw
          go_simp
        try simp only [Act.put, List.setIfInBounds_toArray, List.set_cons_zero, List.set_cons_succ]
        refine regCall2 7 9 (fun K hK => ?_) (fun K hK => ?_)
        · go_simp
          have gq := ((Grows.refl u1).drew)
          refine (l03Cell_any q2 _ (RCells.keep HL.out (GU.out.trans gq).keeps)).mono ?_
          rintro e u2 ⟨rfl, g⟩
          have gg : Grows u1 u2 := gq.trans g
          have hlu := gg.size
          clear g gq
          (try go_wp2_with fail)
          refine hK.out _ _ ?_ (fun hh1 => ?_)
          · (try dsimp only); (repeat with_reducible (first | exact gg | exact Grows.refl _ | refine Grows.drew ?_ | refine Grows.alloc ?_ _ | refine Grows.setCell ?_ (by first | omega | (simp <;> omega)) _))
          clear hK K hh0
          try simp only [Act.put, List.setIfInBounds_toArray, List.set_cons_zero, List.set_cons_succ]
          refine regTk 8 hh1 ?_
          refine regCall 9 (fun K hK => ?_)
          go_simp
          (try go_wp2_with fail)
          refine hK.out _ _ ?_ (fun hh2 => ?_)
          · (try dsimp only); (repeat with_reducible (first | exact gg | exact Grows.refl _ | refine Grows.drew ?_ | refine Grows.alloc ?_ _ | refine Grows.setCell ?_ (by first | omega | (simp <;> omega)) _))
          clear hK K hh1
          try simp only [Act.put, List.setIfInBounds_toArray, List.set_cons_zero, List.set_cons_succ]
          refine regCall 10 (fun K hK => ?_)
          go_simp
          (try go_wp2_with fail)
          refine hK.out _ _ ?_ (fun hh3 => ?_)
          · (try dsimp only); (repeat with_reducible (first | exact gg | exact Grows.refl _ | refine Grows.drew ?_ | refine Grows.alloc ?_ _ | refine Grows.setCell ?_ (by first | omega | (simp <;> omega)) _))
          clear hK K hh2
          try simp only [Act.put, List.setIfInBounds_toArray, List.set_cons_zero, List.set_cons_succ]
          refine wpAnyH_done (by kernel_rfl) ?_ _
          clear hh3
          go_upto_region 19 with fail
          refine at_c (fun v => Grows u1 v ∧ Blk v (u2.heap.size) 77 #[.string q1, .int .i64 (cellI q2 cs), .slice none 0 0]) ⟨by (repeat with_reducible (first | exact gg | exact Grows.refl _ | refine Grows.drew ?_ | refine Grows.alloc ?_ _ | refine Grows.setCell ?_ (by first | omega | (simp <;> omega)) _)), ?_⟩ (fun v hv => ?_)
          · first | exact Blk.new _ _ _ | simpa using Blk.new u2 _ _
          obtain ⟨gv, bv⟩ := hv
          obtain ⟨AD, hAD⟩ : ∃ n : Nat, n = u2.heap.size := ⟨_, rfl⟩
          have hADle : u1.heap.size ≤ AD := by omega
          rw [← hAD] at bv ⊢
          have hADv := bv.lt
          obtain ⟨VS, hVS⟩ : ∃ n : Nat, n = v.heap.size := ⟨_, rfl⟩
          have hVS1 : AD < VS := by omega
          have hVS2 : VS ≤ v.heap.size := by omega
          have IN0 : Hid (Grows u1 (v.alloc (.cells #[] 2)) ∧ Blk (v.alloc (.cells #[] 2)) AD 77 #[.string q1, .int .i64 (cellI q2 cs), .slice none 0 0] ∧ (v.alloc (.cells #[] 2)).ownsRow VS 2 1 (.slice (some ⟨v.heap.size, 0, none⟩) 0 0) (((ws.drop 3).take 0).map (netI d)).length ((((ws.drop 3).take 0).map (netI d)).map (Value.int .i64)) ∧ VS ≤ (v.alloc (.cells #[] 2)).heap.size) := hideIt
            ⟨gv.alloc _, bv.grows ((Grows.refl _).alloc _), ⟨by simp, .inr ⟨_, 0, #[], by simp, hVS2, Blk.new v _ _, Nat.zero_le _, Nat.zero_le _, by simp, by simp⟩⟩, by simp; omega⟩
          clear gv bv hVS hADv hAD hVS2
          go_wp2
          go_loopw [15, 16] (fun lv2 kv wq => ∃ (j : Nat) (zl : Value), zl = lv2 ∧ kv = .int .i64 ((j + 3 : Nat) : Int) ∧ j + 3 ≤ n ∧ Hid (Grows u1 wq ∧ Blk wq AD 77 #[.string q1, .int .i64 (cellI q2 cs), .slice none 0 0] ∧ wq.ownsRow VS 2 1 zl (((ws.drop 3).take j).map (netI d)).length ((((ws.drop 3).take j).map (netI d)).map (Value.int .i64)) ∧ VS ≤ wq.heap.size)) (fun _ i _ => n - (intOf i).toNat)
          case atStart => exact ⟨0, _, rfl, rfl, by omega, IN0⟩
          case round =>
            clear IN0
            obtain ⟨j, zl, rfl, rfl, hj, IN⟩ := hrel
            obtain ⟨wq, rfl⟩ : ∃ y : World, y = wr := ⟨_, rfl⟩
            obtain ⟨A9, c9, ev⟩ := own_slice' IN.out.2.2.1
            obtain ⟨XS, hxs⟩ : ∃ l, l = ((ws.drop 3).take j).map (netI d) := ⟨_, rfl⟩
            rw [← hxs] at IN ev
            have HXS := hideIt hxs
            have XL : XS.length ≤ n := by rw [hxs]; simp; omega
            subst ev
            clear hxs
            by_cases hlt3 : j + 3 < n
            · have ckj : wq.cell? ⟨gw, j + 3, none⟩ = some (.string (wAt ws (j + 3))) := HC.out (j + 3) hlt3 _ (BW.out.grows IN.out.1)
              obtain ⟨sk, hsk⟩ : ∃ q, q = wAt ws (j + 3) := ⟨_, rfl⟩
              rw [← hsk] at ckj
              have SK := hideIt hsk
              have hj3 : (j : Int) + 3 < (n : Int) := by omega
              clear hsk
              go_wp2_with fail
              refine (l04Index_any sk _ (RStrs.keep NM.out IN.out.1.keeps)).mono ?_
              rintro e wz ⟨rfl, rfl⟩
              have ROWL := hideIt (ownsRow_same IN.out.2.2.1 (fun q hq => Below.block ((Grows.refl wz).alloc (.cells #[.int .i64 (netI d sk)] 2)) q (IN.out.2.2.1.lt q (by simpa using hq)).2))
              go_wp2_with (at_builtin; go_loud (refine wpList_append_own_at _ rfl _ _ 64 rfl VS 2 iI (.int .i64 0) 1 8 Tryz.underlying64 hiI hzI hsI hbI rfl (by decide) (.slice A9 XS.length c9) (XS.length) (XS.map (Value.int .i64)) rfl ROWL.out ⟨wz.heap.size, 0, none⟩ 1 1 [.int .i64 (netI d sk)] rfl rfl (cells_new _ _ _) (by intro u hu; simp at hu; subst hu; rfl) (by unfold maxLen; omega) (by omega) (by have := IN.out.2.2.2; simp <;> omega) ?_))
              intro v9 w4 hr4 g4 hnil hat
              have hlt9 := IN.out.2.2.1.lt
              have NE := ownsRow_ne ROWL.out (IN.out.2.1.grows ((Grows.refl wz).alloc (.cells #[.int .i64 (netI d sk)] 2))) (by decide)
              have IX : Hid (Grows u1 w4 ∧ Blk w4 AD 77 #[.string q1, .int .i64 (cellI q2 cs), .slice none 0 0] ∧ w4.ownsRow VS 2 1 v9 (((ws.drop 3).take (j + 1)).map (netI d)).length ((((ws.drop 3).take (j + 1)).map (netI d)).map (Value.int .i64)) ∧ VS ≤ w4.heap.size) := hideIt
                ⟨Grows.grown (IN.out.1.alloc _) g4 (fun q e => by have := (hlt9 q e).1; omega), blk_grown (IN.out.2.1.grows ((Grows.refl wz).alloc _)) g4 NE, by
                  have ek : ws[3 + j]? = some sk := by rw [Nat.add_comm, SK.out]; exact wAt_some (by have := WN.out; omega)
                  rw [take3' ek, ← HXS.out, List.length_append, List.map_append]
                  exact hr4, by have h1 := g4.size; have h2 := IN.out.2.2.2; simp at h1; omega⟩
              clear hr4 g4 hnil hat hlt9 NE ROWL ckj IN
              go_wp2
              go_roundw
              case rel => exact ⟨j + 1, _, rfl, by go_num, by omega, IX⟩
              case measure => simp [intOf]; omega
            · have hj4 : ¬ (j : Int) + 3 < (n : Int) := by omega
              have XE : Hid (XS = (ws.drop 3).map (netI d)) := hideIt (by rw [HXS.out, List.take_of_length_le (by simp; have := WN.out; omega)])
              obtain ⟨Ax, cx, bx, eo, ox, wx⟩ := own_oints IN.out.2.2.1
              have x0 := IN.out.2.1.cell 0
              have x1 := IN.out.2.1.cell 1
              have x2 := IN.out.2.1.cell 2
              have fX := IN.out.2.1.frozen
              have lX := IN.out.2.1.lt
              simp at x0 x1 x2
              have gA : Grows u1 ((wq.setCell ⟨AD, 2, none⟩ (.slice A9 XS.length c9)).alloc (.cells #[.string q1, .int .i64 (cellI q2 cs), .slice A9 XS.length c9] 77)) := (IN.out.1.setCell hADle _).alloc _
              have ROW := hideIt (ownsRow_same RW0.out (fun q hq => Below.block gA q (RW0.out.lt q (by simpa using hq)).2))
              have OI2 : Hid (OInst ((wq.setCell ⟨AD, 2, none⟩ (.slice A9 XS.length c9)).alloc (.cells #[.string q1, .int .i64 (cellI q2 cs), .slice A9 XS.length c9] 77)) [.string q1, .int .i64 (cellI q2 cs), .slice A9 XS.length c9] (rdInst cs d ws) bx) := hideIt
                ⟨_, _, by unfold rdInst; rw [← Q1.out, ← Q2.out], by have h := HW.out 1; show (wAt ws 1).size ≤ maxLen; unfold maxLen; omega, by
                  have o2 := ox.same (((SameOn.refl bx wq).set (p := ⟨AD, 2, none⟩) (fun q hq e => by have := (wx.2 q hq).1; simp at e; omega) (.slice A9 XS.length c9)).grows (fun q hq => by have := (wx.2 q hq).2; simpa [World.setCell] using this) ((Grows.refl _).alloc (.cells #[.string q1, .int .i64 (cellI q2 cs), .slice A9 XS.length c9] 77)))
                  show OInts _ _ ((ws.drop 3).map (netI d)) bx
                  rw [← XE.out]
                  exact o2, rfl⟩
              have OB2 : Hid (Own u1.heap.size ((wq.setCell ⟨AD, 2, none⟩ (.slice A9 XS.length c9)).alloc (.cells #[.string q1, .int .i64 (cellI q2 cs), .slice A9 XS.length c9] 77)).heap.size bx) := hideIt (wx.mono (by omega) (by simp [World.setCell]))
              have CN := cells_new (wq.setCell ⟨AD, 2, none⟩ (.slice A9 XS.length c9)) #[.string q1, .int .i64 (cellI q2 cs), .slice A9 XS.length c9] 77
              rw [show (wq.setCell ⟨AD, 2, none⟩ (.slice A9 XS.length c9)).heap.size = wq.heap.size by simp [World.setCell]] at CN
              have CNH := hideIt CN
              have GA := hideIt gA
              clear gA eo ox wx IN CN
              go_wp2_with (at_builtin; go_loud (refine wpList_append_own_at _ rfl _ _ 26 rfl 0 77 iN (.agg #[.string .empty, .int .i64 0, .slice none 0 0]) 3 48 Tryz.underlying26 hiN hzN hsN hbN rfl (by decide) (.slice Ai d.insts.length ci) (d.insts.length) rc rfl ROW.out ⟨wq.heap.size, 0, none⟩ 1 1 [.string q1, .int .i64 (cellI q2 cs), .slice A9 XS.length c9] rfl rfl CNH.out (by intro u hu; simp at hu; rcases hu with rfl | rfl | rfl <;> rfl) (by unfold maxLen; omega) (by omega) (Nat.zero_le _) ?_))
              intro v9 w4 hr4 g4 hnil hat
              have NX := hideIt (FN.out _ w4 v9 _ bx GA.out OI2.out rfl OB2.out g4 (by simpa [World.setCell] using hat) hr4)
              clear hr4 g4 hnil hat ROW OI2 OB2 GA x0 x1 x2 fX lX
              go_wp2
              go_roundw
              case rel => exact ⟨k + 1, _, _, _, _, rfl, rfl, rfl, rfl, by omega, by go_num, NX⟩
              case measure => simp [intOf]; omega
        · go_simp
          (try go_wp2_with fail)
          refine hK.out _ _ ?_ (fun hh1 => ?_)
          · (try dsimp only); (repeat with_reducible (first | exact gg | exact Grows.refl _ | refine Grows.drew ?_ | refine Grows.alloc ?_ _ | refine Grows.setCell ?_ (by first | omega | (simp <;> omega)) _))
          clear hK K hh0
          try simp only [Act.put, List.setIfInBounds_toArray, List.set_cons_zero, List.set_cons_succ]
          refine regCall 7 (fun K hK => ?_)
          go_simp
          have gq := ((Grows.refl u1).drew.alloc (.cells #[.string .empty, .int .i64 0, .slice none 0 0] 77))
          refine (l03Cell_any q2 _ (RCells.keep HL.out (GU.out.trans gq).keeps)).mono ?_
          rintro e u2 ⟨rfl, g⟩
          have gg : Grows u1 u2 := gq.trans g
          have hlu := gg.size
          have hB := (Blk.new u1.drew 77 #[.string .empty, .int .i64 0, .slice none 0 0]).grows g
          have hf := hB.frozen
          have hlt2 := hB.lt
          have hc0 := hB.cell 0
          have hc1 := hB.cell 1
          have hc2 := hB.cell 2
          simp at hf hlt2 hc0 hc1 hc2
          clear g gq
          (try go_wp2_with fail)
          refine hK.out _ _ ?_ (fun hh2 => ?_)
          · (try dsimp only); (repeat with_reducible (first | exact gg | exact Grows.refl _ | refine Grows.drew ?_ | refine Grows.alloc ?_ _ | refine Grows.setCell ?_ (by first | omega | (simp <;> omega)) _))
          clear hK K hh1
          try simp only [Act.put, List.setIfInBounds_toArray, List.set_cons_zero, List.set_cons_succ]
          refine regTk 8 hh2 ?_
          refine regCall 10 (fun K hK => ?_)
          go_simp
          (try go_wp2_with fail)
          refine hK.out _ _ ?_ (fun hh3 => ?_)
          · (try dsimp only); (repeat with_reducible (first | exact gg | exact Grows.refl _ | refine Grows.drew ?_ | refine Grows.alloc ?_ _ | refine Grows.setCell ?_ (by first | omega | (simp <;> omega)) _))
          clear hK K hh2
          try simp only [Act.put, List.setIfInBounds_toArray, List.set_cons_zero, List.set_cons_succ]
          refine wpAnyH_done (by kernel_rfl) ?_ _
          clear hh3
          go_upto_region 19 with fail
          refine at_c (fun v => Grows u1 v ∧ Blk v (u1.heap.size) 77 #[.string q1, .int .i64 (cellI q2 cs), .slice none 0 0]) ⟨by (repeat with_reducible (first | exact gg | exact Grows.refl _ | refine Grows.drew ?_ | refine Grows.alloc ?_ _ | refine Grows.setCell ?_ (by first | omega | (simp <;> omega)) _)), ?_⟩ (fun v hv => ?_)
          · have h := ((hB.set_ 0 (.string q1)).set_ 1 (.int .i64 (cellI q2 cs))).set_ 2 (.slice none 0 0); simpa using h
          obtain ⟨gv, bv⟩ := hv
          obtain ⟨AD, hAD⟩ : ∃ n : Nat, n = u1.heap.size := ⟨_, rfl⟩
          have hADle : u1.heap.size ≤ AD := by omega
          rw [← hAD] at bv ⊢
          have hADv := bv.lt
          obtain ⟨VS, hVS⟩ : ∃ n : Nat, n = v.heap.size := ⟨_, rfl⟩
          have hVS1 : AD < VS := by omega
          have hVS2 : VS ≤ v.heap.size := by omega
          have IN0 : Hid (Grows u1 (v.alloc (.cells #[] 2)) ∧ Blk (v.alloc (.cells #[] 2)) AD 77 #[.string q1, .int .i64 (cellI q2 cs), .slice none 0 0] ∧ (v.alloc (.cells #[] 2)).ownsRow VS 2 1 (.slice (some ⟨v.heap.size, 0, none⟩) 0 0) (((ws.drop 3).take 0).map (netI d)).length ((((ws.drop 3).take 0).map (netI d)).map (Value.int .i64)) ∧ VS ≤ (v.alloc (.cells #[] 2)).heap.size) := hideIt
            ⟨gv.alloc _, bv.grows ((Grows.refl _).alloc _), ⟨by simp, .inr ⟨_, 0, #[], by simp, hVS2, Blk.new v _ _, Nat.zero_le _, Nat.zero_le _, by simp, by simp⟩⟩, by simp; omega⟩
          clear gv bv hVS hADv hAD hVS2
          go_wp2
          go_loopw [15, 16] (fun lv2 kv wq => ∃ (j : Nat) (zl : Value), zl = lv2 ∧ kv = .int .i64 ((j + 3 : Nat) : Int) ∧ j + 3 ≤ n ∧ Hid (Grows u1 wq ∧ Blk wq AD 77 #[.string q1, .int .i64 (cellI q2 cs), .slice none 0 0] ∧ wq.ownsRow VS 2 1 zl (((ws.drop 3).take j).map (netI d)).length ((((ws.drop 3).take j).map (netI d)).map (Value.int .i64)) ∧ VS ≤ wq.heap.size)) (fun _ i _ => n - (intOf i).toNat)
          case atStart => exact ⟨0, _, rfl, rfl, by omega, IN0⟩
          case round =>
            clear IN0
            obtain ⟨j, zl, rfl, rfl, hj, IN⟩ := hrel
            obtain ⟨wq, rfl⟩ : ∃ y : World, y = wr := ⟨_, rfl⟩
            obtain ⟨A9, c9, ev⟩ := own_slice' IN.out.2.2.1
            obtain ⟨XS, hxs⟩ : ∃ l, l = ((ws.drop 3).take j).map (netI d) := ⟨_, rfl⟩
            rw [← hxs] at IN ev
            have HXS := hideIt hxs
            have XL : XS.length ≤ n := by rw [hxs]; simp; omega
            subst ev
            clear hxs
            by_cases hlt3 : j + 3 < n
            · have ckj : wq.cell? ⟨gw, j + 3, none⟩ = some (.string (wAt ws (j + 3))) := HC.out (j + 3) hlt3 _ (BW.out.grows IN.out.1)
              obtain ⟨sk, hsk⟩ : ∃ q, q = wAt ws (j + 3) := ⟨_, rfl⟩
              rw [← hsk] at ckj
              have SK := hideIt hsk
              have hj3 : (j : Int) + 3 < (n : Int) := by omega
              clear hsk
              go_wp2_with fail
              refine (l04Index_any sk _ (RStrs.keep NM.out IN.out.1.keeps)).mono ?_
              rintro e wz ⟨rfl, rfl⟩
              have ROWL := hideIt (ownsRow_same IN.out.2.2.1 (fun q hq => Below.block ((Grows.refl wz).alloc (.cells #[.int .i64 (netI d sk)] 2)) q (IN.out.2.2.1.lt q (by simpa using hq)).2))
              go_wp2_with (at_builtin; go_loud (refine wpList_append_own_at _ rfl _ _ 64 rfl VS 2 iI (.int .i64 0) 1 8 Tryz.underlying64 hiI hzI hsI hbI rfl (by decide) (.slice A9 XS.length c9) (XS.length) (XS.map (Value.int .i64)) rfl ROWL.out ⟨wz.heap.size, 0, none⟩ 1 1 [.int .i64 (netI d sk)] rfl rfl (cells_new _ _ _) (by intro u hu; simp at hu; subst hu; rfl) (by unfold maxLen; omega) (by omega) (by have := IN.out.2.2.2; simp <;> omega) ?_))
              intro v9 w4 hr4 g4 hnil hat
              have hlt9 := IN.out.2.2.1.lt
              have NE := ownsRow_ne ROWL.out (IN.out.2.1.grows ((Grows.refl wz).alloc (.cells #[.int .i64 (netI d sk)] 2))) (by decide)
              have IX : Hid (Grows u1 w4 ∧ Blk w4 AD 77 #[.string q1, .int .i64 (cellI q2 cs), .slice none 0 0] ∧ w4.ownsRow VS 2 1 v9 (((ws.drop 3).take (j + 1)).map (netI d)).length ((((ws.drop 3).take (j + 1)).map (netI d)).map (Value.int .i64)) ∧ VS ≤ w4.heap.size) := hideIt
                ⟨Grows.grown (IN.out.1.alloc _) g4 (fun q e => by have := (hlt9 q e).1; omega), blk_grown (IN.out.2.1.grows ((Grows.refl wz).alloc _)) g4 NE, by
                  have ek : ws[3 + j]? = some sk := by rw [Nat.add_comm, SK.out]; exact wAt_some (by have := WN.out; omega)
                  rw [take3' ek, ← HXS.out, List.length_append, List.map_append]
                  exact hr4, by have h1 := g4.size; have h2 := IN.out.2.2.2; simp at h1; omega⟩
              clear hr4 g4 hnil hat hlt9 NE ROWL ckj IN
              go_wp2
              go_roundw
              case rel => exact ⟨j + 1, _, rfl, by go_num, by omega, IX⟩
              case measure => simp [intOf]; omega
            · have hj4 : ¬ (j : Int) + 3 < (n : Int) := by omega
              have XE : Hid (XS = (ws.drop 3).map (netI d)) := hideIt (by rw [HXS.out, List.take_of_length_le (by simp; have := WN.out; omega)])
              obtain ⟨Ax, cx, bx, eo, ox, wx⟩ := own_oints IN.out.2.2.1
              have x0 := IN.out.2.1.cell 0
              have x1 := IN.out.2.1.cell 1
              have x2 := IN.out.2.1.cell 2
              have fX := IN.out.2.1.frozen
              have lX := IN.out.2.1.lt
              simp at x0 x1 x2
              have gA : Grows u1 ((wq.setCell ⟨AD, 2, none⟩ (.slice A9 XS.length c9)).alloc (.cells #[.string q1, .int .i64 (cellI q2 cs), .slice A9 XS.length c9] 77)) := (IN.out.1.setCell hADle _).alloc _
              have ROW := hideIt (ownsRow_same RW0.out (fun q hq => Below.block gA q (RW0.out.lt q (by simpa using hq)).2))
              have OI2 : Hid (OInst ((wq.setCell ⟨AD, 2, none⟩ (.slice A9 XS.length c9)).alloc (.cells #[.string q1, .int .i64 (cellI q2 cs), .slice A9 XS.length c9] 77)) [.string q1, .int .i64 (cellI q2 cs), .slice A9 XS.length c9] (rdInst cs d ws) bx) := hideIt
                ⟨_, _, by unfold rdInst; rw [← Q1.out, ← Q2.out], by have h := HW.out 1; show (wAt ws 1).size ≤ maxLen; unfold maxLen; omega, by
                  have o2 := ox.same (((SameOn.refl bx wq).set (p := ⟨AD, 2, none⟩) (fun q hq e => by have := (wx.2 q hq).1; simp at e; omega) (.slice A9 XS.length c9)).grows (fun q hq => by have := (wx.2 q hq).2; simpa [World.setCell] using this) ((Grows.refl _).alloc (.cells #[.string q1, .int .i64 (cellI q2 cs), .slice A9 XS.length c9] 77)))
                  show OInts _ _ ((ws.drop 3).map (netI d)) bx
                  rw [← XE.out]
                  exact o2, rfl⟩
              have OB2 : Hid (Own u1.heap.size ((wq.setCell ⟨AD, 2, none⟩ (.slice A9 XS.length c9)).alloc (.cells #[.string q1, .int .i64 (cellI q2 cs), .slice A9 XS.length c9] 77)).heap.size bx) := hideIt (wx.mono (by omega) (by simp [World.setCell]))
              have CN := cells_new (wq.setCell ⟨AD, 2, none⟩ (.slice A9 XS.length c9)) #[.string q1, .int .i64 (cellI q2 cs), .slice A9 XS.length c9] 77
              rw [show (wq.setCell ⟨AD, 2, none⟩ (.slice A9 XS.length c9)).heap.size = wq.heap.size by simp [World.setCell]] at CN
              have CNH := hideIt CN
              have GA := hideIt gA
              clear gA eo ox wx IN CN
              go_wp2_with (at_builtin; go_loud (refine wpList_append_own_at _ rfl _ _ 26 rfl 0 77 iN (.agg #[.string .empty, .int .i64 0, .slice none 0 0]) 3 48 Tryz.underlying26 hiN hzN hsN hbN rfl (by decide) (.slice Ai d.insts.length ci) (d.insts.length) rc rfl ROW.out ⟨wq.heap.size, 0, none⟩ 1 1 [.string q1, .int .i64 (cellI q2 cs), .slice A9 XS.length c9] rfl rfl CNH.out (by intro u hu; simp at hu; rcases hu with rfl | rfl | rfl <;> rfl) (by unfold maxLen; omega) (by omega) (Nat.zero_le _) ?_))
              intro v9 w4 hr4 g4 hnil hat
              have NX := hideIt (FN.out _ w4 v9 _ bx GA.out OI2.out rfl OB2.out g4 (by simpa [World.setCell] using hat) hr4)
              clear hr4 g4 hnil hat ROW OI2 OB2 GA x0 x1 x2 fX lX
              go_wp2
              go_roundw
              case rel => exact ⟨k + 1, _, _, _, _, rfl, rfl, rfl, rfl, by omega, by go_num, NX⟩
              case measure => simp [intOf]; omega
      have HI := hideIt hi
      clear hi
      have SN : stepD cs (upD cs (ls.take k)) (piecesB 32 x) = upD cs (ls.take k) := by rw [← WS.out]; exact step_none (by rw [← WN.out, ← Q0.out]; exact NN1.out) (by rw [← WN.out, ← Q0.out]; exact HP.out) (by rw [← WN.out, ← Q0.out]; exact HI.out)
      by_cases a_net : q0 = rNet
      · have hq : q0 = ⟨#[110, 101, 116]⟩ := a_net
        have t_q : q0.toList = [110, 101, 116] := by rw [hq]; exact lit_net
        have hk : ((n : Int) == 2) = false := by have h := NN1.out; simp; exact fun e => h ⟨hq, by omega⟩
        clear hq a_net
        have NX := hideIt (GS1.out.skip HX.out SN)
        clear GS1 GS SN
        go_wp2
        go_roundw
        case rel => exact ⟨k + 1, _, _, _, _, rfl, rfl, rfl, rfl, by omega, by go_num, NX⟩
        case measure => simp [intOf]; omega
      have n_net := a_net
      by_cases a_port : q0 = rPort
      · have hq : q0 = ⟨#[112, 111, 114, 116]⟩ := a_port
        have t_q : q0.toList = [112, 111, 114, 116] := by rw [hq]; exact lit_port
        have hk : ((n : Int) == 4) = false := by have h := HP.out; simp; exact fun e => h ⟨hq, by omega⟩
        clear hq a_port
        have NX := hideIt (GS1.out.skip HX.out SN)
        clear GS1 GS SN
        go_wp2
        go_roundw
        case rel => exact ⟨k + 1, _, _, _, _, rfl, rfl, rfl, rfl, by omega, by go_num, NX⟩
        case measure => simp [intOf]; omega
      have n_port := a_port
      by_cases a_inst : q0 = rInst
      · have hq : q0 = ⟨#[105, 110, 115, 116]⟩ := a_inst
        have t_q : q0.toList = [105, 110, 115, 116] := by rw [hq]; exact lit_inst
        have hk : ¬ (3 : Int) ≤ (n : Int) := by have h := HI.out; exact fun e => h ⟨hq, by omega⟩
        clear hq a_inst
        have NX := hideIt (GS1.out.skip HX.out SN)
        clear GS1 GS SN
        go_wp2
        go_roundw
        case rel => exact ⟨k + 1, _, _, _, _, rfl, rfl, rfl, rfl, by omega, by go_num, NX⟩
        case measure => simp [intOf]; omega
      have n_inst := a_inst
      by_cases a_wire : q0 = rWire
      · have t_q : q0.toList = [119, 105, 114, 101] := by rw [a_wire]; exact lit_wire
        clear a_wire n_net n_port n_inst a_net a_port a_inst
        by_cases hn3 : n = 3
        · subst hn3
          obtain ⟨m, wcells, hm, hrow, FIN⟩ := GS1.out.wire HX.out SN
          obtain ⟨A', c', ev⟩ := own_slice' hrow
          injection ev with e1 e2 e3
          subst e2
          have ROW := hideIt (ownsRow_same hrow (fun q hq => Below.block ((Grows.refl u1).alloc (.cells #[.slice (some ⟨gw, 0, none⟩) 3 cw2] 27)) q (hrow.lt q (by simpa using hq)).2))
          have FN := hideIt FIN
          clear hrow FIN SN e1 e3
          go_wp2_with (at_builtin; go_loud (refine wpList_append_own_at _ rfl _ _ 44 rfl 0 27 iW (.slice none 0 0) 1 24 Tryz.underlying44 hiW hzW hsW hbW rfl (by decide) (.slice Aw mw cw) (mw) wcells rfl ROW.out ⟨u1.heap.size, 0, none⟩ 1 1 [.slice (some ⟨gw, 0, none⟩) 3 cw2] rfl rfl (cells_new _ _ _) (by intro u hu; simp at hu; subst hu; rfl) (by unfold maxLen; omega) (by omega) (Nat.zero_le _) ?_))
          intro v9 w4 hr4 g4 hnil hat
          have NX := hideIt (FN.out _ w4 v9 _ ((Grows.refl u1).alloc (.cells #[.slice (some ⟨gw, 0, none⟩) 3 cw2] 27)) g4 (by simpa using hat) hr4)
          clear hr4 g4 hnil hat ROW FN GS1 GS
          go_wp2
          go_roundw
          case rel => exact ⟨k + 1, _, _, _, _, rfl, rfl, rfl, rfl, by omega, by go_num, NX⟩
          case measure => simp [intOf]; omega
        · have hk : ((n : Int) == 3) = false := by simp; omega
          clear hn3
          have NX := hideIt (GS1.out.skip HX.out SN)
          clear GS1 GS SN
          go_wp2
          go_roundw
          case rel => exact ⟨k + 1, _, _, _, _, rfl, rfl, rfl, rfl, by omega, by go_num, NX⟩
          case measure => simp [intOf]; omega
      have t_net : (q0.toList == [110, 101, 116]) = false := lit_ne lit_net n_net
      have t_port : (q0.toList == [112, 111, 114, 116]) = false := lit_ne lit_port n_port
      have t_inst : (q0.toList == [105, 110, 115, 116]) = false := lit_ne lit_inst n_inst
      have t_wire : (q0.toList == [119, 105, 114, 101]) = false := lit_ne lit_wire a_wire
      clear n_net n_port n_inst a_net a_port a_inst a_wire
      have NX := hideIt (GS1.out.skip HX.out SN)
      clear GS1 GS SN
      go_wp2
      go_roundw
      case rel => exact ⟨k + 1, _, _, _, _, rfl, rfl, rfl, rfl, by omega, by go_num, NX⟩
      case measure => simp [intOf]; omega
    · obtain rfl : k = ls.length := by omega
      have gr := GS.out.1
      have bR := B1.out.grows gr
      have r0 := bR.cell 0
      have r1 := bR.cell 1
      have r2 := bR.cell 2
      have rl := bR.lt
      have rf := bR.frozen
      simp at r0 r1 r2
      have RS := hideIt GS.out.2.1
      have GR := hideIt (GW0.out.trans gr)
      have ED : Hid (d = upD cs (piecesB 10 s)) := hideIt (by rw [DE.out, LS.out, List.take_of_length_le (Nat.le_refl _)])
      clear gr bR GS
      go_wp2
      refine bodyPost_ret (by simp [*, results, Tryz.results15, go_sem]; try rfl) rfl ?_
      refine GuessPost.mk' ED.out ?_ (((GR.out.setCell (by simp) _).setCell (by simp) _).setCell (by simp) _)
      have h := (RS.out.chg (ds := [w.heap.size + 1]) ((((Chg.refl _ _).setCell (p := ⟨w.heap.size + 1, 0, none⟩) (by simp) (.slice Ai d.insts.length ci)).setCell (p := ⟨w.heap.size + 1, 1, none⟩) (by simp) (.slice An d.nets.length cn)).setCell (p := ⟨w.heap.size + 1, 2, none⟩) (by simp) (.slice Ap d.ports.length cp)) (by have := Z0.out; simp; omega)).owns
      rw [← DE.out] at h
      obtain ⟨bs, h1, h2⟩ := h
      exact ⟨bs, h1, h2.mono GW0.out.size (Nat.le_refl _)⟩
end Go.Proofs.YtocahjbmnkadjaaGreatDoor
