/-
  The program's reading of an instance.
-/
import Derived.Test.YtocahjbmnkadjaaGreatDoorRC
import Derived.Test.YtocahjbmnkadjaaGreatDoorRE
import Derived.Test.YtocahjbmnkadjaaGreatDoorRA
import Derived.Test.YtocahjbmnkadjaaGreatDoorRD
namespace Go.Proofs.YtocahjbmnkadjaaGreatDoor
open Go.RowKit
/-- an instance in the making: its box and its row of nets -/
def XIn (w0 : World) (nm : ByteArray) (z : Int) (xs : List Int) (b : Nat) (vx : Value) (u : World) : Prop :=
  Grows w0 u ∧ Blk u b 77 #[.string nm, .int .i64 z, vx] ∧ u.ownsRow w0.heap.size 2 1 vx xs.length (xs.map (Value.int .i64)) ∧ w0.heap.size ≤ b
theorem take3 {ws : List ByteArray} {k : Nat} {x : ByteArray} {f : ByteArray → Int} (h : ws[3 + k]? = some x) : ((ws.drop 3).take (k + 1)).map f = ((ws.drop 3).take k).map f ++ [f x] := by
  rw [List.take_add_one, List.getElem?_drop, h, List.map_append]
  rfl
def InstPost (cs : List CellD) (d : DesignD) (ws : List ByteArray) (w : World) (e : Ending) (w' : World) : Prop :=
  ∃ vx, e = .returned (.agg #[.string (wAt ws 1), .int .i64 (cellI (wAt ws 2) cs), vx]) ∧ w'.ownsRow w.heap.size 2 1 vx (ws.drop 3).length (((ws.drop 3).map (netI d)).map (Value.int .i64)) ∧ Grows w w'
set_option maxHeartbeats 8000000 in
set_option maxRecDepth 10000 in
theorem readInst_any {lv a b c : Value} {cs : List CellD} {d : DesignD} {ws : List ByteArray} (g : Nat) (w : World) (hl : RCells w lv cs) (hd : RDesign w [a, b, c] d) (hg : ∀ (j : Nat) (x : ByteArray), ws[j]? = some x → w.cell? ⟨g, j, none⟩ = some (.string x)) (h3 : 3 ≤ ws.length) (hn : ws.length ≤ 10000) :
    Calls Tryz.prog 72 #[.agg #[a, b, c], .agg #[lv], .slice (some ⟨g, 0, none⟩) ws.length ws.length] w (InstPost cs d ws w) := by
  obtain ⟨iI, hiI, hzI, hsI, hbI⟩ := info_parts info_i64
  obtain ⟨q1, e1⟩ : ∃ x, ws[1]? = some x := ⟨_, List.getElem?_eq_getElem (by omega)⟩
  obtain ⟨q2, e2⟩ : ∃ x, ws[2]? = some x := ⟨_, List.getElem?_eq_getElem (by omega)⟩
  have f1 : wAt ws 1 = q1 := by unfold wAt; rw [List.getD_eq_getElem?_getD, e1]; rfl
  have f2 : wAt ws 2 = q2 := by unfold wAt; rw [List.getD_eq_getElem?_getD, e2]; rfl
  have F1 := hideIt f1
  have F2 := hideIt f2
  have c1 := hg 1 q1 e1
  have c2 := hg 2 q2 e2
  have HL := hideIt hl
  have HD := hideIt hd
  have HG := hideIt hg
  clear hl hd hg e1 e2 f1 f2
  go_enter Tryz.func72, Tryz.ntmps72
  go_upto_region 1 with fail
  refine at_c (fun u => Grows w u ∧ Blk u (w.heap.size) 30 #[a, b, c] ∧ Blk u (w.heap.size + 1) 35 #[lv] ∧ Blk u (w.heap.size + 2) 77 #[.string .empty, .int .i64 0, .slice none 0 0] ∧ w.heap.size + 3 ≤ u.heap.size) ?_ (fun u hu => ?_)
  · exact ⟨((Grows.refl w).alloc _).alloc _ |>.alloc _, ((Blk.new w _ _).grows (((Grows.refl _).alloc _).alloc _)), by simpa using (Blk.new (w.alloc _) _ _).grows ((Grows.refl _).alloc _), by have h := Blk.new ((w.alloc (.cells #[a, b, c] 30)).alloc (.cells #[lv] 35)) 77 #[.string .empty, .int .i64 0, .slice none 0 0]; simp only [World.size_alloc] at h; exact h, by simp⟩
  obtain ⟨g0, b0, b1, b2, hsz⟩ := hu
  have k0 := b1.cell 0
  have w1 := g0.keeps _ _ c1
  have w2 := g0.keeps _ _ c2
  simp at k0
  clear c1 c2
  have LL : Hid (∀ w', Grows u w' → w'.cell? ⟨g, 1, none⟩ = some (.string q1) ∧ w'.cell? ⟨g, 2, none⟩ = some (.string q2) ∧ w'.cell? ⟨w.heap.size + 1, 0, none⟩ = some lv) := hideIt (fun w' gu => ⟨gu.keeps _ _ w1, gu.keeps _ _ w2, gu.keeps _ _ (by simpa using k0)⟩)
  have i1 : (1 : Int) < (ws.length : Int) := by omega
  have i2 : (2 : Int) < (ws.length : Int) := by omega
  have hsz0 := g0.size
  have gg : Grows u u := Grows.refl u
  have D0 := hideIt b0
  have D2 := hideIt b2
  clear w1 w2 k0 b0 b1 b2
  refine wp_region_held_drew (S := (fun w' => Grows u w')) (by kernel_rfl) ?_ (fun hh0 => ?_)
  · (try dsimp only); (repeat with_reducible (first | exact gg | exact Grows.refl _ | refine Grows.drew ?_ | refine Grows.alloc ?_ _ | refine Grows.setCell ?_ (by first | omega | (simp <;> omega)) _))
  refine regTk 0 hh0 ?_
  refine regTk 1 hh0 ?_
  refine regTake 2 (v := .string q1) (fun w hw => ?_) hh0 ?_
  · obtain ⟨k0, -⟩ := LL.out w hw
    go_simp
  try simp only [Act.put, List.setIfInBounds_toArray, List.set_cons_zero, List.set_cons_succ]
  refine regTake 3 (v := .agg #[lv]) (fun w hw => ?_) hh0 ?_
  · obtain ⟨-, -, k0⟩ := LL.out w hw
    go_simp
  try simp only [Act.put, List.setIfInBounds_toArray, List.set_cons_zero, List.set_cons_succ]
  refine regTk 4 hh0 ?_
  refine regTk 5 hh0 ?_
  refine regTake 6 (v := .string q2) (fun w hw => ?_) hh0 ?_
  · obtain ⟨-, k0, -⟩ := LL.out w hw
    go_simp
  try simp only [Act.put, List.setIfInBounds_toArray, List.set_cons_zero, List.set_cons_succ]
  refine regCall2 7 9 (fun K hK => ?_) (fun K hK => ?_)
  · go_simp
    have gq := ((Grows.refl u).drew)
    refine (iCellNm_any q2 _ (RCells.keep HL.out (g0.trans gq).keeps)).mono ?_
    rintro e u2 ⟨rfl, g⟩
    have gg : Grows u u2 := gq.trans g
    have hlu := gg.size
    clear g gq
    (try go_wp2_with fail)
    refine hK.out _ _ ?_ (fun hh1 => ?_)
    · (try dsimp only); (repeat with_reducible (first | exact gg | exact Grows.refl _ | refine Grows.drew ?_ | refine Grows.alloc ?_ _ | refine Grows.setCell ?_ (by first | omega | (simp <;> omega)) _))
    clear hK K hh0
    try simp only [Act.put, List.setIfInBounds_toArray, List.set_cons_zero, List.set_cons_succ]
    refine regTk 8 hh1 ?_
    refine regCall 9 (fun K hK => ?_)
    go_simp
    (try go_wp2_with fail)
    refine hK.out _ _ ?_ (fun hh2 => ?_)
    · (try dsimp only); (repeat with_reducible (first | exact gg | exact Grows.refl _ | refine Grows.drew ?_ | refine Grows.alloc ?_ _ | refine Grows.setCell ?_ (by first | omega | (simp <;> omega)) _))
    clear hK K hh1
    try simp only [Act.put, List.setIfInBounds_toArray, List.set_cons_zero, List.set_cons_succ]
    refine regCall 10 (fun K hK => ?_)
    go_simp
    (try go_wp2_with fail)
    refine hK.out _ _ ?_ (fun hh3 => ?_)
    · (try dsimp only); (repeat with_reducible (first | exact gg | exact Grows.refl _ | refine Grows.drew ?_ | refine Grows.alloc ?_ _ | refine Grows.setCell ?_ (by first | omega | (simp <;> omega)) _))
    clear hK K hh2
    try simp only [Act.put, List.setIfInBounds_toArray, List.set_cons_zero, List.set_cons_succ]
    refine wpAnyH_done (by kernel_rfl) ?_ _
    clear hh3
    go_upto_region 2 with fail
    refine at_c (fun v => XIn w q1 (cellI q2 cs) [] (u2.heap.size) (.slice none 0 0) v ∧ Grows u v) ⟨⟨g0.trans (by (repeat with_reducible (first | exact gg | exact Grows.refl _ | refine Grows.drew ?_ | refine Grows.alloc ?_ _ | refine Grows.setCell ?_ (by first | omega | (simp <;> omega)) _))), ?_, ⟨by simp, .inl ⟨rfl, rfl⟩⟩, ?_⟩, by (repeat with_reducible (first | exact gg | exact Grows.refl _ | refine Grows.drew ?_ | refine Grows.alloc ?_ _ | refine Grows.setCell ?_ (by first | omega | (simp <;> omega)) _))⟩ (fun v hv => ?_)
    · first | exact Blk.new _ _ _ | simpa using Blk.new u2 _ _
    · omega
    obtain ⟨XI, GU⟩ := hv
    have XH := hideIt XI
    have DB := hideIt (D0.out.grows GU)
    have DC := hideIt (D2.out.grows GU)
    have i3 : (3 : Int) ≤ (ws.length : Int) := by omega
    have hADle : w.heap.size + 3 ≤ u2.heap.size := by omega
    obtain ⟨AD, hAD⟩ : ∃ n : Nat, n = u2.heap.size := ⟨_, rfl⟩
    rw [← hAD] at XH hADle ⊢
    clear XI GU hAD
    go_wp2
    case inl h33 =>
      have h34 : ws.length ≤ 3 := by omega
      go_loopw [22, 9] (fun iv s9 wr => ∃ (k : Nat) (vx : Value), iv = .int .i64 (k : Int) ∧ k + 3 ≤ ws.length ∧ Hid (XIn w q1 (cellI q2 cs) (((ws.drop 3).take k).map (netI d)) AD vx wr) ∧ Hid (Blk wr w.heap.size 30 #[a, b, c]) ∧ Hid (Blk wr (w.heap.size + 2) 77 #[.string .empty, .int .i64 0, .slice none 0 0])) (fun iv _ _ => ws.length - 3 - (intOf iv).toNat)
      case atStart => exact ⟨0, _, rfl, by omega, XH, DB, DC⟩
      case round =>
        clear XH DB DC
        obtain ⟨k, vx, rfl, hk, XK, DK, EK⟩ := hrel
        obtain ⟨A9, c9, ev⟩ := own_slice' XK.out.2.2.1
        obtain ⟨n9, hn9⟩ : ∃ n, n = (((ws.drop 3).take k).map (netI d)).length := ⟨_, rfl⟩
        rw [← hn9] at ev
        clear hn9
        subst ev
        obtain rfl : k = 0 := by omega
        have hle : ¬ (((0 : Nat) : Int) < ((ws.length : Int) - 3)) := by omega
        obtain ⟨GX, BX, RX, -⟩ := XK.out
        have x0 := BX.cell 0
        have x1 := BX.cell 1
        have x2 := BX.cell 2
        have y0 : wr.cell? ⟨w.heap.size + 1 + 1, 0, none⟩ = some (.string .empty) := EK.out.cell 0
        have y1 : wr.cell? ⟨w.heap.size + 1 + 1, 1, none⟩ = some (.int .i64 0) := EK.out.cell 1
        have y2 : wr.cell? ⟨w.heap.size + 1 + 1, 2, none⟩ = some (.slice none 0 0) := EK.out.cell 2
        have fX := BX.frozen
        have lX := BX.lt
        have fY : ∀ i, wr.frozen? ⟨w.heap.size + 1 + 1, i, none⟩ = false := EK.out.frozen
        have lY : w.heap.size + 1 + 1 < wr.heap.size := EK.out.lt
        have XX := hideIt XK.out
        simp at x0 x1 x2
        have NE := hideIt (ownsRow_ne RX EK.out (by decide))
        clear GX BX RX XK DK EK
        go_wp2
        refine bodyPost_ret (by simp [*, results, Tryz.results72, go_sem]; try rfl) rfl ?_
        have RXX := XX.out.2.2.1
        have GXX := XX.out.1
        rw [List.take_of_length_le (show (ws.drop 3).length ≤ _ by simp <;> omega), List.length_map] at RXX
        refine ⟨_, by rw [F1.out, F2.out], ownsRow_same RXX (fun q hq => ?_), by (repeat with_reducible (first | exact GXX | refine Grows.setCell ?_ (by simp <;> omega) _))⟩
        have hq2 := NE.out q (by simpa using hq)
        exact (Below.heap_setCell _ _ _ _ hq2).trans ((Below.heap_setCell _ _ _ _ hq2).trans (Below.heap_setCell _ _ _ _ hq2))
    case inr h33 =>
      go_loopw [22, 9] (fun iv s9 wr => ∃ (k : Nat) (vx : Value), iv = .int .i64 (k : Int) ∧ k + 3 ≤ ws.length ∧ Hid (XIn w q1 (cellI q2 cs) (((ws.drop 3).take k).map (netI d)) AD vx wr) ∧ Hid (Blk wr w.heap.size 30 #[a, b, c]) ∧ Hid (Blk wr (w.heap.size + 2) 77 #[.string .empty, .int .i64 0, .slice none 0 0])) (fun iv _ _ => ws.length - 3 - (intOf iv).toNat)
      case atStart => exact ⟨0, _, rfl, by omega, XH, DB, DC⟩
      case round =>
        clear XH DB DC
        obtain ⟨k, vx, rfl, hk, XK, DK, EK⟩ := hrel
        obtain ⟨A9, c9, ev⟩ := own_slice' XK.out.2.2.1
        obtain ⟨n9, hn9⟩ : ∃ n, n = (((ws.drop 3).take k).map (netI d)).length := ⟨_, rfl⟩
        have HN := hideIt hn9
        rw [← hn9] at ev
        clear hn9
        subst ev
        by_cases hlt : k + 3 < ws.length
        · have hli : (k : Int) < ((ws.length - 3 : Nat) : Int) := by omega
          obtain ⟨sk, hsk⟩ : ∃ x, ws[3 + k]? = some x := ⟨_, List.getElem?_eq_getElem (by omega)⟩
          have csk := XK.out.1.keeps _ _ (HG.out _ _ hsk)
          have HSK := hideIt hsk
          clear hsk
          go_upto_region 5 with fail
          obtain ⟨XS, hxs⟩ : ∃ l, l = ((ws.drop 3).take k).map (netI d) := ⟨_, rfl⟩
          rw [← hxs] at XK HN
          have HXS := hideIt hxs
          have hN := HN.out
          subst hN
          have XL : XS.length ≤ k := by rw [hxs]; simp; omega
          clear hxs csk HN
          obtain ⟨yw, rfl⟩ : ∃ y : World, y = wr := ⟨_, rfl⟩
          have HS : Hid (∀ w', Grows yw w' → Grows w w' ∧ Blk w' AD 77 #[.string q1, .int .i64 (cellI q2 cs), .slice A9 XS.length c9] ∧ Blk w' w.heap.size 30 #[a, b, c]) := hideIt (fun w' gq => ⟨XK.out.1.trans gq, XK.out.2.1.grows gq, DK.out.grows gq⟩)
          have gg : Grows yw yw := Grows.refl _
          refine wp_region_L (k := 8) (S := (fun w' => Grows w w' ∧ Blk w' AD 77 #[.string q1, .int .i64 (cellI q2 cs), .slice A9 XS.length c9] ∧ Blk w' w.heap.size 30 #[a, b, c])) (by kernel_rfl) ?_ (fun hh0 => ?_)
          · (try dsimp only); (first | exact S4 | exact HS.out _ (by repeat with_reducible (first | exact gg | exact Grows.refl _ | refine Grows.drew ?_ | refine Grows.alloc ?_ _)))
          refine ltTk 0 hh0 ?_
          refine ltTake 1 (v := .slice A9 XS.length c9) (fun w hw => ?_) hh0 ?_
          · have k0 := hw.2.1.cell 2
            simp at k0
            go_simp
          try simp only [Act.put, List.setIfInBounds_toArray, List.set_cons_zero, List.set_cons_succ]
          refine ltTake 2 (v := .agg #[a, b, c]) (fun w hw => ?_) hh0 ?_
          · have k0 := hw.2.2.cell 0
            have k1 := hw.2.2.cell 1
            have k2 := hw.2.2.cell 2
            simp at k0 k1 k2
            go_simp
          try simp only [Act.put, List.setIfInBounds_toArray, List.set_cons_zero, List.set_cons_succ]
          refine ltTk 3 hh0 ?_
          refine ltCall 4 (fun K hK => ?_)
          go_simp
          have gq := (Grows.refl yw).drew
          refine (netNamed_any sk _ (HD.out.keep (XK.out.1.trans gq).keeps)).mono ?_
          rintro e u3 ⟨rfl, g⟩
          have gg : Grows yw u3 := gq.trans g
          clear g gq
          (try go_wp2_with fail)
          refine hK.out _ _ ?_ (fun hh1 => ?_)
          · (try dsimp only); (first | exact S4 | exact HS.out _ (by repeat with_reducible (first | exact gg | exact Grows.refl _ | refine Grows.drew ?_ | refine Grows.alloc ?_ _)))
          clear hK K hh0
          try simp only [Act.put, List.setIfInBounds_toArray, List.set_cons_zero, List.set_cons_succ]
          refine ltCall 5 (fun K hK => ?_)
          go_simp
          (try go_wp2_with fail)
          refine hK.out _ _ ?_ (fun hh2 => ?_)
          · (try dsimp only); (first | exact S4 | exact HS.out _ (by repeat with_reducible (first | exact gg | exact Grows.refl _ | refine Grows.drew ?_ | refine Grows.alloc ?_ _)))
          clear hK K hh1
          try simp only [Act.put, List.setIfInBounds_toArray, List.set_cons_zero, List.set_cons_succ]
          refine ltCall 6 (fun K hK => ?_)
          have ga : Grows yw (u3.alloc (.cells #[.int .i64 (netI d sk)] 2)) := gg.alloc _
          have hrow := ownsRow_same XK.out.2.2.1 (fun q hq => Below.block ga q (XK.out.2.2.1.lt q (by simpa using hq)).2)
          have hb9 := HS.out _ ga
          have hne := ownsRow_ne hrow hb9.2.1 (by decide)
          have hne2 := ownsRow_ne hrow hb9.2.2 (by decide)
          refine wp_append_at _ _ 64 rfl Tryz.underlying64 hiI hzI hsI (by rw [hbI]; decide) rfl (by decide) (.slice A9 XS.length c9) XS.length (XS.map (Value.int .i64)) rfl (ownsRow_up hrow (fun _ _ => Nat.zero_le _)) ⟨u3.heap.size, 0, none⟩ 1 [.int .i64 (netI d sk)] rfl rfl (cells_new _ _ _) (by intro u hu; simp at hu; subst hu; rfl) (by omega) ?_
          intro v9 w4 hr4 g4 ho4
          have S4 : Grows w w4 ∧ Blk w4 AD 77 #[.string q1, .int .i64 (cellI q2 cs), .slice A9 XS.length c9] ∧ Blk w4 w.heap.size 30 #[a, b, c] := ⟨hb9.1.grown g4 (fun q e => (hrow.lt q e).1), blk_grown hb9.2.1 g4 hne, blk_grown hb9.2.2 g4 hne2⟩
          obtain ⟨A8, c8, e8⟩ := own_slice' hr4
          subst e8
          have x2 := S4.2.1.cell 2
          have fX := S4.2.1.frozen
          have lX := S4.2.1.lt
          simp at x2
          refine hK.out _ _ ?_ (fun hh3 => ?_)
          · (try dsimp only); (first | exact S4 | exact HS.out _ (by repeat with_reducible (first | exact gg | exact Grows.refl _ | refine Grows.drew ?_ | refine Grows.alloc ?_ _)))
          clear hK K hh2
          try simp only [Act.put, List.setIfInBounds_toArray, List.set_cons_zero, List.set_cons_succ]
          refine ltTk 7 hh3 ?_
          refine ltLast (fun K hK => ?_)
          go_simp
          (try go_wp2_with fail)
          refine hK.out _ _ ?_
          clear hK K hh3
          refine wpAnyL_done (by kernel_rfl) ?_ _
          have E4 := blk_grown (EK.out.grows ga) g4 (ownsRow_ne hrow (EK.out.grows ga) (by decide))
          have EN : Hid (Blk (w4.setCell ⟨AD, 2, none⟩ (.slice A8 (XS.length + 1) c8)) (w.heap.size + 2) 77 #[.string .empty, .int .i64 0, .slice none 0 0]) := hideIt (E4.far (p := ⟨AD, 2, none⟩) (by show w.heap.size + 2 ≠ AD; omega) _)
          have DN : Hid (Blk (w4.setCell ⟨AD, 2, none⟩ (.slice A8 (XS.length + 1) c8)) w.heap.size 30 #[a, b, c]) := hideIt (S4.2.2.far (p := ⟨AD, 2, none⟩) (by show w.heap.size ≠ AD; omega) _)
          have XN : Hid (XIn w q1 (cellI q2 cs) (((ws.drop 3).take (k + 1)).map (netI d)) AD (.slice A8 (XS.length + 1) c8) (w4.setCell ⟨AD, 2, none⟩ (.slice A8 (XS.length + 1) c8))) := hideIt (by
            rw [take3 HSK.out, ← HXS.out]
            refine ⟨S4.1.setCell (by show w.heap.size ≤ AD; omega) _, by simpa using S4.2.1.set_ 2 _, ?_, by omega⟩
            have h5 := ownsRow_up (lo := w.heap.size) hr4 (fun q e => by
              rcases ho4 with h | h
              · rw [h] at e; exact (hrow.lt q e).1
              · rw [h] at e; injection e with e; subst e; exact hb9.1.size)
            have hne9 := ownsRow_ne hr4 S4.2.1 (by decide)
            rw [List.length_append, List.map_append]
            exact ownsRow_same h5 (fun q hq => Below.heap_setCell _ _ _ _ (hne9 q (by simpa using hq))))
          clear XK DK EK hr4 g4 ho4 S4 x2 fX lX hrow hb9 hne hne2 E4 HS LL
          go_wp2
          go_roundw
          case rel => exact ⟨k + 1, _, by go_num, by omega, XN, DN, EN⟩
          case measure => simp [intOf]; omega
        · have hle : ¬ (k : Int) < ((ws.length - 3 : Nat) : Int) := by omega
          obtain ⟨GX, BX, RX, -⟩ := XK.out
          have x0 := BX.cell 0
          have x1 := BX.cell 1
          have x2 := BX.cell 2
          have y0 : wr.cell? ⟨w.heap.size + 1 + 1, 0, none⟩ = some (.string .empty) := EK.out.cell 0
          have y1 : wr.cell? ⟨w.heap.size + 1 + 1, 1, none⟩ = some (.int .i64 0) := EK.out.cell 1
          have y2 : wr.cell? ⟨w.heap.size + 1 + 1, 2, none⟩ = some (.slice none 0 0) := EK.out.cell 2
          have fX := BX.frozen
          have lX := BX.lt
          have fY : ∀ i, wr.frozen? ⟨w.heap.size + 1 + 1, i, none⟩ = false := EK.out.frozen
          have lY : w.heap.size + 1 + 1 < wr.heap.size := EK.out.lt
          have XX := hideIt XK.out
          simp at x0 x1 x2
          have NE := hideIt (ownsRow_ne RX EK.out (by decide))
          clear GX BX RX XK DK EK
          go_wp2
          refine bodyPost_ret (by simp [*, results, Tryz.results72, go_sem]; try rfl) rfl ?_
          have RXX := XX.out.2.2.1
          have GXX := XX.out.1
          rw [List.take_of_length_le (show (ws.drop 3).length ≤ _ by simp <;> omega), List.length_map] at RXX
          refine ⟨_, by rw [F1.out, F2.out], ownsRow_same RXX (fun q hq => ?_), by (repeat with_reducible (first | exact GXX | refine Grows.setCell ?_ (by simp <;> omega) _))⟩
          have hq2 := NE.out q (by simpa using hq)
          exact (Below.heap_setCell _ _ _ _ hq2).trans ((Below.heap_setCell _ _ _ _ hq2).trans (Below.heap_setCell _ _ _ _ hq2))
  · go_simp
    (try go_wp2_with fail)
    refine hK.out _ _ ?_ (fun hh1 => ?_)
    · (try dsimp only); (repeat with_reducible (first | exact gg | exact Grows.refl _ | refine Grows.drew ?_ | refine Grows.alloc ?_ _ | refine Grows.setCell ?_ (by first | omega | (simp <;> omega)) _))
    clear hK K hh0
    try simp only [Act.put, List.setIfInBounds_toArray, List.set_cons_zero, List.set_cons_succ]
    refine regCall 7 (fun K hK => ?_)
    go_simp
    have gq := ((Grows.refl u).drew.alloc (.cells #[.string .empty, .int .i64 0, .slice none 0 0] 77))
    refine (iCellNm_any q2 _ (RCells.keep HL.out (g0.trans gq).keeps)).mono ?_
    rintro e u2 ⟨rfl, g⟩
    have gg : Grows u u2 := gq.trans g
    have hlu := gg.size
    have hB := (Blk.new u.drew 77 #[.string .empty, .int .i64 0, .slice none 0 0]).grows g
    have hf := hB.frozen
    have hlt := hB.lt
    have hh0 := g0.size
    have hc0 := hB.cell 0
    have hc1 := hB.cell 1
    have hc2 := hB.cell 2
    simp at hf hlt hc0 hc1 hc2
    clear g gq
    (try go_wp2_with fail)
    refine hK.out _ _ ?_ (fun hh2 => ?_)
    · (try dsimp only); (repeat with_reducible (first | exact gg | exact Grows.refl _ | refine Grows.drew ?_ | refine Grows.alloc ?_ _ | refine Grows.setCell ?_ (by first | omega | (simp <;> omega)) _))
    clear hK K hh1
    try simp only [Act.put, List.setIfInBounds_toArray, List.set_cons_zero, List.set_cons_succ]
    refine regTk 8 hh2 ?_
    refine regCall 10 (fun K hK => ?_)
    go_simp
    (try go_wp2_with fail)
    refine hK.out _ _ ?_ (fun hh3 => ?_)
    · (try dsimp only); (repeat with_reducible (first | exact gg | exact Grows.refl _ | refine Grows.drew ?_ | refine Grows.alloc ?_ _ | refine Grows.setCell ?_ (by first | omega | (simp <;> omega)) _))
    clear hK K hh2
    try simp only [Act.put, List.setIfInBounds_toArray, List.set_cons_zero, List.set_cons_succ]
    refine wpAnyH_done (by kernel_rfl) ?_ _
    clear hh3
    go_upto_region 2 with fail
    refine at_c (fun v => XIn w q1 (cellI q2 cs) [] (u.heap.size) (.slice none 0 0) v ∧ Grows u v) ⟨⟨g0.trans (by (repeat with_reducible (first | exact gg | exact Grows.refl _ | refine Grows.drew ?_ | refine Grows.alloc ?_ _ | refine Grows.setCell ?_ (by first | omega | (simp <;> omega)) _))), ?_, ⟨by simp, .inl ⟨rfl, rfl⟩⟩, ?_⟩, by (repeat with_reducible (first | exact gg | exact Grows.refl _ | refine Grows.drew ?_ | refine Grows.alloc ?_ _ | refine Grows.setCell ?_ (by first | omega | (simp <;> omega)) _))⟩ (fun v hv => ?_)
    · have h := ((hB.set_ 0 (.string q1)).set_ 1 (.int .i64 (cellI q2 cs))).set_ 2 (.slice none 0 0); simpa using h
    · omega
    obtain ⟨XI, GU⟩ := hv
    have XH := hideIt XI
    have DB := hideIt (D0.out.grows GU)
    have DC := hideIt (D2.out.grows GU)
    have i3 : (3 : Int) ≤ (ws.length : Int) := by omega
    have hADle : w.heap.size + 3 ≤ u.heap.size := by omega
    obtain ⟨AD, hAD⟩ : ∃ n : Nat, n = u.heap.size := ⟨_, rfl⟩
    rw [← hAD] at XH hADle ⊢
    clear XI GU hAD
    go_wp2
    case inl h33 =>
      have h34 : ws.length ≤ 3 := by omega
      go_loopw [22, 9] (fun iv s9 wr => ∃ (k : Nat) (vx : Value), iv = .int .i64 (k : Int) ∧ k + 3 ≤ ws.length ∧ Hid (XIn w q1 (cellI q2 cs) (((ws.drop 3).take k).map (netI d)) AD vx wr) ∧ Hid (Blk wr w.heap.size 30 #[a, b, c]) ∧ Hid (Blk wr (w.heap.size + 2) 77 #[.string .empty, .int .i64 0, .slice none 0 0])) (fun iv _ _ => ws.length - 3 - (intOf iv).toNat)
      case atStart => exact ⟨0, _, rfl, by omega, XH, DB, DC⟩
      case round =>
        clear XH DB DC
        obtain ⟨k, vx, rfl, hk, XK, DK, EK⟩ := hrel
        obtain ⟨A9, c9, ev⟩ := own_slice' XK.out.2.2.1
        obtain ⟨n9, hn9⟩ : ∃ n, n = (((ws.drop 3).take k).map (netI d)).length := ⟨_, rfl⟩
        rw [← hn9] at ev
        clear hn9
        subst ev
        obtain rfl : k = 0 := by omega
        have hle : ¬ (((0 : Nat) : Int) < ((ws.length : Int) - 3)) := by omega
        obtain ⟨GX, BX, RX, -⟩ := XK.out
        have x0 := BX.cell 0
        have x1 := BX.cell 1
        have x2 := BX.cell 2
        have y0 : wr.cell? ⟨w.heap.size + 1 + 1, 0, none⟩ = some (.string .empty) := EK.out.cell 0
        have y1 : wr.cell? ⟨w.heap.size + 1 + 1, 1, none⟩ = some (.int .i64 0) := EK.out.cell 1
        have y2 : wr.cell? ⟨w.heap.size + 1 + 1, 2, none⟩ = some (.slice none 0 0) := EK.out.cell 2
        have fX := BX.frozen
        have lX := BX.lt
        have fY : ∀ i, wr.frozen? ⟨w.heap.size + 1 + 1, i, none⟩ = false := EK.out.frozen
        have lY : w.heap.size + 1 + 1 < wr.heap.size := EK.out.lt
        have XX := hideIt XK.out
        simp at x0 x1 x2
        have NE := hideIt (ownsRow_ne RX EK.out (by decide))
        clear GX BX RX XK DK EK
        go_wp2
        refine bodyPost_ret (by simp [*, results, Tryz.results72, go_sem]; try rfl) rfl ?_
        have RXX := XX.out.2.2.1
        have GXX := XX.out.1
        rw [List.take_of_length_le (show (ws.drop 3).length ≤ _ by simp <;> omega), List.length_map] at RXX
        refine ⟨_, by rw [F1.out, F2.out], ownsRow_same RXX (fun q hq => ?_), by (repeat with_reducible (first | exact GXX | refine Grows.setCell ?_ (by simp <;> omega) _))⟩
        have hq2 := NE.out q (by simpa using hq)
        exact (Below.heap_setCell _ _ _ _ hq2).trans ((Below.heap_setCell _ _ _ _ hq2).trans (Below.heap_setCell _ _ _ _ hq2))
    case inr h33 =>
      go_loopw [22, 9] (fun iv s9 wr => ∃ (k : Nat) (vx : Value), iv = .int .i64 (k : Int) ∧ k + 3 ≤ ws.length ∧ Hid (XIn w q1 (cellI q2 cs) (((ws.drop 3).take k).map (netI d)) AD vx wr) ∧ Hid (Blk wr w.heap.size 30 #[a, b, c]) ∧ Hid (Blk wr (w.heap.size + 2) 77 #[.string .empty, .int .i64 0, .slice none 0 0])) (fun iv _ _ => ws.length - 3 - (intOf iv).toNat)
      case atStart => exact ⟨0, _, rfl, by omega, XH, DB, DC⟩
      case round =>
        clear XH DB DC
        obtain ⟨k, vx, rfl, hk, XK, DK, EK⟩ := hrel
        obtain ⟨A9, c9, ev⟩ := own_slice' XK.out.2.2.1
        obtain ⟨n9, hn9⟩ : ∃ n, n = (((ws.drop 3).take k).map (netI d)).length := ⟨_, rfl⟩
        have HN := hideIt hn9
        rw [← hn9] at ev
        clear hn9
        subst ev
        by_cases hlt : k + 3 < ws.length
        · have hli : (k : Int) < ((ws.length - 3 : Nat) : Int) := by omega
          obtain ⟨sk, hsk⟩ : ∃ x, ws[3 + k]? = some x := ⟨_, List.getElem?_eq_getElem (by omega)⟩
          have csk := XK.out.1.keeps _ _ (HG.out _ _ hsk)
          have HSK := hideIt hsk
          clear hsk
          go_upto_region 5 with fail
          obtain ⟨XS, hxs⟩ : ∃ l, l = ((ws.drop 3).take k).map (netI d) := ⟨_, rfl⟩
          rw [← hxs] at XK HN
          have HXS := hideIt hxs
          have hN := HN.out
          subst hN
          have XL : XS.length ≤ k := by rw [hxs]; simp; omega
          clear hxs csk HN
          obtain ⟨yw, rfl⟩ : ∃ y : World, y = wr := ⟨_, rfl⟩
          have HS : Hid (∀ w', Grows yw w' → Grows w w' ∧ Blk w' AD 77 #[.string q1, .int .i64 (cellI q2 cs), .slice A9 XS.length c9] ∧ Blk w' w.heap.size 30 #[a, b, c]) := hideIt (fun w' gq => ⟨XK.out.1.trans gq, XK.out.2.1.grows gq, DK.out.grows gq⟩)
          have gg : Grows yw yw := Grows.refl _
          refine wp_region_L (k := 8) (S := (fun w' => Grows w w' ∧ Blk w' AD 77 #[.string q1, .int .i64 (cellI q2 cs), .slice A9 XS.length c9] ∧ Blk w' w.heap.size 30 #[a, b, c])) (by kernel_rfl) ?_ (fun hh0 => ?_)
          · (try dsimp only); (first | exact S4 | exact HS.out _ (by repeat with_reducible (first | exact gg | exact Grows.refl _ | refine Grows.drew ?_ | refine Grows.alloc ?_ _)))
          refine ltTk 0 hh0 ?_
          refine ltTake 1 (v := .slice A9 XS.length c9) (fun w hw => ?_) hh0 ?_
          · have k0 := hw.2.1.cell 2
            simp at k0
            go_simp
          try simp only [Act.put, List.setIfInBounds_toArray, List.set_cons_zero, List.set_cons_succ]
          refine ltTake 2 (v := .agg #[a, b, c]) (fun w hw => ?_) hh0 ?_
          · have k0 := hw.2.2.cell 0
            have k1 := hw.2.2.cell 1
            have k2 := hw.2.2.cell 2
            simp at k0 k1 k2
            go_simp
          try simp only [Act.put, List.setIfInBounds_toArray, List.set_cons_zero, List.set_cons_succ]
          refine ltTk 3 hh0 ?_
          refine ltCall 4 (fun K hK => ?_)
          go_simp
          have gq := (Grows.refl yw).drew
          refine (netNamed_any sk _ (HD.out.keep (XK.out.1.trans gq).keeps)).mono ?_
          rintro e u3 ⟨rfl, g⟩
          have gg : Grows yw u3 := gq.trans g
          clear g gq
          (try go_wp2_with fail)
          refine hK.out _ _ ?_ (fun hh1 => ?_)
          · (try dsimp only); (first | exact S4 | exact HS.out _ (by repeat with_reducible (first | exact gg | exact Grows.refl _ | refine Grows.drew ?_ | refine Grows.alloc ?_ _)))
          clear hK K hh0
          try simp only [Act.put, List.setIfInBounds_toArray, List.set_cons_zero, List.set_cons_succ]
          refine ltCall 5 (fun K hK => ?_)
          go_simp
          (try go_wp2_with fail)
          refine hK.out _ _ ?_ (fun hh2 => ?_)
          · (try dsimp only); (first | exact S4 | exact HS.out _ (by repeat with_reducible (first | exact gg | exact Grows.refl _ | refine Grows.drew ?_ | refine Grows.alloc ?_ _)))
          clear hK K hh1
          try simp only [Act.put, List.setIfInBounds_toArray, List.set_cons_zero, List.set_cons_succ]
          refine ltCall 6 (fun K hK => ?_)
          have ga : Grows yw (u3.alloc (.cells #[.int .i64 (netI d sk)] 2)) := gg.alloc _
          have hrow := ownsRow_same XK.out.2.2.1 (fun q hq => Below.block ga q (XK.out.2.2.1.lt q (by simpa using hq)).2)
          have hb9 := HS.out _ ga
          have hne := ownsRow_ne hrow hb9.2.1 (by decide)
          have hne2 := ownsRow_ne hrow hb9.2.2 (by decide)
          refine wp_append_at _ _ 64 rfl Tryz.underlying64 hiI hzI hsI (by rw [hbI]; decide) rfl (by decide) (.slice A9 XS.length c9) XS.length (XS.map (Value.int .i64)) rfl (ownsRow_up hrow (fun _ _ => Nat.zero_le _)) ⟨u3.heap.size, 0, none⟩ 1 [.int .i64 (netI d sk)] rfl rfl (cells_new _ _ _) (by intro u hu; simp at hu; subst hu; rfl) (by omega) ?_
          intro v9 w4 hr4 g4 ho4
          have S4 : Grows w w4 ∧ Blk w4 AD 77 #[.string q1, .int .i64 (cellI q2 cs), .slice A9 XS.length c9] ∧ Blk w4 w.heap.size 30 #[a, b, c] := ⟨hb9.1.grown g4 (fun q e => (hrow.lt q e).1), blk_grown hb9.2.1 g4 hne, blk_grown hb9.2.2 g4 hne2⟩
          obtain ⟨A8, c8, e8⟩ := own_slice' hr4
          subst e8
          have x2 := S4.2.1.cell 2
          have fX := S4.2.1.frozen
          have lX := S4.2.1.lt
          simp at x2
          refine hK.out _ _ ?_ (fun hh3 => ?_)
          · (try dsimp only); (first | exact S4 | exact HS.out _ (by repeat with_reducible (first | exact gg | exact Grows.refl _ | refine Grows.drew ?_ | refine Grows.alloc ?_ _)))
          clear hK K hh2
          try simp only [Act.put, List.setIfInBounds_toArray, List.set_cons_zero, List.set_cons_succ]
          refine ltTk 7 hh3 ?_
          refine ltLast (fun K hK => ?_)
          go_simp
          (try go_wp2_with fail)
          refine hK.out _ _ ?_
          clear hK K hh3
          refine wpAnyL_done (by kernel_rfl) ?_ _
          have E4 := blk_grown (EK.out.grows ga) g4 (ownsRow_ne hrow (EK.out.grows ga) (by decide))
          have EN : Hid (Blk (w4.setCell ⟨AD, 2, none⟩ (.slice A8 (XS.length + 1) c8)) (w.heap.size + 2) 77 #[.string .empty, .int .i64 0, .slice none 0 0]) := hideIt (E4.far (p := ⟨AD, 2, none⟩) (by show w.heap.size + 2 ≠ AD; omega) _)
          have DN : Hid (Blk (w4.setCell ⟨AD, 2, none⟩ (.slice A8 (XS.length + 1) c8)) w.heap.size 30 #[a, b, c]) := hideIt (S4.2.2.far (p := ⟨AD, 2, none⟩) (by show w.heap.size ≠ AD; omega) _)
          have XN : Hid (XIn w q1 (cellI q2 cs) (((ws.drop 3).take (k + 1)).map (netI d)) AD (.slice A8 (XS.length + 1) c8) (w4.setCell ⟨AD, 2, none⟩ (.slice A8 (XS.length + 1) c8))) := hideIt (by
            rw [take3 HSK.out, ← HXS.out]
            refine ⟨S4.1.setCell (by show w.heap.size ≤ AD; omega) _, by simpa using S4.2.1.set_ 2 _, ?_, by omega⟩
            have h5 := ownsRow_up (lo := w.heap.size) hr4 (fun q e => by
              rcases ho4 with h | h
              · rw [h] at e; exact (hrow.lt q e).1
              · rw [h] at e; injection e with e; subst e; exact hb9.1.size)
            have hne9 := ownsRow_ne hr4 S4.2.1 (by decide)
            rw [List.length_append, List.map_append]
            exact ownsRow_same h5 (fun q hq => Below.heap_setCell _ _ _ _ (hne9 q (by simpa using hq))))
          clear XK DK EK hr4 g4 ho4 S4 x2 fX lX hrow hb9 hne hne2 E4 HS LL
          go_wp2
          go_roundw
          case rel => exact ⟨k + 1, _, by go_num, by omega, XN, DN, EN⟩
          case measure => simp [intOf]; omega
        · have hle : ¬ (k : Int) < ((ws.length - 3 : Nat) : Int) := by omega
          obtain ⟨GX, BX, RX, -⟩ := XK.out
          have x0 := BX.cell 0
          have x1 := BX.cell 1
          have x2 := BX.cell 2
          have y0 : wr.cell? ⟨w.heap.size + 1 + 1, 0, none⟩ = some (.string .empty) := EK.out.cell 0
          have y1 : wr.cell? ⟨w.heap.size + 1 + 1, 1, none⟩ = some (.int .i64 0) := EK.out.cell 1
          have y2 : wr.cell? ⟨w.heap.size + 1 + 1, 2, none⟩ = some (.slice none 0 0) := EK.out.cell 2
          have fX := BX.frozen
          have lX := BX.lt
          have fY : ∀ i, wr.frozen? ⟨w.heap.size + 1 + 1, i, none⟩ = false := EK.out.frozen
          have lY : w.heap.size + 1 + 1 < wr.heap.size := EK.out.lt
          have XX := hideIt XK.out
          simp at x0 x1 x2
          have NE := hideIt (ownsRow_ne RX EK.out (by decide))
          clear GX BX RX XK DK EK
          go_wp2
          refine bodyPost_ret (by simp [*, results, Tryz.results72, go_sem]; try rfl) rfl ?_
          have RXX := XX.out.2.2.1
          have GXX := XX.out.1
          rw [List.take_of_length_le (show (ws.drop 3).length ≤ _ by simp <;> omega), List.length_map] at RXX
          refine ⟨_, by rw [F1.out, F2.out], ownsRow_same RXX (fun q hq => ?_), by (repeat with_reducible (first | exact GXX | refine Grows.setCell ?_ (by simp <;> omega) _))⟩
          have hq2 := NE.out q (by simpa using hq)
          exact (Below.heap_setCell _ _ _ _ hq2).trans ((Below.heap_setCell _ _ _ _ hq2).trans (Below.heap_setCell _ _ _ _ hq2))
end Go.Proofs.YtocahjbmnkadjaaGreatDoor
