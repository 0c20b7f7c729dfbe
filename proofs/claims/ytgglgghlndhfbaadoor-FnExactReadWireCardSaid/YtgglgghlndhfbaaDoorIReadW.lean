/-
  A wire read from a text, the program's.
-/
import Derived.Test.YtgglgghlndhfbaaDoorWireM
import Derived.Test.YtgglgghlndhfbaaDoorIReadT
namespace Go.Proofs.YtgglgghlndhfbaaDoor
open Go.RowKit
/-- a list that was read: where it lies -/
structure RowD where
  A : Option Addr
  c : Nat
  xs : List Int
  bs : List Nat
def RowD.v (r : RowD) : Value := .slice r.A r.xs.length r.c
def rowsV (rs : List RowD) : Array Value := (rs.map RowD.v ++ List.replicate (4 - rs.length) (Value.slice none 0 0)).toArray
theorem rowsV_snoc {rs : List RowD} (r : RowD) (h : rs.length < 4) : rowsV (rs ++ [r]) = (rowsV rs).setIfInBounds rs.length r.v := by
  match rs, h with
  | [], _ => rfl
  | [a], _ => rfl
  | [a, b], _ => rfl
  | [a, b, c], _ => rfl
theorem rowsV_at {rs : List RowD} (h : rs.length < 4) : (rowsV rs)[rs.length]? = some (.slice none 0 0) := by
  match rs, h with
  | [], _ => rfl
  | [a], _ => rfl
  | [a, b], _ => rfl
  | [a, b, c], _ => rfl
/-- what is known of the lists read so far -/
def RowsOk (w : World) (ps : List ByteArray) (rs : List RowD) : Prop := ∀ (k : Nat) (r : RowD), rs[k]? = some r → OInts w r.v r.xs r.bs ∧ ∃ p, ps[k]? = some p ∧ ListW p.data.toList r.xs true
theorem RowsOk.chg {w w' : World} {ps : List ByteArray} {rs : List RowD} {cs : List Nat} (h : RowsOk w ps rs) (c : Chg cs w w') (hd : ∀ g ∈ rs.flatMap RowD.bs, g ∉ cs) : RowsOk w' ps rs := fun k r hk => by
  obtain ⟨h1, h2⟩ := h k r hk
  exact ⟨OInts.chg h1 c (fun g hg => hd g (List.mem_flatMap.2 ⟨r, List.mem_of_getElem? hk, hg⟩)), h2⟩
theorem RowsOk.snoc {w : World} {ps : List ByteArray} {rs : List RowD} (h : RowsOk w ps rs) {r : RowD} {p : ByteArray} (ho : OInts w r.v r.xs r.bs) (hp : ps[rs.length]? = some p) (hl : ListW p.data.toList r.xs true) : RowsOk w ps (rs ++ [r]) := fun k q hk => by
  by_cases h1 : k < rs.length
  · rw [List.getElem?_append_left h1] at hk
    exact h k q hk
  · rw [List.getElem?_append_right (by omega)] at hk
    have e : k - rs.length = 0 := by
      rcases Nat.eq_zero_or_pos (k - rs.length) with e | e
      · exact e
      · rw [List.getElem?_eq_none (by simp; omega)] at hk
        cases hk
    rw [e] at hk
    simp at hk
    subst hk
    have : k = rs.length := by omega
    subst this
    exact ⟨ho, p, hp, hl⟩
theorem list4i {α : Type} {ws : List α} (h : ws.length = 4) : ∃ p q r t, ws = [p, q, r, t] := by
  match ws, h with
  | [p, q, r, t], _ => exact ⟨p, q, r, t, rfl⟩
set_option maxHeartbeats 16000000 in
set_option maxRecDepth 10000 in
theorem iReadWire_any (s : ByteArray) (k : Int) (w : World) (hs : s.size ≤ 1048576) (hw : TW w) (he : TE w) : Calls Tryd.prog 21 #[.string s, .int .i64 k] w (ReadWPost s k w) := by
  have H := hideIt hw
  have HE := hideIt he
  obtain ⟨m, hm⟩ := he.2.2
  clear hw he
  have PE := hideIt (pieces_eq s 124)
  have PL := pieces_len s 124
  have GA : Hid (Grows w (w.alloc (.cells #[.slice none 0 0, .slice none 0 0, .slice none 0 0, .slice none 0 0] 39))) := hideIt ((Grows.refl w).alloc _)
  have R := hideIt (Blk.new w 39 #[.slice none 0 0, .slice none 0 0, .slice none 0 0, .slice none 0 0])
  replace hm := GA.out.keeps _ _ hm
  go_enter Tryd.func21, Tryd.ntmps21
  go_wp2_with fail
  refine (Tryd.strings_Split s ⟨#[124]⟩ m _ (by omega) hm (by decide)).mono ?_
  rintro e u1 ⟨rfl, hu⟩
  obtain ⟨ws, hws⟩ : ∃ ws, ws = Lib.splitB ⟨#[124]⟩ 0 (Lib.countB s ⟨#[124]⟩) s := ⟨_, rfl⟩
  rw [← hws] at PE PL hu
  rw [← PL]
  have g_ : Grows (w.alloc (.cells #[.slice none 0 0, .slice none 0 0, .slice none 0 0, .slice none 0 0] 39)) u1 := by rw [hu]; exact (Grows.refl _).alloc _
  have BW : Hid (Blk u1 (w.heap.size + 1) 9 (ws.map Value.string).toArray) := hideIt (by
    have := Blk.new (w.alloc (.cells #[.slice none 0 0, .slice none 0 0, .slice none 0 0, .slice none 0 0] 39)) 9 (ws.map Value.string).toArray
    rw [hu]
    simpa using this)
  replace GA := hideIt (GA.out.trans g_)
  replace R := hideIt (R.out.grows g_)
  have sz1 : w.heap.size + 1 < u1.heap.size := BW.out.lt
  rw [show (w.alloc (.cells #[.slice none 0 0, .slice none 0 0, .slice none 0 0, .slice none 0 0] 39)).heap.size = w.heap.size + 1 by simp]
  clear hws hm hu g_
  by_cases h3 : ws.length = 4
  rotate_left
  · have PN : Hid (RW s k ⟨[], [], [], []⟩ false) := hideIt (RW.few (by rw [← PE.out, List.length_map]; exact h3))
    have h3' : ((ws.length : Int) == 4) = false := by simp; omega
    have kR0 := R.out.cell 0
    have kR1 := R.out.cell 1
    have kR2 := R.out.cell 2
    have kR3 := R.out.cell 3
    simp at kR0 kR1 kR2 kR3
    have fR := R.out.frozen
    have lR := R.out.lt
    go_wp2
    refine bodyPost_ret (by simp [*, results, Tryd.results21, go_sem]; try rfl) rfl ?_
    exact .no PN.out (by repeat (first | exact GA.out | refine Grows.setCell ?_ (by simp) _))
  obtain ⟨p, q, r, t, rfl⟩ := list4i h3
  have PS : Hid (splitL 124 s.data.toList = [p.data.toList, q.data.toList, r.data.toList, t.data.toList]) := hideIt PE.out.symm
  clear PL h3
  have L0 := hideIt (Blk.new u1 66 #[.slice none 0 0, .slice none 0 0, .slice none 0 0, .slice none 0 0])
  have g0 : Grows u1 (u1.alloc (.cells #[.slice none 0 0, .slice none 0 0, .slice none 0 0, .slice none 0 0] 66)) := (Grows.refl _).alloc _
  have G0 := hideIt g0
  have sz2 : u1.heap.size < (u1.alloc (.cells #[.slice none 0 0, .slice none 0 0, .slice none 0 0, .slice none 0 0] 66)).heap.size := L0.out.lt
  clear g0
  go_wp2
  go_loopw [5, 8, 9, 10, 11, 21] (fun _ _ _ _ _ i wr => ∃ (rs : List RowD) (j : Nat), j ≤ 4 ∧ i = .int .i64 (j : Int) ∧ Hid (rs.length = j) ∧ Hid (Blk wr u1.heap.size 66 (rowsV rs)) ∧ Hid (RowsOk wr [p, q, r, t] rs) ∧ Hid (Own (u1.heap.size + 1) wr.heap.size (rs.flatMap RowD.bs)) ∧ Hid (Grows u1 wr)) (fun _ _ _ _ _ i _ => 4 - (intOf i).toNat)
  case atStart => exact ⟨([] : List RowD), 0, Nat.zero_le _, rfl, hideIt rfl, L0, hideIt (fun k r h => by simp at h), hideIt Own.nil, G0⟩
  case round =>
    clear L0 G0 sz2
    obtain ⟨rs, j, hj, rfl, LJ, LB, OK, OW, GW⟩ := hrel
    by_cases hlt : j < 4
    · have hj4 := hlt
      obtain ⟨x, hx⟩ : ∃ x, [p, q, r, t][j]? = some x := ⟨_, List.getElem?_eq_getElem (by simpa using hlt)⟩
      have kx : wr.cell? ⟨w.heap.size + 1, j, none⟩ = some (.string x) := (BW.out.grows GW.out).cell j |>.trans (by rw [List.getElem?_toArray, List.getElem?_map, hx]; rfl)
      have xsz : x.size ≤ 1048576 := Nat.le_trans (piece_size (c := 124) (by rw [← PE.out]; exact List.mem_map_of_mem (List.mem_of_getElem? hx))) hs
      have HX := hideIt hx
      have gw := GA.out.trans GW.out
      have HJ : Hid ((splitL 124 s.data.toList)[j]? = some x.data.toList) := hideIt (by rw [← PE.out, List.getElem?_map, hx]; rfl)
      clear hx
      go_wp2_with fail
      refine (readNums_any x _ xsz (H.out.keep gw) (HE.out.keep gw)).mono ?_
      rintro e u3 ⟨A3, c3, xs3, b3, ok3, rfl, o3, ow3, lp3, g⟩
      clear kx
      have G3 := hideIt (GW.out.trans g)
      have LB3 := hideIt (LB.out.grows g)
      have OK3 := hideIt (OK.out.chg (cs := []) (Chg.of_grows g) (fun _ _ h => by cases h))
      have OW3 := hideIt (OW.out.append ow3 (Nat.le_trans (by have := LB.out.lt; omega) (Nat.le_refl _)) g.size)
      have OWN := hideIt (OW.out.mono (Nat.le_refl _) g.size)
      have O3 := hideIt o3
      have LP := hideIt lp3
      have R3 := hideIt (R.out.grows G3.out)
      have kL : u3.cell? ⟨u1.heap.size, j, none⟩ = some (.slice none 0 0) := by rw [LB3.out.cell]; have h := LJ.out; subst h; exact rowsV_at hj4
      have fL := LB3.out.frozen
      have lL := LB3.out.lt
      clear o3 ow3 lp3 g gw LB OK OW
      cases hem : x.toList.isEmpty
      · have NE : Hid (x.data.toList ≠ []) := hideIt (fun e => by
          rw [ByteArray.toList_eq, e] at hem
          cases hem)
        cases ok3
        · have PN : Hid (RW s k ⟨[], [], [], []⟩ false) := hideIt (RW.bad HJ.out (ListW.of LP.out NE.out))
          have kR0 := R3.out.cell 0
          have kR1 := R3.out.cell 1
          have kR2 := R3.out.cell 2
          have kR3 := R3.out.cell 3
          simp at kR0 kR1 kR2 kR3
          have fR := R3.out.frozen
          have lR := R3.out.lt
          go_wp2
          refine bodyPost_ret (by simp [*, results, Tryd.results21, go_sem]; try rfl) rfl ?_
          exact .no PN.out (by repeat (first | exact GA.out.trans G3.out | refine Grows.setCell ?_ (by simp) _))
        · have ch : Chg [u1.heap.size] u3 (u3.setCell ⟨u1.heap.size, j, none⟩ (.slice A3 xs3.length c3)) := (Chg.refl _ _).setCell (by simp) _
          have LB5 : Hid (Blk (u3.setCell ⟨u1.heap.size, j, none⟩ (.slice A3 xs3.length c3)) u1.heap.size 66 (rowsV (rs ++ [(⟨A3, c3, xs3, b3⟩ : RowD)]))) := hideIt (by
            rw [rowsV_snoc _ (by have := LJ.out; omega), LJ.out]
            exact LB3.out.set_ j _)
          have nin : ∀ g ∈ rs.flatMap RowD.bs ++ b3, g ∉ [u1.heap.size] := fun g hg hm => by
            have := OW3.out.2 g hg
            simp at hm
            omega
          have OK5 : Hid (RowsOk (u3.setCell ⟨u1.heap.size, j, none⟩ (.slice A3 xs3.length c3)) [p, q, r, t] (rs ++ [(⟨A3, c3, xs3, b3⟩ : RowD)])) := hideIt (RowsOk.snoc (OK3.out.chg ch (fun g hg => nin g (List.mem_append_left _ hg))) (OInts.chg O3.out ch (fun g hg => nin g (List.mem_append_right _ hg))) (by rw [LJ.out]; exact HX.out) (ListW.of LP.out NE.out))
          have OW5 : Hid (Own (u1.heap.size + 1) (u3.setCell ⟨u1.heap.size, j, none⟩ (.slice A3 xs3.length c3)).heap.size ((rs ++ [(⟨A3, c3, xs3, b3⟩ : RowD)]).flatMap RowD.bs)) := hideIt (by
            have h := OW3.out
            rw [List.flatMap_append]
            simpa using h)
          have G5 : Hid (Grows u1 (u3.setCell ⟨u1.heap.size, j, none⟩ (.slice A3 xs3.length c3))) := hideIt (Grows.chg G3.out ch (fun q hq => by simp at hq; omega))
          have LJ5 : Hid ((rs ++ [(⟨A3, c3, xs3, b3⟩ : RowD)]).length = j + 1) := hideIt (by rw [List.length_append, LJ.out]; rfl)
          clear ch nin LB3 OK3 OW3 OWN O3 LP R3 G3 LJ
          go_wp2
          go_roundw
          case rel => exact ⟨rs ++ [(⟨A3, c3, xs3, b3⟩ : RowD)], j + 1, by omega, by go_num, LJ5, LB5, OK5, OW5, G5⟩
          case measure => first | (simp [intOf]; done) | (simp [intOf]; omega)
      · have EM : Hid (x.data.toList = []) := hideIt (by
          rw [ByteArray.toList_eq] at hem
          simpa using hem)
        have ch : Chg [u1.heap.size] u3 (u3.setCell ⟨u1.heap.size, j, none⟩ (.slice none 0 0)) := (Chg.refl _ _).setCell (by simp) _
        have LB5 : Hid (Blk (u3.setCell ⟨u1.heap.size, j, none⟩ (.slice none 0 0)) u1.heap.size 66 (rowsV (rs ++ [(⟨none, 0, [], []⟩ : RowD)]))) := hideIt (by
          rw [rowsV_snoc _ (by have := LJ.out; omega), LJ.out]
          exact LB3.out.set_ j _)
        have nin : ∀ g ∈ rs.flatMap RowD.bs, g ∉ [u1.heap.size] := fun g hg hm => by
          have := OWN.out.2 g hg
          simp at hm
          omega
        have OK5 : Hid (RowsOk (u3.setCell ⟨u1.heap.size, j, none⟩ (.slice none 0 0)) [p, q, r, t] (rs ++ [(⟨none, 0, [], []⟩ : RowD)])) := hideIt (RowsOk.snoc (OK3.out.chg ch nin) OInts.nil (by rw [LJ.out]; exact HX.out) (by rw [EM.out]; exact ListW.nil))
        have OW5 : Hid (Own (u1.heap.size + 1) (u3.setCell ⟨u1.heap.size, j, none⟩ (.slice none 0 0)).heap.size ((rs ++ [(⟨none, 0, [], []⟩ : RowD)]).flatMap RowD.bs)) := hideIt (by
          have h := OWN.out
          rw [List.flatMap_append]
          simpa using h)
        have G5 : Hid (Grows u1 (u3.setCell ⟨u1.heap.size, j, none⟩ (.slice none 0 0))) := hideIt (Grows.chg G3.out ch (fun q hq => by simp at hq; omega))
        have LJ5 : Hid ((rs ++ [(⟨none, 0, [], []⟩ : RowD)]).length = j + 1) := hideIt (by rw [List.length_append, LJ.out]; rfl)
        clear ch nin LB3 OK3 OW3 OWN O3 LP R3 G3 LJ
        cases ok3 <;> go_wp2
        all_goals go_roundw
        case rel => exact ⟨rs ++ [(⟨none, 0, [], []⟩ : RowD)], j + 1, by omega, by go_num, LJ5, LB5, OK5, OW5, G5⟩
        case rel => exact ⟨rs ++ [(⟨none, 0, [], []⟩ : RowD)], j + 1, by omega, by go_num, LJ5, LB5, OK5, OW5, G5⟩
        all_goals first | (simp [intOf]; done) | (simp [intOf]; omega)
    · have hj4 : j = 4 := by omega
      have hr4 : rs.length = 4 := LJ.out.trans hj4
      obtain ⟨⟨A1, c1, xs1, b1⟩, ⟨A2, c2, xs2, b2⟩, ⟨A3, c3, xs3, b3⟩, ⟨A4, c4, xs4, b4⟩, rfl⟩ := list4i hr4
      have O1 := hideIt (OK.out 0 _ rfl).1
      have O2 := hideIt (OK.out 1 _ rfl).1
      have O3 := hideIt (OK.out 2 _ rfl).1
      have O4 := hideIt (OK.out 3 _ rfl).1
      have L1 : Hid (ListW p.data.toList xs1 true) := hideIt (by
        obtain ⟨p', e, h⟩ := (OK.out 0 _ rfl).2
        cases e
        exact h)
      have L2 : Hid (ListW q.data.toList xs2 true) := hideIt (by
        obtain ⟨p', e, h⟩ := (OK.out 1 _ rfl).2
        cases e
        exact h)
      have L3 : Hid (ListW r.data.toList xs3 true) := hideIt (by
        obtain ⟨p', e, h⟩ := (OK.out 2 _ rfl).2
        cases e
        exact h)
      have L4 : Hid (ListW t.data.toList xs4 true) := hideIt (by
        obtain ⟨p', e, h⟩ := (OK.out 3 _ rfl).2
        cases e
        exact h)
      have W : Hid (Own (u1.heap.size + 1) wr.heap.size (b1 ++ b2 ++ b3 ++ b4)) := hideIt (by
        have h := OW.out
        simpa [List.flatMap] using h)
      have kL0 : wr.cell? ⟨u1.heap.size, 0, none⟩ = some (.slice A1 xs1.length c1) := LB.out.cell 0
      have kL1 : wr.cell? ⟨u1.heap.size, 1, none⟩ = some (.slice A2 xs2.length c2) := LB.out.cell 1
      have kL2 : wr.cell? ⟨u1.heap.size, 2, none⟩ = some (.slice A3 xs3.length c3) := LB.out.cell 2
      have kL3 : wr.cell? ⟨u1.heap.size, 3, none⟩ = some (.slice A4 xs4.length c4) := LB.out.cell 3
      have fL := LB.out.frozen
      have lL := LB.out.lt
      have R4 := hideIt (R.out.grows GW.out)
      have GR := hideIt (GA.out.trans GW.out)
      clear hr4 hj4 OK OW LJ
      have gal : Grows wr (wr.alloc (.cells #[.slice A1 xs1.length c1, .slice A2 xs2.length c2, .slice A3 xs3.length c3, .slice A4 xs4.length c4] 39)) := (Grows.refl _).alloc _
      have V := hideIt (Blk.new wr 39 #[.slice A1 xs1.length c1, .slice A2 xs2.length c2, .slice A3 xs3.length c3, .slice A4 xs4.length c4])
      have RD : Hid (RWire (wr.alloc (.cells #[.slice A1 xs1.length c1, .slice A2 xs2.length c2, .slice A3 xs3.length c3, .slice A4 xs4.length c4] 39)) [.slice A1 xs1.length c1, .slice A2 xs2.length c2, .slice A3 xs3.length c3, .slice A4 xs4.length c4] ⟨xs1, xs2, xs3, xs4⟩) := hideIt (RWire.keep ⟨_, _, _, _, rfl, OInts.reads O1.out, OInts.reads O2.out, OInts.reads O3.out, OInts.reads O4.out⟩ gal.keeps)
      have GAL := hideIt gal
      clear gal
      go_wp2_with fail
      clear kL0 kL1 kL2 kL3 fL lL
      refine (iIsWire_any _ RD.out).mono ?_
      rintro e u5 ⟨rfl, g⟩
      have g5 := GAL.out.trans g
      have GF := hideIt (GR.out.trans g5)
      have R5 := hideIt (R4.out.grows g5)
      replace V := hideIt (V.out.grows g)
      replace O1 := hideIt (OInts.chg (cs := []) O1.out (Chg.of_grows g5) (fun _ _ h => by cases h))
      replace O2 := hideIt (OInts.chg (cs := []) O2.out (Chg.of_grows g5) (fun _ _ h => by cases h))
      replace O3 := hideIt (OInts.chg (cs := []) O3.out (Chg.of_grows g5) (fun _ _ h => by cases h))
      replace O4 := hideIt (OInts.chg (cs := []) O4.out (Chg.of_grows g5) (fun _ _ h => by cases h))
      have sz5 := g5.size
      clear g g5 RD GAL GR R4
      have kV0 : u5.cell? ⟨wr.heap.size, 0, none⟩ = some (.slice A1 xs1.length c1) := V.out.cell 0
      have kV1 : u5.cell? ⟨wr.heap.size, 1, none⟩ = some (.slice A2 xs2.length c2) := V.out.cell 1
      have kV2 : u5.cell? ⟨wr.heap.size, 2, none⟩ = some (.slice A3 xs3.length c3) := V.out.cell 2
      have kV3 : u5.cell? ⟨wr.heap.size, 3, none⟩ = some (.slice A4 xs4.length c4) := V.out.cell 3
      have fV := V.out.frozen
      have lV := V.out.lt
      have kR0 := R5.out.cell 0
      have kR1 := R5.out.cell 1
      have kR2 := R5.out.cell 2
      have kR3 := R5.out.cell 3
      simp at kR0 kR1 kR2 kR3
      have fR := R5.out.frozen
      have lR := R5.out.lt
      cases ht : wireB ⟨xs1, xs2, xs3, xs4⟩ k
      · have PN : Hid (RW s k ⟨[], [], [], []⟩ false) := hideIt (RW.not PS.out L1.out L2.out L3.out L4.out ht)
        clear ht
        go_wp2
        refine bodyPost_ret (by simp [*, results, Tryd.results21, go_sem]; try rfl) rfl ?_
        exact .no PN.out (by repeat (first | exact GF.out | refine Grows.alloc ?_ _ | refine Grows.setCell ?_ (by simp) _))
      · have PZ := hideIt (RW.yes PS.out L1.out L2.out L3.out L4.out ht)
        clear ht
        go_wp2
        refine bodyPost_ret (by simp [*, results, Tryd.results21, go_sem]; try rfl) rfl ?_
        have key : ∀ w9, Chg [w.heap.size] u5 w9 → Grows w w9 → ReadWPost s k w (.returned (.tuple #[.agg #[.slice A1 xs1.length c1, .slice A2 xs2.length c2, .slice A3 xs3.length c3, .slice A4 xs4.length c4], .bool true])) w9 := fun w9 c9 g9 => by
          have hW := W.out
          have q1 : ∀ q ∈ b1, q ∉ [w.heap.size] := fun q hq hm => by have := hW.2 q (by simp [hq]); simp at hm; omega
          have q2 : ∀ q ∈ b2, q ∉ [w.heap.size] := fun q hq hm => by have := hW.2 q (by simp [hq]); simp at hm; omega
          have q3 : ∀ q ∈ b3, q ∉ [w.heap.size] := fun q hq hm => by have := hW.2 q (by simp [hq]); simp at hm; omega
          have q4 : ∀ q ∈ b4, q ∉ [w.heap.size] := fun q hq hm => by have := hW.2 q (by simp [hq]); simp at hm; omega
          exact ⟨⟨xs1, xs2, xs3, xs4⟩, true, A1, c1, A2, c2, A3, c3, A4, c4, _, rfl, ⟨_, _, _, _, b1, b2, b3, b4, rfl, OInts.chg O1.out c9 q1, OInts.chg O2.out c9 q2, OInts.chg O3.out c9 q3, OInts.chg O4.out c9 q4, rfl⟩, hW.mono (by omega) (by have := c9.size; omega), PZ.out, g9⟩
        refine key _ ?_ ?_
        · repeat (first | exact Chg.refl _ _ | refine Chg.drew ?_ | refine Chg.setCell ?_ (by simp) _)
        · repeat (first | exact GF.out | refine Grows.drew ?_ | refine Grows.setCell ?_ (by simp) _)
end Go.Proofs.YtgglgghlndhfbaaDoor
