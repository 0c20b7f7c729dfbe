/-
  ReadTable, the program's.
-/
import Derived.Test.YtgglgghlndhfbaaDoorIRead
namespace Go.Proofs.YtgglgghlndhfbaaDoor
open Go.RowKit
def ReadPost (s : ByteArray) (w : World) (e : Ending) (w' : World) : Prop :=
  ∃ (t : TableD) (ok : Bool) (A1 : Option Addr) (n1 : Nat) (A2 : Option Addr) (n2 : Nat) (A3 : Option Addr) (n3 : Nat) (bs : List Nat),
    e = .returned (.tuple #[.agg #[.slice A1 t.slews.length n1, .slice A2 t.loads.length n2, .slice A3 t.values.length n3], .bool ok]) ∧
    OTable w' [.slice A1 t.slews.length n1, .slice A2 t.loads.length n2, .slice A3 t.values.length n3] t bs ∧ Own w.heap.size w'.heap.size bs ∧ RT s t ok ∧ Grows w w'
theorem ReadPost.no {s : ByteArray} {w w' : World} (h : RT s ⟨[], [], []⟩ false) (g : Grows w w') : ReadPost s w (.returned (.tuple #[.agg #[.slice none 0 0, .slice none 0 0, .slice none 0 0], .bool false])) w' :=
  ⟨⟨[], [], []⟩, false, none, 0, none, 0, none, 0, [], rfl, ⟨_, _, _, [], [], [], rfl, OInts.nil, OInts.nil, OInts.nil, rfl⟩, Own.nil, h, g⟩
theorem ReadPost.yes {s : ByteArray} {w w' : World} {A1 A2 A3 : Option Addr} {c1 c2 c3 : Nat} {xs1 xs2 xs3 : List Int} {b1 b2 b3 : List Nat} {lo m1 m2 : Nat} (hl : w.heap.size ≤ lo) (l1 : lo ≤ m1) (l2 : m1 ≤ m2) (l3 : m2 ≤ w'.heap.size)
    (o1 : OInts w' (.slice A1 xs1.length c1) xs1 b1) (o2 : OInts w' (.slice A2 xs2.length c2) xs2 b2) (o3 : OInts w' (.slice A3 xs3.length c3) xs3 b3) (w1 : Own lo m1 b1) (w2 : Own m1 m2 b2) (w3 : Own m2 w'.heap.size b3)
    (h : RT s ⟨xs1, xs2, xs3⟩ true) (g : Grows w w') : ReadPost s w (.returned (.tuple #[.agg #[.slice A1 xs1.length c1, .slice A2 xs2.length c2, .slice A3 xs3.length c3], .bool true])) w' :=
  ⟨⟨xs1, xs2, xs3⟩, true, A1, c1, A2, c2, A3, c3, b1 ++ b2 ++ b3, rfl, ⟨_, _, _, b1, b2, b3, rfl, o1, o2, o3, rfl⟩, ((w1.append w2 l1 l2).append w3 (Nat.le_trans l1 l2) l3).mono hl (Nat.le_refl _), h, g⟩
theorem list3' {α : Type} {ws : List α} (h : ws.length = 3) : ∃ p q r, ws = [p, q, r] := by
  match ws, h with
  | [p, q, r], _ => exact ⟨p, q, r, rfl⟩
set_option maxHeartbeats 16000000 in
set_option maxRecDepth 10000 in
theorem iReadTable_any (s : ByteArray) (w : World) (hs : s.size ≤ 1048576) (hw : TW w) (he : TE w) : Calls Tryd.prog 13 #[.string s] w (ReadPost s w) := by
  have H := hideIt hw
  have HE := hideIt he
  obtain ⟨m, hm⟩ := he.2.2
  clear hw he
  have PE := hideIt (pieces_eq s 124)
  have PL := pieces_len s 124
  have GA : Hid (Grows w (w.alloc (.cells #[.slice none 0 0, .slice none 0 0, .slice none 0 0] 29))) := hideIt ((Grows.refl w).alloc _)
  have R := hideIt (Blk.new w 29 #[.slice none 0 0, .slice none 0 0, .slice none 0 0])
  replace hm := GA.out.keeps _ _ hm
  go_enter Tryd.func13, Tryd.ntmps13
  go_wp2_with fail
  refine (Tryd.strings_Split s ⟨#[124]⟩ m _ (by omega) hm (by decide)).mono ?_
  rintro e u1 ⟨rfl, hu⟩
  obtain ⟨ws, hws⟩ : ∃ ws, ws = Lib.splitB ⟨#[124]⟩ 0 (Lib.countB s ⟨#[124]⟩) s := ⟨_, rfl⟩
  rw [← hws] at PE PL hu
  rw [← PL]
  have g_ : Grows (w.alloc (.cells #[.slice none 0 0, .slice none 0 0, .slice none 0 0] 29)) u1 := by rw [hu]; exact (Grows.refl _).alloc _
  have BW : Hid (Blk u1 (w.heap.size + 1) 9 (ws.map Value.string).toArray) := hideIt (by
    have := Blk.new (w.alloc (.cells #[.slice none 0 0, .slice none 0 0, .slice none 0 0] 29)) 9 (ws.map Value.string).toArray
    rw [hu]
    simpa using this)
  replace GA := hideIt (GA.out.trans g_)
  replace R := hideIt (R.out.grows g_)
  have sz1 : w.heap.size + 1 < u1.heap.size := BW.out.lt
  rw [show (w.alloc (.cells #[.slice none 0 0, .slice none 0 0, .slice none 0 0] 29)).heap.size = w.heap.size + 1 by simp]
  clear hws hm hu g_
  by_cases h3 : ws.length = 3
  rotate_left
  · have PN : Hid (RT s ⟨[], [], []⟩ false) := hideIt (RT.few (by rw [← PE.out, List.length_map]; exact h3))
    have h3' : ((ws.length : Int) == 3) = false := by simp; omega
    have kR0 := R.out.cell 0
    have kR1 := R.out.cell 1
    have kR2 := R.out.cell 2
    simp at kR0 kR1 kR2
    have fR := R.out.frozen
    have lR := R.out.lt
    go_wp2
    refine bodyPost_ret (by simp [*, results, Tryd.results13, go_sem]; try rfl) rfl ?_
    exact .no PN.out (by repeat (first | exact GA.out | refine Grows.setCell ?_ (by simp) _))
  obtain ⟨p, q, r, rfl⟩ := list3' h3
  have PS : Hid (splitL 124 s.data.toList = [p.data.toList, q.data.toList, r.data.toList]) := hideIt PE.out.symm
  have zp : p.size ≤ 1048576 := Nat.le_trans (piece_size (c := 124) (by rw [PS.out]; simp)) hs
  have zq : q.size ≤ 1048576 := Nat.le_trans (piece_size (c := 124) (by rw [PS.out]; simp)) hs
  have zr : r.size ≤ 1048576 := Nat.le_trans (piece_size (c := 124) (by rw [PS.out]; simp)) hs
  clear PL h3 PE
  have kw0 : u1.cell? ⟨w.heap.size + 1, 0, none⟩ = some (.string p) := by rw [BW.out.cell]; rfl
  have kw1 : u1.cell? ⟨w.heap.size + 1, 1, none⟩ = some (.string q) := by rw [BW.out.cell]; rfl
  have kw2 : u1.cell? ⟨w.heap.size + 1, 2, none⟩ = some (.string r) := by rw [BW.out.cell]; rfl
  go_wp2_with fail
  clear kw0 kw1 kw2
  refine (readNums_any p _ zp (H.out.keep GA.out) (HE.out.keep GA.out)).mono ?_
  rintro e u2 ⟨A1, c1, xs1, b1, ok1, rfl, o1, ow1, lp1, g⟩
  replace GA := hideIt (GA.out.trans g)
  replace R := hideIt (R.out.grows g)
  replace BW := hideIt (BW.out.grows g)
  have O1 := hideIt o1
  have W1 := hideIt ow1
  have L1 := hideIt lp1
  have sz2 := g.size
  clear o1 ow1 lp1 g
  have kw0 : u2.cell? ⟨w.heap.size + 1, 0, none⟩ = some (.string p) := by rw [BW.out.cell]; rfl
  have kw1 : u2.cell? ⟨w.heap.size + 1, 1, none⟩ = some (.string q) := by rw [BW.out.cell]; rfl
  have kw2 : u2.cell? ⟨w.heap.size + 1, 2, none⟩ = some (.string r) := by rw [BW.out.cell]; rfl
  go_wp2_with fail
  clear kw0 kw1 kw2
  refine (readNums_any q _ zq (H.out.keep GA.out) (HE.out.keep GA.out)).mono ?_
  rintro e u3 ⟨A2, c2, xs2, b2, ok2, rfl, o2, ow2, lp2, g⟩
  replace GA := hideIt (GA.out.trans g)
  replace R := hideIt (R.out.grows g)
  replace BW := hideIt (BW.out.grows g)
  replace O1 := hideIt (OInts.chg (cs := []) O1.out (Chg.of_grows g) (fun _ _ h => by cases h))
  have O2 := hideIt o2
  have W2 := hideIt ow2
  have L2 := hideIt lp2
  have sz3 := g.size
  clear o2 ow2 lp2 g
  have kw0 : u3.cell? ⟨w.heap.size + 1, 0, none⟩ = some (.string p) := by rw [BW.out.cell]; rfl
  have kw1 : u3.cell? ⟨w.heap.size + 1, 1, none⟩ = some (.string q) := by rw [BW.out.cell]; rfl
  have kw2 : u3.cell? ⟨w.heap.size + 1, 2, none⟩ = some (.string r) := by rw [BW.out.cell]; rfl
  go_wp2_with fail
  clear kw0 kw1 kw2
  refine (readNums_any r _ zr (H.out.keep GA.out) (HE.out.keep GA.out)).mono ?_
  rintro e u4 ⟨A3, c3, xs3, b3, ok3, rfl, o3, ow3, lp3, g⟩
  replace GA := hideIt (GA.out.trans g)
  replace R := hideIt (R.out.grows g)
  replace O1 := hideIt (OInts.chg (cs := []) O1.out (Chg.of_grows g) (fun _ _ h => by cases h))
  replace O2 := hideIt (OInts.chg (cs := []) O2.out (Chg.of_grows g) (fun _ _ h => by cases h))
  have O3 := hideIt o3
  have W3 := hideIt ow3
  have L3 := hideIt lp3
  have sz4 := g.size
  clear o3 ow3 lp3 g BW
  have PT := hideIt (fun (u : TableD) (hu : tabB u = true) (e : s.data.toList = tableL u) => RT.parts PS.out L1.out L2.out L3.out u hu e)
  cases ok1
  · have PN : Hid (RT s ⟨[], [], []⟩ false) := hideIt (.inr ⟨rfl, rfl, fun u hu e => by have := (PT.out u hu e).1; cases this⟩)
    have kR0 := R.out.cell 0
    have kR1 := R.out.cell 1
    have kR2 := R.out.cell 2
    simp at kR0 kR1 kR2
    have fR := R.out.frozen
    have lR := R.out.lt
    go_wp2
    refine bodyPost_ret (by simp [*, results, Tryd.results13, go_sem]; try rfl) rfl ?_
    exact .no PN.out (by repeat (first | exact GA.out | refine Grows.alloc ?_ _ | refine Grows.setCell ?_ (by simp) _))
  cases ok2
  · have PN : Hid (RT s ⟨[], [], []⟩ false) := hideIt (.inr ⟨rfl, rfl, fun u hu e => by have := (PT.out u hu e).2.1; cases this⟩)
    have kR0 := R.out.cell 0
    have kR1 := R.out.cell 1
    have kR2 := R.out.cell 2
    simp at kR0 kR1 kR2
    have fR := R.out.frozen
    have lR := R.out.lt
    go_wp2
    refine bodyPost_ret (by simp [*, results, Tryd.results13, go_sem]; try rfl) rfl ?_
    exact .no PN.out (by repeat (first | exact GA.out | refine Grows.alloc ?_ _ | refine Grows.setCell ?_ (by simp) _))
  cases ok3
  · have PN : Hid (RT s ⟨[], [], []⟩ false) := hideIt (.inr ⟨rfl, rfl, fun u hu e => by have := (PT.out u hu e).2.2.1; cases this⟩)
    have kR0 := R.out.cell 0
    have kR1 := R.out.cell 1
    have kR2 := R.out.cell 2
    simp at kR0 kR1 kR2
    have fR := R.out.frozen
    have lR := R.out.lt
    go_wp2
    refine bodyPost_ret (by simp [*, results, Tryd.results13, go_sem]; try rfl) rfl ?_
    exact .no PN.out (by repeat (first | exact GA.out | refine Grows.alloc ?_ _ | refine Grows.setCell ?_ (by simp) _))
  have PY := hideIt (fun ht => RT.yes PS.out L1.out L2.out L3.out rfl rfl rfl ht)
  have gal : Grows u4 (u4.alloc (.cells #[.slice A1 xs1.length c1, .slice A2 xs2.length c2, .slice A3 xs3.length c3] 29)) := (Grows.refl _).alloc _
  have V := hideIt (Blk.new u4 29 #[.slice A1 xs1.length c1, .slice A2 xs2.length c2, .slice A3 xs3.length c3])
  have RD : Hid (RTable (u4.alloc (.cells #[.slice A1 xs1.length c1, .slice A2 xs2.length c2, .slice A3 xs3.length c3] 29)) [.slice A1 xs1.length c1, .slice A2 xs2.length c2, .slice A3 xs3.length c3] ⟨xs1, xs2, xs3⟩) := hideIt (RTable.keep ⟨_, _, _, rfl, OInts.reads O1.out, OInts.reads O2.out, OInts.reads O3.out⟩ gal.keeps)
  go_wp2_with fail
  refine (iIsTable_any _ RD.out).mono ?_
  rintro e u5 ⟨rfl, g⟩
  have g5 := gal.trans g
  replace GA := hideIt (GA.out.trans g5)
  replace R := hideIt (R.out.grows g5)
  replace V := hideIt (V.out.grows g)
  replace O1 := hideIt (OInts.chg (cs := []) O1.out (Chg.of_grows g5) (fun _ _ h => by cases h))
  replace O2 := hideIt (OInts.chg (cs := []) O2.out (Chg.of_grows g5) (fun _ _ h => by cases h))
  replace O3 := hideIt (OInts.chg (cs := []) O3.out (Chg.of_grows g5) (fun _ _ h => by cases h))
  have sz5 := g5.size
  clear gal g g5 RD
  have kV0 : u5.cell? ⟨u4.heap.size, 0, none⟩ = some (.slice A1 xs1.length c1) := V.out.cell 0
  have kV1 : u5.cell? ⟨u4.heap.size, 1, none⟩ = some (.slice A2 xs2.length c2) := V.out.cell 1
  have kV2 : u5.cell? ⟨u4.heap.size, 2, none⟩ = some (.slice A3 xs3.length c3) := V.out.cell 2
  have fV := V.out.frozen
  have lV := V.out.lt
  cases ht : tabB ⟨xs1, xs2, xs3⟩
  · have PN : Hid (RT s ⟨[], [], []⟩ false) := hideIt (.inr ⟨rfl, rfl, fun u hu e => by
      have h1 := (PT.out u hu e).2.2.2
      rw [h1, ht] at hu
      cases hu⟩)
    have kR0 := R.out.cell 0
    have kR1 := R.out.cell 1
    have kR2 := R.out.cell 2
    simp at kR0 kR1 kR2
    have fR := R.out.frozen
    have lR := R.out.lt
    go_wp2
    refine bodyPost_ret (by simp [*, results, Tryd.results13, go_sem]; try rfl) rfl ?_
    exact .no PN.out (by repeat (first | exact GA.out | refine Grows.alloc ?_ _ | refine Grows.setCell ?_ (by simp) _))
  · have PZ := hideIt (PY.out ht)
    have kR0 := R.out.cell 0
    have kR1 := R.out.cell 1
    have kR2 := R.out.cell 2
    simp at kR0 kR1 kR2
    have fR := R.out.frozen
    have lR := R.out.lt
    go_wp2
    refine bodyPost_ret (by simp [*, results, Tryd.results13, go_sem]; try rfl) rfl ?_
    have key : ∀ w9, Chg [w.heap.size] u5 w9 → Grows w w9 → ReadPost s w (.returned (.tuple #[.agg #[.slice A1 xs1.length c1, .slice A2 xs2.length c2, .slice A3 xs3.length c3], .bool true])) w9 := fun w9 c9 g9 =>
      ReadPost.yes (lo := u1.heap.size) (m1 := u2.heap.size) (m2 := u3.heap.size) (by omega) sz2 sz3 (by have := c9.size; omega)
        (OInts.chg O1.out c9 (fun q hq => by have := W1.out.2 q hq; simp; omega)) (OInts.chg O2.out c9 (fun q hq => by have := W2.out.2 q hq; simp; omega)) (OInts.chg O3.out c9 (fun q hq => by have := W3.out.2 q hq; simp; omega))
        W1.out W2.out (W3.out.mono (Nat.le_refl _) (by have := c9.size; omega)) PZ.out g9
    refine key _ ?_ ?_
    · repeat (first | exact Chg.refl _ _ | refine Chg.drew ?_ | refine Chg.setCell ?_ (by simp) _)
    · repeat (first | exact GA.out | refine Grows.drew ?_ | refine Grows.setCell ?_ (by simp) _)
end Go.Proofs.YtgglgghlndhfbaaDoor
