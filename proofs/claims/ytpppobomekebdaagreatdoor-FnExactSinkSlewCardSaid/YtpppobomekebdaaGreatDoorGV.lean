/-
  The reference's functions over places.
-/
import Derived.Test.YtpppobomekebdaaGreatDoorGR
import Derived.Test.YtpppobomekebdaaGreatDoorSPlaces
import Derived.Test.YtpppobomekebdaaGreatDoorIPlaces
import Derived.Test.YtpppobomekebdaaGreatDoorGP
import Derived.Test.YtpppobomekebdaaGreatDoorGQ
import Derived.Test.YtpppobomekebdaaGreatDoorIDes
import Derived.Test.YtpppobomekebdaaGreatDoorSDes
import Derived.Test.YtpppobomekebdaaGreatDoorGM
namespace Go.Proofs.YtpppobomekebdaaGreatDoor
open Go.RowKit









set_option maxHeartbeats 8000000 in
set_option maxRecDepth 10000 in
theorem sCap_any {vl : Value} {cs : List CellD} {a b c : Value} {d : DesignD} (p : PlaceD) (w : World) (hl : RCells w vl cs) (hd : RDesign w [a, b, c] d) (hok : PlaceOk cs d p) :
    Calls Tryz.prog 104 #[.agg #[vl], .agg #[a, b, c], plV p] w fun e w' => e = .returned (.int .i64 (capOf cs d p)) ∧ Grows w w' := by
  have cl := RList.len hl
  obtain ⟨C, nc, rfl⟩ : ∃ (D : Option Addr) (q : Nat), vl = .slice D cs.length q := by obtain ⟨D, q, e, -⟩ := RList.form hl; exact ⟨D, q, e⟩
  have il := RList.len hd.parts.1
  have nl := RList.len hd.parts.2.1
  have ol := RList.len hd.parts.2.2
  obtain ⟨I, N, O, ni, nn, no, rfl, rfl, rfl⟩ := des_open hd
  unfold plV
  rcases hok.at_ with ⟨i, k, x, c, q, hi, hk, hx, hc0, hc, hq⟩ | ⟨hi, k, o, hk, ho⟩
  · have PA := hideIt (capOf_pin (by omega) (pinAt_of hi hk hx hc hq))
    obtain ⟨n, e⟩ : ∃ n : Nat, x.cell = (n : Int) := ⟨x.cell.toNat, by omega⟩
    rw [hi, hk]
    have g : Grows w w := Grows.refl w
    have G : Hid (Grows w (((w.alloc (.cells #[.slice C cs.length nc] 37)).alloc (.cells #[.slice I d.insts.length ni, .slice N d.nets.length nn, .slice O d.ports.length no] 41)).alloc (.cells #[.int .i64 (i : Int), .int .i64 (k : Int), .int .i64 p.net, .bool p.drives] 130))) := hideIt ((((Grows.refl w).alloc _).alloc _).alloc _)
    clear g
    have SL : Hid (Blk (((w.alloc (.cells #[.slice C cs.length nc] 37)).alloc (.cells #[.slice I d.insts.length ni, .slice N d.nets.length nn, .slice O d.ports.length no] 41)).alloc (.cells #[.int .i64 (i : Int), .int .i64 (k : Int), .int .i64 p.net, .bool p.drives] 130)) (w.heap.size) 37 #[.slice C cs.length nc]) := by
      have := (Blk.new w 37 #[.slice C cs.length nc]).grows (((Grows.refl (w.alloc (.cells #[.slice C cs.length nc] 37))).alloc (.cells #[.slice I d.insts.length ni, .slice N d.nets.length nn, .slice O d.ports.length no] 41)).alloc (.cells #[.int .i64 (i : Int), .int .i64 (k : Int), .int .i64 p.net, .bool p.drives] 130))
      exact hideIt (by simpa using this)
    have SD : Hid (Blk (((w.alloc (.cells #[.slice C cs.length nc] 37)).alloc (.cells #[.slice I d.insts.length ni, .slice N d.nets.length nn, .slice O d.ports.length no] 41)).alloc (.cells #[.int .i64 (i : Int), .int .i64 (k : Int), .int .i64 p.net, .bool p.drives] 130)) (w.heap.size + 1) 41 #[.slice I d.insts.length ni, .slice N d.nets.length nn, .slice O d.ports.length no]) := by
      have := (Blk.new (w.alloc (.cells #[.slice C cs.length nc] 37)) 41 #[.slice I d.insts.length ni, .slice N d.nets.length nn, .slice O d.ports.length no]).grows ((Grows.refl ((w.alloc (.cells #[.slice C cs.length nc] 37)).alloc (.cells #[.slice I d.insts.length ni, .slice N d.nets.length nn, .slice O d.ports.length no] 41))).alloc (.cells #[.int .i64 (i : Int), .int .i64 (k : Int), .int .i64 p.net, .bool p.drives] 130))
      exact hideIt (by simpa using this)
    have PB : Hid (Blk (((w.alloc (.cells #[.slice C cs.length nc] 37)).alloc (.cells #[.slice I d.insts.length ni, .slice N d.nets.length nn, .slice O d.ports.length no] 41)).alloc (.cells #[.int .i64 (i : Int), .int .i64 (k : Int), .int .i64 p.net, .bool p.drives] 130)) (w.heap.size + 1 + 1) 130 #[.int .i64 (i : Int), .int .i64 (k : Int), .int .i64 p.net, .bool p.drives]) := by
      have := (Blk.new ((w.alloc (.cells #[.slice C cs.length nc] 37)).alloc (.cells #[.slice I d.insts.length ni, .slice N d.nets.length nn, .slice O d.ports.length no] 41)) 130 #[.int .i64 (i : Int), .int .i64 (k : Int), .int .i64 p.net, .bool p.drives]).grows (Grows.refl (((w.alloc (.cells #[.slice C cs.length nc] 37)).alloc (.cells #[.slice I d.insts.length ni, .slice N d.nets.length nn, .slice O d.ports.length no] 41)).alloc (.cells #[.int .i64 (i : Int), .int .i64 (k : Int), .int .i64 p.net, .bool p.drives] 130)))
      exact hideIt (by simpa using this)
    replace hl := hideIt (hl.keep G.out.keeps)
    replace hd := hideIt (hd.keep G.out.keeps)
    have hx1 : i < d.insts.length := (List.getElem?_eq_some_iff.1 hx).1
    have hc1 : n < cs.length := by have := (List.getElem?_eq_some_iff.1 hc).1; omega
    have hq1 : k < c.pins.length := (List.getElem?_eq_some_iff.1 hq).1
    rw [e, Int.toNat_natCast] at hc
    obtain ⟨bi, oi, XN, xn, rfl, -, p1, -, hxn, -⟩ := inst_at hd.out.parts.1 hx
    obtain ⟨bc, oc, PP, pn, rfl, cp, rq⟩ := pins_at hl.out hc
    obtain ⟨bp, op, rfl, -, -, q2, -⟩ := pin_at rq hq
    have ql := RList.len rq
    rw [e] at p1
    have l0 := hx1
    have l1 : (i : Int) < (d.insts.length : Int) := by omega
    have l2 : (n : Int) < (cs.length : Int) := by omega
    have l3 : (k : Int) < (c.pins.length : Int) := by omega
    have l4 : (0 : Int) ≤ (i : Int) := by omega
    have l5 : (0 : Int) ≤ (n : Int) := by omega
    have l6 : (0 : Int) ≤ (k : Int) := by omega
    have tn : decide ((i : Int) < 0) = false := by simp
    clear hi hk hx hc hq hxn rq e hc0
    have kSL_0 := SL.out.cell 0
    have lSL := SL.out.lt
    have kSD_0 := SD.out.cell 0
    have kSD_1 := SD.out.cell 1
    have kSD_2 := SD.out.cell 2
    have lSD := SD.out.lt
    have kPB_0 := PB.out.cell 0
    have kPB_1 := PB.out.cell 1
    have kPB_2 := PB.out.cell 2
    have kPB_3 := PB.out.cell 3
    have lPB := PB.out.lt
    go_enter Tryz.func104, Tryz.ntmps104
    go_wp2
    try (go_quiet (fail); go_wp2)
    go_ret
    exact ⟨ret_int PA.out.symm, by repeat (first | exact G.out | exact G.out.drewN _ | refine Grows.drew ?_)⟩
  · have PA := hideIt (capOf_port (l := cs) (d := d) (p := p) (by omega))
    rw [hi]
    clear hi hk ho hok
    have g : Grows w w := Grows.refl w
    have G : Hid (Grows w (((w.alloc (.cells #[.slice C cs.length nc] 37)).alloc (.cells #[.slice I d.insts.length ni, .slice N d.nets.length nn, .slice O d.ports.length no] 41)).alloc (.cells #[.int .i64 (-1), .int .i64 p.pin, .int .i64 p.net, .bool p.drives] 130))) := hideIt ((((Grows.refl w).alloc _).alloc _).alloc _)
    clear g
    have SL : Hid (Blk (((w.alloc (.cells #[.slice C cs.length nc] 37)).alloc (.cells #[.slice I d.insts.length ni, .slice N d.nets.length nn, .slice O d.ports.length no] 41)).alloc (.cells #[.int .i64 (-1), .int .i64 p.pin, .int .i64 p.net, .bool p.drives] 130)) (w.heap.size) 37 #[.slice C cs.length nc]) := by
      have := (Blk.new w 37 #[.slice C cs.length nc]).grows (((Grows.refl (w.alloc (.cells #[.slice C cs.length nc] 37))).alloc (.cells #[.slice I d.insts.length ni, .slice N d.nets.length nn, .slice O d.ports.length no] 41)).alloc (.cells #[.int .i64 (-1), .int .i64 p.pin, .int .i64 p.net, .bool p.drives] 130))
      exact hideIt (by simpa using this)
    have SD : Hid (Blk (((w.alloc (.cells #[.slice C cs.length nc] 37)).alloc (.cells #[.slice I d.insts.length ni, .slice N d.nets.length nn, .slice O d.ports.length no] 41)).alloc (.cells #[.int .i64 (-1), .int .i64 p.pin, .int .i64 p.net, .bool p.drives] 130)) (w.heap.size + 1) 41 #[.slice I d.insts.length ni, .slice N d.nets.length nn, .slice O d.ports.length no]) := by
      have := (Blk.new (w.alloc (.cells #[.slice C cs.length nc] 37)) 41 #[.slice I d.insts.length ni, .slice N d.nets.length nn, .slice O d.ports.length no]).grows ((Grows.refl ((w.alloc (.cells #[.slice C cs.length nc] 37)).alloc (.cells #[.slice I d.insts.length ni, .slice N d.nets.length nn, .slice O d.ports.length no] 41))).alloc (.cells #[.int .i64 (-1), .int .i64 p.pin, .int .i64 p.net, .bool p.drives] 130))
      exact hideIt (by simpa using this)
    have PB : Hid (Blk (((w.alloc (.cells #[.slice C cs.length nc] 37)).alloc (.cells #[.slice I d.insts.length ni, .slice N d.nets.length nn, .slice O d.ports.length no] 41)).alloc (.cells #[.int .i64 (-1), .int .i64 p.pin, .int .i64 p.net, .bool p.drives] 130)) (w.heap.size + 1 + 1) 130 #[.int .i64 (-1), .int .i64 p.pin, .int .i64 p.net, .bool p.drives]) := by
      have := (Blk.new ((w.alloc (.cells #[.slice C cs.length nc] 37)).alloc (.cells #[.slice I d.insts.length ni, .slice N d.nets.length nn, .slice O d.ports.length no] 41)) 130 #[.int .i64 (-1), .int .i64 p.pin, .int .i64 p.net, .bool p.drives]).grows (Grows.refl (((w.alloc (.cells #[.slice C cs.length nc] 37)).alloc (.cells #[.slice I d.insts.length ni, .slice N d.nets.length nn, .slice O d.ports.length no] 41)).alloc (.cells #[.int .i64 (-1), .int .i64 p.pin, .int .i64 p.net, .bool p.drives] 130)))
      exact hideIt (by simpa using this)
    replace hl := hideIt (hl.keep G.out.keeps)
    replace hd := hideIt (hd.keep G.out.keeps)
    go_enter Tryz.func104, Tryz.ntmps104
    go_wp2
    go_ret
    exact ⟨ret_int PA.out.symm, G.out⟩


end Go.Proofs.YtpppobomekebdaaGreatDoor
/-
  The program's functions over places.
-/
namespace Go.Proofs.YtpppobomekebdaaGreatDoor
open Go.RowKit











set_option maxHeartbeats 8000000 in
set_option maxRecDepth 10000 in
theorem iCap_any {a b c : Value} {d : DesignD} {vl : Value} {cs : List CellD} (p : PlaceD) (w : World) (hl : RCells w vl cs) (hd : RDesign w [a, b, c] d) (hok : PlaceOk cs d p) :
    Calls Tryz.prog 107 #[.agg #[a, b, c], .agg #[vl], plV p] w fun e w' => e = .returned (.int .i64 (capOf cs d p)) ∧ Grows w w' := by
  have cl := RList.len hl
  obtain ⟨C, nc, rfl⟩ : ∃ (D : Option Addr) (q : Nat), vl = .slice D cs.length q := by obtain ⟨D, q, e, -⟩ := RList.form hl; exact ⟨D, q, e⟩
  have il := RList.len hd.parts.1
  have nl := RList.len hd.parts.2.1
  have ol := RList.len hd.parts.2.2
  obtain ⟨I, N, O, ni, nn, no, rfl, rfl, rfl⟩ := des_open hd
  unfold plV
  rcases hok.at_ with ⟨i, k, x, c, q, hi, hk, hx, hc0, hc, hq⟩ | ⟨hi, k, o, hk, ho⟩
  · have PA := hideIt (capOf_pin (by omega) (pinAt_of hi hk hx hc hq))
    obtain ⟨n, e⟩ : ∃ n : Nat, x.cell = (n : Int) := ⟨x.cell.toNat, by omega⟩
    rw [hi, hk]
    have g : Grows w w := Grows.refl w
    have G : Hid (Grows w (((w.alloc (.cells #[.slice I d.insts.length ni, .slice N d.nets.length nn, .slice O d.ports.length no] 41)).alloc (.cells #[.slice C cs.length nc] 37)).alloc (.cells #[.int .i64 (i : Int), .int .i64 (k : Int), .int .i64 p.net, .bool p.drives] 87))) := hideIt ((((Grows.refl w).alloc _).alloc _).alloc _)
    clear g
    have SD : Hid (Blk (((w.alloc (.cells #[.slice I d.insts.length ni, .slice N d.nets.length nn, .slice O d.ports.length no] 41)).alloc (.cells #[.slice C cs.length nc] 37)).alloc (.cells #[.int .i64 (i : Int), .int .i64 (k : Int), .int .i64 p.net, .bool p.drives] 87)) (w.heap.size) 41 #[.slice I d.insts.length ni, .slice N d.nets.length nn, .slice O d.ports.length no]) := by
      have := (Blk.new w 41 #[.slice I d.insts.length ni, .slice N d.nets.length nn, .slice O d.ports.length no]).grows (((Grows.refl (w.alloc (.cells #[.slice I d.insts.length ni, .slice N d.nets.length nn, .slice O d.ports.length no] 41))).alloc (.cells #[.slice C cs.length nc] 37)).alloc (.cells #[.int .i64 (i : Int), .int .i64 (k : Int), .int .i64 p.net, .bool p.drives] 87))
      exact hideIt (by simpa using this)
    have SL : Hid (Blk (((w.alloc (.cells #[.slice I d.insts.length ni, .slice N d.nets.length nn, .slice O d.ports.length no] 41)).alloc (.cells #[.slice C cs.length nc] 37)).alloc (.cells #[.int .i64 (i : Int), .int .i64 (k : Int), .int .i64 p.net, .bool p.drives] 87)) (w.heap.size + 1) 37 #[.slice C cs.length nc]) := by
      have := (Blk.new (w.alloc (.cells #[.slice I d.insts.length ni, .slice N d.nets.length nn, .slice O d.ports.length no] 41)) 37 #[.slice C cs.length nc]).grows ((Grows.refl ((w.alloc (.cells #[.slice I d.insts.length ni, .slice N d.nets.length nn, .slice O d.ports.length no] 41)).alloc (.cells #[.slice C cs.length nc] 37))).alloc (.cells #[.int .i64 (i : Int), .int .i64 (k : Int), .int .i64 p.net, .bool p.drives] 87))
      exact hideIt (by simpa using this)
    have PB : Hid (Blk (((w.alloc (.cells #[.slice I d.insts.length ni, .slice N d.nets.length nn, .slice O d.ports.length no] 41)).alloc (.cells #[.slice C cs.length nc] 37)).alloc (.cells #[.int .i64 (i : Int), .int .i64 (k : Int), .int .i64 p.net, .bool p.drives] 87)) (w.heap.size + 1 + 1) 87 #[.int .i64 (i : Int), .int .i64 (k : Int), .int .i64 p.net, .bool p.drives]) := by
      have := (Blk.new ((w.alloc (.cells #[.slice I d.insts.length ni, .slice N d.nets.length nn, .slice O d.ports.length no] 41)).alloc (.cells #[.slice C cs.length nc] 37)) 87 #[.int .i64 (i : Int), .int .i64 (k : Int), .int .i64 p.net, .bool p.drives]).grows (Grows.refl (((w.alloc (.cells #[.slice I d.insts.length ni, .slice N d.nets.length nn, .slice O d.ports.length no] 41)).alloc (.cells #[.slice C cs.length nc] 37)).alloc (.cells #[.int .i64 (i : Int), .int .i64 (k : Int), .int .i64 p.net, .bool p.drives] 87)))
      exact hideIt (by simpa using this)
    replace hl := hideIt (hl.keep G.out.keeps)
    replace hd := hideIt (hd.keep G.out.keeps)
    have hx1 : i < d.insts.length := (List.getElem?_eq_some_iff.1 hx).1
    have hc1 : n < cs.length := by have := (List.getElem?_eq_some_iff.1 hc).1; omega
    have hq1 : k < c.pins.length := (List.getElem?_eq_some_iff.1 hq).1
    rw [e, Int.toNat_natCast] at hc
    obtain ⟨bi, oi, XN, xn, rfl, -, p1, -, hxn, -⟩ := inst_at hd.out.parts.1 hx
    obtain ⟨bc, oc, PP, pn, rfl, cp, rq⟩ := pins_at hl.out hc
    obtain ⟨bp, op, rfl, -, -, q2, -⟩ := pin_at rq hq
    have ql := RList.len rq
    rw [e] at p1
    have l0 := hx1
    have l1 : (i : Int) < (d.insts.length : Int) := by omega
    have l2 : (n : Int) < (cs.length : Int) := by omega
    have l3 : (k : Int) < (c.pins.length : Int) := by omega
    have l4 : (0 : Int) ≤ (i : Int) := by omega
    have l5 : (0 : Int) ≤ (n : Int) := by omega
    have l6 : (0 : Int) ≤ (k : Int) := by omega
    have tn : decide ((i : Int) < 0) = false := by simp
    clear hi hk hx hc hq hxn rq e hc0
    have kSD_0 := SD.out.cell 0
    have kSD_1 := SD.out.cell 1
    have kSD_2 := SD.out.cell 2
    have lSD := SD.out.lt
    have kSL_0 := SL.out.cell 0
    have lSL := SL.out.lt
    have kPB_0 := PB.out.cell 0
    have kPB_1 := PB.out.cell 1
    have kPB_2 := PB.out.cell 2
    have kPB_3 := PB.out.cell 3
    have lPB := PB.out.lt
    go_enter Tryz.func107, Tryz.ntmps107
    go_wp2
    try (go_quiet (fail); go_wp2)
    go_ret
    exact ⟨ret_int PA.out.symm, by repeat (first | exact G.out | exact G.out.drewN _ | refine Grows.drew ?_)⟩
  · have PA := hideIt (capOf_port (l := cs) (d := d) (p := p) (by omega))
    rw [hi]
    clear hi hk ho hok
    have g : Grows w w := Grows.refl w
    have G : Hid (Grows w (((w.alloc (.cells #[.slice I d.insts.length ni, .slice N d.nets.length nn, .slice O d.ports.length no] 41)).alloc (.cells #[.slice C cs.length nc] 37)).alloc (.cells #[.int .i64 (-1), .int .i64 p.pin, .int .i64 p.net, .bool p.drives] 87))) := hideIt ((((Grows.refl w).alloc _).alloc _).alloc _)
    clear g
    have SD : Hid (Blk (((w.alloc (.cells #[.slice I d.insts.length ni, .slice N d.nets.length nn, .slice O d.ports.length no] 41)).alloc (.cells #[.slice C cs.length nc] 37)).alloc (.cells #[.int .i64 (-1), .int .i64 p.pin, .int .i64 p.net, .bool p.drives] 87)) (w.heap.size) 41 #[.slice I d.insts.length ni, .slice N d.nets.length nn, .slice O d.ports.length no]) := by
      have := (Blk.new w 41 #[.slice I d.insts.length ni, .slice N d.nets.length nn, .slice O d.ports.length no]).grows (((Grows.refl (w.alloc (.cells #[.slice I d.insts.length ni, .slice N d.nets.length nn, .slice O d.ports.length no] 41))).alloc (.cells #[.slice C cs.length nc] 37)).alloc (.cells #[.int .i64 (-1), .int .i64 p.pin, .int .i64 p.net, .bool p.drives] 87))
      exact hideIt (by simpa using this)
    have SL : Hid (Blk (((w.alloc (.cells #[.slice I d.insts.length ni, .slice N d.nets.length nn, .slice O d.ports.length no] 41)).alloc (.cells #[.slice C cs.length nc] 37)).alloc (.cells #[.int .i64 (-1), .int .i64 p.pin, .int .i64 p.net, .bool p.drives] 87)) (w.heap.size + 1) 37 #[.slice C cs.length nc]) := by
      have := (Blk.new (w.alloc (.cells #[.slice I d.insts.length ni, .slice N d.nets.length nn, .slice O d.ports.length no] 41)) 37 #[.slice C cs.length nc]).grows ((Grows.refl ((w.alloc (.cells #[.slice I d.insts.length ni, .slice N d.nets.length nn, .slice O d.ports.length no] 41)).alloc (.cells #[.slice C cs.length nc] 37))).alloc (.cells #[.int .i64 (-1), .int .i64 p.pin, .int .i64 p.net, .bool p.drives] 87))
      exact hideIt (by simpa using this)
    have PB : Hid (Blk (((w.alloc (.cells #[.slice I d.insts.length ni, .slice N d.nets.length nn, .slice O d.ports.length no] 41)).alloc (.cells #[.slice C cs.length nc] 37)).alloc (.cells #[.int .i64 (-1), .int .i64 p.pin, .int .i64 p.net, .bool p.drives] 87)) (w.heap.size + 1 + 1) 87 #[.int .i64 (-1), .int .i64 p.pin, .int .i64 p.net, .bool p.drives]) := by
      have := (Blk.new ((w.alloc (.cells #[.slice I d.insts.length ni, .slice N d.nets.length nn, .slice O d.ports.length no] 41)).alloc (.cells #[.slice C cs.length nc] 37)) 87 #[.int .i64 (-1), .int .i64 p.pin, .int .i64 p.net, .bool p.drives]).grows (Grows.refl (((w.alloc (.cells #[.slice I d.insts.length ni, .slice N d.nets.length nn, .slice O d.ports.length no] 41)).alloc (.cells #[.slice C cs.length nc] 37)).alloc (.cells #[.int .i64 (-1), .int .i64 p.pin, .int .i64 p.net, .bool p.drives] 87)))
      exact hideIt (by simpa using this)
    replace hl := hideIt (hl.keep G.out.keeps)
    replace hd := hideIt (hd.keep G.out.keeps)
    go_enter Tryz.func107, Tryz.ntmps107
    go_wp2
    go_ret
    exact ⟨ret_int PA.out.symm, G.out⟩


end Go.Proofs.YtpppobomekebdaaGreatDoor
/-
  Sinks of a net, both sides.
-/
namespace Go.Proofs.YtpppobomekebdaaGreatDoor
open Go.RowKit

set_option maxHeartbeats 8000000 in
set_option maxRecDepth 10000 in
theorem sSinks_in {a b c : Value} {d : DesignD} {cs : List CellD} (n : Int) (w : World) (hd : RDesign w [a, b, c] d) (hp : DesP cs d) :
    Calls Tryz.prog 37 #[.agg #[a, b, c], .int .i64 n] w fun e w' => ∃ (A : Option Addr) (c : Nat) (bs : List Nat), e = .returned (.slice A (sinksL d n).length c) ∧ OInts w' (.slice A (sinksL d n).length c) (sinksL d n) bs ∧ Own w.heap.size w'.heap.size bs ∧ Grows w w' := by
  have il := RList.len hd.parts.1
  have nl := RList.len hd.parts.2.1
  have ol := RList.len hd.parts.2.2
  obtain ⟨I, N, O, ni, nn, no, rfl, rfl, rfl⟩ := des_open hd
  obtain ⟨i0, hi, hz0, hz1, hz2⟩ := info_parts info_i64'
  have DP := hideIt hp
  clear hp
  have g : Grows w w := Grows.refl w
  have G : Hid (Grows w (w.alloc (.cells #[.slice I d.insts.length ni, .slice N d.nets.length nn, .slice O d.ports.length no] 41))) := hideIt ((Grows.refl w).alloc _)
  clear g
  have SD : Hid (Blk (w.alloc (.cells #[.slice I d.insts.length ni, .slice N d.nets.length nn, .slice O d.ports.length no] 41)) (w.heap.size) 41 #[.slice I d.insts.length ni, .slice N d.nets.length nn, .slice O d.ports.length no]) := by
    have := (Blk.new w 41 #[.slice I d.insts.length ni, .slice N d.nets.length nn, .slice O d.ports.length no]).grows (Grows.refl (w.alloc (.cells #[.slice I d.insts.length ni, .slice N d.nets.length nn, .slice O d.ports.length no] 41)))
    exact hideIt (by simpa using this)
  replace hd := hideIt (hd.keep G.out.keeps)
  go_enter Tryz.func37, Tryz.ntmps37
  have gl : Grows (w.alloc (.cells #[.slice I d.insts.length ni, .slice N d.nets.length nn, .slice O d.ports.length no] 41)) ((w.alloc (.cells #[.slice I d.insts.length ni, .slice N d.nets.length nn, .slice O d.ports.length no] 41)).alloc (.cells #[] 2)) := (Grows.refl _).alloc _
  replace G := hideIt (G.out.trans gl)
  replace hd := hideIt (hd.out.keep gl.keeps)
  replace SD := hideIt (SD.out.grows gl)
  have RO : Hid (Blk ((w.alloc (.cells #[.slice I d.insts.length ni, .slice N d.nets.length nn, .slice O d.ports.length no] 41)).alloc (.cells #[] 2)) (w.heap.size + 1) 2 #[]) := by
    have := Blk.new (w.alloc (.cells #[.slice I d.insts.length ni, .slice N d.nets.length nn, .slice O d.ports.length no] 41)) 2 #[]
    exact hideIt (by simpa using this)
  clear gl
  go_wp2_with fail
  refine (sPlaces_any _ hd.out DP.out).mono ?_
  rintro e u1 ⟨v, rfl, rp, g⟩
  replace G := hideIt (G.out.trans g)
  replace hd := hideIt (hd.out.keep g.keeps)
  replace SD := hideIt (SD.out.grows g)
  replace RO := hideIt (RO.out.grows g)
  have pl := places_len DP.out
  obtain ⟨A, m, rfl⟩ : ∃ (D : Option Addr) (q : Nat), v = .slice D (placesL d).length q := by obtain ⟨D, q, e, -⟩ := RList.form rp; exact ⟨D, q, e⟩
  clear g
  have kSD_0 : u1.cell? ⟨w.heap.size, 0, none⟩ = some (.slice I d.insts.length ni) := SD.out.cell 0
  have kSD_1 : u1.cell? ⟨w.heap.size, 1, none⟩ = some (.slice N d.nets.length nn) := SD.out.cell 1
  have kSD_2 : u1.cell? ⟨w.heap.size, 2, none⟩ = some (.slice O d.ports.length no) := SD.out.cell 2
  have fSD := SD.out.frozen
  have lSD : w.heap.size < u1.heap.size := SD.out.lt
  have fRO := RO.out.frozen
  have lRO : w.heap.size + 1 < u1.heap.size := RO.out.lt
  replace rp := hideIt rp
  have own0 : Hid (u1.ownsRow (w.heap.size + 1) 2 1 (.slice (some ⟨w.heap.size + 1, 0, none⟩) 0 0) 0 []) := hideIt ⟨rfl, .inr ⟨_, 0, #[], rfl, Nat.le_refl _, RO.out, Nat.le_refl _, Nat.zero_le _, rfl, rfl⟩⟩
  have N0 : Hid (w.heap.size + 1 < u1.heap.size) := hideIt RO.out.lt
  go_wp2
  clear kSD_0 kSD_1 kSD_2 fSD lSD fRO lRO
  go_loopw [5, 7] (fun s z wr => ∃ (nv : Value) (k : Nat), nv = s ∧ k ≤ (placesL d).length ∧ z = .int .i64 (k : Int) ∧ Hid (wr.ownsRow (w.heap.size + 1) 2 1 nv (snkL n (placesL d) k).length ((snkL n (placesL d) k).map (Value.int .i64))) ∧ Hid (∀ q, nv.ownBlock = some q → q = w.heap.size + 1 ∨ u1.heap.size ≤ q) ∧ Hid (Chg [w.heap.size + 1] u1 wr)) (fun _ z _ => (placesL d).length - (intOf z).toNat)
  case atStart => exact ⟨_, 0, rfl, Nat.zero_le _, rfl, own0.out, hideIt (fun q e => .inl (Option.some.inj e).symm), hideIt (Chg.refl _ _)⟩
  case round =>
    obtain ⟨nv, k, rfl, hk, rfl, hown, hnb, hch⟩ := hrel
    have sl := snkL_len n (placesL d) k
    by_cases hlt : k < (placesL d).length
    · obtain ⟨p, hp⟩ : ∃ p, (placesL d)[k]? = some p := ⟨_, List.getElem?_eq_getElem hlt⟩
      obtain ⟨bi, oi, rfl, a0, a1, a2, a3⟩ := place_at rp.out hp
      have ne := blk_empty_ne RO.out a0
      have q2 := hch.out.cell a2 (by simp [ne])
      have q3 := hch.out.cell a3 (by simp [ne])
      have SS := hideIt (snkL_succ (n := n) hp)
      have l1 : (k : Int) < ((placesL d).length : Int) := by omega
      have l4 : (0 : Int) ≤ (k : Int) := by omega
      clear hp ne a0 a1 a2 a3
      by_cases e1 : p.net = n
      · have t1 : (p.net == n) = true := beq_iff_eq.2 e1
        cases e2 : p.drives
        · have EP := hideIt (show (if snkAt n p = true then [(k : Int)] else []) = [(k : Int)] from if_pos (by unfold snkAt; simp [e1, e2]))
          rw [e2] at q3
          clear e1 e2
          have own1 := hideIt (hown.out.alloc (.cells #[.int .i64 (k : Int)] 2))
          have CA := hideIt (hch.out.alloc (.cells #[.int .i64 (k : Int)] 2))
          go_wp2_with (at_builtin; refine wpList_append_own_at _ rfl _ _ 51 rfl (w.heap.size + 1) 2 i0 (.int .i64 0) 1 8 Tryz.underlying51 hi hz0 hz1 hz2 rfl (by decide) nv (snkL n (placesL d) k).length ((snkL n (placesL d) k).map (Value.int .i64)) rfl own1.out ⟨wr.heap.size, 0, none⟩ 1 1 [.int .i64 (k : Int)] rfl ?c1 ?c2 ?c3 ?c4 ?c5 ?c6 ?_)
          case c1 => simp
          case c2 =>
            intro j u hj
            match j, hj with
            | 0, hj => simp at hj; subst hj; simp [Addr.add]
          case c3 => intro u hu; simp at hu; subst hu; rfl
          case c4 => unfold maxLen; omega
          case c5 => omega
          case c6 => have := Nat.le_trans (Nat.le_of_lt N0.out) CA.out.size; simpa using this
          intro v' w4 hown3 hgrow hnil hat
          have CH4 := hideIt (CA.out.grown hgrow (fun q e => by
            rcases hnb.out q e with h | h
            · exact .inl (by simp [h])
            · exact .inr h))
          have NB4 : Hid (∀ q, v'.ownBlock = some q → q = w.heap.size + 1 ∨ u1.heap.size ≤ q) := hideIt fun q e => by
            rcases hat with h | h
            · exact hnb.out q (h ▸ e)
            · rw [h] at e
              injection e with e
              right
              have hs := CA.out.size
              simp at hs e
              omega
          have OW := hideIt (show w4.ownsRow (w.heap.size + 1) 2 1 v' (snkL n (placesL d) (k + 1)).length ((snkL n (placesL d) (k + 1)).map (Value.int .i64)) by rw [SS.out, EP.out, List.length_append, List.map_append]; exact hown3)
          clear hown3 hgrow hnil hat own1
          go_wp2
          go_roundw
          case rel => exact ⟨_, k + 1, rfl, by omega, by go_num, OW.out, NB4, CH4⟩
          case measure => simp [intOf]; omega
        · have EP := hideIt (show (if snkAt n p = true then [(k : Int)] else []) = [] from if_neg (by unfold snkAt; simp [e1, e2]))
          rw [e2] at q3
          clear e1 e2
          have OW := hideIt (show wr.ownsRow (w.heap.size + 1) 2 1 nv (snkL n (placesL d) (k + 1)).length ((snkL n (placesL d) (k + 1)).map (Value.int .i64)) by rw [SS.out, EP.out]; simpa using hown.out)
          go_wp2
          go_roundw
          case rel => exact ⟨_, k + 1, rfl, by omega, by go_num, OW.out, hnb, hch⟩
          case measure => simp [intOf]; omega
      · have t1 : (p.net == n) = false := beq_eq_false_iff_ne.2 e1
        have EP := hideIt (show (if snkAt n p = true then [(k : Int)] else []) = [] from if_neg (by unfold snkAt; simp [e1]))
        clear e1
        have OW := hideIt (show wr.ownsRow (w.heap.size + 1) 2 1 nv (snkL n (placesL d) (k + 1)).length ((snkL n (placesL d) (k + 1)).map (Value.int .i64)) by rw [SS.out, EP.out]; simpa using hown.out)
        go_wp2
        go_roundw
        case rel => exact ⟨_, k + 1, rfl, by omega, by go_num, OW.out, hnb, hch⟩
        case measure => simp [intOf]; omega
    · obtain rfl : k = (placesL d).length := by omega
      obtain ⟨A2, c2, bs, rfl, ho, how⟩ := own_oints (xs := sinksL d n) hown.out
      have HO := hideIt ho
      have HW := hideIt how
      have GE := hideIt (G.out.chg hch.out (by simp))
      clear ho how hown hnb hch
      go_wp2
      go_ret
      exact ⟨_, _, _, rfl, HO.out, HW.out.mono (by omega) (Nat.le_refl _), GE.out⟩

set_option maxHeartbeats 8000000 in
set_option maxRecDepth 10000 in
theorem iSinks_in {a b c : Value} {d : DesignD} {cs : List CellD} (n : Int) (w : World) (hd : RDesign w [a, b, c] d) (hp : DesP cs d) :
    Calls Tryz.prog 106 #[.agg #[a, b, c], .int .i64 n] w fun e w' => ∃ (A : Option Addr) (c : Nat) (bs : List Nat), e = .returned (.slice A (sinksL d n).length c) ∧ OInts w' (.slice A (sinksL d n).length c) (sinksL d n) bs ∧ Own w.heap.size w'.heap.size bs ∧ Grows w w' := by
  have il := RList.len hd.parts.1
  have nl := RList.len hd.parts.2.1
  have ol := RList.len hd.parts.2.2
  obtain ⟨I, N, O, ni, nn, no, rfl, rfl, rfl⟩ := des_open hd
  obtain ⟨i0, hi, hz0, hz1, hz2⟩ := info_parts info_i64'
  have DP := hideIt hp
  clear hp
  have g : Grows w w := Grows.refl w
  have G : Hid (Grows w (w.alloc (.cells #[.slice I d.insts.length ni, .slice N d.nets.length nn, .slice O d.ports.length no] 41))) := hideIt ((Grows.refl w).alloc _)
  clear g
  have SD : Hid (Blk (w.alloc (.cells #[.slice I d.insts.length ni, .slice N d.nets.length nn, .slice O d.ports.length no] 41)) (w.heap.size) 41 #[.slice I d.insts.length ni, .slice N d.nets.length nn, .slice O d.ports.length no]) := by
    have := (Blk.new w 41 #[.slice I d.insts.length ni, .slice N d.nets.length nn, .slice O d.ports.length no]).grows (Grows.refl (w.alloc (.cells #[.slice I d.insts.length ni, .slice N d.nets.length nn, .slice O d.ports.length no] 41)))
    exact hideIt (by simpa using this)
  replace hd := hideIt (hd.keep G.out.keeps)
  go_enter Tryz.func106, Tryz.ntmps106
  go_wp2_with fail
  refine (iPlaces_any _ hd.out DP.out).mono ?_
  rintro e u1 ⟨v, rfl, rp, g⟩
  replace G := hideIt (G.out.trans g)
  replace hd := hideIt (hd.out.keep g.keeps)
  replace SD := hideIt (SD.out.grows g)
  have pl := places_len DP.out
  obtain ⟨A, m, rfl⟩ : ∃ (D : Option Addr) (q : Nat), v = .slice D (placesL d).length q := by obtain ⟨D, q, e, -⟩ := RList.form rp; exact ⟨D, q, e⟩
  clear g
  have kSD_0 : u1.cell? ⟨w.heap.size, 0, none⟩ = some (.slice I d.insts.length ni) := SD.out.cell 0
  have kSD_1 : u1.cell? ⟨w.heap.size, 1, none⟩ = some (.slice N d.nets.length nn) := SD.out.cell 1
  have kSD_2 : u1.cell? ⟨w.heap.size, 2, none⟩ = some (.slice O d.ports.length no) := SD.out.cell 2
  have fSD := SD.out.frozen
  have lSD : w.heap.size < u1.heap.size := SD.out.lt
  replace rp := hideIt rp
  go_wp2
  clear kSD_0 kSD_1 kSD_2 fSD lSD
  go_loopw [5, 6, 7, 11] (fun s _ _ z wr => ∃ (nv : Value) (k : Nat), nv = s ∧ k ≤ (placesL d).length ∧ z = .int .i64 (k : Int) ∧ Hid (wr.ownsRow (u1.heap.size) 2 1 nv (snkL n (placesL d) k).length ((snkL n (placesL d) k).map (Value.int .i64))) ∧ Grows u1 wr) (fun _ _ _ z _ => (placesL d).length - (intOf z).toNat)
  case atStart => exact ⟨_, 0, rfl, Nat.zero_le _, rfl, hideIt (by simpa [snkL] using World.ownsRow_nil _ _ _ _), Grows.refl _⟩
  case round =>
    obtain ⟨nv, k, rfl, hk, rfl, hown, hg⟩ := hrel
    have HG := hideIt hg
    clear hg
    have sl := snkL_len n (placesL d) k
    by_cases hlt : k < (placesL d).length
    · obtain ⟨p, hp⟩ : ∃ p, (placesL d)[k]? = some p := ⟨_, List.getElem?_eq_getElem hlt⟩
      obtain ⟨bi, oi, rfl, a0, a1, a2, a3⟩ := place_at (RPlaces.keep rp.out HG.out.keeps) hp
      have SS := hideIt (snkL_succ (n := n) hp)
      have l1 : (k : Int) < ((placesL d).length : Int) := by omega
      have l4 : (0 : Int) ≤ (k : Int) := by omega
      clear hp 
      by_cases e1 : p.net = n
      · have t1 : (p.net == n) = true := beq_iff_eq.2 e1
        cases e2 : p.drives
        · have EP := hideIt (show (if snkAt n p = true then [(k : Int)] else []) = [(k : Int)] from if_pos (by unfold snkAt; simp [e1, e2]))
          rw [e2] at a3
          clear e1 e2
          have own1 := hideIt ((hown.out.alloc (.cells #[.int .i64 p.inst, .int .i64 p.pin, .int .i64 p.net, .bool false] 87)).alloc (.cells #[.int .i64 (k : Int)] 2))
          have GA := hideIt ((HG.out.alloc (.cells #[.int .i64 p.inst, .int .i64 p.pin, .int .i64 p.net, .bool false] 87)).alloc (.cells #[.int .i64 (k : Int)] 2))
          have nlt : Hid (∀ q, nv.ownBlock = some q → u1.heap.size ≤ q ∧ q < wr.heap.size) := hideIt hown.out.lt
          go_wp2_with (at_builtin; refine wpList_append_own_at _ rfl _ _ 51 rfl (u1.heap.size) 2 i0 (.int .i64 0) 1 8 Tryz.underlying51 hi hz0 hz1 hz2 rfl (by decide) nv (snkL n (placesL d) k).length ((snkL n (placesL d) k).map (Value.int .i64)) rfl own1.out ⟨wr.heap.size + 1, 0, none⟩ 1 1 [.int .i64 (k : Int)] rfl ?c1 ?c2 ?c3 ?c4 ?c5 ?c6 ?_)
          case c1 => simp
          case c2 =>
            intro j u hj
            match j, hj with
            | 0, hj => simp at hj; subst hj; simp [Addr.add]
          case c3 => intro u hu; simp at hu; subst hu; rfl
          case c4 => unfold maxLen; omega
          case c5 => omega
          case c6 => have := GA.out.size; simpa using this
          intro v' w4 hown3 hgrow hnil hat
          have G4 := hideIt (GA.out.grown hgrow (fun q e => (nlt.out q e).1))
          have OW := hideIt (show w4.ownsRow (u1.heap.size) 2 1 v' (snkL n (placesL d) (k + 1)).length ((snkL n (placesL d) (k + 1)).map (Value.int .i64)) by rw [SS.out, EP.out, List.length_append, List.map_append]; exact hown3)
          clear hown3 hgrow hnil hat own1
          go_wp2
          go_roundw
          case rel => exact ⟨_, k + 1, rfl, by omega, by go_num, OW.out, G4.out⟩
          case measure => simp [intOf]; omega
        · have EP := hideIt (show (if snkAt n p = true then [(k : Int)] else []) = [] from if_neg (by unfold snkAt; simp [e1, e2]))
          rw [e2] at a3
          clear e1 e2
          have OW := hideIt (show wr.ownsRow (u1.heap.size) 2 1 nv (snkL n (placesL d) (k + 1)).length ((snkL n (placesL d) (k + 1)).map (Value.int .i64)) by rw [SS.out, EP.out]; simpa using hown.out)
          go_wp2
          go_roundw
          case rel => exact ⟨_, k + 1, rfl, by omega, by go_num, hideIt (ownsRow_grows OW.out (by repeat (first | exact Grows.refl _ | refine Grows.drew ?_ | refine Grows.alloc ?_ _))), by repeat (first | exact HG.out | refine Grows.drew ?_ | refine Grows.alloc ?_ _)⟩
          case measure => simp [intOf]; omega
      · have t1 : (p.net == n) = false := beq_eq_false_iff_ne.2 e1
        have EP := hideIt (show (if snkAt n p = true then [(k : Int)] else []) = [] from if_neg (by unfold snkAt; simp [e1]))
        clear e1
        have OW := hideIt (show wr.ownsRow (u1.heap.size) 2 1 nv (snkL n (placesL d) (k + 1)).length ((snkL n (placesL d) (k + 1)).map (Value.int .i64)) by rw [SS.out, EP.out]; simpa using hown.out)
        go_wp2
        go_roundw
        case rel => exact ⟨_, k + 1, rfl, by omega, by go_num, hideIt (ownsRow_grows OW.out (by repeat (first | exact Grows.refl _ | refine Grows.drew ?_ | refine Grows.alloc ?_ _))), by repeat (first | exact HG.out | refine Grows.drew ?_ | refine Grows.alloc ?_ _)⟩
        case measure => simp [intOf]; omega
    · obtain rfl : k = (placesL d).length := by omega
      obtain ⟨A2, c2, bs, rfl, ho, how⟩ := own_oints (xs := sinksL d n) hown.out
      have HO := hideIt ho
      have HW := hideIt how
      have GE := hideIt (G.out.trans HG.out)
      clear ho how hown
      go_wp2
      go_ret
      exact ⟨_, _, _, rfl, HO.out, HW.out.mono (by have := G.out.size; omega) (Nat.le_refl _), GE.out⟩



theorem sinksV_len (l : List CellD) (d : DesignD) (n : Int) : (sinksV l d n).length ≤ 1048576 := by
  unfold sinksV
  split
  · rename_i h
    have h1 := places_len (pB_iff.1 (show pB (DesP l d) = true from h))
    have h2 := snkL_len n (placesL d) (placesL d).length
    unfold sinksL
    omega
  · simp
end Go.Proofs.YtpppobomekebdaaGreatDoor
