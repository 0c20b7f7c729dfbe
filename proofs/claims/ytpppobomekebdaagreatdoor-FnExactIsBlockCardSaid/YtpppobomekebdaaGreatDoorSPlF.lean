/-
  The reference's functions over places.
-/
import Derived.Test.YtpppobomekebdaaGreatDoorPlF
import Derived.Test.YtpppobomekebdaaGreatDoorSPlaces
import Derived.Test.YtpppobomekebdaaGreatDoorPlA
namespace Go.Proofs.YtpppobomekebdaaGreatDoor
open Go.RowKit









set_option maxHeartbeats 8000000 in
set_option maxRecDepth 10000 in
theorem sCap_any {vl : Value} {cs : List CellD} {a b c : Value} {d : DesignD} (p : PlaceD) (w : World) (hl : RCells w vl cs) (hd : RDesign w [a, b, c] d) (hok : PlaceOk cs d p) :
    Calls Tryz.prog 104 #[.agg #[vl], .agg #[a, b, c], plV p] w fun e w' => e = .returned (.int .i64 (capOf cs d p)) ∧ Grows w w' := by
  have cl := RList.len hl
  obtain ⟨C, nc, rfl⟩ : ∃ (D : Option Addr) (q : Nat), vl = .slice D cs.length q := by obtain ⟨D, q, e, -⟩ := RList.form hl; exact ⟨D, q, e⟩
  have il := RList.len hd.parts.1
  have nl := RList.len hd.parts.2.1
  have ol := RList.len hd.parts.2.2
  obtain ⟨I, N, O, ni, nn, no, rfl, rfl, rfl⟩ := des_open hd
  unfold plV
  rcases hok.at_ with ⟨i, k, x, c, q, hi, hk, hx, hc0, hc, hq⟩ | ⟨hi, k, o, hk, ho⟩
  · have PA := hideIt (capOf_pin (by omega) (pinAt_of hi hk hx hc hq))
    obtain ⟨n, e⟩ : ∃ n : Nat, x.cell = (n : Int) := ⟨x.cell.toNat, by omega⟩
    rw [hi, hk]
    have g : Grows w w := Grows.refl w
    have G : Hid (Grows w (((w.alloc (.cells #[.slice C cs.length nc] 37)).alloc (.cells #[.slice I d.insts.length ni, .slice N d.nets.length nn, .slice O d.ports.length no] 41)).alloc (.cells #[.int .i64 (i : Int), .int .i64 (k : Int), .int .i64 p.net, .bool p.drives] 130))) := hideIt ((((Grows.refl w).alloc _).alloc _).alloc _)
    clear g
    have SL : Hid (Blk (((w.alloc (.cells #[.slice C cs.length nc] 37)).alloc (.cells #[.slice I d.insts.length ni, .slice N d.nets.length nn, .slice O d.ports.length no] 41)).alloc (.cells #[.int .i64 (i : Int), .int .i64 (k : Int), .int .i64 p.net, .bool p.drives] 130)) (w.heap.size) 37 #[.slice C cs.length nc]) := by
      have := (Blk.new w 37 #[.slice C cs.length nc]).grows (((Grows.refl (w.alloc (.cells #[.slice C cs.length nc] 37))).alloc (.cells #[.slice I d.insts.length ni, .slice N d.nets.length nn, .slice O d.ports.length no] 41)).alloc (.cells #[.int .i64 (i : Int), .int .i64 (k : Int), .int .i64 p.net, .bool p.drives] 130))
      exact hideIt (by simpa using this)
    have SD : Hid (Blk (((w.alloc (.cells #[.slice C cs.length nc] 37)).alloc (.cells #[.slice I d.insts.length ni, .slice N d.nets.length nn, .slice O d.ports.length no] 41)).alloc (.cells #[.int .i64 (i : Int), .int .i64 (k : Int), .int .i64 p.net, .bool p.drives] 130)) (w.heap.size + 1) 41 #[.slice I d.insts.length ni, .slice N d.nets.length nn, .slice O d.ports.length no]) := by
      have := (Blk.new (w.alloc (.cells #[.slice C cs.length nc] 37)) 41 #[.slice I d.insts.length ni, .slice N d.nets.length nn, .slice O d.ports.length no]).grows ((Grows.refl ((w.alloc (.cells #[.slice C cs.length nc] 37)).alloc (.cells #[.slice I d.insts.length ni, .slice N d.nets.length nn, .slice O d.ports.length no] 41))).alloc (.cells #[.int .i64 (i : Int), .int .i64 (k : Int), .int .i64 p.net, .bool p.drives] 130))
      exact hideIt (by simpa using this)
    have PB : Hid (Blk (((w.alloc (.cells #[.slice C cs.length nc] 37)).alloc (.cells #[.slice I d.insts.length ni, .slice N d.nets.length nn, .slice O d.ports.length no] 41)).alloc (.cells #[.int .i64 (i : Int), .int .i64 (k : Int), .int .i64 p.net, .bool p.drives] 130)) (w.heap.size + 1 + 1) 130 #[.int .i64 (i : Int), .int .i64 (k : Int), .int .i64 p.net, .bool p.drives]) := by
      have := (Blk.new ((w.alloc (.cells #[.slice C cs.length nc] 37)).alloc (.cells #[.slice I d.insts.length ni, .slice N d.nets.length nn, .slice O d.ports.length no] 41)) 130 #[.int .i64 (i : Int), .int .i64 (k : Int), .int .i64 p.net, .bool p.drives]).grows (Grows.refl (((w.alloc (.cells #[.slice C cs.length nc] 37)).alloc (.cells #[.slice I d.insts.length ni, .slice N d.nets.length nn, .slice O d.ports.length no] 41)).alloc (.cells #[.int .i64 (i : Int), .int .i64 (k : Int), .int .i64 p.net, .bool p.drives] 130)))
      exact hideIt (by simpa using this)
    replace hl := hideIt (hl.keep G.out.keeps)
    replace hd := hideIt (hd.keep G.out.keeps)
    have hx1 : i < d.insts.length := (List.getElem?_eq_some_iff.1 hx).1
    have hc1 : n < cs.length := by have := (List.getElem?_eq_some_iff.1 hc).1; omega
    have hq1 : k < c.pins.length := (List.getElem?_eq_some_iff.1 hq).1
    rw [e, Int.toNat_natCast] at hc
    obtain ⟨bi, oi, XN, xn, rfl, -, p1, -, hxn, -⟩ := inst_at hd.out.parts.1 hx
    obtain ⟨bc, oc, PP, pn, rfl, cp, rq⟩ := pins_at hl.out hc
    obtain ⟨bp, op, rfl, -, -, q2, -⟩ := pin_at rq hq
    have ql := RList.len rq
    rw [e] at p1
    have l0 := hx1
    have l1 : (i : Int) < (d.insts.length : Int) := by omega
    have l2 : (n : Int) < (cs.length : Int) := by omega
    have l3 : (k : Int) < (c.pins.length : Int) := by omega
    have l4 : (0 : Int) ≤ (i : Int) := by omega
    have l5 : (0 : Int) ≤ (n : Int) := by omega
    have l6 : (0 : Int) ≤ (k : Int) := by omega
    have tn : decide ((i : Int) < 0) = false := by simp
    clear hi hk hx hc hq hxn rq e hc0
    have kSL_0 := SL.out.cell 0
    have lSL := SL.out.lt
    have kSD_0 := SD.out.cell 0
    have kSD_1 := SD.out.cell 1
    have kSD_2 := SD.out.cell 2
    have lSD := SD.out.lt
    have kPB_0 := PB.out.cell 0
    have kPB_1 := PB.out.cell 1
    have kPB_2 := PB.out.cell 2
    have kPB_3 := PB.out.cell 3
    have lPB := PB.out.lt
    go_enter Tryz.func104, Tryz.ntmps104
    go_wp2
    try (go_quiet (fail); go_wp2)
    go_ret
    exact ⟨ret_int PA.out.symm, by repeat (first | exact G.out | exact G.out.drewN _ | refine Grows.drew ?_)⟩
  · have PA := hideIt (capOf_port (l := cs) (d := d) (p := p) (by omega))
    rw [hi]
    clear hi hk ho hok
    have g : Grows w w := Grows.refl w
    have G : Hid (Grows w (((w.alloc (.cells #[.slice C cs.length nc] 37)).alloc (.cells #[.slice I d.insts.length ni, .slice N d.nets.length nn, .slice O d.ports.length no] 41)).alloc (.cells #[.int .i64 (-1), .int .i64 p.pin, .int .i64 p.net, .bool p.drives] 130))) := hideIt ((((Grows.refl w).alloc _).alloc _).alloc _)
    clear g
    have SL : Hid (Blk (((w.alloc (.cells #[.slice C cs.length nc] 37)).alloc (.cells #[.slice I d.insts.length ni, .slice N d.nets.length nn, .slice O d.ports.length no] 41)).alloc (.cells #[.int .i64 (-1), .int .i64 p.pin, .int .i64 p.net, .bool p.drives] 130)) (w.heap.size) 37 #[.slice C cs.length nc]) := by
      have := (Blk.new w 37 #[.slice C cs.length nc]).grows (((Grows.refl (w.alloc (.cells #[.slice C cs.length nc] 37))).alloc (.cells #[.slice I d.insts.length ni, .slice N d.nets.length nn, .slice O d.ports.length no] 41)).alloc (.cells #[.int .i64 (-1), .int .i64 p.pin, .int .i64 p.net, .bool p.drives] 130))
      exact hideIt (by simpa using this)
    have SD : Hid (Blk (((w.alloc (.cells #[.slice C cs.length nc] 37)).alloc (.cells #[.slice I d.insts.length ni, .slice N d.nets.length nn, .slice O d.ports.length no] 41)).alloc (.cells #[.int .i64 (-1), .int .i64 p.pin, .int .i64 p.net, .bool p.drives] 130)) (w.heap.size + 1) 41 #[.slice I d.insts.length ni, .slice N d.nets.length nn, .slice O d.ports.length no]) := by
      have := (Blk.new (w.alloc (.cells #[.slice C cs.length nc] 37)) 41 #[.slice I d.insts.length ni, .slice N d.nets.length nn, .slice O d.ports.length no]).grows ((Grows.refl ((w.alloc (.cells #[.slice C cs.length nc] 37)).alloc (.cells #[.slice I d.insts.length ni, .slice N d.nets.length nn, .slice O d.ports.length no] 41))).alloc (.cells #[.int .i64 (-1), .int .i64 p.pin, .int .i64 p.net, .bool p.drives] 130))
      exact hideIt (by simpa using this)
    have PB : Hid (Blk (((w.alloc (.cells #[.slice C cs.length nc] 37)).alloc (.cells #[.slice I d.insts.length ni, .slice N d.nets.length nn, .slice O d.ports.length no] 41)).alloc (.cells #[.int .i64 (-1), .int .i64 p.pin, .int .i64 p.net, .bool p.drives] 130)) (w.heap.size + 1 + 1) 130 #[.int .i64 (-1), .int .i64 p.pin, .int .i64 p.net, .bool p.drives]) := by
      have := (Blk.new ((w.alloc (.cells #[.slice C cs.length nc] 37)).alloc (.cells #[.slice I d.insts.length ni, .slice N d.nets.length nn, .slice O d.ports.length no] 41)) 130 #[.int .i64 (-1), .int .i64 p.pin, .int .i64 p.net, .bool p.drives]).grows (Grows.refl (((w.alloc (.cells #[.slice C cs.length nc] 37)).alloc (.cells #[.slice I d.insts.length ni, .slice N d.nets.length nn, .slice O d.ports.length no] 41)).alloc (.cells #[.int .i64 (-1), .int .i64 p.pin, .int .i64 p.net, .bool p.drives] 130)))
      exact hideIt (by simpa using this)
    replace hl := hideIt (hl.keep G.out.keeps)
    replace hd := hideIt (hd.keep G.out.keeps)
    go_enter Tryz.func104, Tryz.ntmps104
    go_wp2
    go_ret
    exact ⟨ret_int PA.out.symm, G.out⟩


end Go.Proofs.YtpppobomekebdaaGreatDoor
