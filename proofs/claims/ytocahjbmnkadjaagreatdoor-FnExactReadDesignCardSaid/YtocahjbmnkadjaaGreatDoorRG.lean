/-
  The reference's line of an instance.
-/
import Derived.Test.YtocahjbmnkadjaaGreatDoorRF
import Derived.Test.YtocahjbmnkadjaaGreatDoorGJ
import Derived.Test.YtocahjbmnkadjaaGreatDoorRA
import Derived.Test.YtocahjbmnkadjaaGreatDoorGM
import Derived.Test.YtocahjbmnkadjaaGreatDoorSDes
namespace Go.Proofs.YtocahjbmnkadjaaGreatDoor
open Go.RowKit

/-- a list of strings, a cell's name, as the walk meets them -/
theorem strs_at {w : World} {A : Option Addr} {n : Nat} {xs : List ByteArray} (h : RStrs w (.slice A xs.length n) xs) {i : Nat} {v : ByteArray} (hi : xs[i]? = some v) : ∃ b off : Nat, A = some ⟨b, off, none⟩ ∧ w.cell? ⟨b, off + i, none⟩ = some (.string v) := by
  obtain ⟨A', n', e, -, -, hx⟩ := RList.form h
  injection e with e1 e2
  subst e1
  obtain ⟨b, off, rfl, ds, hl1, hcs, hr⟩ := hx i v hi
  obtain ⟨rfl, -⟩ := hr
  exact ⟨b, off, rfl, by simpa using hcs 0 _ rfl⟩
theorem cellname_at {w : World} {A : Option Addr} {n : Nat} {cs : List CellD} (h : RCells w (.slice A cs.length n) cs) {i : Nat} {c : CellD} (hi : cs[i]? = some c) : ∃ (b off : Nat), A = some ⟨b, off, none⟩ ∧ w.cell? ⟨b, off + i * 7, none⟩ = some (.string c.name) := by
  obtain ⟨A', n', e, -, -, hx⟩ := RList.form h
  injection e with e1 e2
  subst e1
  obtain ⟨b, off, rfl, ds, hl1, hcs, hr⟩ := hx i c hi
  obtain ⟨d0, d1, d2, d3, d4, d5, d6, rfl⟩ := list7 hl1
  obtain ⟨rfl, -⟩ := hr.parts
  exact ⟨b, off, rfl, by simpa using hcs 0 _ rfl⟩
theorem own_strsC {w : World} {base : Nat} {v : Value} {xs : List ByteArray} (h : w.ownsRow base 9 1 v xs.length (xs.map Value.string)) (h0 : 0 < xs.length) : ∃ g c : Nat, v = .slice (some ⟨g, 0, none⟩) xs.length c ∧ xs.length ≤ c ∧ (∀ (j : Nat) (s : ByteArray), xs[j]? = some s → w.cell? ⟨g, j, none⟩ = some (.string s)) ∧ g < w.heap.size := by
  obtain ⟨hl, ⟨rfl, h1⟩ | ⟨g, c, cur, rfl, hb, hg, h1, h2, h3, h4⟩⟩ := h
  · omega
  · have hB : Blk w g 9 cur := hg
    refine ⟨g, c, rfl, h1, fun j s hj => ?_, hB.lt⟩
    have hi : j < xs.length := (List.getElem?_eq_some_iff.1 hj).1
    have h5 : (cur.toList.take (xs.length * 1))[j]? = some (.string s) := by rw [h4, List.getElem?_map, hj]; rfl
    rw [Nat.mul_one, List.getElem?_take_of_lt hi] at h5
    rw [hB.cell]
    simpa using h5

set_option maxHeartbeats 16000000 in
set_option maxRecDepth 10000 in
theorem sLine_any {vl a b c0 v0 v1 v2 : Value} {cs : List CellD} {d : DesignD} {x : InstD} {c : CellD} {n : Nat} (w : World) (hl : RCells w vl cs) (hd : RDesign w [a, b, c0] d) (hx : RInst w [v0, v1, v2] x) (hT : InstT cs d x c n) :
    Calls Tryz.prog 39 #[.agg #[vl], .agg #[a, b, c0], .agg #[v0, v1, v2]] w fun e w' => e = .returned (.string (lineB cs d x)) ∧ Grows w w' := by
  have cl := RList.len hl
  obtain ⟨C, nc, rfl⟩ : ∃ (D : Option Addr) (q : Nat), vl = .slice D cs.length q := by obtain ⟨D, q, e, -⟩ := RList.form hl; exact ⟨D, q, e⟩
  have nl := RList.len hd.parts.2.1
  obtain ⟨I, N, O, ni, nn, no, rfl, rfl, rfl⟩ := des_open hd
  obtain ⟨rfl, rfl, hxn, -⟩ := hx.parts
  have xl := RList.len hxn
  obtain ⟨XN, xn, rfl⟩ : ∃ (D : Option Addr) (q : Nat), v2 = .slice D x.nets.length q := by obtain ⟨D, q, e, -⟩ := RList.form hxn; exact ⟨D, q, e⟩
  have EB := hideIt (lineB_of hT)
  have xf := hT.few
  have z1 := hT.nm
  have z2 := hT.cn
  have hc1 : n < cs.length := (List.getElem?_eq_some_iff.1 hT.at_).1
  have HT := hideIt hT
  rw [hT.cell]
  replace hx := hxn
  clear hT hxn
  have g : Grows w w := Grows.refl w
  have G : Hid (Grows w (((w.alloc (.cells #[.slice C cs.length nc] 35)).alloc (.cells #[.slice I d.insts.length ni, .slice N d.nets.length nn, .slice O d.ports.length no] 30)).alloc (.cells #[.string x.name, .int .i64 (n : Int), .slice XN x.nets.length xn] 77))) := hideIt ((((Grows.refl w).alloc _).alloc _).alloc _)
  clear g
  have SL : Hid (Blk (((w.alloc (.cells #[.slice C cs.length nc] 35)).alloc (.cells #[.slice I d.insts.length ni, .slice N d.nets.length nn, .slice O d.ports.length no] 30)).alloc (.cells #[.string x.name, .int .i64 (n : Int), .slice XN x.nets.length xn] 77)) (w.heap.size) 35 #[.slice C cs.length nc]) := by
    have := (Blk.new w 35 #[.slice C cs.length nc]).grows (((Grows.refl (w.alloc (.cells #[.slice C cs.length nc] 35))).alloc (.cells #[.slice I d.insts.length ni, .slice N d.nets.length nn, .slice O d.ports.length no] 30)).alloc (.cells #[.string x.name, .int .i64 (n : Int), .slice XN x.nets.length xn] 77))
    exact hideIt (by simpa using this)
  have SD : Hid (Blk (((w.alloc (.cells #[.slice C cs.length nc] 35)).alloc (.cells #[.slice I d.insts.length ni, .slice N d.nets.length nn, .slice O d.ports.length no] 30)).alloc (.cells #[.string x.name, .int .i64 (n : Int), .slice XN x.nets.length xn] 77)) (w.heap.size + 1) 30 #[.slice I d.insts.length ni, .slice N d.nets.length nn, .slice O d.ports.length no]) := by
    have := (Blk.new (w.alloc (.cells #[.slice C cs.length nc] 35)) 30 #[.slice I d.insts.length ni, .slice N d.nets.length nn, .slice O d.ports.length no]).grows ((Grows.refl ((w.alloc (.cells #[.slice C cs.length nc] 35)).alloc (.cells #[.slice I d.insts.length ni, .slice N d.nets.length nn, .slice O d.ports.length no] 30))).alloc (.cells #[.string x.name, .int .i64 (n : Int), .slice XN x.nets.length xn] 77))
    exact hideIt (by simpa using this)
  have PB : Hid (Blk (((w.alloc (.cells #[.slice C cs.length nc] 35)).alloc (.cells #[.slice I d.insts.length ni, .slice N d.nets.length nn, .slice O d.ports.length no] 30)).alloc (.cells #[.string x.name, .int .i64 (n : Int), .slice XN x.nets.length xn] 77)) (w.heap.size + 1 + 1) 77 #[.string x.name, .int .i64 (n : Int), .slice XN x.nets.length xn]) := by
    have := (Blk.new ((w.alloc (.cells #[.slice C cs.length nc] 35)).alloc (.cells #[.slice I d.insts.length ni, .slice N d.nets.length nn, .slice O d.ports.length no] 30)) 77 #[.string x.name, .int .i64 (n : Int), .slice XN x.nets.length xn]).grows (Grows.refl (((w.alloc (.cells #[.slice C cs.length nc] 35)).alloc (.cells #[.slice I d.insts.length ni, .slice N d.nets.length nn, .slice O d.ports.length no] 30)).alloc (.cells #[.string x.name, .int .i64 (n : Int), .slice XN x.nets.length xn] 77)))
    exact hideIt (by simpa using this)
  replace hl := hideIt (hl.keep G.out.keeps)
  replace hd := hideIt (hd.keep G.out.keeps)
  replace hx := hideIt (hx.keep G.out.keeps)
  obtain ⟨bc, oc, rfl, kc⟩ := cellname_at hl.out HT.out.at_
  have l2 : (n : Int) < (cs.length : Int) := by omega
  have l5 : (0 : Int) ≤ (n : Int) := by omega
  have kSL_0 := SL.out.cell 0
  have lSL := SL.out.lt
  have kSD_0 := SD.out.cell 0
  have kSD_1 := SD.out.cell 1
  have kSD_2 := SD.out.cell 2
  have lSD := SD.out.lt
  have kPB_0 := PB.out.cell 0
  have kPB_1 := PB.out.cell 1
  have kPB_2 := PB.out.cell 2
  have lPB := PB.out.lt
  have K0 : ∀ w', Grows (((w.alloc (.cells #[.slice (some ⟨bc, oc, none⟩) cs.length nc] 35)).alloc (.cells #[.slice I d.insts.length ni, .slice N d.nets.length nn, .slice O d.ports.length no] 30)).alloc (.cells #[.string x.name, .int .i64 (n : Int), .slice XN x.nets.length xn] 77)) w' → w'.cell? ⟨w.heap.size + 1 + 1, 0, none⟩ = some (.string x.name) ∧ w'.cell? ⟨w.heap.size + 1 + 1, 1, none⟩ = some (.int .i64 (n : Int)) ∧ w'.cell? ⟨w.heap.size, 0, none⟩ = some (.slice (some ⟨bc, oc, none⟩) cs.length nc) ∧ w'.cell? ⟨bc, oc + n * 7, none⟩ = some (.string c.name) ∧ Grows (((w.alloc (.cells #[.slice (some ⟨bc, oc, none⟩) cs.length nc] 35)).alloc (.cells #[.slice I d.insts.length ni, .slice N d.nets.length nn, .slice O d.ports.length no] 30)).alloc (.cells #[.string x.name, .int .i64 (n : Int), .slice XN x.nets.length xn] 77)) w' := fun w' G => ⟨G.keeps _ _ kPB_0, G.keeps _ _ kPB_1, G.keeps _ _ kSL_0, G.keeps _ _ kc, G⟩
  have HK := hideIt K0
  clear K0
  have gg : Grows (((w.alloc (.cells #[.slice (some ⟨bc, oc, none⟩) cs.length nc] 35)).alloc (.cells #[.slice I d.insts.length ni, .slice N d.nets.length nn, .slice O d.ports.length no] 30)).alloc (.cells #[.string x.name, .int .i64 (n : Int), .slice XN x.nets.length xn] 77)) (((w.alloc (.cells #[.slice (some ⟨bc, oc, none⟩) cs.length nc] 35)).alloc (.cells #[.slice I d.insts.length ni, .slice N d.nets.length nn, .slice O d.ports.length no] 30)).alloc (.cells #[.string x.name, .int .i64 (n : Int), .slice XN x.nets.length xn] 77)) := Grows.refl _
  have tz1 : ¬ 9223372036854775807 < 5 + x.name.size := by omega
  have ez1 : ((⟨#[105, 110, 115, 116, 32]⟩ : ByteArray) ++ x.name).size = 5 + x.name.size := ByteArray.size_append
  have ez2 : ((⟨#[105, 110, 115, 116, 32]⟩ : ByteArray) ++ x.name ++ (⟨#[32]⟩ : ByteArray)).size = 5 + x.name.size + 1 := by rw [ByteArray.size_append, ez1]; rfl
  have tz2 : ¬ 9223372036854775807 < 5 + x.name.size + 1 := by omega
  have tz3 : ¬ 9223372036854775807 < 5 + x.name.size + 1 + c.name.size := by omega
  go_enter Tryz.func39, Tryz.ntmps39
  go_wp2
  refine wp_region_held_drew (S := (fun w' => w'.cell? ⟨w.heap.size + 1 + 1, 0, none⟩ = some (.string x.name) ∧ w'.cell? ⟨w.heap.size + 1 + 1, 1, none⟩ = some (.int .i64 (n : Int)) ∧ w'.cell? ⟨w.heap.size, 0, none⟩ = some (.slice (some ⟨bc, oc, none⟩) cs.length nc) ∧ w'.cell? ⟨bc, oc + n * 7, none⟩ = some (.string c.name) ∧ Grows (((w.alloc (.cells #[.slice (some ⟨bc, oc, none⟩) cs.length nc] 35)).alloc (.cells #[.slice I d.insts.length ni, .slice N d.nets.length nn, .slice O d.ports.length no] 30)).alloc (.cells #[.string x.name, .int .i64 (n : Int), .slice XN x.nets.length xn] 77)) w')) (by kernel_rfl) ?_ (fun hh0 => ?_)
  · (try dsimp only); exact HK.out _ gk
  refine regTk 0 hh0 ?_
  refine regTk 1 hh0 ?_
  refine regTk 2 hh0 ?_
  refine regTk 3 hh0 ?_
  refine regTk 4 hh0 ?_
  refine regTk 5 hh0 ?_
  refine regTk 6 hh0 ?_
  refine regTk 7 hh0 ?_
  refine regTk 8 hh0 ?_
  refine regTk 9 hh0 ?_
  refine regTk 10 hh0 ?_
  refine regTk 11 hh0 ?_
  refine regTk 12 hh0 ?_
  refine wpAnyH_done (by kernel_rfl) ?_ _
  clear hh0 HK
  clear tz1 tz2 tz3 ez1 ez2 gg
  go_wp2
  go_loopw [7, 8] (fun s z wr => ∃ (u : ByteArray) (k : Nat), s = .string u ∧ k ≤ x.nets.length ∧ z = .int .i64 (k : Int) ∧ Hid (u = instUp d x c k) ∧ u.size ≤ 22 + 9 * k ∧ Grows (((w.alloc (.cells #[.slice (some ⟨bc, oc, none⟩) cs.length nc] 35)).alloc (.cells #[.slice I d.insts.length ni, .slice N d.nets.length nn, .slice O d.ports.length no] 30)).alloc (.cells #[.string x.name, .int .i64 (n : Int), .slice XN x.nets.length xn] 77)) wr) (fun _ z _ => x.nets.length - (intOf z).toNat)
  case atStart => exact ⟨_, 0, rfl, Nat.zero_le _, rfl, hideIt rfl, instHead_size HT.out, by repeat (first | exact Grows.refl _ | refine Grows.drew ?_ | refine Grows.drewN ?_ _)⟩
  case round =>
    obtain ⟨u, k, rfl, hk, rfl, hu, hus, hg⟩ := hrel
    have HG := hideIt hg
    clear hg
    have qPB_2 : wr.cell? ⟨w.heap.size + 1 + 1, 2, none⟩ = some (.slice XN x.nets.length xn) := HG.out.keeps _ _ kPB_2
    by_cases hlt : k < x.nets.length
    · obtain ⟨v, hv⟩ : ∃ v, x.nets[k]? = some v := ⟨_, List.getElem?_eq_getElem hlt⟩
      obtain ⟨m, s, rfl, hs, hz⟩ := HT.out.net k v hv
      have hs1 : m < d.nets.length := (List.getElem?_eq_some_iff.1 hs).1
      have SU := hideIt (instUp_succ (c := c) hv hs)
      obtain ⟨bx, ox, rfl, q0⟩ := ints_at (RInts.keep hx.out HG.out.keeps) hv
      obtain ⟨bn, on, rfl, q1⟩ := strs_at (RStrs.keep hd.out.parts.2.1 HG.out.keeps) hs
      have m1 : (k : Int) < (x.nets.length : Int) := by omega
      have m2 : (0 : Int) ≤ (k : Int) := by omega
      have m3 : (m : Int) < (d.nets.length : Int) := by omega
      have m4 : (0 : Int) ≤ (m : Int) := by omega
      clear hv hs
      have qSD_1 : wr.cell? ⟨w.heap.size + 1, 1, none⟩ = some (.slice (some ⟨bn, on, none⟩) d.nets.length nn) := HG.out.keeps _ _ kSD_1
      have K0 : ∀ w', Grows wr w' → w'.cell? ⟨w.heap.size + 1, 1, none⟩ = some (.slice (some ⟨bn, on, none⟩) d.nets.length nn) ∧ w'.cell? ⟨w.heap.size + 1 + 1, 2, none⟩ = some (.slice (some ⟨bx, ox, none⟩) x.nets.length xn) ∧ w'.cell? ⟨bx, ox + k, none⟩ = some (.int .i64 (m : Int)) ∧ w'.cell? ⟨bn, on + m, none⟩ = some (.string s) ∧ Grows wr w' := fun w' G => ⟨G.keeps _ _ qSD_1, G.keeps _ _ qPB_2, G.keeps _ _ q0, G.keeps _ _ q1, G⟩
      have HK := hideIt K0
      clear K0
      have gg : Grows wr wr := Grows.refl _
      have tz1 : ¬ 9223372036854775807 < u.size + 1 := by omega
      have ez1 : (u ++ (⟨#[32]⟩ : ByteArray)).size = u.size + 1 := ByteArray.size_append
      have tz2 : ¬ 9223372036854775807 < u.size + 1 + s.size := by omega
      go_wp2
      refine wp_region_held_drew (S := (fun w' => w'.cell? ⟨w.heap.size + 1, 1, none⟩ = some (.slice (some ⟨bn, on, none⟩) d.nets.length nn) ∧ w'.cell? ⟨w.heap.size + 1 + 1, 2, none⟩ = some (.slice (some ⟨bx, ox, none⟩) x.nets.length xn) ∧ w'.cell? ⟨bx, ox + k, none⟩ = some (.int .i64 (m : Int)) ∧ w'.cell? ⟨bn, on + m, none⟩ = some (.string s) ∧ Grows wr w')) (by kernel_rfl) ?_ (fun hh0 => ?_)
      · (try dsimp only); exact HK.out _ gk
      refine regTk 0 hh0 ?_
      refine regTk 1 hh0 ?_
      refine regTk 2 hh0 ?_
      refine regTk 3 hh0 ?_
      refine regTk 4 hh0 ?_
      refine regTk 5 hh0 ?_
      refine regTk 6 hh0 ?_
      refine regTk 7 hh0 ?_
      refine regTk 8 hh0 ?_
      refine regTk 9 hh0 ?_
      refine regTk 10 hh0 ?_
      refine regTk 11 hh0 ?_
      refine regTk 12 hh0 ?_
      refine wpAnyH_done (by kernel_rfl) ?_ _
      clear hh0 HK
      have ez2 : (u ++ (⟨#[32]⟩ : ByteArray) ++ s).size ≤ 22 + 9 * (k + 1) := by rw [ByteArray.size_append, ez1]; omega
      clear tz1 tz2 ez1 gg
      go_wp2
      go_roundw
      case rel => exact ⟨_, k + 1, rfl, by omega, by go_num, hideIt (by rw [SU.out, ← hu.out]; rfl), ez2, by repeat (first | exact HG.out | refine Grows.drew ?_ | refine Grows.drewN ?_ _)⟩
      case measure => simp [intOf]; omega
    · obtain rfl : k = x.nets.length := by omega
      go_wp2
      go_ret
      exact ⟨ret_str (by rw [EB.out, ← hu.out]), G.out.trans HG.out⟩

end Go.Proofs.YtocahjbmnkadjaaGreatDoor
/-
  The reference's text of a design.
-/
namespace Go.Proofs.YtocahjbmnkadjaaGreatDoor
open Go.RowKit

set_option maxHeartbeats 16000000 in
set_option maxRecDepth 10000 in
theorem sText_in {vl : Value} {cs : List CellD} {a b c : Value} {d : DesignD} (w : World) (hl : RCells w vl cs) (hd : RDesign w [a, b, c] d) (hp : DesP cs d) :
    Calls Tryz.prog 17 #[.agg #[vl], .agg #[a, b, c]] w fun e w' => e = .returned (.string (textB cs d)) ∧ Grows w w' := by
  have cl := RList.len hl
  obtain ⟨C, nc, rfl⟩ : ∃ (D : Option Addr) (q : Nat), vl = .slice D cs.length q := by obtain ⟨D, q, e, -⟩ := RList.form hl; exact ⟨D, q, e⟩
  have il := RList.len hd.parts.1
  have nl := RList.len hd.parts.2.1
  have ol := RList.len hd.parts.2.2
  obtain ⟨I, N, O, ni, nn, no, rfl, rfl, rfl⟩ := des_open hd
  have hnn := hp.nn
  have hnp := hp.np
  have hni := hp.ni
  have DP := hideIt hp
  clear hp
  have g : Grows w w := Grows.refl w
  have G : Hid (Grows w ((w.alloc (.cells #[.slice C cs.length nc] 35)).alloc (.cells #[.slice I d.insts.length ni, .slice N d.nets.length nn, .slice O d.ports.length no] 30))) := hideIt (((Grows.refl w).alloc _).alloc _)
  clear g
  have SL : Hid (Blk ((w.alloc (.cells #[.slice C cs.length nc] 35)).alloc (.cells #[.slice I d.insts.length ni, .slice N d.nets.length nn, .slice O d.ports.length no] 30)) (w.heap.size) 35 #[.slice C cs.length nc]) := by
    have := (Blk.new w 35 #[.slice C cs.length nc]).grows ((Grows.refl (w.alloc (.cells #[.slice C cs.length nc] 35))).alloc (.cells #[.slice I d.insts.length ni, .slice N d.nets.length nn, .slice O d.ports.length no] 30))
    exact hideIt (by simpa using this)
  have SD : Hid (Blk ((w.alloc (.cells #[.slice C cs.length nc] 35)).alloc (.cells #[.slice I d.insts.length ni, .slice N d.nets.length nn, .slice O d.ports.length no] 30)) (w.heap.size + 1) 30 #[.slice I d.insts.length ni, .slice N d.nets.length nn, .slice O d.ports.length no]) := by
    have := (Blk.new (w.alloc (.cells #[.slice C cs.length nc] 35)) 30 #[.slice I d.insts.length ni, .slice N d.nets.length nn, .slice O d.ports.length no]).grows (Grows.refl ((w.alloc (.cells #[.slice C cs.length nc] 35)).alloc (.cells #[.slice I d.insts.length ni, .slice N d.nets.length nn, .slice O d.ports.length no] 30)))
    exact hideIt (by simpa using this)
  replace hl := hideIt (hl.keep G.out.keeps)
  replace hd := hideIt (hd.keep G.out.keeps)
  have kSL_0 := SL.out.cell 0
  have lSL := SL.out.lt
  have kSD_0 := SD.out.cell 0
  have kSD_1 := SD.out.cell 1
  have kSD_2 := SD.out.cell 2
  have lSD := SD.out.lt
  go_enter Tryz.func17, Tryz.ntmps17
  go_wp2
  go_loopw [5, 6] (fun s z wr => ∃ (u : ByteArray) (k : Nat), s = .string u ∧ k ≤ d.nets.length ∧ z = .int .i64 (k : Int) ∧ Hid (u = netsUp d k) ∧ u.size ≤ 13 * k ∧ Grows ((w.alloc (.cells #[.slice C cs.length nc] 35)).alloc (.cells #[.slice I d.insts.length ni, .slice N d.nets.length nn, .slice O d.ports.length no] 30)) wr) (fun _ z _ => d.nets.length - (intOf z).toNat)
  case atStart => exact ⟨_, 0, rfl, Nat.zero_le _, rfl, hideIt rfl, Nat.le_refl _, Grows.refl _⟩
  case round =>
    obtain ⟨u, k, rfl, hk, rfl, hu, hus, hg⟩ := hrel
    have HG := hideIt hg
    clear hg
    have qSD_0 := HG.out.keeps _ _ kSD_0
    have qSD_1 := HG.out.keeps _ _ kSD_1
    have qSD_2 := HG.out.keeps _ _ kSD_2
    by_cases hlt : k < d.nets.length
    · obtain ⟨s, hs⟩ : ∃ s, d.nets[k]? = some s := ⟨_, List.getElem?_eq_getElem hlt⟩
      have hz := net_size DP.out hs
      have SU := hideIt (netsUp_succ hs)
      obtain ⟨bn, on, rfl, q1⟩ := strs_at (RStrs.keep hd.out.parts.2.1 HG.out.keeps) hs
      have m1 : (k : Int) < (d.nets.length : Int) := by omega
      have m2 : (0 : Int) ≤ (k : Int) := by omega
      clear hs
      have tz0 : ¬ 9223372036854775807 < u.size + 4 := by omega
      have ez0 : (u ++ (⟨#[110, 101, 116, 32]⟩ : ByteArray)).size = u.size + 4 := ByteArray.size_append
      have tz1 : ¬ 9223372036854775807 < u.size + 4 + s.size := by omega
      have ez1 : (u ++ (⟨#[110, 101, 116, 32]⟩ : ByteArray) ++ s).size = u.size + 4 + s.size := by rw [ByteArray.size_append, ez0]
      have tz2 : ¬ 9223372036854775807 < u.size + 4 + s.size + 1 := by omega
      have ez2 : (u ++ (⟨#[110, 101, 116, 32]⟩ : ByteArray) ++ s ++ (⟨#[10]⟩ : ByteArray)).size = u.size + 4 + s.size + 1 := by rw [ByteArray.size_append, ez1]; rfl
      have zz : (u ++ (⟨#[110, 101, 116, 32]⟩ : ByteArray) ++ s ++ (⟨#[10]⟩ : ByteArray)).size ≤ 13 * (k + 1) := by rw [ez2]; omega
      go_wp2
      go_roundw
      case rel => exact ⟨_, k + 1, rfl, by omega, by go_num, hideIt (by rw [SU.out, ← hu.out]; rfl), zz, by repeat (first | exact HG.out | refine Grows.drew ?_ | refine Grows.drewN ?_ _ | refine Grows.setCell ?_ (by simp <;> omega) _ | refine Grows.alloc ?_ _)⟩
      case measure => simp [intOf]; omega
    · obtain rfl : k = d.nets.length := by omega
      clear hlt hk
      obtain ⟨w3, ew3⟩ : ∃ w3 : World, w3 = wr := ⟨_, rfl⟩
      subst ew3
      go_wp2
      go_loopw [5, 7, 8] (fun s z _ wr => ∃ (u : ByteArray) (k : Nat), s = .string u ∧ k ≤ d.ports.length ∧ z = .int .i64 (k : Int) ∧ Hid (u = portsUp d k) ∧ u.size ≤ 390 + 27 * k ∧ Grows w3 wr) (fun _ z _ _ => d.ports.length - (intOf z).toNat)
      case atStart => exact ⟨_, 0, rfl, Nat.zero_le _, rfl, hideIt hu.out, by omega, Grows.refl _⟩
      case round =>
        obtain ⟨u2, k, rfl, hk, rfl, hu2, hus2, hg⟩ := hrel
        have HH := hideIt hg
        clear hg
        have rSD_0 := HH.out.keeps _ _ qSD_0
        have rSD_1 := HH.out.keeps _ _ qSD_1
        have rSD_2 := HH.out.keeps _ _ qSD_2
        by_cases hlt : k < d.ports.length
        · obtain ⟨p, hp⟩ : ∃ p, d.ports[k]? = some p := ⟨_, List.getElem?_eq_getElem hlt⟩
          obtain ⟨hpz, m, s, hm, hs, hz⟩ := port_of DP.out hp
          have hm1 : m < d.nets.length := (List.getElem?_eq_some_iff.1 hs).1
          have SU := hideIt (portsUp_succ hp hm hs)
          obtain ⟨bo, oo, rfl, a0, a1, a2, -⟩ := port_at (RPorts.keep hd.out.parts.2.2 (HG.out.trans HH.out).keeps) hp
          obtain ⟨bn, on, rfl, q1⟩ := strs_at (RStrs.keep hd.out.parts.2.1 (HG.out.trans HH.out).keeps) hs
          rw [hm] at a2
          have m1 : (k : Int) < (d.ports.length : Int) := by omega
          have m2 : (0 : Int) ≤ (k : Int) := by omega
          have m3 : (m : Int) < (d.nets.length : Int) := by omega
          have m4 : (0 : Int) ≤ (m : Int) := by omega
          have HM := hideIt hm
          clear hp hs hm
          by_cases e : p.dir = 2
          · have t1 : (p.dir == 2) = true := beq_iff_eq.2 e
            have DB := hideIt (dir_out e)
            clear e
            have tz0 : ¬ 9223372036854775807 < u2.size + 5 := by omega
            have ez0 : (u2 ++ (⟨#[112, 111, 114, 116, 32]⟩ : ByteArray)).size = u2.size + 5 := ByteArray.size_append
            have tz1 : ¬ 9223372036854775807 < u2.size + 5 + p.name.size := by omega
            have ez1 : (u2 ++ (⟨#[112, 111, 114, 116, 32]⟩ : ByteArray) ++ p.name).size = u2.size + 5 + p.name.size := by rw [ByteArray.size_append, ez0]
            have tz2 : ¬ 9223372036854775807 < u2.size + 5 + p.name.size + 1 := by omega
            have ez2 : (u2 ++ (⟨#[112, 111, 114, 116, 32]⟩ : ByteArray) ++ p.name ++ (⟨#[32]⟩ : ByteArray)).size = u2.size + 5 + p.name.size + 1 := by rw [ByteArray.size_append, ez1]; rfl
            have tz3 : ¬ 9223372036854775807 < u2.size + 5 + p.name.size + 1 + 3 := by omega
            have ez3 : (u2 ++ (⟨#[112, 111, 114, 116, 32]⟩ : ByteArray) ++ p.name ++ (⟨#[32]⟩ : ByteArray) ++ (⟨#[111, 117, 116]⟩ : ByteArray)).size = u2.size + 5 + p.name.size + 1 + 3 := by rw [ByteArray.size_append, ez2]; rfl
            have tz4 : ¬ 9223372036854775807 < u2.size + 5 + p.name.size + 1 + 3 + 1 := by omega
            have ez4 : (u2 ++ (⟨#[112, 111, 114, 116, 32]⟩ : ByteArray) ++ p.name ++ (⟨#[32]⟩ : ByteArray) ++ (⟨#[111, 117, 116]⟩ : ByteArray) ++ (⟨#[32]⟩ : ByteArray)).size = u2.size + 5 + p.name.size + 1 + 3 + 1 := by rw [ByteArray.size_append, ez3]; rfl
            have tz5 : ¬ 9223372036854775807 < u2.size + 5 + p.name.size + 1 + 3 + 1 + s.size := by omega
            have ez5 : (u2 ++ (⟨#[112, 111, 114, 116, 32]⟩ : ByteArray) ++ p.name ++ (⟨#[32]⟩ : ByteArray) ++ (⟨#[111, 117, 116]⟩ : ByteArray) ++ (⟨#[32]⟩ : ByteArray) ++ s).size = u2.size + 5 + p.name.size + 1 + 3 + 1 + s.size := by rw [ByteArray.size_append, ez4]
            have tz6 : ¬ 9223372036854775807 < u2.size + 5 + p.name.size + 1 + 3 + 1 + s.size + 1 := by omega
            have ez6 : (u2 ++ (⟨#[112, 111, 114, 116, 32]⟩ : ByteArray) ++ p.name ++ (⟨#[32]⟩ : ByteArray) ++ (⟨#[111, 117, 116]⟩ : ByteArray) ++ (⟨#[32]⟩ : ByteArray) ++ s ++ (⟨#[10]⟩ : ByteArray)).size = u2.size + 5 + p.name.size + 1 + 3 + 1 + s.size + 1 := by rw [ByteArray.size_append, ez5]; rfl
            have zz : (u2 ++ (⟨#[112, 111, 114, 116, 32]⟩ : ByteArray) ++ p.name ++ (⟨#[32]⟩ : ByteArray) ++ (⟨#[111, 117, 116]⟩ : ByteArray) ++ (⟨#[32]⟩ : ByteArray) ++ s ++ (⟨#[10]⟩ : ByteArray)).size ≤ 390 + 27 * (k + 1) := by rw [ez6]; omega
            have K0 : ∀ w', Grows wr w' → w'.cell? ⟨w.heap.size + 1, 1, none⟩ = some (.slice (some ⟨bn, on, none⟩) d.nets.length nn) ∧ w'.cell? ⟨w.heap.size + 1, 2, none⟩ = some (.slice (some ⟨bo, oo, none⟩) d.ports.length no) ∧ w'.cell? ⟨bo, oo + k * 3, none⟩ = some (.string p.name) ∧ w'.cell? ⟨bo, oo + k * 3 + 2, none⟩ = some (.int .i64 (m : Int)) ∧ w'.cell? ⟨bn, on + m, none⟩ = some (.string s) ∧ Grows wr w' := fun w' G => ⟨G.keeps _ _ rSD_1, G.keeps _ _ rSD_2, G.keeps _ _ a0, G.keeps _ _ a2, G.keeps _ _ q1, G⟩
            have HK := hideIt K0
            clear K0
            have gg : Grows wr wr := Grows.refl _
            go_wp2
            refine wp_region_held_drew (S := (fun w' => w'.cell? ⟨w.heap.size + 1, 1, none⟩ = some (.slice (some ⟨bn, on, none⟩) d.nets.length nn) ∧ w'.cell? ⟨w.heap.size + 1, 2, none⟩ = some (.slice (some ⟨bo, oo, none⟩) d.ports.length no) ∧ w'.cell? ⟨bo, oo + k * 3, none⟩ = some (.string p.name) ∧ w'.cell? ⟨bo, oo + k * 3 + 2, none⟩ = some (.int .i64 (m : Int)) ∧ w'.cell? ⟨bn, on + m, none⟩ = some (.string s) ∧ Grows wr w')) (by kernel_rfl) ?_ (fun hh0 => ?_)
            · (try dsimp only); exact HK.out _ gk
            refine regTk 0 hh0 ?_
            refine regTk 1 hh0 ?_
            refine regTk 2 hh0 ?_
            refine regTk 3 hh0 ?_
            refine regTk 4 hh0 ?_
            refine regTk 5 hh0 ?_
            refine regTk 6 hh0 ?_
            refine regTk 7 hh0 ?_
            refine regTk 8 hh0 ?_
            refine regTk 9 hh0 ?_
            refine regTk 10 hh0 ?_
            refine regTk 11 hh0 ?_
            refine regTk 12 hh0 ?_
            refine regTk 13 hh0 ?_
            refine regTk 14 hh0 ?_
            refine regTk 15 hh0 ?_
            refine regTk 16 hh0 ?_
            refine regTk 17 hh0 ?_
            refine regTk 18 hh0 ?_
            refine regTk 19 hh0 ?_
            refine regTk 20 hh0 ?_
            refine regTk 21 hh0 ?_
            refine regTk 22 hh0 ?_
            refine regTk 23 hh0 ?_
            refine regTk 24 hh0 ?_
            refine regTk 25 hh0 ?_
            refine wpAnyH_done (by kernel_rfl) ?_ _
            clear hh0 HK
            clear gg
            go_wp2
            go_roundw
            case rel => exact ⟨_, k + 1, rfl, by omega, by go_num, hideIt (by rw [SU.out, DB.out, ← hu2.out]; rfl), zz, by repeat (first | exact HH.out | refine Grows.drew ?_ | refine Grows.drewN ?_ _ | refine Grows.setCell ?_ (by simp <;> omega) _ | refine Grows.alloc ?_ _)⟩
            case measure => simp [intOf]; omega
          · have t1 : (p.dir == 2) = false := beq_eq_false_iff_ne.2 e
            have DB := hideIt (dir_in e)
            clear e
            have tz0 : ¬ 9223372036854775807 < u2.size + 5 := by omega
            have ez0 : (u2 ++ (⟨#[112, 111, 114, 116, 32]⟩ : ByteArray)).size = u2.size + 5 := ByteArray.size_append
            have tz1 : ¬ 9223372036854775807 < u2.size + 5 + p.name.size := by omega
            have ez1 : (u2 ++ (⟨#[112, 111, 114, 116, 32]⟩ : ByteArray) ++ p.name).size = u2.size + 5 + p.name.size := by rw [ByteArray.size_append, ez0]
            have tz2 : ¬ 9223372036854775807 < u2.size + 5 + p.name.size + 1 := by omega
            have ez2 : (u2 ++ (⟨#[112, 111, 114, 116, 32]⟩ : ByteArray) ++ p.name ++ (⟨#[32]⟩ : ByteArray)).size = u2.size + 5 + p.name.size + 1 := by rw [ByteArray.size_append, ez1]; rfl
            have tz3 : ¬ 9223372036854775807 < u2.size + 5 + p.name.size + 1 + 2 := by omega
            have ez3 : (u2 ++ (⟨#[112, 111, 114, 116, 32]⟩ : ByteArray) ++ p.name ++ (⟨#[32]⟩ : ByteArray) ++ (⟨#[105, 110]⟩ : ByteArray)).size = u2.size + 5 + p.name.size + 1 + 2 := by rw [ByteArray.size_append, ez2]; rfl
            have tz4 : ¬ 9223372036854775807 < u2.size + 5 + p.name.size + 1 + 2 + 1 := by omega
            have ez4 : (u2 ++ (⟨#[112, 111, 114, 116, 32]⟩ : ByteArray) ++ p.name ++ (⟨#[32]⟩ : ByteArray) ++ (⟨#[105, 110]⟩ : ByteArray) ++ (⟨#[32]⟩ : ByteArray)).size = u2.size + 5 + p.name.size + 1 + 2 + 1 := by rw [ByteArray.size_append, ez3]; rfl
            have tz5 : ¬ 9223372036854775807 < u2.size + 5 + p.name.size + 1 + 2 + 1 + s.size := by omega
            have ez5 : (u2 ++ (⟨#[112, 111, 114, 116, 32]⟩ : ByteArray) ++ p.name ++ (⟨#[32]⟩ : ByteArray) ++ (⟨#[105, 110]⟩ : ByteArray) ++ (⟨#[32]⟩ : ByteArray) ++ s).size = u2.size + 5 + p.name.size + 1 + 2 + 1 + s.size := by rw [ByteArray.size_append, ez4]
            have tz6 : ¬ 9223372036854775807 < u2.size + 5 + p.name.size + 1 + 2 + 1 + s.size + 1 := by omega
            have ez6 : (u2 ++ (⟨#[112, 111, 114, 116, 32]⟩ : ByteArray) ++ p.name ++ (⟨#[32]⟩ : ByteArray) ++ (⟨#[105, 110]⟩ : ByteArray) ++ (⟨#[32]⟩ : ByteArray) ++ s ++ (⟨#[10]⟩ : ByteArray)).size = u2.size + 5 + p.name.size + 1 + 2 + 1 + s.size + 1 := by rw [ByteArray.size_append, ez5]; rfl
            have zz : (u2 ++ (⟨#[112, 111, 114, 116, 32]⟩ : ByteArray) ++ p.name ++ (⟨#[32]⟩ : ByteArray) ++ (⟨#[105, 110]⟩ : ByteArray) ++ (⟨#[32]⟩ : ByteArray) ++ s ++ (⟨#[10]⟩ : ByteArray)).size ≤ 390 + 27 * (k + 1) := by rw [ez6]; omega
            have K0 : ∀ w', Grows wr w' → w'.cell? ⟨w.heap.size + 1, 1, none⟩ = some (.slice (some ⟨bn, on, none⟩) d.nets.length nn) ∧ w'.cell? ⟨w.heap.size + 1, 2, none⟩ = some (.slice (some ⟨bo, oo, none⟩) d.ports.length no) ∧ w'.cell? ⟨bo, oo + k * 3, none⟩ = some (.string p.name) ∧ w'.cell? ⟨bo, oo + k * 3 + 2, none⟩ = some (.int .i64 (m : Int)) ∧ w'.cell? ⟨bn, on + m, none⟩ = some (.string s) ∧ Grows wr w' := fun w' G => ⟨G.keeps _ _ rSD_1, G.keeps _ _ rSD_2, G.keeps _ _ a0, G.keeps _ _ a2, G.keeps _ _ q1, G⟩
            have HK := hideIt K0
            clear K0
            have gg : Grows wr wr := Grows.refl _
            go_wp2
            refine wp_region_held_drew (S := (fun w' => w'.cell? ⟨w.heap.size + 1, 1, none⟩ = some (.slice (some ⟨bn, on, none⟩) d.nets.length nn) ∧ w'.cell? ⟨w.heap.size + 1, 2, none⟩ = some (.slice (some ⟨bo, oo, none⟩) d.ports.length no) ∧ w'.cell? ⟨bo, oo + k * 3, none⟩ = some (.string p.name) ∧ w'.cell? ⟨bo, oo + k * 3 + 2, none⟩ = some (.int .i64 (m : Int)) ∧ w'.cell? ⟨bn, on + m, none⟩ = some (.string s) ∧ Grows wr w')) (by kernel_rfl) ?_ (fun hh0 => ?_)
            · (try dsimp only); exact HK.out _ gk
            refine regTk 0 hh0 ?_
            refine regTk 1 hh0 ?_
            refine regTk 2 hh0 ?_
            refine regTk 3 hh0 ?_
            refine regTk 4 hh0 ?_
            refine regTk 5 hh0 ?_
            refine regTk 6 hh0 ?_
            refine regTk 7 hh0 ?_
            refine regTk 8 hh0 ?_
            refine regTk 9 hh0 ?_
            refine regTk 10 hh0 ?_
            refine regTk 11 hh0 ?_
            refine regTk 12 hh0 ?_
            refine regTk 13 hh0 ?_
            refine regTk 14 hh0 ?_
            refine regTk 15 hh0 ?_
            refine regTk 16 hh0 ?_
            refine regTk 17 hh0 ?_
            refine regTk 18 hh0 ?_
            refine regTk 19 hh0 ?_
            refine regTk 20 hh0 ?_
            refine regTk 21 hh0 ?_
            refine regTk 22 hh0 ?_
            refine regTk 23 hh0 ?_
            refine regTk 24 hh0 ?_
            refine regTk 25 hh0 ?_
            refine wpAnyH_done (by kernel_rfl) ?_ _
            clear hh0 HK
            clear gg
            go_wp2
            go_roundw
            case rel => exact ⟨_, k + 1, rfl, by omega, by go_num, hideIt (by rw [SU.out, DB.out, ← hu2.out]; rfl), zz, by repeat (first | exact HH.out | refine Grows.drew ?_ | refine Grows.drewN ?_ _ | refine Grows.setCell ?_ (by simp <;> omega) _ | refine Grows.alloc ?_ _)⟩
            case measure => simp [intOf]; omega
        · obtain rfl : k = d.ports.length := by omega
          clear hlt hk
          obtain ⟨w4, ew4⟩ : ∃ w4 : World, w4 = wr := ⟨_, rfl⟩
          subst ew4
          have GG := hideIt (HG.out.trans HH.out)
          have rSL_0 := GG.out.keeps _ _ kSL_0
          go_wp2
          go_loopw [5, 9] (fun s z wr => ∃ (u : ByteArray) (k : Nat), s = .string u ∧ k ≤ d.insts.length ∧ z = .int .i64 (k : Int) ∧ Hid (u = instsUp cs d k) ∧ u.size ≤ 606 + 68 * k ∧ Grows w4 wr) (fun _ z _ => d.insts.length - (intOf z).toNat)
          case atStart => exact ⟨_, 0, rfl, Nat.zero_le _, rfl, hideIt hu2.out, by omega, Grows.refl _⟩
          case round =>
            obtain ⟨u3, k, rfl, hk, rfl, hu3, hus3, hg⟩ := hrel
            have HI := hideIt hg
            clear hg
            have sSD_0 := HI.out.keeps _ _ rSD_0
            have sSD_1 := HI.out.keeps _ _ rSD_1
            have sSD_2 := HI.out.keeps _ _ rSD_2
            have sSL_0 := HI.out.keeps _ _ rSL_0
            by_cases hlt : k < d.insts.length
            · obtain ⟨x, hx⟩ : ∃ x, d.insts[k]? = some x := ⟨_, List.getElem?_eq_getElem hlt⟩
              obtain ⟨c, n, hT⟩ := instT_of DP.out hx
              have HT := hideIt hT
              have hlz := lineB_size hT
              have SU := hideIt (instsUp_succ (l := cs) hx)
              obtain ⟨bi, oi, XN, xn, rfl, a0, a1, a2, hxn, hxz⟩ := inst_at (RInsts.keep hd.out.parts.1 (GG.out.trans HI.out).keeps) hx
              have RX := hideIt (show RInst wr [.string x.name, .int .i64 x.cell, .slice XN x.nets.length xn] x from ⟨_, rfl, hxz, hxn⟩)
              have HL := hideIt (RCells.keep hl.out (GG.out.trans HI.out).keeps)
              have HD := hideIt (RDesign.keep hd.out (GG.out.trans HI.out).keeps)
              have m1 : (k : Int) < (d.insts.length : Int) := by omega
              have m2 : (0 : Int) ≤ (k : Int) := by omega
              obtain ⟨lb, elb⟩ : ∃ lb, lb = lineB cs d x := ⟨_, rfl⟩
              rw [← elb] at hlz
              have LB := hideIt elb
              clear hx hT hxn elb hxz
              have tz0 : ¬ 9223372036854775807 < u3.size + lb.size := by omega
              have ez0 : (u3 ++ lb).size = u3.size + lb.size := ByteArray.size_append
              have tz1 : ¬ 9223372036854775807 < u3.size + lb.size + 1 := by omega
              have ez1 : (u3 ++ lb ++ (⟨#[10]⟩ : ByteArray)).size = u3.size + lb.size + 1 := by rw [ByteArray.size_append, ez0]; rfl
              have zz : (u3 ++ lb ++ (⟨#[10]⟩ : ByteArray)).size ≤ 606 + 68 * (k + 1) := by rw [ez1]; omega
              have K0 : ∀ w', Grows wr w' → w'.cell? ⟨w.heap.size, 0, none⟩ = some (.slice C cs.length nc) ∧ w'.cell? ⟨w.heap.size + 1, 0, none⟩ = some (.slice (some ⟨bi, oi, none⟩) d.insts.length ni) ∧ w'.cell? ⟨w.heap.size + 1, 1, none⟩ = some (.slice N d.nets.length nn) ∧ w'.cell? ⟨w.heap.size + 1, 2, none⟩ = some (.slice O d.ports.length no) ∧ w'.cell? ⟨bi, oi + k * 3, none⟩ = some (.string x.name) ∧ w'.cell? ⟨bi, oi + k * 3 + 1, none⟩ = some (.int .i64 x.cell) ∧ w'.cell? ⟨bi, oi + k * 3 + 2, none⟩ = some (.slice XN x.nets.length xn) ∧ Grows wr w' := fun w' G => ⟨G.keeps _ _ sSL_0, G.keeps _ _ sSD_0, G.keeps _ _ sSD_1, G.keeps _ _ sSD_2, G.keeps _ _ a0, G.keeps _ _ a1, G.keeps _ _ a2, G⟩
              have HK := hideIt K0
              clear K0
              have gg : Grows wr wr := Grows.refl _
              go_wp2
              refine wp_region_held_drew (S := (fun w' => w'.cell? ⟨w.heap.size, 0, none⟩ = some (.slice C cs.length nc) ∧ w'.cell? ⟨w.heap.size + 1, 0, none⟩ = some (.slice (some ⟨bi, oi, none⟩) d.insts.length ni) ∧ w'.cell? ⟨w.heap.size + 1, 1, none⟩ = some (.slice N d.nets.length nn) ∧ w'.cell? ⟨w.heap.size + 1, 2, none⟩ = some (.slice O d.ports.length no) ∧ w'.cell? ⟨bi, oi + k * 3, none⟩ = some (.string x.name) ∧ w'.cell? ⟨bi, oi + k * 3 + 1, none⟩ = some (.int .i64 x.cell) ∧ w'.cell? ⟨bi, oi + k * 3 + 2, none⟩ = some (.slice XN x.nets.length xn) ∧ Grows wr w')) (by kernel_rfl) ?_ (fun hh0 => ?_)
              · (try dsimp only); exact HK.out _ gk
              refine regTk 0 hh0 ?_
              refine regTk 1 hh0 ?_
              refine regTk 2 hh0 ?_
              refine regTk 3 hh0 ?_
              refine regTk 4 hh0 ?_
              refine regTk 5 hh0 ?_
              refine regTk 6 hh0 ?_
              refine regTk 7 hh0 ?_
              refine regCall 8 (fun K hK => ?_)
              go_simp
              refine (sLine_any _ (HL.out.keep (Grows.keeps gk)) (HD.out.keep (Grows.keeps gk)) (RX.out.keep (Grows.keeps gk)) HT.out).mono ?_
              rintro e wx ⟨rfl, g⟩
              rw [← LB.out]
              replace gg := gg.gt g
              clear g
              (try go_wp2_with fail)
              refine hK.out _ _ ?_ (fun hh1 => ?_)
              · (try dsimp only); exact HK.out _ gk
              clear hK K hh0
              try simp only [Act.put, List.setIfInBounds_toArray, List.set_cons_zero, List.set_cons_succ]
              refine regTk 9 hh1 ?_
              refine regTk 10 hh1 ?_
              refine regTk 11 hh1 ?_
              refine wpAnyH_done (by kernel_rfl) ?_ _
              clear hh1 HK
              have GN := hideIt (HI.out.trans gg)
              clear gg
              go_wp2
              go_roundw
              case rel => exact ⟨_, k + 1, rfl, by omega, by go_num, hideIt (by rw [SU.out, ← LB.out, ← hu3.out]; rfl), zz, by repeat (first | exact GN.out | refine Grows.drew ?_ | refine Grows.drewN ?_ _ | refine Grows.setCell ?_ (by simp <;> omega) _ | refine Grows.alloc ?_ _)⟩
              case measure => simp [intOf]; omega
            · obtain rfl : k = d.insts.length := by omega
              have GE := hideIt (G.out.trans (GG.out.trans HI.out))
              go_wp2
              go_ret
              exact ⟨ret_str hu3.out, GE.out⟩



end Go.Proofs.YtocahjbmnkadjaaGreatDoor
