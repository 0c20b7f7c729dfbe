/-
  The reference's line of an instance.
-/
import Derived.Test.YtphdlidoehagbaaGreatDoorITextM
import Derived.Test.YtphdlidoehagbaaGreatDoorPlA
import Derived.Test.YtphdlidoehagbaaGreatDoorGJ
import Derived.Test.YtphdlidoehagbaaGreatDoorOwnI
import Derived.Test.YtphdlidoehagbaaGreatDoorGM
namespace Go.Proofs.YtphdlidoehagbaaGreatDoor
open Go.RowKit

/-- a list of strings, a cell's name, as the walk meets them -/
theorem strs_at {w : World} {A : Option Addr} {n : Nat} {xs : List ByteArray} (h : RStrs w (.slice A xs.length n) xs) {i : Nat} {v : ByteArray} (hi : xs[i]? = some v) : ∃ b off : Nat, A = some ⟨b, off, none⟩ ∧ w.cell? ⟨b, off + i, none⟩ = some (.string v) := by
  obtain ⟨A', n', e, -, -, hx⟩ := RList.form h
  injection e with e1 e2
  subst e1
  obtain ⟨b, off, rfl, ds, hl1, hcs, hr⟩ := hx i v hi
  obtain ⟨rfl, -⟩ := hr
  exact ⟨b, off, rfl, by simpa using hcs 0 _ rfl⟩
theorem cellname_at {w : World} {A : Option Addr} {n : Nat} {cs : List CellD} (h : RCells w (.slice A cs.length n) cs) {i : Nat} {c : CellD} (hi : cs[i]? = some c) : ∃ (b off : Nat), A = some ⟨b, off, none⟩ ∧ w.cell? ⟨b, off + i * 7, none⟩ = some (.string c.name) := by
  obtain ⟨A', n', e, -, -, hx⟩ := RList.form h
  injection e with e1 e2
  subst e1
  obtain ⟨b, off, rfl, ds, hl1, hcs, hr⟩ := hx i c hi
  obtain ⟨d0, d1, d2, d3, d4, d5, d6, rfl⟩ := list7 hl1
  obtain ⟨rfl, -⟩ := hr.parts
  exact ⟨b, off, rfl, by simpa using hcs 0 _ rfl⟩
theorem own_strsC {w : World} {base : Nat} {v : Value} {xs : List ByteArray} (h : w.ownsRow base 9 1 v xs.length (xs.map Value.string)) (h0 : 0 < xs.length) : ∃ g c : Nat, v = .slice (some ⟨g, 0, none⟩) xs.length c ∧ xs.length ≤ c ∧ (∀ (j : Nat) (s : ByteArray), xs[j]? = some s → w.cell? ⟨g, j, none⟩ = some (.string s)) ∧ g < w.heap.size := by
  obtain ⟨hl, ⟨rfl, h1⟩ | ⟨g, c, cur, rfl, hb, hg, h1, h2, h3, h4⟩⟩ := h
  · omega
  · have hB : Blk w g 9 cur := hg
    refine ⟨g, c, rfl, h1, fun j s hj => ?_, hB.lt⟩
    have hi : j < xs.length := (List.getElem?_eq_some_iff.1 hj).1
    have h5 : (cur.toList.take (xs.length * 1))[j]? = some (.string s) := by rw [h4, List.getElem?_map, hj]; rfl
    rw [Nat.mul_one, List.getElem?_take_of_lt hi] at h5
    rw [hB.cell]
    simpa using h5

set_option maxHeartbeats 16000000 in
set_option maxRecDepth 10000 in
theorem sLine_any {vl a b c0 v0 v1 v2 : Value} {cs : List CellD} {d : DesignD} {x : InstD} {c : CellD} {n : Nat} (w : World) (hl : RCells w vl cs) (hd : RDesign w [a, b, c0] d) (hx : RInst w [v0, v1, v2] x) (hT : InstT cs d x c n) :
    Calls Tryz.prog 77 #[.agg #[vl], .agg #[a, b, c0], .agg #[v0, v1, v2]] w fun e w' => e = .returned (.string (lineB cs d x)) ∧ Grows w w' := by
  have cl := RList.len hl
  obtain ⟨C, nc, rfl⟩ : ∃ (D : Option Addr) (q : Nat), vl = .slice D cs.length q := by obtain ⟨D, q, e, -⟩ := RList.form hl; exact ⟨D, q, e⟩
  have nl := RList.len hd.parts.2.1
  obtain ⟨I, N, O, ni, nn, no, rfl, rfl, rfl⟩ := des_open hd
  obtain ⟨rfl, rfl, hxn, -⟩ := hx.parts
  have xl := RList.len hxn
  obtain ⟨XN, xn, rfl⟩ : ∃ (D : Option Addr) (q : Nat), v2 = .slice D x.nets.length q := by obtain ⟨D, q, e, -⟩ := RList.form hxn; exact ⟨D, q, e⟩
  have EB := hideIt (lineB_of hT)
  have xf := hT.few
  have z1 := hT.nm
  have z2 := hT.cn
  have hc1 : n < cs.length := (List.getElem?_eq_some_iff.1 hT.at_).1
  have HT := hideIt hT
  rw [hT.cell]
  replace hx := hxn
  clear hT hxn
  have g : Grows w w := Grows.refl w
  have G : Hid (Grows w (((w.alloc (.cells #[.slice C cs.length nc] 35)).alloc (.cells #[.slice I d.insts.length ni, .slice N d.nets.length nn, .slice O d.ports.length no] 40)).alloc (.cells #[.string x.name, .int .i64 (n : Int), .slice XN x.nets.length xn] 100))) := hideIt ((((Grows.refl w).alloc _).alloc _).alloc _)
  clear g
  have SL : Hid (Blk (((w.alloc (.cells #[.slice C cs.length nc] 35)).alloc (.cells #[.slice I d.insts.length ni, .slice N d.nets.length nn, .slice O d.ports.length no] 40)).alloc (.cells #[.string x.name, .int .i64 (n : Int), .slice XN x.nets.length xn] 100)) (w.heap.size) 35 #[.slice C cs.length nc]) := by
    have := (Blk.new w 35 #[.slice C cs.length nc]).grows (((Grows.refl (w.alloc (.cells #[.slice C cs.length nc] 35))).alloc (.cells #[.slice I d.insts.length ni, .slice N d.nets.length nn, .slice O d.ports.length no] 40)).alloc (.cells #[.string x.name, .int .i64 (n : Int), .slice XN x.nets.length xn] 100))
    exact hideIt (by simpa using this)
  have SD : Hid (Blk (((w.alloc (.cells #[.slice C cs.length nc] 35)).alloc (.cells #[.slice I d.insts.length ni, .slice N d.nets.length nn, .slice O d.ports.length no] 40)).alloc (.cells #[.string x.name, .int .i64 (n : Int), .slice XN x.nets.length xn] 100)) (w.heap.size + 1) 40 #[.slice I d.insts.length ni, .slice N d.nets.length nn, .slice O d.ports.length no]) := by
    have := (Blk.new (w.alloc (.cells #[.slice C cs.length nc] 35)) 40 #[.slice I d.insts.length ni, .slice N d.nets.length nn, .slice O d.ports.length no]).grows ((Grows.refl ((w.alloc (.cells #[.slice C cs.length nc] 35)).alloc (.cells #[.slice I d.insts.length ni, .slice N d.nets.length nn, .slice O d.ports.length no] 40))).alloc (.cells #[.string x.name, .int .i64 (n : Int), .slice XN x.nets.length xn] 100))
    exact hideIt (by simpa using this)
  have PB : Hid (Blk (((w.alloc (.cells #[.slice C cs.length nc] 35)).alloc (.cells #[.slice I d.insts.length ni, .slice N d.nets.length nn, .slice O d.ports.length no] 40)).alloc (.cells #[.string x.name, .int .i64 (n : Int), .slice XN x.nets.length xn] 100)) (w.heap.size + 1 + 1) 100 #[.string x.name, .int .i64 (n : Int), .slice XN x.nets.length xn]) := by
    have := (Blk.new ((w.alloc (.cells #[.slice C cs.length nc] 35)).alloc (.cells #[.slice I d.insts.length ni, .slice N d.nets.length nn, .slice O d.ports.length no] 40)) 100 #[.string x.name, .int .i64 (n : Int), .slice XN x.nets.length xn]).grows (Grows.refl (((w.alloc (.cells #[.slice C cs.length nc] 35)).alloc (.cells #[.slice I d.insts.length ni, .slice N d.nets.length nn, .slice O d.ports.length no] 40)).alloc (.cells #[.string x.name, .int .i64 (n : Int), .slice XN x.nets.length xn] 100)))
    exact hideIt (by simpa using this)
  replace hl := hideIt (hl.keep G.out.keeps)
  replace hd := hideIt (hd.keep G.out.keeps)
  replace hx := hideIt (hx.keep G.out.keeps)
  obtain ⟨bc, oc, rfl, kc⟩ := cellname_at hl.out HT.out.at_
  have l2 : (n : Int) < (cs.length : Int) := by omega
  have l5 : (0 : Int) ≤ (n : Int) := by omega
  have kSL_0 := SL.out.cell 0
  have lSL := SL.out.lt
  have kSD_0 := SD.out.cell 0
  have kSD_1 := SD.out.cell 1
  have kSD_2 := SD.out.cell 2
  have lSD := SD.out.lt
  have kPB_0 := PB.out.cell 0
  have kPB_1 := PB.out.cell 1
  have kPB_2 := PB.out.cell 2
  have lPB := PB.out.lt
  have K0 : ∀ w', Grows (((w.alloc (.cells #[.slice (some ⟨bc, oc, none⟩) cs.length nc] 35)).alloc (.cells #[.slice I d.insts.length ni, .slice N d.nets.length nn, .slice O d.ports.length no] 40)).alloc (.cells #[.string x.name, .int .i64 (n : Int), .slice XN x.nets.length xn] 100)) w' → w'.cell? ⟨w.heap.size + 1 + 1, 0, none⟩ = some (.string x.name) ∧ w'.cell? ⟨w.heap.size + 1 + 1, 1, none⟩ = some (.int .i64 (n : Int)) ∧ w'.cell? ⟨w.heap.size, 0, none⟩ = some (.slice (some ⟨bc, oc, none⟩) cs.length nc) ∧ w'.cell? ⟨bc, oc + n * 7, none⟩ = some (.string c.name) ∧ Grows (((w.alloc (.cells #[.slice (some ⟨bc, oc, none⟩) cs.length nc] 35)).alloc (.cells #[.slice I d.insts.length ni, .slice N d.nets.length nn, .slice O d.ports.length no] 40)).alloc (.cells #[.string x.name, .int .i64 (n : Int), .slice XN x.nets.length xn] 100)) w' := fun w' G => ⟨G.keeps _ _ kPB_0, G.keeps _ _ kPB_1, G.keeps _ _ kSL_0, G.keeps _ _ kc, G⟩
  have HK := hideIt K0
  clear K0
  have gg : Grows (((w.alloc (.cells #[.slice (some ⟨bc, oc, none⟩) cs.length nc] 35)).alloc (.cells #[.slice I d.insts.length ni, .slice N d.nets.length nn, .slice O d.ports.length no] 40)).alloc (.cells #[.string x.name, .int .i64 (n : Int), .slice XN x.nets.length xn] 100)) (((w.alloc (.cells #[.slice (some ⟨bc, oc, none⟩) cs.length nc] 35)).alloc (.cells #[.slice I d.insts.length ni, .slice N d.nets.length nn, .slice O d.ports.length no] 40)).alloc (.cells #[.string x.name, .int .i64 (n : Int), .slice XN x.nets.length xn] 100)) := Grows.refl _
  have tz1 : ¬ 9223372036854775807 < 5 + x.name.size := by omega
  have ez1 : ((⟨#[105, 110, 115, 116, 32]⟩ : ByteArray) ++ x.name).size = 5 + x.name.size := ByteArray.size_append
  have ez2 : ((⟨#[105, 110, 115, 116, 32]⟩ : ByteArray) ++ x.name ++ (⟨#[32]⟩ : ByteArray)).size = 5 + x.name.size + 1 := by rw [ByteArray.size_append, ez1]; rfl
  have tz2 : ¬ 9223372036854775807 < 5 + x.name.size + 1 := by omega
  have tz3 : ¬ 9223372036854775807 < 5 + x.name.size + 1 + c.name.size := by omega
  go_enter Tryz.func77, Tryz.ntmps77
  go_wp2
  refine wp_region_held_drew (S := (fun w' => w'.cell? ⟨w.heap.size + 1 + 1, 0, none⟩ = some (.string x.name) ∧ w'.cell? ⟨w.heap.size + 1 + 1, 1, none⟩ = some (.int .i64 (n : Int)) ∧ w'.cell? ⟨w.heap.size, 0, none⟩ = some (.slice (some ⟨bc, oc, none⟩) cs.length nc) ∧ w'.cell? ⟨bc, oc + n * 7, none⟩ = some (.string c.name) ∧ Grows (((w.alloc (.cells #[.slice (some ⟨bc, oc, none⟩) cs.length nc] 35)).alloc (.cells #[.slice I d.insts.length ni, .slice N d.nets.length nn, .slice O d.ports.length no] 40)).alloc (.cells #[.string x.name, .int .i64 (n : Int), .slice XN x.nets.length xn] 100)) w')) (by kernel_rfl) ?_ (fun hh0 => ?_)
  · (try dsimp only); refine HK.out _ ?_; (repeat (first | exact gg | refine Grows.drew ?_ | refine Grows.alloc ?_ _ | refine Grows.setCell ?_ (by simp <;> omega) _))
  refine regTake 0 (v := ?_) ?_ hh0 ?_
  rotate_left
  · intro w hw; (try dsimp only at hw); go_simp; (try with_reducible rfl)
  try simp only [Act.put, List.setIfInBounds_toArray, List.set_cons_zero, List.set_cons_succ]
  refine regTake 1 (v := ?_) ?_ hh0 ?_
  rotate_left
  · intro w hw; (try dsimp only at hw); go_simp; (try with_reducible rfl)
  try simp only [Act.put, List.setIfInBounds_toArray, List.set_cons_zero, List.set_cons_succ]
  refine regTake 2 (v := ?_) ?_ hh0 ?_
  rotate_left
  · intro w hw; (try dsimp only at hw); go_simp; (try with_reducible rfl)
  try simp only [Act.put, List.setIfInBounds_toArray, List.set_cons_zero, List.set_cons_succ]
  refine regTake 3 (v := ?_) ?_ hh0 ?_
  rotate_left
  · intro w hw; (try dsimp only at hw); go_simp; (try with_reducible rfl)
  try simp only [Act.put, List.setIfInBounds_toArray, List.set_cons_zero, List.set_cons_succ]
  refine regTake 4 (v := ?_) ?_ hh0 ?_
  rotate_left
  · intro w hw; (try dsimp only at hw); go_simp; (try with_reducible rfl)
  try simp only [Act.put, List.setIfInBounds_toArray, List.set_cons_zero, List.set_cons_succ]
  refine regTake 5 (v := ?_) ?_ hh0 ?_
  rotate_left
  · intro w hw; (try dsimp only at hw); go_simp; (try with_reducible rfl)
  try simp only [Act.put, List.setIfInBounds_toArray, List.set_cons_zero, List.set_cons_succ]
  refine regTake 6 (v := ?_) ?_ hh0 ?_
  rotate_left
  · intro w hw; (try dsimp only at hw); go_simp; (try with_reducible rfl)
  try simp only [Act.put, List.setIfInBounds_toArray, List.set_cons_zero, List.set_cons_succ]
  refine regTake 7 (v := ?_) ?_ hh0 ?_
  rotate_left
  · intro w hw; (try dsimp only at hw); go_simp; (try with_reducible rfl)
  try simp only [Act.put, List.setIfInBounds_toArray, List.set_cons_zero, List.set_cons_succ]
  refine regTake 8 (v := ?_) ?_ hh0 ?_
  rotate_left
  · intro w hw; (try dsimp only at hw); go_simp; (try with_reducible rfl)
  try simp only [Act.put, List.setIfInBounds_toArray, List.set_cons_zero, List.set_cons_succ]
  refine regTake 9 (v := ?_) ?_ hh0 ?_
  rotate_left
  · intro w hw; (try dsimp only at hw); go_simp; (try with_reducible rfl)
  try simp only [Act.put, List.setIfInBounds_toArray, List.set_cons_zero, List.set_cons_succ]
  refine regTake 10 (v := ?_) ?_ hh0 ?_
  rotate_left
  · intro w hw; (try dsimp only at hw); go_simp; (try with_reducible rfl)
  try simp only [Act.put, List.setIfInBounds_toArray, List.set_cons_zero, List.set_cons_succ]
  refine regTake 11 (v := ?_) ?_ hh0 ?_
  rotate_left
  · intro w hw; (try dsimp only at hw); go_simp; (try with_reducible rfl)
  try simp only [Act.put, List.setIfInBounds_toArray, List.set_cons_zero, List.set_cons_succ]
  refine regTake 12 (v := ?_) ?_ hh0 ?_
  rotate_left
  · intro w hw; (try dsimp only at hw); go_simp; (try with_reducible rfl)
  try simp only [Act.put, List.setIfInBounds_toArray, List.set_cons_zero, List.set_cons_succ]
  refine wpAnyH_done (by kernel_rfl) ?_ _
  clear hh0 HK
  clear tz1 tz2 tz3 ez1 ez2 gg
  go_wp2
  go_loopw [7, 8] (fun s z wr => ∃ (u : ByteArray) (k : Nat), s = .string u ∧ k ≤ x.nets.length ∧ z = .int .i64 (k : Int) ∧ Hid (u = instUp d x c k) ∧ u.size ≤ 22 + 9 * k ∧ Grows (((w.alloc (.cells #[.slice (some ⟨bc, oc, none⟩) cs.length nc] 35)).alloc (.cells #[.slice I d.insts.length ni, .slice N d.nets.length nn, .slice O d.ports.length no] 40)).alloc (.cells #[.string x.name, .int .i64 (n : Int), .slice XN x.nets.length xn] 100)) wr) (fun _ z _ => x.nets.length - (intOf z).toNat)
  case atStart => exact ⟨_, 0, rfl, Nat.zero_le _, rfl, hideIt rfl, instHead_size HT.out, by repeat (first | exact Grows.refl _ | refine Grows.drew ?_ | refine Grows.drewN ?_ _)⟩
  case round =>
    obtain ⟨u, k, rfl, hk, rfl, hu, hus, hg⟩ := hrel
    have HG := hideIt hg
    clear hg
    have qPB_2 : wr.cell? ⟨w.heap.size + 1 + 1, 2, none⟩ = some (.slice XN x.nets.length xn) := HG.out.keeps _ _ kPB_2
    by_cases hlt : k < x.nets.length
    · obtain ⟨v, hv⟩ : ∃ v, x.nets[k]? = some v := ⟨_, List.getElem?_eq_getElem hlt⟩
      obtain ⟨m, s, rfl, hs, hz⟩ := HT.out.net k v hv
      have hs1 : m < d.nets.length := (List.getElem?_eq_some_iff.1 hs).1
      have SU := hideIt (instUp_succ (c := c) hv hs)
      obtain ⟨bx, ox, rfl, q0⟩ := ints_at (RInts.keep hx.out HG.out.keeps) hv
      obtain ⟨bn, on, rfl, q1⟩ := strs_at (RStrs.keep hd.out.parts.2.1 HG.out.keeps) hs
      have m1 : (k : Int) < (x.nets.length : Int) := by omega
      have m2 : (0 : Int) ≤ (k : Int) := by omega
      have m3 : (m : Int) < (d.nets.length : Int) := by omega
      have m4 : (0 : Int) ≤ (m : Int) := by omega
      clear hv hs
      have qSD_1 : wr.cell? ⟨w.heap.size + 1, 1, none⟩ = some (.slice (some ⟨bn, on, none⟩) d.nets.length nn) := HG.out.keeps _ _ kSD_1
      have K0 : ∀ w', Grows wr w' → w'.cell? ⟨w.heap.size + 1, 1, none⟩ = some (.slice (some ⟨bn, on, none⟩) d.nets.length nn) ∧ w'.cell? ⟨w.heap.size + 1 + 1, 2, none⟩ = some (.slice (some ⟨bx, ox, none⟩) x.nets.length xn) ∧ w'.cell? ⟨bx, ox + k, none⟩ = some (.int .i64 (m : Int)) ∧ w'.cell? ⟨bn, on + m, none⟩ = some (.string s) ∧ Grows wr w' := fun w' G => ⟨G.keeps _ _ qSD_1, G.keeps _ _ qPB_2, G.keeps _ _ q0, G.keeps _ _ q1, G⟩
      have HK := hideIt K0
      clear K0
      have gg : Grows wr wr := Grows.refl _
      have tz1 : ¬ 9223372036854775807 < u.size + 1 := by omega
      have ez1 : (u ++ (⟨#[32]⟩ : ByteArray)).size = u.size + 1 := ByteArray.size_append
      have tz2 : ¬ 9223372036854775807 < u.size + 1 + s.size := by omega
      go_wp2
      refine wp_region_held_drew (S := (fun w' => w'.cell? ⟨w.heap.size + 1, 1, none⟩ = some (.slice (some ⟨bn, on, none⟩) d.nets.length nn) ∧ w'.cell? ⟨w.heap.size + 1 + 1, 2, none⟩ = some (.slice (some ⟨bx, ox, none⟩) x.nets.length xn) ∧ w'.cell? ⟨bx, ox + k, none⟩ = some (.int .i64 (m : Int)) ∧ w'.cell? ⟨bn, on + m, none⟩ = some (.string s) ∧ Grows wr w')) (by kernel_rfl) ?_ (fun hh0 => ?_)
      · (try dsimp only); refine HK.out _ ?_; (repeat (first | exact gg | refine Grows.drew ?_ | refine Grows.alloc ?_ _ | refine Grows.setCell ?_ (by simp <;> omega) _))
      refine regTake 0 (v := ?_) ?_ hh0 ?_
      rotate_left
      · intro w hw; (try dsimp only at hw); go_simp; (try with_reducible rfl)
      try simp only [Act.put, List.setIfInBounds_toArray, List.set_cons_zero, List.set_cons_succ]
      refine regTake 1 (v := ?_) ?_ hh0 ?_
      rotate_left
      · intro w hw; (try dsimp only at hw); go_simp; (try with_reducible rfl)
      try simp only [Act.put, List.setIfInBounds_toArray, List.set_cons_zero, List.set_cons_succ]
      refine regTake 2 (v := ?_) ?_ hh0 ?_
      rotate_left
      · intro w hw; (try dsimp only at hw); go_simp; (try with_reducible rfl)
      try simp only [Act.put, List.setIfInBounds_toArray, List.set_cons_zero, List.set_cons_succ]
      refine regTake 3 (v := ?_) ?_ hh0 ?_
      rotate_left
      · intro w hw; (try dsimp only at hw); go_simp; (try with_reducible rfl)
      try simp only [Act.put, List.setIfInBounds_toArray, List.set_cons_zero, List.set_cons_succ]
      refine regTake 4 (v := ?_) ?_ hh0 ?_
      rotate_left
      · intro w hw; (try dsimp only at hw); go_simp; (try with_reducible rfl)
      try simp only [Act.put, List.setIfInBounds_toArray, List.set_cons_zero, List.set_cons_succ]
      refine regTake 5 (v := ?_) ?_ hh0 ?_
      rotate_left
      · intro w hw; (try dsimp only at hw); go_simp; (try with_reducible rfl)
      try simp only [Act.put, List.setIfInBounds_toArray, List.set_cons_zero, List.set_cons_succ]
      refine regTake 6 (v := ?_) ?_ hh0 ?_
      rotate_left
      · intro w hw; (try dsimp only at hw); go_simp; (try with_reducible rfl)
      try simp only [Act.put, List.setIfInBounds_toArray, List.set_cons_zero, List.set_cons_succ]
      refine regTake 7 (v := ?_) ?_ hh0 ?_
      rotate_left
      · intro w hw; (try dsimp only at hw); go_simp; (try with_reducible rfl)
      try simp only [Act.put, List.setIfInBounds_toArray, List.set_cons_zero, List.set_cons_succ]
      refine regTake 8 (v := ?_) ?_ hh0 ?_
      rotate_left
      · intro w hw; (try dsimp only at hw); go_simp; (try with_reducible rfl)
      try simp only [Act.put, List.setIfInBounds_toArray, List.set_cons_zero, List.set_cons_succ]
      refine regTake 9 (v := ?_) ?_ hh0 ?_
      rotate_left
      · intro w hw; (try dsimp only at hw); go_simp; (try with_reducible rfl)
      try simp only [Act.put, List.setIfInBounds_toArray, List.set_cons_zero, List.set_cons_succ]
      refine regTake 10 (v := ?_) ?_ hh0 ?_
      rotate_left
      · intro w hw; (try dsimp only at hw); go_simp; (try with_reducible rfl)
      try simp only [Act.put, List.setIfInBounds_toArray, List.set_cons_zero, List.set_cons_succ]
      refine regTake 11 (v := ?_) ?_ hh0 ?_
      rotate_left
      · intro w hw; (try dsimp only at hw); go_simp; (try with_reducible rfl)
      try simp only [Act.put, List.setIfInBounds_toArray, List.set_cons_zero, List.set_cons_succ]
      refine regTake 12 (v := ?_) ?_ hh0 ?_
      rotate_left
      · intro w hw; (try dsimp only at hw); go_simp; (try with_reducible rfl)
      try simp only [Act.put, List.setIfInBounds_toArray, List.set_cons_zero, List.set_cons_succ]
      refine wpAnyH_done (by kernel_rfl) ?_ _
      clear hh0 HK
      have ez2 : (u ++ (⟨#[32]⟩ : ByteArray) ++ s).size ≤ 22 + 9 * (k + 1) := by rw [ByteArray.size_append, ez1]; omega
      clear tz1 tz2 ez1 gg
      go_wp2
      go_roundw
      case rel => exact ⟨_, k + 1, rfl, by omega, by go_num, hideIt (by rw [SU.out, ← hu.out]; rfl), ez2, by repeat (first | exact HG.out | refine Grows.drew ?_ | refine Grows.drewN ?_ _)⟩
      case measure => simp [intOf]; omega
    · obtain rfl : k = x.nets.length := by omega
      go_wp2
      go_ret
      exact ⟨ret_str (by rw [EB.out, ← hu.out]), G.out.trans HG.out⟩

end Go.Proofs.YtphdlidoehagbaaGreatDoor
