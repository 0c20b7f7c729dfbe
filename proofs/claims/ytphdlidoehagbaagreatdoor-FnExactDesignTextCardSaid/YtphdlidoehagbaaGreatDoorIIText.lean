/-
  The program's line of an instance.
-/
import Derived.Test.YtphdlidoehagbaaGreatDoorITextM
import Derived.Test.YtphdlidoehagbaaGreatDoorSIText
import Derived.Test.YtphdlidoehagbaaGreatDoorShelfJ
namespace Go.Proofs.YtphdlidoehagbaaGreatDoor
open Go.RowKit

set_option maxHeartbeats 16000000 in
set_option maxRecDepth 10000 in
theorem iLine_any {vl a b c0 v0 v1 v2 : Value} {cs : List CellD} {d : DesignD} {x : InstD} {c : CellD} {n : Nat} (w : World) (hl : RCells w vl cs) (hd : RDesign w [a, b, c0] d) (hx : RInst w [v0, v1, v2] x) (hT : InstT cs d x c n) :
    Calls Tryz.prog 80 #[.agg #[a, b, c0], .agg #[vl], .agg #[v0, v1, v2]] w fun e w' => e = .returned (.string (lineB cs d x)) ∧ Grows w w' := by
  have cl := RList.len hl
  obtain ⟨C, nc, rfl⟩ : ∃ (D : Option Addr) (q : Nat), vl = .slice D cs.length q := by obtain ⟨D, q, e, -⟩ := RList.form hl; exact ⟨D, q, e⟩
  have nl := RList.len hd.parts.2.1
  obtain ⟨I, N, O, ni, nn, no, rfl, rfl, rfl⟩ := des_open hd
  obtain ⟨rfl, rfl, hxn, -⟩ := hx.parts
  have xl := RList.len hxn
  obtain ⟨XN, xn, rfl⟩ : ∃ (D : Option Addr) (q : Nat), v2 = .slice D x.nets.length q := by obtain ⟨D, q, e, -⟩ := RList.form hxn; exact ⟨D, q, e⟩
  have EB := hideIt (lineB_of hT)
  have xf := hT.few
  have z1 := hT.nm
  have z2 := hT.cn
  have hc1 : n < cs.length := (List.getElem?_eq_some_iff.1 hT.at_).1
  have HT := hideIt hT
  rw [hT.cell]
  replace hx := hxn
  clear hT hxn
  obtain ⟨i0, hi, hz0, hz1, hz2⟩ := info_parts info_str
  have g : Grows w w := Grows.refl w
  have G : Hid (Grows w (((w.alloc (.cells #[.slice I d.insts.length ni, .slice N d.nets.length nn, .slice O d.ports.length no] 40)).alloc (.cells #[.slice C cs.length nc] 35)).alloc (.cells #[.string x.name, .int .i64 (n : Int), .slice XN x.nets.length xn] 100))) := hideIt ((((Grows.refl w).alloc _).alloc _).alloc _)
  clear g
  have SD : Hid (Blk (((w.alloc (.cells #[.slice I d.insts.length ni, .slice N d.nets.length nn, .slice O d.ports.length no] 40)).alloc (.cells #[.slice C cs.length nc] 35)).alloc (.cells #[.string x.name, .int .i64 (n : Int), .slice XN x.nets.length xn] 100)) (w.heap.size) 40 #[.slice I d.insts.length ni, .slice N d.nets.length nn, .slice O d.ports.length no]) := by
    have := (Blk.new w 40 #[.slice I d.insts.length ni, .slice N d.nets.length nn, .slice O d.ports.length no]).grows (((Grows.refl (w.alloc (.cells #[.slice I d.insts.length ni, .slice N d.nets.length nn, .slice O d.ports.length no] 40))).alloc (.cells #[.slice C cs.length nc] 35)).alloc (.cells #[.string x.name, .int .i64 (n : Int), .slice XN x.nets.length xn] 100))
    exact hideIt (by simpa using this)
  have SL : Hid (Blk (((w.alloc (.cells #[.slice I d.insts.length ni, .slice N d.nets.length nn, .slice O d.ports.length no] 40)).alloc (.cells #[.slice C cs.length nc] 35)).alloc (.cells #[.string x.name, .int .i64 (n : Int), .slice XN x.nets.length xn] 100)) (w.heap.size + 1) 35 #[.slice C cs.length nc]) := by
    have := (Blk.new (w.alloc (.cells #[.slice I d.insts.length ni, .slice N d.nets.length nn, .slice O d.ports.length no] 40)) 35 #[.slice C cs.length nc]).grows ((Grows.refl ((w.alloc (.cells #[.slice I d.insts.length ni, .slice N d.nets.length nn, .slice O d.ports.length no] 40)).alloc (.cells #[.slice C cs.length nc] 35))).alloc (.cells #[.string x.name, .int .i64 (n : Int), .slice XN x.nets.length xn] 100))
    exact hideIt (by simpa using this)
  have PB : Hid (Blk (((w.alloc (.cells #[.slice I d.insts.length ni, .slice N d.nets.length nn, .slice O d.ports.length no] 40)).alloc (.cells #[.slice C cs.length nc] 35)).alloc (.cells #[.string x.name, .int .i64 (n : Int), .slice XN x.nets.length xn] 100)) (w.heap.size + 1 + 1) 100 #[.string x.name, .int .i64 (n : Int), .slice XN x.nets.length xn]) := by
    have := (Blk.new ((w.alloc (.cells #[.slice I d.insts.length ni, .slice N d.nets.length nn, .slice O d.ports.length no] 40)).alloc (.cells #[.slice C cs.length nc] 35)) 100 #[.string x.name, .int .i64 (n : Int), .slice XN x.nets.length xn]).grows (Grows.refl (((w.alloc (.cells #[.slice I d.insts.length ni, .slice N d.nets.length nn, .slice O d.ports.length no] 40)).alloc (.cells #[.slice C cs.length nc] 35)).alloc (.cells #[.string x.name, .int .i64 (n : Int), .slice XN x.nets.length xn] 100)))
    exact hideIt (by simpa using this)
  replace hl := hideIt (hl.keep G.out.keeps)
  replace hd := hideIt (hd.keep G.out.keeps)
  replace hx := hideIt (hx.keep G.out.keeps)
  obtain ⟨bc, oc, rfl, kc⟩ := cellname_at hl.out HT.out.at_
  have l2 : (n : Int) < (cs.length : Int) := by omega
  have l5 : (0 : Int) ≤ (n : Int) := by omega
  have kSD_0 := SD.out.cell 0
  have kSD_1 := SD.out.cell 1
  have kSD_2 := SD.out.cell 2
  have lSD := SD.out.lt
  have kSL_0 := SL.out.cell 0
  have lSL := SL.out.lt
  have kPB_0 := PB.out.cell 0
  have kPB_1 := PB.out.cell 1
  have kPB_2 := PB.out.cell 2
  have lPB := PB.out.lt
  have K0 : ∀ w', Grows (((w.alloc (.cells #[.slice I d.insts.length ni, .slice N d.nets.length nn, .slice O d.ports.length no] 40)).alloc (.cells #[.slice (some ⟨bc, oc, none⟩) cs.length nc] 35)).alloc (.cells #[.string x.name, .int .i64 (n : Int), .slice XN x.nets.length xn] 100)) w' → w'.cell? ⟨w.heap.size + 1 + 1, 0, none⟩ = some (.string x.name) ∧ w'.cell? ⟨w.heap.size + 1 + 1, 1, none⟩ = some (.int .i64 (n : Int)) ∧ w'.cell? ⟨w.heap.size + 1, 0, none⟩ = some (.slice (some ⟨bc, oc, none⟩) cs.length nc) ∧ w'.cell? ⟨bc, oc + n * 7, none⟩ = some (.string c.name) ∧ Grows (((w.alloc (.cells #[.slice I d.insts.length ni, .slice N d.nets.length nn, .slice O d.ports.length no] 40)).alloc (.cells #[.slice (some ⟨bc, oc, none⟩) cs.length nc] 35)).alloc (.cells #[.string x.name, .int .i64 (n : Int), .slice XN x.nets.length xn] 100)) w' := fun w' G => ⟨G.keeps _ _ kPB_0, G.keeps _ _ kPB_1, G.keeps _ _ kSL_0, G.keeps _ _ kc, G⟩
  have HK := hideIt K0
  clear K0
  have gg : Grows (((w.alloc (.cells #[.slice I d.insts.length ni, .slice N d.nets.length nn, .slice O d.ports.length no] 40)).alloc (.cells #[.slice (some ⟨bc, oc, none⟩) cs.length nc] 35)).alloc (.cells #[.string x.name, .int .i64 (n : Int), .slice XN x.nets.length xn] 100)) (((w.alloc (.cells #[.slice I d.insts.length ni, .slice N d.nets.length nn, .slice O d.ports.length no] 40)).alloc (.cells #[.slice (some ⟨bc, oc, none⟩) cs.length nc] 35)).alloc (.cells #[.string x.name, .int .i64 (n : Int), .slice XN x.nets.length xn] 100)) := Grows.refl _
  have BW : Hid (Blk ((((w.alloc (.cells #[.slice I d.insts.length ni, .slice N d.nets.length nn, .slice O d.ports.length no] 40)).alloc (.cells #[.slice (some ⟨bc, oc, none⟩) cs.length nc] 35)).alloc (.cells #[.string x.name, .int .i64 (n : Int), .slice XN x.nets.length xn] 100)).alloc (.cells #[.string ⟨#[105, 110, 115, 116]⟩, .string x.name, .string c.name] 9)) (w.heap.size + 1 + 1 + 1) 9 #[.string ⟨#[105, 110, 115, 116]⟩, .string x.name, .string c.name]) := by
    have := Blk.new (((w.alloc (.cells #[.slice I d.insts.length ni, .slice N d.nets.length nn, .slice O d.ports.length no] 40)).alloc (.cells #[.slice (some ⟨bc, oc, none⟩) cs.length nc] 35)).alloc (.cells #[.string x.name, .int .i64 (n : Int), .slice XN x.nets.length xn] 100)) 9 #[.string ⟨#[105, 110, 115, 116]⟩, .string x.name, .string c.name]
    exact hideIt (by simpa using this)
  have own0 : Hid (((((w.alloc (.cells #[.slice I d.insts.length ni, .slice N d.nets.length nn, .slice O d.ports.length no] 40)).alloc (.cells #[.slice (some ⟨bc, oc, none⟩) cs.length nc] 35)).alloc (.cells #[.string x.name, .int .i64 (n : Int), .slice XN x.nets.length xn] 100)).alloc (.cells #[.string ⟨#[105, 110, 115, 116]⟩, .string x.name, .string c.name] 9)).ownsRow (w.heap.size + 1 + 1 + 1) 9 1 (.slice (some ⟨w.heap.size + 1 + 1 + 1, 0, none⟩) 3 3) (instW d x c 0).length ((instW d x c 0).map Value.string)) := hideIt ⟨rfl, .inr ⟨_, 3, _, rfl, Nat.le_refl _, BW.out, Nat.le_refl _, by unfold maxLen; omega, rfl, rfl⟩⟩
  have GW : Hid (Grows (((w.alloc (.cells #[.slice I d.insts.length ni, .slice N d.nets.length nn, .slice O d.ports.length no] 40)).alloc (.cells #[.slice (some ⟨bc, oc, none⟩) cs.length nc] 35)).alloc (.cells #[.string x.name, .int .i64 (n : Int), .slice XN x.nets.length xn] 100)) ((((w.alloc (.cells #[.slice I d.insts.length ni, .slice N d.nets.length nn, .slice O d.ports.length no] 40)).alloc (.cells #[.slice (some ⟨bc, oc, none⟩) cs.length nc] 35)).alloc (.cells #[.string x.name, .int .i64 (n : Int), .slice XN x.nets.length xn] 100)).alloc (.cells #[.string ⟨#[105, 110, 115, 116]⟩, .string x.name, .string c.name] 9))) := hideIt ((Grows.refl _).alloc _)
  go_enter Tryz.func80, Tryz.ntmps80
  go_wp2
  refine wp_region_held_drew (S := (fun w' => w'.cell? ⟨w.heap.size + 1 + 1, 0, none⟩ = some (.string x.name) ∧ w'.cell? ⟨w.heap.size + 1 + 1, 1, none⟩ = some (.int .i64 (n : Int)) ∧ w'.cell? ⟨w.heap.size + 1, 0, none⟩ = some (.slice (some ⟨bc, oc, none⟩) cs.length nc) ∧ w'.cell? ⟨bc, oc + n * 7, none⟩ = some (.string c.name) ∧ Grows (((w.alloc (.cells #[.slice I d.insts.length ni, .slice N d.nets.length nn, .slice O d.ports.length no] 40)).alloc (.cells #[.slice (some ⟨bc, oc, none⟩) cs.length nc] 35)).alloc (.cells #[.string x.name, .int .i64 (n : Int), .slice XN x.nets.length xn] 100)) w')) (by kernel_rfl) ?_ (fun hh0 => ?_)
  · (try dsimp only); refine HK.out _ ?_; (repeat (first | exact gg | refine Grows.drew ?_ | refine Grows.alloc ?_ _ | refine Grows.setCell ?_ (by simp <;> omega) _))
  refine regTake 0 (v := ?_) ?_ hh0 ?_
  rotate_left
  · intro w hw; (try dsimp only at hw); go_simp; (try with_reducible rfl)
  try simp only [Act.put, List.setIfInBounds_toArray, List.set_cons_zero, List.set_cons_succ]
  refine regTake 1 (v := ?_) ?_ hh0 ?_
  rotate_left
  · intro w hw; (try dsimp only at hw); go_simp; (try with_reducible rfl)
  try simp only [Act.put, List.setIfInBounds_toArray, List.set_cons_zero, List.set_cons_succ]
  refine regTake 2 (v := ?_) ?_ hh0 ?_
  rotate_left
  · intro w hw; (try dsimp only at hw); go_simp; (try with_reducible rfl)
  try simp only [Act.put, List.setIfInBounds_toArray, List.set_cons_zero, List.set_cons_succ]
  refine regTake 3 (v := ?_) ?_ hh0 ?_
  rotate_left
  · intro w hw; (try dsimp only at hw); go_simp; (try with_reducible rfl)
  try simp only [Act.put, List.setIfInBounds_toArray, List.set_cons_zero, List.set_cons_succ]
  refine regTake 4 (v := ?_) ?_ hh0 ?_
  rotate_left
  · intro w hw; (try dsimp only at hw); go_simp; (try with_reducible rfl)
  try simp only [Act.put, List.setIfInBounds_toArray, List.set_cons_zero, List.set_cons_succ]
  refine regTake 5 (v := ?_) ?_ hh0 ?_
  rotate_left
  · intro w hw; (try dsimp only at hw); go_simp; (try with_reducible rfl)
  try simp only [Act.put, List.setIfInBounds_toArray, List.set_cons_zero, List.set_cons_succ]
  refine regTake 6 (v := ?_) ?_ hh0 ?_
  rotate_left
  · intro w hw; (try dsimp only at hw); go_simp; (try with_reducible rfl)
  try simp only [Act.put, List.setIfInBounds_toArray, List.set_cons_zero, List.set_cons_succ]
  refine regTake 7 (v := ?_) ?_ hh0 ?_
  rotate_left
  · intro w hw; (try dsimp only at hw); go_simp; (try with_reducible rfl)
  try simp only [Act.put, List.setIfInBounds_toArray, List.set_cons_zero, List.set_cons_succ]
  refine regTake 8 (v := ?_) ?_ hh0 ?_
  rotate_left
  · intro w hw; (try dsimp only at hw); go_simp; (try with_reducible rfl)
  try simp only [Act.put, List.setIfInBounds_toArray, List.set_cons_zero, List.set_cons_succ]
  refine regCall 9 (fun K hK => ?_)
  go_simp
  
  (try go_wp2_with fail)
  refine hK.out _ _ ?_ (fun hh1 => ?_)
  · (try dsimp only); refine HK.out _ ?_; (repeat (first | exact gg | refine Grows.drew ?_ | refine Grows.alloc ?_ _ | refine Grows.setCell ?_ (by simp <;> omega) _))
  clear hK K hh0
  try simp only [Act.put, List.setIfInBounds_toArray, List.set_cons_zero, List.set_cons_succ]
  refine regTake 10 (v := ?_) ?_ hh1 ?_
  rotate_left
  · intro w hw; (try dsimp only at hw); go_simp; (try with_reducible rfl)
  try simp only [Act.put, List.setIfInBounds_toArray, List.set_cons_zero, List.set_cons_succ]
  refine wpAnyH_done (by kernel_rfl) ?_ _
  clear hh1 HK
  clear gg
  go_wp2
  go_loopw [7, 9, 23] (fun s _ z wr => ∃ (nv : Value) (k : Nat), nv = s ∧ k ≤ x.nets.length ∧ z = .int .i64 (k : Int) ∧ Hid (wr.ownsRow (w.heap.size + 1 + 1 + 1) 9 1 nv (instW d x c k).length ((instW d x c k).map Value.string)) ∧ Grows (((w.alloc (.cells #[.slice I d.insts.length ni, .slice N d.nets.length nn, .slice O d.ports.length no] 40)).alloc (.cells #[.slice (some ⟨bc, oc, none⟩) cs.length nc] 35)).alloc (.cells #[.string x.name, .int .i64 (n : Int), .slice XN x.nets.length xn] 100)) wr) (fun _ _ z _ => x.nets.length - (intOf z).toNat)
  case atStart => exact ⟨_, 0, rfl, Nat.zero_le _, rfl, own0.out, by repeat (first | exact GW.out | refine Grows.drew ?_ | refine Grows.drewN ?_ _)⟩
  case round =>
    obtain ⟨nv, k, rfl, hk, rfl, hown, hg⟩ := hrel
    have HG := hideIt hg
    clear hg
    have wl : (instW d x c k).length ≤ 8 := by unfold instW; simp; omega
    have wl3 : 0 < (instW d x c k).length := by unfold instW; simp
    have qSD_0 := HG.out.keeps _ _ kSD_0
    by_cases hlt : k < x.nets.length
    · obtain ⟨v, hv⟩ : ∃ v, x.nets[k]? = some v := ⟨_, List.getElem?_eq_getElem hlt⟩
      obtain ⟨m, s, rfl, hs, hz⟩ := HT.out.net k v hv
      have hs1 : m < d.nets.length := (List.getElem?_eq_some_iff.1 hs).1
      have SU := hideIt (instW_succ (c := c) hv hs)
      obtain ⟨bx, ox, rfl, q0⟩ := ints_at (RInts.keep hx.out HG.out.keeps) hv
      obtain ⟨bn, on, rfl, q1⟩ := strs_at (RStrs.keep hd.out.parts.2.1 HG.out.keeps) hs
      have m1 : (k : Int) < (x.nets.length : Int) := by omega
      have m2 : (0 : Int) ≤ (k : Int) := by omega
      have m3 : (m : Int) < (d.nets.length : Int) := by omega
      have m4 : (0 : Int) ≤ (m : Int) := by omega
      clear hv hs
      have qSD_1 : wr.cell? ⟨w.heap.size, 1, none⟩ = some (.slice (some ⟨bn, on, none⟩) d.nets.length nn) := HG.out.keeps _ _ kSD_1
      have qSD_2 := HG.out.keeps _ _ kSD_2
      have own1 := hideIt (hown.out.alloc (.cells #[.string s] 9))
      have GA := hideIt (HG.out.alloc (.cells #[.string s] 9))
      have nlt : Hid (∀ q, nv.ownBlock = some q → w.heap.size + 1 + 1 + 1 ≤ q ∧ q < wr.heap.size) := hideIt hown.out.lt
      go_wp2_with (at_builtin; refine wpList_append_own _ rfl _ _ 26 rfl (w.heap.size + 1 + 1 + 1) 9 i0 (.string .empty) 1 16 Tryz.underlying26 hi hz0 hz1 hz2 rfl (by decide) nv (instW d x c k).length ((instW d x c k).map Value.string) rfl own1.out ⟨wr.heap.size, 0, none⟩ 1 1 [.string s] rfl ?c1 ?c2 ?c3 ?c4 ?c5 ?c6 ?_)
      case c1 => simp
      case c2 =>
        intro j u hj
        match j, hj with
        | 0, hj => simp at hj; subst hj; simp [Addr.add]
      case c3 => intro u hu; simp at hu; subst hu; rfl
      case c4 => unfold maxLen; omega
      case c5 => omega
      case c6 => have := GA.out.size; simp at this ⊢; omega
      intro v' w4 hown3 hgrow hnil
      have G4 := hideIt (GA.out.grown hgrow (fun q e => by have h1 := (nlt.out q e).1; simp; omega))
      have OW := hideIt (show w4.ownsRow (w.heap.size + 1 + 1 + 1) 9 1 v' (instW d x c (k + 1)).length ((instW d x c (k + 1)).map Value.string) by rw [SU.out, List.length_append, List.map_append]; exact hown3)
      clear hown3 hgrow hnil own1
      go_wp2
      go_roundw
      case rel => exact ⟨_, k + 1, rfl, by omega, by go_num, OW.out, G4.out⟩
      case measure => simp [intOf]; omega
    · obtain rfl : k = x.nets.length := by omega
      obtain ⟨g, cp, rfl, hlen, hcells, hglt⟩ := own_strsC hown.out (by omega)
      have HC := hideIt hcells
      have JE := hideIt (join_inst d x c x.nets.length)
      have JL : Hid ((Lib.join ((instW d x c x.nets.length).map (·.data.toList)) (⟨#[32]⟩ : ByteArray).data.toList).length ≤ 140737488355328) := hideIt (by
        have h1 := instUp_size HT.out (Nat.le_refl _)
        rw [← join_inst, bsize] at h1
        show (Lib.join ((instW d x c x.nets.length).map (·.data.toList)) [32]).length ≤ _
        omega)
      clear hown hcells
      go_wp2_with fail
      refine (Tryz.strings_Join g 0 cp (instW d x c x.nets.length) ⟨#[32]⟩ _ (fun j s hj => by rw [Nat.zero_add]; exact HC.out j s hj) hglt (by omega) hlen JL.out).mono ?_
      rintro e w9 ⟨rfl, g9⟩
      have G9 := hideIt (G.out.trans (HG.out.trans g9))
      clear g9
      go_wp2
      go_ret
      exact ⟨ret_str (by rw [EB.out, ← JE.out]), G9.out⟩

end Go.Proofs.YtphdlidoehagbaaGreatDoor
