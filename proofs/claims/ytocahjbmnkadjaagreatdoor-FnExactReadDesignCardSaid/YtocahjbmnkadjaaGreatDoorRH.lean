/-
  The program's line of an instance.
-/
import Derived.Test.YtocahjbmnkadjaaGreatDoorRF
import Derived.Test.YtocahjbmnkadjaaGreatDoorRG
import Derived.Test.YtocahjbmnkadjaaGreatDoorShelfJ
import Derived.Test.YtocahjbmnkadjaaGreatDoorIDes
namespace Go.Proofs.YtocahjbmnkadjaaGreatDoor
open Go.RowKit

set_option maxHeartbeats 16000000 in
set_option maxRecDepth 10000 in
theorem iLine_any {vl a b c0 v0 v1 v2 : Value} {cs : List CellD} {d : DesignD} {x : InstD} {c : CellD} {n : Nat} (w : World) (hl : RCells w vl cs) (hd : RDesign w [a, b, c0] d) (hx : RInst w [v0, v1, v2] x) (hT : InstT cs d x c n) :
    Calls Tryz.prog 79 #[.agg #[a, b, c0], .agg #[vl], .agg #[v0, v1, v2]] w fun e w' => e = .returned (.string (lineB cs d x)) ∧ Grows w w' := by
  have cl := RList.len hl
  obtain ⟨C, nc, rfl⟩ : ∃ (D : Option Addr) (q : Nat), vl = .slice D cs.length q := by obtain ⟨D, q, e, -⟩ := RList.form hl; exact ⟨D, q, e⟩
  have nl := RList.len hd.parts.2.1
  obtain ⟨I, N, O, ni, nn, no, rfl, rfl, rfl⟩ := des_open hd
  obtain ⟨rfl, rfl, hxn, -⟩ := hx.parts
  have xl := RList.len hxn
  obtain ⟨XN, xn, rfl⟩ : ∃ (D : Option Addr) (q : Nat), v2 = .slice D x.nets.length q := by obtain ⟨D, q, e, -⟩ := RList.form hxn; exact ⟨D, q, e⟩
  have EB := hideIt (lineB_of hT)
  have xf := hT.few
  have z1 := hT.nm
  have z2 := hT.cn
  have hc1 : n < cs.length := (List.getElem?_eq_some_iff.1 hT.at_).1
  have HT := hideIt hT
  rw [hT.cell]
  replace hx := hxn
  clear hT hxn
  obtain ⟨i0, hi, hz0, hz1, hz2⟩ := info_parts info_str
  have g : Grows w w := Grows.refl w
  have G : Hid (Grows w (((w.alloc (.cells #[.slice I d.insts.length ni, .slice N d.nets.length nn, .slice O d.ports.length no] 30)).alloc (.cells #[.slice C cs.length nc] 35)).alloc (.cells #[.string x.name, .int .i64 (n : Int), .slice XN x.nets.length xn] 77))) := hideIt ((((Grows.refl w).alloc _).alloc _).alloc _)
  clear g
  have SD : Hid (Blk (((w.alloc (.cells #[.slice I d.insts.length ni, .slice N d.nets.length nn, .slice O d.ports.length no] 30)).alloc (.cells #[.slice C cs.length nc] 35)).alloc (.cells #[.string x.name, .int .i64 (n : Int), .slice XN x.nets.length xn] 77)) (w.heap.size) 30 #[.slice I d.insts.length ni, .slice N d.nets.length nn, .slice O d.ports.length no]) := by
    have := (Blk.new w 30 #[.slice I d.insts.length ni, .slice N d.nets.length nn, .slice O d.ports.length no]).grows (((Grows.refl (w.alloc (.cells #[.slice I d.insts.length ni, .slice N d.nets.length nn, .slice O d.ports.length no] 30))).alloc (.cells #[.slice C cs.length nc] 35)).alloc (.cells #[.string x.name, .int .i64 (n : Int), .slice XN x.nets.length xn] 77))
    exact hideIt (by simpa using this)
  have SL : Hid (Blk (((w.alloc (.cells #[.slice I d.insts.length ni, .slice N d.nets.length nn, .slice O d.ports.length no] 30)).alloc (.cells #[.slice C cs.length nc] 35)).alloc (.cells #[.string x.name, .int .i64 (n : Int), .slice XN x.nets.length xn] 77)) (w.heap.size + 1) 35 #[.slice C cs.length nc]) := by
    have := (Blk.new (w.alloc (.cells #[.slice I d.insts.length ni, .slice N d.nets.length nn, .slice O d.ports.length no] 30)) 35 #[.slice C cs.length nc]).grows ((Grows.refl ((w.alloc (.cells #[.slice I d.insts.length ni, .slice N d.nets.length nn, .slice O d.ports.length no] 30)).alloc (.cells #[.slice C cs.length nc] 35))).alloc (.cells #[.string x.name, .int .i64 (n : Int), .slice XN x.nets.length xn] 77))
    exact hideIt (by simpa using this)
  have PB : Hid (Blk (((w.alloc (.cells #[.slice I d.insts.length ni, .slice N d.nets.length nn, .slice O d.ports.length no] 30)).alloc (.cells #[.slice C cs.length nc] 35)).alloc (.cells #[.string x.name, .int .i64 (n : Int), .slice XN x.nets.length xn] 77)) (w.heap.size + 1 + 1) 77 #[.string x.name, .int .i64 (n : Int), .slice XN x.nets.length xn]) := by
    have := (Blk.new ((w.alloc (.cells #[.slice I d.insts.length ni, .slice N d.nets.length nn, .slice O d.ports.length no] 30)).alloc (.cells #[.slice C cs.length nc] 35)) 77 #[.string x.name, .int .i64 (n : Int), .slice XN x.nets.length xn]).grows (Grows.refl (((w.alloc (.cells #[.slice I d.insts.length ni, .slice N d.nets.length nn, .slice O d.ports.length no] 30)).alloc (.cells #[.slice C cs.length nc] 35)).alloc (.cells #[.string x.name, .int .i64 (n : Int), .slice XN x.nets.length xn] 77)))
    exact hideIt (by simpa using this)
  replace hl := hideIt (hl.keep G.out.keeps)
  replace hd := hideIt (hd.keep G.out.keeps)
  replace hx := hideIt (hx.keep G.out.keeps)
  obtain ⟨bc, oc, rfl, kc⟩ := cellname_at hl.out HT.out.at_
  have l2 : (n : Int) < (cs.length : Int) := by omega
  have l5 : (0 : Int) ≤ (n : Int) := by omega
  have kSD_0 := SD.out.cell 0
  have kSD_1 := SD.out.cell 1
  have kSD_2 := SD.out.cell 2
  have lSD := SD.out.lt
  have kSL_0 := SL.out.cell 0
  have lSL := SL.out.lt
  have kPB_0 := PB.out.cell 0
  have kPB_1 := PB.out.cell 1
  have kPB_2 := PB.out.cell 2
  have lPB := PB.out.lt
  have K0 : ∀ w', Grows (((w.alloc (.cells #[.slice I d.insts.length ni, .slice N d.nets.length nn, .slice O d.ports.length no] 30)).alloc (.cells #[.slice (some ⟨bc, oc, none⟩) cs.length nc] 35)).alloc (.cells #[.string x.name, .int .i64 (n : Int), .slice XN x.nets.length xn] 77)) w' → w'.cell? ⟨w.heap.size + 1 + 1, 0, none⟩ = some (.string x.name) ∧ w'.cell? ⟨w.heap.size + 1 + 1, 1, none⟩ = some (.int .i64 (n : Int)) ∧ w'.cell? ⟨w.heap.size + 1, 0, none⟩ = some (.slice (some ⟨bc, oc, none⟩) cs.length nc) ∧ w'.cell? ⟨bc, oc + n * 7, none⟩ = some (.string c.name) ∧ Grows (((w.alloc (.cells #[.slice I d.insts.length ni, .slice N d.nets.length nn, .slice O d.ports.length no] 30)).alloc (.cells #[.slice (some ⟨bc, oc, none⟩) cs.length nc] 35)).alloc (.cells #[.string x.name, .int .i64 (n : Int), .slice XN x.nets.length xn] 77)) w' := fun w' G => ⟨G.keeps _ _ kPB_0, G.keeps _ _ kPB_1, G.keeps _ _ kSL_0, G.keeps _ _ kc, G⟩
  have HK := hideIt K0
  clear K0
  have gg : Grows (((w.alloc (.cells #[.slice I d.insts.length ni, .slice N d.nets.length nn, .slice O d.ports.length no] 30)).alloc (.cells #[.slice (some ⟨bc, oc, none⟩) cs.length nc] 35)).alloc (.cells #[.string x.name, .int .i64 (n : Int), .slice XN x.nets.length xn] 77)) (((w.alloc (.cells #[.slice I d.insts.length ni, .slice N d.nets.length nn, .slice O d.ports.length no] 30)).alloc (.cells #[.slice (some ⟨bc, oc, none⟩) cs.length nc] 35)).alloc (.cells #[.string x.name, .int .i64 (n : Int), .slice XN x.nets.length xn] 77)) := Grows.refl _
  have BW : Hid (Blk ((((w.alloc (.cells #[.slice I d.insts.length ni, .slice N d.nets.length nn, .slice O d.ports.length no] 30)).alloc (.cells #[.slice (some ⟨bc, oc, none⟩) cs.length nc] 35)).alloc (.cells #[.string x.name, .int .i64 (n : Int), .slice XN x.nets.length xn] 77)).alloc (.cells #[.string ⟨#[105, 110, 115, 116]⟩, .string x.name, .string c.name] 9)) (w.heap.size + 1 + 1 + 1) 9 #[.string ⟨#[105, 110, 115, 116]⟩, .string x.name, .string c.name]) := by
    have := Blk.new (((w.alloc (.cells #[.slice I d.insts.length ni, .slice N d.nets.length nn, .slice O d.ports.length no] 30)).alloc (.cells #[.slice (some ⟨bc, oc, none⟩) cs.length nc] 35)).alloc (.cells #[.string x.name, .int .i64 (n : Int), .slice XN x.nets.length xn] 77)) 9 #[.string ⟨#[105, 110, 115, 116]⟩, .string x.name, .string c.name]
    exact hideIt (by simpa using this)
  have own0 : Hid (((((w.alloc (.cells #[.slice I d.insts.length ni, .slice N d.nets.length nn, .slice O d.ports.length no] 30)).alloc (.cells #[.slice (some ⟨bc, oc, none⟩) cs.length nc] 35)).alloc (.cells #[.string x.name, .int .i64 (n : Int), .slice XN x.nets.length xn] 77)).alloc (.cells #[.string ⟨#[105, 110, 115, 116]⟩, .string x.name, .string c.name] 9)).ownsRow (w.heap.size + 1 + 1 + 1) 9 1 (.slice (some ⟨w.heap.size + 1 + 1 + 1, 0, none⟩) 3 3) (instW d x c 0).length ((instW d x c 0).map Value.string)) := hideIt ⟨rfl, .inr ⟨_, 3, _, rfl, Nat.le_refl _, BW.out, Nat.le_refl _, by unfold maxLen; omega, rfl, rfl⟩⟩
  have GW : Hid (Grows (((w.alloc (.cells #[.slice I d.insts.length ni, .slice N d.nets.length nn, .slice O d.ports.length no] 30)).alloc (.cells #[.slice (some ⟨bc, oc, none⟩) cs.length nc] 35)).alloc (.cells #[.string x.name, .int .i64 (n : Int), .slice XN x.nets.length xn] 77)) ((((w.alloc (.cells #[.slice I d.insts.length ni, .slice N d.nets.length nn, .slice O d.ports.length no] 30)).alloc (.cells #[.slice (some ⟨bc, oc, none⟩) cs.length nc] 35)).alloc (.cells #[.string x.name, .int .i64 (n : Int), .slice XN x.nets.length xn] 77)).alloc (.cells #[.string ⟨#[105, 110, 115, 116]⟩, .string x.name, .string c.name] 9))) := hideIt ((Grows.refl _).alloc _)
  go_enter Tryz.func79, Tryz.ntmps79
  go_wp2
  refine wp_region_held_drew (S := (fun w' => w'.cell? ⟨w.heap.size + 1 + 1, 0, none⟩ = some (.string x.name) ∧ w'.cell? ⟨w.heap.size + 1 + 1, 1, none⟩ = some (.int .i64 (n : Int)) ∧ w'.cell? ⟨w.heap.size + 1, 0, none⟩ = some (.slice (some ⟨bc, oc, none⟩) cs.length nc) ∧ w'.cell? ⟨bc, oc + n * 7, none⟩ = some (.string c.name) ∧ Grows (((w.alloc (.cells #[.slice I d.insts.length ni, .slice N d.nets.length nn, .slice O d.ports.length no] 30)).alloc (.cells #[.slice (some ⟨bc, oc, none⟩) cs.length nc] 35)).alloc (.cells #[.string x.name, .int .i64 (n : Int), .slice XN x.nets.length xn] 77)) w')) (by kernel_rfl) ?_ (fun hh0 => ?_)
  · (try dsimp only); exact HK.out _ gk
  refine regTk 0 hh0 ?_
  refine regTk 1 hh0 ?_
  refine regTk 2 hh0 ?_
  refine regTk 3 hh0 ?_
  refine regTk 4 hh0 ?_
  refine regTk 5 hh0 ?_
  refine regTk 6 hh0 ?_
  refine regTk 7 hh0 ?_
  refine regTk 8 hh0 ?_
  refine regCall 9 (fun K hK => ?_)
  go_simp
  
  (try go_wp2_with fail)
  refine hK.out _ _ ?_ (fun hh1 => ?_)
  · (try dsimp only); exact HK.out _ gk
  clear hK K hh0
  try simp only [Act.put, List.setIfInBounds_toArray, List.set_cons_zero, List.set_cons_succ]
  refine regTk 10 hh1 ?_
  refine wpAnyH_done (by kernel_rfl) ?_ _
  clear hh1 HK
  clear gg
  go_wp2
  go_loopw [7, 9, 23] (fun s _ z wr => ∃ (nv : Value) (k : Nat), nv = s ∧ k ≤ x.nets.length ∧ z = .int .i64 (k : Int) ∧ Hid (wr.ownsRow (w.heap.size + 1 + 1 + 1) 9 1 nv (instW d x c k).length ((instW d x c k).map Value.string)) ∧ Grows (((w.alloc (.cells #[.slice I d.insts.length ni, .slice N d.nets.length nn, .slice O d.ports.length no] 30)).alloc (.cells #[.slice (some ⟨bc, oc, none⟩) cs.length nc] 35)).alloc (.cells #[.string x.name, .int .i64 (n : Int), .slice XN x.nets.length xn] 77)) wr) (fun _ _ z _ => x.nets.length - (intOf z).toNat)
  case atStart => exact ⟨_, 0, rfl, Nat.zero_le _, rfl, own0.out, by repeat (first | exact GW.out | refine Grows.drew ?_ | refine Grows.drewN ?_ _)⟩
  case round =>
    obtain ⟨nv, k, rfl, hk, rfl, hown, hg⟩ := hrel
    have HG := hideIt hg
    clear hg
    have wl : (instW d x c k).length ≤ 8 := by unfold instW; simp; omega
    have wl3 : 0 < (instW d x c k).length := by unfold instW; simp
    have qSD_0 := HG.out.keeps _ _ kSD_0
    by_cases hlt : k < x.nets.length
    · obtain ⟨v, hv⟩ : ∃ v, x.nets[k]? = some v := ⟨_, List.getElem?_eq_getElem hlt⟩
      obtain ⟨m, s, rfl, hs, hz⟩ := HT.out.net k v hv
      have hs1 : m < d.nets.length := (List.getElem?_eq_some_iff.1 hs).1
      have SU := hideIt (instW_succ (c := c) hv hs)
      obtain ⟨bx, ox, rfl, q0⟩ := ints_at (RInts.keep hx.out HG.out.keeps) hv
      obtain ⟨bn, on, rfl, q1⟩ := strs_at (RStrs.keep hd.out.parts.2.1 HG.out.keeps) hs
      have m1 : (k : Int) < (x.nets.length : Int) := by omega
      have m2 : (0 : Int) ≤ (k : Int) := by omega
      have m3 : (m : Int) < (d.nets.length : Int) := by omega
      have m4 : (0 : Int) ≤ (m : Int) := by omega
      clear hv hs
      have qSD_1 : wr.cell? ⟨w.heap.size, 1, none⟩ = some (.slice (some ⟨bn, on, none⟩) d.nets.length nn) := HG.out.keeps _ _ kSD_1
      have qSD_2 := HG.out.keeps _ _ kSD_2
      have own1 := hideIt (hown.out.alloc (.cells #[.string s] 9))
      have GA := hideIt (HG.out.alloc (.cells #[.string s] 9))
      have nlt : Hid (∀ q, nv.ownBlock = some q → w.heap.size + 1 + 1 + 1 ≤ q ∧ q < wr.heap.size) := hideIt hown.out.lt
      go_wp2_with (at_builtin; refine wpList_append_own _ rfl _ _ 27 rfl (w.heap.size + 1 + 1 + 1) 9 i0 (.string .empty) 1 16 Tryz.underlying27 hi hz0 hz1 hz2 rfl (by decide) nv (instW d x c k).length ((instW d x c k).map Value.string) rfl own1.out ⟨wr.heap.size, 0, none⟩ 1 1 [.string s] rfl ?c1 ?c2 ?c3 ?c4 ?c5 ?c6 ?_)
      case c1 => simp
      case c2 =>
        intro j u hj
        match j, hj with
        | 0, hj => simp at hj; subst hj; simp [Addr.add]
      case c3 => intro u hu; simp at hu; subst hu; rfl
      case c4 => unfold maxLen; omega
      case c5 => omega
      case c6 => have := GA.out.size; simp at this ⊢; omega
      intro v' w4 hown3 hgrow hnil
      have G4 := hideIt (GA.out.grown hgrow (fun q e => by have h1 := (nlt.out q e).1; simp; omega))
      have OW := hideIt (show w4.ownsRow (w.heap.size + 1 + 1 + 1) 9 1 v' (instW d x c (k + 1)).length ((instW d x c (k + 1)).map Value.string) by rw [SU.out, List.length_append, List.map_append]; exact hown3)
      clear hown3 hgrow hnil own1
      go_wp2
      go_roundw
      case rel => exact ⟨_, k + 1, rfl, by omega, by go_num, OW.out, G4.out⟩
      case measure => simp [intOf]; omega
    · obtain rfl : k = x.nets.length := by omega
      obtain ⟨g, cp, rfl, hlen, hcells, hglt⟩ := own_strsC hown.out (by omega)
      have HC := hideIt hcells
      have JE := hideIt (join_inst d x c x.nets.length)
      have JL : Hid ((Lib.join ((instW d x c x.nets.length).map (·.data.toList)) (⟨#[32]⟩ : ByteArray).data.toList).length ≤ 140737488355328) := hideIt (by
        have h1 := instUp_size HT.out (Nat.le_refl _)
        rw [← join_inst, bsize] at h1
        show (Lib.join ((instW d x c x.nets.length).map (·.data.toList)) [32]).length ≤ _
        omega)
      clear hown hcells
      go_wp2_with fail
      refine (Tryz.strings_Join g 0 cp (instW d x c x.nets.length) ⟨#[32]⟩ _ (fun j s hj => by rw [Nat.zero_add]; exact HC.out j s hj) hglt (by omega) hlen JL.out).mono ?_
      rintro e w9 ⟨rfl, g9⟩
      have G9 := hideIt (G.out.trans (HG.out.trans g9))
      clear g9
      go_wp2
      go_ret
      exact ⟨ret_str (by rw [EB.out, ← JE.out]), G9.out⟩

end Go.Proofs.YtocahjbmnkadjaaGreatDoor
/-
  The program's text of a design.
-/
namespace Go.Proofs.YtocahjbmnkadjaaGreatDoor
open Go.RowKit

set_option maxHeartbeats 16000000 in
set_option maxRecDepth 10000 in
theorem iText_in {vl : Value} {cs : List CellD} {a b c : Value} {d : DesignD} (w : World) (hl : RCells w vl cs) (hd : RDesign w [a, b, c] d) (hp : DesP cs d) :
    Calls Tryz.prog 46 #[.agg #[vl], .agg #[a, b, c]] w fun e w' => e = .returned (.string (textB cs d)) ∧ Grows w w' := by
  have cl := RList.len hl
  obtain ⟨C, nc, rfl⟩ : ∃ (D : Option Addr) (q : Nat), vl = .slice D cs.length q := by obtain ⟨D, q, e, -⟩ := RList.form hl; exact ⟨D, q, e⟩
  have il := RList.len hd.parts.1
  have nl := RList.len hd.parts.2.1
  have ol := RList.len hd.parts.2.2
  obtain ⟨I, N, O, ni, nn, no, rfl, rfl, rfl⟩ := des_open hd
  have hnn := hp.nn
  have hnp := hp.np
  have hni := hp.ni
  have DP := hideIt hp
  clear hp
  have g : Grows w w := Grows.refl w
  have G : Hid (Grows w ((w.alloc (.cells #[.slice C cs.length nc] 35)).alloc (.cells #[.slice I d.insts.length ni, .slice N d.nets.length nn, .slice O d.ports.length no] 30))) := hideIt (((Grows.refl w).alloc _).alloc _)
  clear g
  have SL : Hid (Blk ((w.alloc (.cells #[.slice C cs.length nc] 35)).alloc (.cells #[.slice I d.insts.length ni, .slice N d.nets.length nn, .slice O d.ports.length no] 30)) (w.heap.size) 35 #[.slice C cs.length nc]) := by
    have := (Blk.new w 35 #[.slice C cs.length nc]).grows ((Grows.refl (w.alloc (.cells #[.slice C cs.length nc] 35))).alloc (.cells #[.slice I d.insts.length ni, .slice N d.nets.length nn, .slice O d.ports.length no] 30))
    exact hideIt (by simpa using this)
  have SD : Hid (Blk ((w.alloc (.cells #[.slice C cs.length nc] 35)).alloc (.cells #[.slice I d.insts.length ni, .slice N d.nets.length nn, .slice O d.ports.length no] 30)) (w.heap.size + 1) 30 #[.slice I d.insts.length ni, .slice N d.nets.length nn, .slice O d.ports.length no]) := by
    have := (Blk.new (w.alloc (.cells #[.slice C cs.length nc] 35)) 30 #[.slice I d.insts.length ni, .slice N d.nets.length nn, .slice O d.ports.length no]).grows (Grows.refl ((w.alloc (.cells #[.slice C cs.length nc] 35)).alloc (.cells #[.slice I d.insts.length ni, .slice N d.nets.length nn, .slice O d.ports.length no] 30)))
    exact hideIt (by simpa using this)
  replace hl := hideIt (hl.keep G.out.keeps)
  replace hd := hideIt (hd.keep G.out.keeps)
  have kSL_0 := SL.out.cell 0
  have lSL := SL.out.lt
  have kSD_0 := SD.out.cell 0
  have kSD_1 := SD.out.cell 1
  have kSD_2 := SD.out.cell 2
  have lSD := SD.out.lt
  go_enter Tryz.func46, Tryz.ntmps46
  go_wp2
  go_loopw [5, 7, 16] (fun s _ z wr => ∃ (u : ByteArray) (k : Nat), s = .string u ∧ k ≤ d.nets.length ∧ z = .int .i64 (k : Int) ∧ Hid (u = netsUp d k) ∧ u.size ≤ 13 * k ∧ Grows ((w.alloc (.cells #[.slice C cs.length nc] 35)).alloc (.cells #[.slice I d.insts.length ni, .slice N d.nets.length nn, .slice O d.ports.length no] 30)) wr) (fun _ _ z _ => d.nets.length - (intOf z).toNat)
  case atStart => exact ⟨_, 0, rfl, Nat.zero_le _, rfl, hideIt rfl, Nat.le_refl _, Grows.refl _⟩
  case round =>
    obtain ⟨u, k, rfl, hk, rfl, hu, hus, hg⟩ := hrel
    have HG := hideIt hg
    clear hg
    have qSD_0 := HG.out.keeps _ _ kSD_0
    have qSD_1 := HG.out.keeps _ _ kSD_1
    have qSD_2 := HG.out.keeps _ _ kSD_2
    by_cases hlt : k < d.nets.length
    · obtain ⟨s, hs⟩ : ∃ s, d.nets[k]? = some s := ⟨_, List.getElem?_eq_getElem hlt⟩
      have hz := net_size DP.out hs
      have SU := hideIt (netsUp_succ hs)
      obtain ⟨bn, on, rfl, q1⟩ := strs_at (RStrs.keep hd.out.parts.2.1 HG.out.keeps) hs
      have m1 : (k : Int) < (d.nets.length : Int) := by omega
      have m2 : (0 : Int) ≤ (k : Int) := by omega
      clear hs
      have tz0 : ¬ 9223372036854775807 < 4 + s.size := by omega
      have ez0 : ((⟨#[110, 101, 116, 32]⟩ : ByteArray) ++ s).size = 4 + s.size := ByteArray.size_append
      have tz1 : ¬ 9223372036854775807 < 4 + s.size + 1 := by omega
      have ez1 : ((⟨#[110, 101, 116, 32]⟩ : ByteArray) ++ s ++ (⟨#[10]⟩ : ByteArray)).size = 4 + s.size + 1 := by rw [ByteArray.size_append, ez0]; rfl
      have tz9 : ¬ 9223372036854775807 < u.size + (4 + s.size + 1) := by omega
      have zz : (u ++ ((⟨#[110, 101, 116, 32]⟩ : ByteArray) ++ s ++ (⟨#[10]⟩ : ByteArray))).size ≤ 13 * (k + 1) := by rw [ByteArray.size_append, ez1]; omega
      go_wp2
      go_roundw
      case rel => exact ⟨_, k + 1, rfl, by omega, by go_num, hideIt (by rw [SU.out, ← hu.out]; exact assoc_net u s), zz, by repeat (first | exact HG.out | refine Grows.drew ?_ | refine Grows.drewN ?_ _ | refine Grows.setCell ?_ (by simp <;> omega) _ | refine Grows.alloc ?_ _)⟩
      case measure => simp [intOf]; omega
    · obtain rfl : k = d.nets.length := by omega
      clear hlt hk
      obtain ⟨w3, ew3⟩ : ∃ w3 : World, w3 = wr := ⟨_, rfl⟩
      subst ew3
      go_wp2
      go_loopw [5, 9, 10, 29] (fun s _ _ z wr => ∃ (u : ByteArray) (k : Nat), s = .string u ∧ k ≤ d.ports.length ∧ z = .int .i64 (k : Int) ∧ Hid (u = portsUp d k) ∧ u.size ≤ 390 + 27 * k ∧ Grows w3 wr) (fun _ _ _ z _ => d.ports.length - (intOf z).toNat)
      case atStart => exact ⟨_, 0, rfl, Nat.zero_le _, rfl, hideIt hu.out, by omega, Grows.refl _⟩
      case round =>
        obtain ⟨u2, k, rfl, hk, rfl, hu2, hus2, hg⟩ := hrel
        have HH := hideIt hg
        clear hg
        have rSD_0 := HH.out.keeps _ _ qSD_0
        have rSD_1 := HH.out.keeps _ _ qSD_1
        have rSD_2 := HH.out.keeps _ _ qSD_2
        by_cases hlt : k < d.ports.length
        · obtain ⟨p, hp⟩ : ∃ p, d.ports[k]? = some p := ⟨_, List.getElem?_eq_getElem hlt⟩
          obtain ⟨hpz, m, s, hm, hs, hz⟩ := port_of DP.out hp
          have hm1 : m < d.nets.length := (List.getElem?_eq_some_iff.1 hs).1
          have SU := hideIt (portsUp_succ hp hm hs)
          obtain ⟨bo, oo, rfl, a0, a1, a2, -⟩ := port_at (RPorts.keep hd.out.parts.2.2 (HG.out.trans HH.out).keeps) hp
          obtain ⟨bn, on, rfl, q1⟩ := strs_at (RStrs.keep hd.out.parts.2.1 (HG.out.trans HH.out).keeps) hs
          rw [hm] at a2
          have m1 : (k : Int) < (d.ports.length : Int) := by omega
          have m2 : (0 : Int) ≤ (k : Int) := by omega
          have m3 : (m : Int) < (d.nets.length : Int) := by omega
          have m4 : (0 : Int) ≤ (m : Int) := by omega
          have HM := hideIt hm
          clear hp hs hm
          by_cases e : p.dir = 2
          · have t1 : (p.dir == 2) = true := beq_iff_eq.2 e
            have DB := hideIt (dir_out e)
            clear e
            have tz0 : ¬ 9223372036854775807 < 5 + p.name.size := by omega
            have ez0 : ((⟨#[112, 111, 114, 116, 32]⟩ : ByteArray) ++ p.name).size = 5 + p.name.size := ByteArray.size_append
            have tz1 : ¬ 9223372036854775807 < 5 + p.name.size + 5 := by omega
            have ez1 : ((⟨#[112, 111, 114, 116, 32]⟩ : ByteArray) ++ p.name ++ (⟨#[32, 111, 117, 116, 32]⟩ : ByteArray)).size = 5 + p.name.size + 5 := by rw [ByteArray.size_append, ez0]; rfl
            have tz2 : ¬ 9223372036854775807 < 5 + p.name.size + 5 + s.size := by omega
            have ez2 : ((⟨#[112, 111, 114, 116, 32]⟩ : ByteArray) ++ p.name ++ (⟨#[32, 111, 117, 116, 32]⟩ : ByteArray) ++ s).size = 5 + p.name.size + 5 + s.size := by rw [ByteArray.size_append, ez1]
            have tz3 : ¬ 9223372036854775807 < 5 + p.name.size + 5 + s.size + 1 := by omega
            have ez3 : ((⟨#[112, 111, 114, 116, 32]⟩ : ByteArray) ++ p.name ++ (⟨#[32, 111, 117, 116, 32]⟩ : ByteArray) ++ s ++ (⟨#[10]⟩ : ByteArray)).size = 5 + p.name.size + 5 + s.size + 1 := by rw [ByteArray.size_append, ez2]; rfl
            have tz9 : ¬ 9223372036854775807 < u2.size + (5 + p.name.size + 5 + s.size + 1) := by omega
            have zz : (u2 ++ ((⟨#[112, 111, 114, 116, 32]⟩ : ByteArray) ++ p.name ++ (⟨#[32, 111, 117, 116, 32]⟩ : ByteArray) ++ s ++ (⟨#[10]⟩ : ByteArray))).size ≤ 390 + 27 * (k + 1) := by rw [ByteArray.size_append, ez3]; omega
            have XB := hideIt (Blk.new wr 75 #[.string p.name, .int .i64 p.dir, .int .i64 (m : Int)])
            have KA : Keeps wr (wr.alloc (.cells #[.string p.name, .int .i64 p.dir, .int .i64 (m : Int)] 75)) := ((Grows.refl wr).alloc _).keeps
            have K0 : ∀ w', Grows (wr.alloc (.cells #[.string p.name, .int .i64 p.dir, .int .i64 (m : Int)] 75)) w' → w'.cell? ⟨w.heap.size + 1, 1, none⟩ = some (.slice (some ⟨bn, on, none⟩) d.nets.length nn) ∧ w'.cell? ⟨wr.heap.size, 0, none⟩ = some (.string p.name) ∧ w'.cell? ⟨wr.heap.size, 2, none⟩ = some (.int .i64 (m : Int)) ∧ w'.cell? ⟨bn, on + m, none⟩ = some (.string s) ∧ Grows (wr.alloc (.cells #[.string p.name, .int .i64 p.dir, .int .i64 (m : Int)] 75)) w' := fun w' G => ⟨G.keeps _ _ (KA _ _ rSD_1), G.keeps _ _ (XB.out.cell 0), G.keeps _ _ (XB.out.cell 2), G.keeps _ _ (KA _ _ q1), G⟩
            have HK := hideIt K0
            clear K0 KA
            have gg : Grows (wr.alloc (.cells #[.string p.name, .int .i64 p.dir, .int .i64 (m : Int)] 75)) (wr.alloc (.cells #[.string p.name, .int .i64 p.dir, .int .i64 (m : Int)] 75)) := Grows.refl _
            go_wp2
            refine wp_region_held_drew (S := (fun w' => w'.cell? ⟨w.heap.size + 1, 1, none⟩ = some (.slice (some ⟨bn, on, none⟩) d.nets.length nn) ∧ w'.cell? ⟨wr.heap.size, 0, none⟩ = some (.string p.name) ∧ w'.cell? ⟨wr.heap.size, 2, none⟩ = some (.int .i64 (m : Int)) ∧ w'.cell? ⟨bn, on + m, none⟩ = some (.string s) ∧ Grows (wr.alloc (.cells #[.string p.name, .int .i64 p.dir, .int .i64 (m : Int)] 75)) w')) (by kernel_rfl) ?_ (fun hh0 => ?_)
            · (try dsimp only); exact HK.out _ gk
            refine regTk 0 hh0 ?_
            refine regTk 1 hh0 ?_
            refine regTk 2 hh0 ?_
            refine regTk 3 hh0 ?_
            refine regTk 4 hh0 ?_
            refine regTk 5 hh0 ?_
            refine regTk 6 hh0 ?_
            refine regTk 7 hh0 ?_
            refine regTk 8 hh0 ?_
            refine regTk 9 hh0 ?_
            refine regTk 10 hh0 ?_
            refine regTk 11 hh0 ?_
            refine regTk 12 hh0 ?_
            refine regTk 13 hh0 ?_
            refine regTk 14 hh0 ?_
            refine regTk 15 hh0 ?_
            refine wpAnyH_done (by kernel_rfl) ?_ _
            clear hh0 HK
            clear gg
            go_wp2
            go_roundw
            case rel => exact ⟨_, k + 1, rfl, by omega, by go_num, hideIt (by rw [SU.out, DB.out, ← hu2.out]; exact assoc_out u2 p.name s), zz, by repeat (first | exact HH.out | refine Grows.drew ?_ | refine Grows.drewN ?_ _ | refine Grows.setCell ?_ (by simp <;> omega) _ | refine Grows.alloc ?_ _)⟩
            case measure => simp [intOf]; omega
          · have t1 : (p.dir == 2) = false := beq_eq_false_iff_ne.2 e
            have DB := hideIt (dir_in e)
            clear e
            have tz0 : ¬ 9223372036854775807 < 5 + p.name.size := by omega
            have ez0 : ((⟨#[112, 111, 114, 116, 32]⟩ : ByteArray) ++ p.name).size = 5 + p.name.size := ByteArray.size_append
            have tz1 : ¬ 9223372036854775807 < 5 + p.name.size + 4 := by omega
            have ez1 : ((⟨#[112, 111, 114, 116, 32]⟩ : ByteArray) ++ p.name ++ (⟨#[32, 105, 110, 32]⟩ : ByteArray)).size = 5 + p.name.size + 4 := by rw [ByteArray.size_append, ez0]; rfl
            have tz2 : ¬ 9223372036854775807 < 5 + p.name.size + 4 + s.size := by omega
            have ez2 : ((⟨#[112, 111, 114, 116, 32]⟩ : ByteArray) ++ p.name ++ (⟨#[32, 105, 110, 32]⟩ : ByteArray) ++ s).size = 5 + p.name.size + 4 + s.size := by rw [ByteArray.size_append, ez1]
            have tz3 : ¬ 9223372036854775807 < 5 + p.name.size + 4 + s.size + 1 := by omega
            have ez3 : ((⟨#[112, 111, 114, 116, 32]⟩ : ByteArray) ++ p.name ++ (⟨#[32, 105, 110, 32]⟩ : ByteArray) ++ s ++ (⟨#[10]⟩ : ByteArray)).size = 5 + p.name.size + 4 + s.size + 1 := by rw [ByteArray.size_append, ez2]; rfl
            have tz9 : ¬ 9223372036854775807 < u2.size + (5 + p.name.size + 4 + s.size + 1) := by omega
            have zz : (u2 ++ ((⟨#[112, 111, 114, 116, 32]⟩ : ByteArray) ++ p.name ++ (⟨#[32, 105, 110, 32]⟩ : ByteArray) ++ s ++ (⟨#[10]⟩ : ByteArray))).size ≤ 390 + 27 * (k + 1) := by rw [ByteArray.size_append, ez3]; omega
            have XB := hideIt (Blk.new wr 75 #[.string p.name, .int .i64 p.dir, .int .i64 (m : Int)])
            have KA : Keeps wr (wr.alloc (.cells #[.string p.name, .int .i64 p.dir, .int .i64 (m : Int)] 75)) := ((Grows.refl wr).alloc _).keeps
            have K0 : ∀ w', Grows (wr.alloc (.cells #[.string p.name, .int .i64 p.dir, .int .i64 (m : Int)] 75)) w' → w'.cell? ⟨w.heap.size + 1, 1, none⟩ = some (.slice (some ⟨bn, on, none⟩) d.nets.length nn) ∧ w'.cell? ⟨wr.heap.size, 0, none⟩ = some (.string p.name) ∧ w'.cell? ⟨wr.heap.size, 2, none⟩ = some (.int .i64 (m : Int)) ∧ w'.cell? ⟨bn, on + m, none⟩ = some (.string s) ∧ Grows (wr.alloc (.cells #[.string p.name, .int .i64 p.dir, .int .i64 (m : Int)] 75)) w' := fun w' G => ⟨G.keeps _ _ (KA _ _ rSD_1), G.keeps _ _ (XB.out.cell 0), G.keeps _ _ (XB.out.cell 2), G.keeps _ _ (KA _ _ q1), G⟩
            have HK := hideIt K0
            clear K0 KA
            have gg : Grows (wr.alloc (.cells #[.string p.name, .int .i64 p.dir, .int .i64 (m : Int)] 75)) (wr.alloc (.cells #[.string p.name, .int .i64 p.dir, .int .i64 (m : Int)] 75)) := Grows.refl _
            go_wp2
            refine wp_region_held_drew (S := (fun w' => w'.cell? ⟨w.heap.size + 1, 1, none⟩ = some (.slice (some ⟨bn, on, none⟩) d.nets.length nn) ∧ w'.cell? ⟨wr.heap.size, 0, none⟩ = some (.string p.name) ∧ w'.cell? ⟨wr.heap.size, 2, none⟩ = some (.int .i64 (m : Int)) ∧ w'.cell? ⟨bn, on + m, none⟩ = some (.string s) ∧ Grows (wr.alloc (.cells #[.string p.name, .int .i64 p.dir, .int .i64 (m : Int)] 75)) w')) (by kernel_rfl) ?_ (fun hh0 => ?_)
            · (try dsimp only); exact HK.out _ gk
            refine regTk 0 hh0 ?_
            refine regTk 1 hh0 ?_
            refine regTk 2 hh0 ?_
            refine regTk 3 hh0 ?_
            refine regTk 4 hh0 ?_
            refine regTk 5 hh0 ?_
            refine regTk 6 hh0 ?_
            refine regTk 7 hh0 ?_
            refine regTk 8 hh0 ?_
            refine regTk 9 hh0 ?_
            refine regTk 10 hh0 ?_
            refine regTk 11 hh0 ?_
            refine regTk 12 hh0 ?_
            refine regTk 13 hh0 ?_
            refine regTk 14 hh0 ?_
            refine regTk 15 hh0 ?_
            refine wpAnyH_done (by kernel_rfl) ?_ _
            clear hh0 HK
            clear gg
            go_wp2
            go_roundw
            case rel => exact ⟨_, k + 1, rfl, by omega, by go_num, hideIt (by rw [SU.out, DB.out, ← hu2.out]; exact assoc_in u2 p.name s), zz, by repeat (first | exact HH.out | refine Grows.drew ?_ | refine Grows.drewN ?_ _ | refine Grows.setCell ?_ (by simp <;> omega) _ | refine Grows.alloc ?_ _)⟩
            case measure => simp [intOf]; omega
        · obtain rfl : k = d.ports.length := by omega
          clear hlt hk
          obtain ⟨w4, ew4⟩ : ∃ w4 : World, w4 = wr := ⟨_, rfl⟩
          subst ew4
          have GG := hideIt (HG.out.trans HH.out)
          have rSL_0 := GG.out.keeps _ _ kSL_0
          go_wp2
          go_loopw [5, 12, 55] (fun s _ z wr => ∃ (u : ByteArray) (k : Nat), s = .string u ∧ k ≤ d.insts.length ∧ z = .int .i64 (k : Int) ∧ Hid (u = instsUp cs d k) ∧ u.size ≤ 606 + 68 * k ∧ Grows w4 wr) (fun _ _ z _ => d.insts.length - (intOf z).toNat)
          case atStart => exact ⟨_, 0, rfl, Nat.zero_le _, rfl, hideIt hu2.out, by omega, Grows.refl _⟩
          case round =>
            obtain ⟨u3, k, rfl, hk, rfl, hu3, hus3, hg⟩ := hrel
            have HI := hideIt hg
            clear hg
            have sSD_0 := HI.out.keeps _ _ rSD_0
            have sSD_1 := HI.out.keeps _ _ rSD_1
            have sSD_2 := HI.out.keeps _ _ rSD_2
            have sSL_0 := HI.out.keeps _ _ rSL_0
            by_cases hlt : k < d.insts.length
            · obtain ⟨x, hx⟩ : ∃ x, d.insts[k]? = some x := ⟨_, List.getElem?_eq_getElem hlt⟩
              obtain ⟨c, n, hT⟩ := instT_of DP.out hx
              have HT := hideIt hT
              have hlz := lineB_size hT
              have SU := hideIt (instsUp_succ (l := cs) hx)
              obtain ⟨bi, oi, XN, xn, rfl, a0, a1, a2, hxn, hxz⟩ := inst_at (RInsts.keep hd.out.parts.1 (GG.out.trans HI.out).keeps) hx
              have RX := hideIt (show RInst wr [.string x.name, .int .i64 x.cell, .slice XN x.nets.length xn] x from ⟨_, rfl, hxz, hxn⟩)
              have HL := hideIt (RCells.keep hl.out (GG.out.trans HI.out).keeps)
              have HD := hideIt (RDesign.keep hd.out (GG.out.trans HI.out).keeps)
              have m1 : (k : Int) < (d.insts.length : Int) := by omega
              have m2 : (0 : Int) ≤ (k : Int) := by omega
              obtain ⟨lb, elb⟩ : ∃ lb, lb = lineB cs d x := ⟨_, rfl⟩
              rw [← elb] at hlz
              have LB := hideIt elb
              clear hx hT hxn elb hxz
              have tz0 : ¬ 9223372036854775807 < lb.size + 1 := by omega
              have ez0 : (lb ++ (⟨#[10]⟩ : ByteArray)).size = lb.size + 1 := ByteArray.size_append
              have tz9 : ¬ 9223372036854775807 < u3.size + (lb.size + 1) := by omega
              have zz : (u3 ++ (lb ++ (⟨#[10]⟩ : ByteArray))).size ≤ 606 + 68 * (k + 1) := by rw [ByteArray.size_append, ez0]; omega
              have zl1 := cell_lt sSD_1
              have zl2 := cell_lt sSL_0
              simp at zl1 zl2
              have GA := hideIt (HI.out.alloc (.cells #[.string x.name, .int .i64 x.cell, .slice XN x.nets.length xn] 77))
              have GB : Hid (Grows wr (wr.alloc (.cells #[.string x.name, .int .i64 x.cell, .slice XN x.nets.length xn] 77))) := hideIt ((Grows.refl wr).alloc _)
              go_wp2_with fail
              refine (iLine_any _ (HL.out.keep GB.out.keeps) (HD.out.keep GB.out.keeps) (RX.out.keep GB.out.keeps) HT.out).mono ?_
              rintro e wx ⟨rfl, g⟩
              rw [← LB.out]
              have GN := hideIt (GA.out.trans g)
              clear g
              go_wp2
              go_roundw
              case rel => exact ⟨_, k + 1, rfl, by omega, by go_num, hideIt (by rw [SU.out, ← LB.out, ← hu3.out]; exact assoc_line u3 lb), zz, GN.out⟩
              case measure => simp [intOf]; omega
            · obtain rfl : k = d.insts.length := by omega
              have GE := hideIt (G.out.trans (GG.out.trans HI.out))
              go_wp2
              go_ret
              exact ⟨ret_str hu3.out, GE.out⟩



end Go.Proofs.YtocahjbmnkadjaaGreatDoor
