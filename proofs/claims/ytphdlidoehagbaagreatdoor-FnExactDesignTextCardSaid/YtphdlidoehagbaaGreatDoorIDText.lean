/-
  The program's text of a design.
-/
import Derived.Test.YtphdlidoehagbaaGreatDoorDTextM
import Derived.Test.YtphdlidoehagbaaGreatDoorSIText
import Derived.Test.YtphdlidoehagbaaGreatDoorIIText
import Derived.Test.YtphdlidoehagbaaGreatDoorIDes
import Derived.Test.YtphdlidoehagbaaGreatDoorSDText
namespace Go.Proofs.YtphdlidoehagbaaGreatDoor
open Go.RowKit

theorem lengthInst_any {v : Value} {ps : List InstD} {w0 : World} (w : World) (h : RInsts w0 v ps) :
    Calls Tryz.prog 79 #[v] w fun e w' => e = .returned (.int .i64 (ps.length : Int)) ∧ w = w' := by
  have hl := RList.len h
  obtain ⟨A, c, rfl, -, -, -⟩ := RList.form h
  clear h
  go_enter Tryz.func79, Tryz.ntmps79
  go_wp2
  go_ret
  exact ⟨rfl, rfl⟩
set_option maxHeartbeats 16000000 in
set_option maxRecDepth 10000 in
theorem iText_in {vl : Value} {cs : List CellD} {a b c : Value} {d : DesignD} (w : World) (hl : RCells w vl cs) (hd : RDesign w [a, b, c] d) (hp : DesP cs d) :
    Calls Tryz.prog 82 #[.agg #[vl], .agg #[a, b, c]] w fun e w' => e = .returned (.string (textB cs d)) ∧ Grows w w' := by
  have cl := RList.len hl
  obtain ⟨C, nc, rfl⟩ : ∃ (D : Option Addr) (q : Nat), vl = .slice D cs.length q := by obtain ⟨D, q, e, -⟩ := RList.form hl; exact ⟨D, q, e⟩
  have il := RList.len hd.parts.1
  have nl := RList.len hd.parts.2.1
  have ol := RList.len hd.parts.2.2
  obtain ⟨I, N, O, ni, nn, no, rfl, rfl, rfl⟩ := des_open hd
  have hnn := hp.nn
  have hnp := hp.np
  have hni := hp.ni
  have DP := hideIt hp
  clear hp
  have g : Grows w w := Grows.refl w
  have G : Hid (Grows w ((w.alloc (.cells #[.slice C cs.length nc] 35)).alloc (.cells #[.slice I d.insts.length ni, .slice N d.nets.length nn, .slice O d.ports.length no] 40))) := hideIt (((Grows.refl w).alloc _).alloc _)
  clear g
  have SL : Hid (Blk ((w.alloc (.cells #[.slice C cs.length nc] 35)).alloc (.cells #[.slice I d.insts.length ni, .slice N d.nets.length nn, .slice O d.ports.length no] 40)) (w.heap.size) 35 #[.slice C cs.length nc]) := by
    have := (Blk.new w 35 #[.slice C cs.length nc]).grows ((Grows.refl (w.alloc (.cells #[.slice C cs.length nc] 35))).alloc (.cells #[.slice I d.insts.length ni, .slice N d.nets.length nn, .slice O d.ports.length no] 40))
    exact hideIt (by simpa using this)
  have SD : Hid (Blk ((w.alloc (.cells #[.slice C cs.length nc] 35)).alloc (.cells #[.slice I d.insts.length ni, .slice N d.nets.length nn, .slice O d.ports.length no] 40)) (w.heap.size + 1) 40 #[.slice I d.insts.length ni, .slice N d.nets.length nn, .slice O d.ports.length no]) := by
    have := (Blk.new (w.alloc (.cells #[.slice C cs.length nc] 35)) 40 #[.slice I d.insts.length ni, .slice N d.nets.length nn, .slice O d.ports.length no]).grows (Grows.refl ((w.alloc (.cells #[.slice C cs.length nc] 35)).alloc (.cells #[.slice I d.insts.length ni, .slice N d.nets.length nn, .slice O d.ports.length no] 40)))
    exact hideIt (by simpa using this)
  replace hl := hideIt (hl.keep G.out.keeps)
  replace hd := hideIt (hd.keep G.out.keeps)
  have kSL_0 := SL.out.cell 0
  have lSL := SL.out.lt
  have kSD_0 := SD.out.cell 0
  have kSD_1 := SD.out.cell 1
  have kSD_2 := SD.out.cell 2
  have lSD := SD.out.lt
  go_enter Tryz.func82, Tryz.ntmps82
  go_wp2
  go_loopw [5, 7, 16] (fun s _ z wr => ∃ (u : ByteArray) (k : Nat), s = .string u ∧ k ≤ d.nets.length ∧ z = .int .i64 (k : Int) ∧ Hid (u = netsUp d k) ∧ u.size ≤ 13 * k ∧ Grows ((w.alloc (.cells #[.slice C cs.length nc] 35)).alloc (.cells #[.slice I d.insts.length ni, .slice N d.nets.length nn, .slice O d.ports.length no] 40)) wr) (fun _ _ z _ => d.nets.length - (intOf z).toNat)
  case atStart => exact ⟨_, 0, rfl, Nat.zero_le _, rfl, hideIt rfl, Nat.le_refl _, Grows.refl _⟩
  case round =>
    obtain ⟨u, k, rfl, hk, rfl, hu, hus, hg⟩ := hrel
    have HG := hideIt hg
    clear hg
    have qSD_0 := HG.out.keeps _ _ kSD_0
    have qSD_1 := HG.out.keeps _ _ kSD_1
    have qSD_2 := HG.out.keeps _ _ kSD_2
    by_cases hlt : k < d.nets.length
    · obtain ⟨s, hs⟩ : ∃ s, d.nets[k]? = some s := ⟨_, List.getElem?_eq_getElem hlt⟩
      have hz := net_size DP.out hs
      have SU := hideIt (netsUp_succ hs)
      obtain ⟨bn, on, rfl, q1⟩ := strs_at (RStrs.keep hd.out.parts.2.1 HG.out.keeps) hs
      have m1 : (k : Int) < (d.nets.length : Int) := by omega
      have m2 : (0 : Int) ≤ (k : Int) := by omega
      clear hs
      have tz0 : ¬ 9223372036854775807 < 4 + s.size := by omega
      have ez0 : ((⟨#[110, 101, 116, 32]⟩ : ByteArray) ++ s).size = 4 + s.size := ByteArray.size_append
      have tz1 : ¬ 9223372036854775807 < 4 + s.size + 1 := by omega
      have ez1 : ((⟨#[110, 101, 116, 32]⟩ : ByteArray) ++ s ++ (⟨#[10]⟩ : ByteArray)).size = 4 + s.size + 1 := by rw [ByteArray.size_append, ez0]; rfl
      have tz9 : ¬ 9223372036854775807 < u.size + (4 + s.size + 1) := by omega
      have zz : (u ++ ((⟨#[110, 101, 116, 32]⟩ : ByteArray) ++ s ++ (⟨#[10]⟩ : ByteArray))).size ≤ 13 * (k + 1) := by rw [ByteArray.size_append, ez1]; omega
      go_wp2
      go_roundw
      case rel => exact ⟨_, k + 1, rfl, by omega, by go_num, hideIt (by rw [SU.out, ← hu.out]; exact assoc_net u s), zz, by repeat (first | exact HG.out | refine Grows.drew ?_ | refine Grows.drewN ?_ _ | refine Grows.setCell ?_ (by simp <;> omega) _ | refine Grows.alloc ?_ _)⟩
      case measure => simp [intOf]; omega
    · obtain rfl : k = d.nets.length := by omega
      clear hlt hk
      obtain ⟨w3, ew3⟩ : ∃ w3 : World, w3 = wr := ⟨_, rfl⟩
      subst ew3
      go_wp2
      go_loopw [5, 9, 10, 29] (fun s _ _ z wr => ∃ (u : ByteArray) (k : Nat), s = .string u ∧ k ≤ d.ports.length ∧ z = .int .i64 (k : Int) ∧ Hid (u = portsUp d k) ∧ u.size ≤ 390 + 27 * k ∧ Grows w3 wr) (fun _ _ _ z _ => d.ports.length - (intOf z).toNat)
      case atStart => exact ⟨_, 0, rfl, Nat.zero_le _, rfl, hideIt hu.out, by omega, Grows.refl _⟩
      case round =>
        obtain ⟨u2, k, rfl, hk, rfl, hu2, hus2, hg⟩ := hrel
        have HH := hideIt hg
        clear hg
        have rSD_0 := HH.out.keeps _ _ qSD_0
        have rSD_1 := HH.out.keeps _ _ qSD_1
        have rSD_2 := HH.out.keeps _ _ qSD_2
        by_cases hlt : k < d.ports.length
        · obtain ⟨p, hp⟩ : ∃ p, d.ports[k]? = some p := ⟨_, List.getElem?_eq_getElem hlt⟩
          obtain ⟨hpz, m, s, hm, hs, hz⟩ := port_of DP.out hp
          have hm1 : m < d.nets.length := (List.getElem?_eq_some_iff.1 hs).1
          have SU := hideIt (portsUp_succ hp hm hs)
          obtain ⟨bo, oo, rfl, a0, a1, a2, -⟩ := port_at (RPorts.keep hd.out.parts.2.2 (HG.out.trans HH.out).keeps) hp
          obtain ⟨bn, on, rfl, q1⟩ := strs_at (RStrs.keep hd.out.parts.2.1 (HG.out.trans HH.out).keeps) hs
          rw [hm] at a2
          have m1 : (k : Int) < (d.ports.length : Int) := by omega
          have m2 : (0 : Int) ≤ (k : Int) := by omega
          have m3 : (m : Int) < (d.nets.length : Int) := by omega
          have m4 : (0 : Int) ≤ (m : Int) := by omega
          have HM := hideIt hm
          clear hp hs hm
          by_cases e : p.dir = 2
          · have t1 : (p.dir == 2) = true := beq_iff_eq.2 e
            have DB := hideIt (dir_out e)
            clear e
            have tz0 : ¬ 9223372036854775807 < 5 + p.name.size := by omega
            have ez0 : ((⟨#[112, 111, 114, 116, 32]⟩ : ByteArray) ++ p.name).size = 5 + p.name.size := ByteArray.size_append
            have tz1 : ¬ 9223372036854775807 < 5 + p.name.size + 5 := by omega
            have ez1 : ((⟨#[112, 111, 114, 116, 32]⟩ : ByteArray) ++ p.name ++ (⟨#[32, 111, 117, 116, 32]⟩ : ByteArray)).size = 5 + p.name.size + 5 := by rw [ByteArray.size_append, ez0]; rfl
            have tz2 : ¬ 9223372036854775807 < 5 + p.name.size + 5 + s.size := by omega
            have ez2 : ((⟨#[112, 111, 114, 116, 32]⟩ : ByteArray) ++ p.name ++ (⟨#[32, 111, 117, 116, 32]⟩ : ByteArray) ++ s).size = 5 + p.name.size + 5 + s.size := by rw [ByteArray.size_append, ez1]
            have tz3 : ¬ 9223372036854775807 < 5 + p.name.size + 5 + s.size + 1 := by omega
            have ez3 : ((⟨#[112, 111, 114, 116, 32]⟩ : ByteArray) ++ p.name ++ (⟨#[32, 111, 117, 116, 32]⟩ : ByteArray) ++ s ++ (⟨#[10]⟩ : ByteArray)).size = 5 + p.name.size + 5 + s.size + 1 := by rw [ByteArray.size_append, ez2]; rfl
            have tz9 : ¬ 9223372036854775807 < u2.size + (5 + p.name.size + 5 + s.size + 1) := by omega
            have zz : (u2 ++ ((⟨#[112, 111, 114, 116, 32]⟩ : ByteArray) ++ p.name ++ (⟨#[32, 111, 117, 116, 32]⟩ : ByteArray) ++ s ++ (⟨#[10]⟩ : ByteArray))).size ≤ 390 + 27 * (k + 1) := by rw [ByteArray.size_append, ez3]; omega
            have XB := hideIt (Blk.new wr 119 #[.string p.name, .int .i64 p.dir, .int .i64 (m : Int)])
            have KA : Keeps wr (wr.alloc (.cells #[.string p.name, .int .i64 p.dir, .int .i64 (m : Int)] 119)) := ((Grows.refl wr).alloc _).keeps
            have K0 : ∀ w', Grows (wr.alloc (.cells #[.string p.name, .int .i64 p.dir, .int .i64 (m : Int)] 119)) w' → w'.cell? ⟨w.heap.size + 1, 1, none⟩ = some (.slice (some ⟨bn, on, none⟩) d.nets.length nn) ∧ w'.cell? ⟨wr.heap.size, 0, none⟩ = some (.string p.name) ∧ w'.cell? ⟨wr.heap.size, 2, none⟩ = some (.int .i64 (m : Int)) ∧ w'.cell? ⟨bn, on + m, none⟩ = some (.string s) ∧ Grows (wr.alloc (.cells #[.string p.name, .int .i64 p.dir, .int .i64 (m : Int)] 119)) w' := fun w' G => ⟨G.keeps _ _ (KA _ _ rSD_1), G.keeps _ _ (XB.out.cell 0), G.keeps _ _ (XB.out.cell 2), G.keeps _ _ (KA _ _ q1), G⟩
            have HK := hideIt K0
            clear K0 KA
            have gg : Grows (wr.alloc (.cells #[.string p.name, .int .i64 p.dir, .int .i64 (m : Int)] 119)) (wr.alloc (.cells #[.string p.name, .int .i64 p.dir, .int .i64 (m : Int)] 119)) := Grows.refl _
            go_wp2
            refine wp_region_held_drew (S := (fun w' => w'.cell? ⟨w.heap.size + 1, 1, none⟩ = some (.slice (some ⟨bn, on, none⟩) d.nets.length nn) ∧ w'.cell? ⟨wr.heap.size, 0, none⟩ = some (.string p.name) ∧ w'.cell? ⟨wr.heap.size, 2, none⟩ = some (.int .i64 (m : Int)) ∧ w'.cell? ⟨bn, on + m, none⟩ = some (.string s) ∧ Grows (wr.alloc (.cells #[.string p.name, .int .i64 p.dir, .int .i64 (m : Int)] 119)) w')) (by kernel_rfl) ?_ (fun hh0 => ?_)
            · (try dsimp only); refine HK.out _ ?_; (repeat (first | exact gg | refine Grows.drew ?_ | refine Grows.alloc ?_ _ | refine Grows.setCell ?_ (by simp <;> omega) _))
            refine regTake 0 (v := ?_) ?_ hh0 ?_
            rotate_left
            · intro w hw; (try dsimp only at hw); go_simp; (try with_reducible rfl)
            try simp only [Act.put, List.setIfInBounds_toArray, List.set_cons_zero, List.set_cons_succ]
            refine regTake 1 (v := ?_) ?_ hh0 ?_
            rotate_left
            · intro w hw; (try dsimp only at hw); go_simp; (try with_reducible rfl)
            try simp only [Act.put, List.setIfInBounds_toArray, List.set_cons_zero, List.set_cons_succ]
            refine regTake 2 (v := ?_) ?_ hh0 ?_
            rotate_left
            · intro w hw; (try dsimp only at hw); go_simp; (try with_reducible rfl)
            try simp only [Act.put, List.setIfInBounds_toArray, List.set_cons_zero, List.set_cons_succ]
            refine regTake 3 (v := ?_) ?_ hh0 ?_
            rotate_left
            · intro w hw; (try dsimp only at hw); go_simp; (try with_reducible rfl)
            try simp only [Act.put, List.setIfInBounds_toArray, List.set_cons_zero, List.set_cons_succ]
            refine regTake 4 (v := ?_) ?_ hh0 ?_
            rotate_left
            · intro w hw; (try dsimp only at hw); go_simp; (try with_reducible rfl)
            try simp only [Act.put, List.setIfInBounds_toArray, List.set_cons_zero, List.set_cons_succ]
            refine regTake 5 (v := ?_) ?_ hh0 ?_
            rotate_left
            · intro w hw; (try dsimp only at hw); go_simp; (try with_reducible rfl)
            try simp only [Act.put, List.setIfInBounds_toArray, List.set_cons_zero, List.set_cons_succ]
            refine regTake 6 (v := ?_) ?_ hh0 ?_
            rotate_left
            · intro w hw; (try dsimp only at hw); go_simp; (try with_reducible rfl)
            try simp only [Act.put, List.setIfInBounds_toArray, List.set_cons_zero, List.set_cons_succ]
            refine regTake 7 (v := ?_) ?_ hh0 ?_
            rotate_left
            · intro w hw; (try dsimp only at hw); go_simp; (try with_reducible rfl)
            try simp only [Act.put, List.setIfInBounds_toArray, List.set_cons_zero, List.set_cons_succ]
            refine regTake 8 (v := ?_) ?_ hh0 ?_
            rotate_left
            · intro w hw; (try dsimp only at hw); go_simp; (try with_reducible rfl)
            try simp only [Act.put, List.setIfInBounds_toArray, List.set_cons_zero, List.set_cons_succ]
            refine regTake 9 (v := ?_) ?_ hh0 ?_
            rotate_left
            · intro w hw; (try dsimp only at hw); go_simp; (try with_reducible rfl)
            try simp only [Act.put, List.setIfInBounds_toArray, List.set_cons_zero, List.set_cons_succ]
            refine regTake 10 (v := ?_) ?_ hh0 ?_
            rotate_left
            · intro w hw; (try dsimp only at hw); go_simp; (try with_reducible rfl)
            try simp only [Act.put, List.setIfInBounds_toArray, List.set_cons_zero, List.set_cons_succ]
            refine regTake 11 (v := ?_) ?_ hh0 ?_
            rotate_left
            · intro w hw; (try dsimp only at hw); go_simp; (try with_reducible rfl)
            try simp only [Act.put, List.setIfInBounds_toArray, List.set_cons_zero, List.set_cons_succ]
            refine regTake 12 (v := ?_) ?_ hh0 ?_
            rotate_left
            · intro w hw; (try dsimp only at hw); go_simp; (try with_reducible rfl)
            try simp only [Act.put, List.setIfInBounds_toArray, List.set_cons_zero, List.set_cons_succ]
            refine regTake 13 (v := ?_) ?_ hh0 ?_
            rotate_left
            · intro w hw; (try dsimp only at hw); go_simp; (try with_reducible rfl)
            try simp only [Act.put, List.setIfInBounds_toArray, List.set_cons_zero, List.set_cons_succ]
            refine regTake 14 (v := ?_) ?_ hh0 ?_
            rotate_left
            · intro w hw; (try dsimp only at hw); go_simp; (try with_reducible rfl)
            try simp only [Act.put, List.setIfInBounds_toArray, List.set_cons_zero, List.set_cons_succ]
            refine regTake 15 (v := ?_) ?_ hh0 ?_
            rotate_left
            · intro w hw; (try dsimp only at hw); go_simp; (try with_reducible rfl)
            try simp only [Act.put, List.setIfInBounds_toArray, List.set_cons_zero, List.set_cons_succ]
            refine wpAnyH_done (by kernel_rfl) ?_ _
            clear hh0 HK
            clear gg
            go_wp2
            go_roundw
            case rel => exact ⟨_, k + 1, rfl, by omega, by go_num, hideIt (by rw [SU.out, DB.out, ← hu2.out]; exact assoc_out u2 p.name s), zz, by repeat (first | exact HH.out | refine Grows.drew ?_ | refine Grows.drewN ?_ _ | refine Grows.setCell ?_ (by simp <;> omega) _ | refine Grows.alloc ?_ _)⟩
            case measure => simp [intOf]; omega
          · have t1 : (p.dir == 2) = false := beq_eq_false_iff_ne.2 e
            have DB := hideIt (dir_in e)
            clear e
            have tz0 : ¬ 9223372036854775807 < 5 + p.name.size := by omega
            have ez0 : ((⟨#[112, 111, 114, 116, 32]⟩ : ByteArray) ++ p.name).size = 5 + p.name.size := ByteArray.size_append
            have tz1 : ¬ 9223372036854775807 < 5 + p.name.size + 4 := by omega
            have ez1 : ((⟨#[112, 111, 114, 116, 32]⟩ : ByteArray) ++ p.name ++ (⟨#[32, 105, 110, 32]⟩ : ByteArray)).size = 5 + p.name.size + 4 := by rw [ByteArray.size_append, ez0]; rfl
            have tz2 : ¬ 9223372036854775807 < 5 + p.name.size + 4 + s.size := by omega
            have ez2 : ((⟨#[112, 111, 114, 116, 32]⟩ : ByteArray) ++ p.name ++ (⟨#[32, 105, 110, 32]⟩ : ByteArray) ++ s).size = 5 + p.name.size + 4 + s.size := by rw [ByteArray.size_append, ez1]
            have tz3 : ¬ 9223372036854775807 < 5 + p.name.size + 4 + s.size + 1 := by omega
            have ez3 : ((⟨#[112, 111, 114, 116, 32]⟩ : ByteArray) ++ p.name ++ (⟨#[32, 105, 110, 32]⟩ : ByteArray) ++ s ++ (⟨#[10]⟩ : ByteArray)).size = 5 + p.name.size + 4 + s.size + 1 := by rw [ByteArray.size_append, ez2]; rfl
            have tz9 : ¬ 9223372036854775807 < u2.size + (5 + p.name.size + 4 + s.size + 1) := by omega
            have zz : (u2 ++ ((⟨#[112, 111, 114, 116, 32]⟩ : ByteArray) ++ p.name ++ (⟨#[32, 105, 110, 32]⟩ : ByteArray) ++ s ++ (⟨#[10]⟩ : ByteArray))).size ≤ 390 + 27 * (k + 1) := by rw [ByteArray.size_append, ez3]; omega
            have XB := hideIt (Blk.new wr 119 #[.string p.name, .int .i64 p.dir, .int .i64 (m : Int)])
            have KA : Keeps wr (wr.alloc (.cells #[.string p.name, .int .i64 p.dir, .int .i64 (m : Int)] 119)) := ((Grows.refl wr).alloc _).keeps
            have K0 : ∀ w', Grows (wr.alloc (.cells #[.string p.name, .int .i64 p.dir, .int .i64 (m : Int)] 119)) w' → w'.cell? ⟨w.heap.size + 1, 1, none⟩ = some (.slice (some ⟨bn, on, none⟩) d.nets.length nn) ∧ w'.cell? ⟨wr.heap.size, 0, none⟩ = some (.string p.name) ∧ w'.cell? ⟨wr.heap.size, 2, none⟩ = some (.int .i64 (m : Int)) ∧ w'.cell? ⟨bn, on + m, none⟩ = some (.string s) ∧ Grows (wr.alloc (.cells #[.string p.name, .int .i64 p.dir, .int .i64 (m : Int)] 119)) w' := fun w' G => ⟨G.keeps _ _ (KA _ _ rSD_1), G.keeps _ _ (XB.out.cell 0), G.keeps _ _ (XB.out.cell 2), G.keeps _ _ (KA _ _ q1), G⟩
            have HK := hideIt K0
            clear K0 KA
            have gg : Grows (wr.alloc (.cells #[.string p.name, .int .i64 p.dir, .int .i64 (m : Int)] 119)) (wr.alloc (.cells #[.string p.name, .int .i64 p.dir, .int .i64 (m : Int)] 119)) := Grows.refl _
            go_wp2
            refine wp_region_held_drew (S := (fun w' => w'.cell? ⟨w.heap.size + 1, 1, none⟩ = some (.slice (some ⟨bn, on, none⟩) d.nets.length nn) ∧ w'.cell? ⟨wr.heap.size, 0, none⟩ = some (.string p.name) ∧ w'.cell? ⟨wr.heap.size, 2, none⟩ = some (.int .i64 (m : Int)) ∧ w'.cell? ⟨bn, on + m, none⟩ = some (.string s) ∧ Grows (wr.alloc (.cells #[.string p.name, .int .i64 p.dir, .int .i64 (m : Int)] 119)) w')) (by kernel_rfl) ?_ (fun hh0 => ?_)
            · (try dsimp only); refine HK.out _ ?_; (repeat (first | exact gg | refine Grows.drew ?_ | refine Grows.alloc ?_ _ | refine Grows.setCell ?_ (by simp <;> omega) _))
            refine regTake 0 (v := ?_) ?_ hh0 ?_
            rotate_left
            · intro w hw; (try dsimp only at hw); go_simp; (try with_reducible rfl)
            try simp only [Act.put, List.setIfInBounds_toArray, List.set_cons_zero, List.set_cons_succ]
            refine regTake 1 (v := ?_) ?_ hh0 ?_
            rotate_left
            · intro w hw; (try dsimp only at hw); go_simp; (try with_reducible rfl)
            try simp only [Act.put, List.setIfInBounds_toArray, List.set_cons_zero, List.set_cons_succ]
            refine regTake 2 (v := ?_) ?_ hh0 ?_
            rotate_left
            · intro w hw; (try dsimp only at hw); go_simp; (try with_reducible rfl)
            try simp only [Act.put, List.setIfInBounds_toArray, List.set_cons_zero, List.set_cons_succ]
            refine regTake 3 (v := ?_) ?_ hh0 ?_
            rotate_left
            · intro w hw; (try dsimp only at hw); go_simp; (try with_reducible rfl)
            try simp only [Act.put, List.setIfInBounds_toArray, List.set_cons_zero, List.set_cons_succ]
            refine regTake 4 (v := ?_) ?_ hh0 ?_
            rotate_left
            · intro w hw; (try dsimp only at hw); go_simp; (try with_reducible rfl)
            try simp only [Act.put, List.setIfInBounds_toArray, List.set_cons_zero, List.set_cons_succ]
            refine regTake 5 (v := ?_) ?_ hh0 ?_
            rotate_left
            · intro w hw; (try dsimp only at hw); go_simp; (try with_reducible rfl)
            try simp only [Act.put, List.setIfInBounds_toArray, List.set_cons_zero, List.set_cons_succ]
            refine regTake 6 (v := ?_) ?_ hh0 ?_
            rotate_left
            · intro w hw; (try dsimp only at hw); go_simp; (try with_reducible rfl)
            try simp only [Act.put, List.setIfInBounds_toArray, List.set_cons_zero, List.set_cons_succ]
            refine regTake 7 (v := ?_) ?_ hh0 ?_
            rotate_left
            · intro w hw; (try dsimp only at hw); go_simp; (try with_reducible rfl)
            try simp only [Act.put, List.setIfInBounds_toArray, List.set_cons_zero, List.set_cons_succ]
            refine regTake 8 (v := ?_) ?_ hh0 ?_
            rotate_left
            · intro w hw; (try dsimp only at hw); go_simp; (try with_reducible rfl)
            try simp only [Act.put, List.setIfInBounds_toArray, List.set_cons_zero, List.set_cons_succ]
            refine regTake 9 (v := ?_) ?_ hh0 ?_
            rotate_left
            · intro w hw; (try dsimp only at hw); go_simp; (try with_reducible rfl)
            try simp only [Act.put, List.setIfInBounds_toArray, List.set_cons_zero, List.set_cons_succ]
            refine regTake 10 (v := ?_) ?_ hh0 ?_
            rotate_left
            · intro w hw; (try dsimp only at hw); go_simp; (try with_reducible rfl)
            try simp only [Act.put, List.setIfInBounds_toArray, List.set_cons_zero, List.set_cons_succ]
            refine regTake 11 (v := ?_) ?_ hh0 ?_
            rotate_left
            · intro w hw; (try dsimp only at hw); go_simp; (try with_reducible rfl)
            try simp only [Act.put, List.setIfInBounds_toArray, List.set_cons_zero, List.set_cons_succ]
            refine regTake 12 (v := ?_) ?_ hh0 ?_
            rotate_left
            · intro w hw; (try dsimp only at hw); go_simp; (try with_reducible rfl)
            try simp only [Act.put, List.setIfInBounds_toArray, List.set_cons_zero, List.set_cons_succ]
            refine regTake 13 (v := ?_) ?_ hh0 ?_
            rotate_left
            · intro w hw; (try dsimp only at hw); go_simp; (try with_reducible rfl)
            try simp only [Act.put, List.setIfInBounds_toArray, List.set_cons_zero, List.set_cons_succ]
            refine regTake 14 (v := ?_) ?_ hh0 ?_
            rotate_left
            · intro w hw; (try dsimp only at hw); go_simp; (try with_reducible rfl)
            try simp only [Act.put, List.setIfInBounds_toArray, List.set_cons_zero, List.set_cons_succ]
            refine regTake 15 (v := ?_) ?_ hh0 ?_
            rotate_left
            · intro w hw; (try dsimp only at hw); go_simp; (try with_reducible rfl)
            try simp only [Act.put, List.setIfInBounds_toArray, List.set_cons_zero, List.set_cons_succ]
            refine wpAnyH_done (by kernel_rfl) ?_ _
            clear hh0 HK
            clear gg
            go_wp2
            go_roundw
            case rel => exact ⟨_, k + 1, rfl, by omega, by go_num, hideIt (by rw [SU.out, DB.out, ← hu2.out]; exact assoc_in u2 p.name s), zz, by repeat (first | exact HH.out | refine Grows.drew ?_ | refine Grows.drewN ?_ _ | refine Grows.setCell ?_ (by simp <;> omega) _ | refine Grows.alloc ?_ _)⟩
            case measure => simp [intOf]; omega
        · obtain rfl : k = d.ports.length := by omega
          clear hlt hk
          obtain ⟨w4, ew4⟩ : ∃ w4 : World, w4 = wr := ⟨_, rfl⟩
          subst ew4
          have GG := hideIt (HG.out.trans HH.out)
          have rSL_0 := GG.out.keeps _ _ kSL_0
          go_wp2
          go_loopw [5, 12, 55] (fun s _ z wr => ∃ (u : ByteArray) (k : Nat), s = .string u ∧ k ≤ d.insts.length ∧ z = .int .i64 (k : Int) ∧ Hid (u = instsUp cs d k) ∧ u.size ≤ 606 + 68 * k ∧ Grows w4 wr) (fun _ _ z _ => d.insts.length - (intOf z).toNat)
          case atStart => exact ⟨_, 0, rfl, Nat.zero_le _, rfl, hideIt hu2.out, by omega, Grows.refl _⟩
          case round =>
            obtain ⟨u3, k, rfl, hk, rfl, hu3, hus3, hg⟩ := hrel
            have HI := hideIt hg
            clear hg
            have sSD_0 := HI.out.keeps _ _ rSD_0
            have sSD_1 := HI.out.keeps _ _ rSD_1
            have sSD_2 := HI.out.keeps _ _ rSD_2
            have sSL_0 := HI.out.keeps _ _ rSL_0
            by_cases hlt : k < d.insts.length
            · obtain ⟨x, hx⟩ : ∃ x, d.insts[k]? = some x := ⟨_, List.getElem?_eq_getElem hlt⟩
              obtain ⟨c, n, hT⟩ := instT_of DP.out hx
              have HT := hideIt hT
              have hlz := lineB_size hT
              have SU := hideIt (instsUp_succ (l := cs) hx)
              obtain ⟨bi, oi, XN, xn, rfl, a0, a1, a2, hxn, hxz⟩ := inst_at (RInsts.keep hd.out.parts.1 (GG.out.trans HI.out).keeps) hx
              have RX := hideIt (show RInst wr [.string x.name, .int .i64 x.cell, .slice XN x.nets.length xn] x from ⟨_, rfl, hxz, hxn⟩)
              have HL := hideIt (RCells.keep hl.out (GG.out.trans HI.out).keeps)
              have HD := hideIt (RDesign.keep hd.out (GG.out.trans HI.out).keeps)
              have m1 : (k : Int) < (d.insts.length : Int) := by omega
              have m2 : (0 : Int) ≤ (k : Int) := by omega
              obtain ⟨lb, elb⟩ : ∃ lb, lb = lineB cs d x := ⟨_, rfl⟩
              rw [← elb] at hlz
              have LB := hideIt elb
              clear hx hT hxn elb hxz
              have tz0 : ¬ 9223372036854775807 < lb.size + 1 := by omega
              have ez0 : (lb ++ (⟨#[10]⟩ : ByteArray)).size = lb.size + 1 := ByteArray.size_append
              have tz9 : ¬ 9223372036854775807 < u3.size + (lb.size + 1) := by omega
              have zz : (u3 ++ (lb ++ (⟨#[10]⟩ : ByteArray))).size ≤ 606 + 68 * (k + 1) := by rw [ByteArray.size_append, ez0]; omega
              have zl1 := cell_lt sSD_1
              have zl2 := cell_lt sSL_0
              simp at zl1 zl2
              have GA := hideIt (HI.out.alloc (.cells #[.string x.name, .int .i64 x.cell, .slice XN x.nets.length xn] 100))
              have GB : Hid (Grows wr (wr.alloc (.cells #[.string x.name, .int .i64 x.cell, .slice XN x.nets.length xn] 100))) := hideIt ((Grows.refl wr).alloc _)
              go_wp2_with fail
              refine (iLine_any _ (HL.out.keep GB.out.keeps) (HD.out.keep GB.out.keeps) (RX.out.keep GB.out.keeps) HT.out).mono ?_
              rintro e wx ⟨rfl, g⟩
              rw [← LB.out]
              have GN := hideIt (GA.out.trans g)
              clear g
              go_wp2
              go_roundw
              case rel => exact ⟨_, k + 1, rfl, by omega, by go_num, hideIt (by rw [SU.out, ← LB.out, ← hu3.out]; exact assoc_line u3 lb), zz, GN.out⟩
              case measure => simp [intOf]; omega
            · obtain rfl : k = d.insts.length := by omega
              have GE := hideIt (G.out.trans (GG.out.trans HI.out))
              go_wp2
              go_ret
              exact ⟨ret_str hu3.out, GE.out⟩

set_option maxHeartbeats 8000000 in
set_option maxRecDepth 10000 in
theorem iIText_any {vl : Value} {cs : List CellD} {a b c : Value} {d : DesignD} (n : Int) (w : World) (hl : RCells w vl cs) (hd : RDesign w [a, b, c] d) (hsl : SmCells cs) (hsd : SmDesign d) :
    Calls Tryz.prog 37 #[.agg #[vl], .agg #[a, b, c], .int .i64 n] w fun e w' => e = .returned (.string (iTextV cs d n)) ∧ Grows w w' := by
  have cl := RList.len hl
  obtain ⟨C, nc, rfl⟩ : ∃ (D : Option Addr) (q : Nat), vl = .slice D cs.length q := by obtain ⟨D, q, e, -⟩ := RList.form hl; exact ⟨D, q, e⟩
  have il := RList.len hd.parts.1
  have nl := RList.len hd.parts.2.1
  have ol := RList.len hd.parts.2.2
  obtain ⟨I, N, O, ni, nn, no, rfl, rfl, rfl⟩ := des_open hd
  have SA := hideIt hsl
  have SB := hideIt hsd
  clear hsl hsd
  have g : Grows w w := Grows.refl w
  have G : Hid (Grows w ((w.alloc (.cells #[.slice C cs.length nc] 35)).alloc (.cells #[.slice I d.insts.length ni, .slice N d.nets.length nn, .slice O d.ports.length no] 40))) := hideIt (((Grows.refl w).alloc _).alloc _)
  clear g
  have SL : Hid (Blk ((w.alloc (.cells #[.slice C cs.length nc] 35)).alloc (.cells #[.slice I d.insts.length ni, .slice N d.nets.length nn, .slice O d.ports.length no] 40)) (w.heap.size) 35 #[.slice C cs.length nc]) := by
    have := (Blk.new w 35 #[.slice C cs.length nc]).grows ((Grows.refl (w.alloc (.cells #[.slice C cs.length nc] 35))).alloc (.cells #[.slice I d.insts.length ni, .slice N d.nets.length nn, .slice O d.ports.length no] 40))
    exact hideIt (by simpa using this)
  have SD : Hid (Blk ((w.alloc (.cells #[.slice C cs.length nc] 35)).alloc (.cells #[.slice I d.insts.length ni, .slice N d.nets.length nn, .slice O d.ports.length no] 40)) (w.heap.size + 1) 40 #[.slice I d.insts.length ni, .slice N d.nets.length nn, .slice O d.ports.length no]) := by
    have := (Blk.new (w.alloc (.cells #[.slice C cs.length nc] 35)) 40 #[.slice I d.insts.length ni, .slice N d.nets.length nn, .slice O d.ports.length no]).grows (Grows.refl ((w.alloc (.cells #[.slice C cs.length nc] 35)).alloc (.cells #[.slice I d.insts.length ni, .slice N d.nets.length nn, .slice O d.ports.length no] 40)))
    exact hideIt (by simpa using this)
  replace hl := hideIt (hl.keep G.out.keeps)
  replace hd := hideIt (hd.keep G.out.keeps)
  go_enter Tryz.func37, Tryz.ntmps37
  go_wp2_with fail
  refine (iIsDes_any _ hl.out hd.out SA.out SB.out).mono ?_
  rintro e u1 ⟨rfl, g⟩
  replace G := hideIt (G.out.trans g)
  replace hl := hideIt (hl.out.keep g.keeps)
  replace hd := hideIt (hd.out.keep g.keeps)
  replace SL := hideIt (SL.out.grows g)
  replace SD := hideIt (SD.out.grows g)
  clear g
  have kSL_0 : u1.cell? ⟨w.heap.size, 0, none⟩ = some (.slice C cs.length nc) := SL.out.cell 0
  have fSL := SL.out.frozen
  have lSL : w.heap.size < u1.heap.size := SL.out.lt
  have kSD_0 : u1.cell? ⟨w.heap.size + 1, 0, none⟩ = some (.slice I d.insts.length ni) := SD.out.cell 0
  have kSD_1 : u1.cell? ⟨w.heap.size + 1, 1, none⟩ = some (.slice N d.nets.length nn) := SD.out.cell 1
  have kSD_2 : u1.cell? ⟨w.heap.size + 1, 2, none⟩ = some (.slice O d.ports.length no) := SD.out.cell 2
  have fSD := SD.out.frozen
  have lSD : w.heap.size + 1 < u1.heap.size := SD.out.lt
  cases hc : desB cs d
  · have E2 := hideIt (show iTextV cs d n = ⟨#[]⟩ from if_neg (by rw [hc]; simp))
    clear hc
    go_wp2
    go_ret
    exact ⟨ret_str E2.out.symm, G.out⟩
  · have DP := hideIt (pB_iff.1 (show pB (DesP cs d) = true from hc))
    have HC := hideIt hc
    clear hc
    go_wp2_with fail
    refine (lengthInst_any _ hd.out.parts.1).mono ?_
    rintro e wq ⟨rfl, rfl⟩
    go_wp2_with fail
    refine (within_any _ _ _ _).mono ?_
    rintro e wq ⟨rfl, rfl⟩
    cases hi : inB n 0 ((d.insts.length : Int) - 1)
    · have E2 := hideIt (show iTextV cs d n = ⟨#[]⟩ from if_neg (by rw [HC.out, hi]; simp))
      clear hi
      go_wp2
      go_ret
      exact ⟨ret_str E2.out.symm, G.out⟩
    · have hb := inB_true hi
      obtain ⟨k, rfl⟩ := Int.eq_ofNat_of_zero_le hb.1
      obtain ⟨x, hx⟩ : ∃ x, d.insts[k]? = some x := ⟨_, List.getElem?_eq_getElem (by omega)⟩
      have E2 := hideIt (show iTextV cs d (k : Int) = lineB cs d x by unfold iTextV; rw [if_pos (by rw [HC.out, hi]; rfl), Int.toNat_natCast, hx])
      obtain ⟨c, m, hT⟩ := instT_of DP.out hx
      have HT := hideIt hT
      obtain ⟨bi, oi, XN, xn, rfl, a0, a1, a2, hxn, hxz⟩ := inst_at hd.out.parts.1 hx
      have RX := hideIt (show RInst _ [.string x.name, .int .i64 x.cell, .slice XN x.nets.length xn] x from ⟨_, rfl, hxz, hxn⟩)
      have m1 : (k : Int) < (d.insts.length : Int) := by omega
      have m2 : (0 : Int) ≤ (k : Int) := by omega
      clear hx hT hxn hxz hi hb
      have K0 : ∀ w', Grows u1 w' → w'.cell? ⟨w.heap.size, 0, none⟩ = some (.slice C cs.length nc) ∧ w'.cell? ⟨w.heap.size + 1, 0, none⟩ = some (.slice (some ⟨bi, oi, none⟩) d.insts.length ni) ∧ w'.cell? ⟨w.heap.size + 1, 1, none⟩ = some (.slice N d.nets.length nn) ∧ w'.cell? ⟨w.heap.size + 1, 2, none⟩ = some (.slice O d.ports.length no) ∧ w'.cell? ⟨bi, oi + k * 3, none⟩ = some (.string x.name) ∧ w'.cell? ⟨bi, oi + k * 3 + 1, none⟩ = some (.int .i64 x.cell) ∧ w'.cell? ⟨bi, oi + k * 3 + 2, none⟩ = some (.slice XN x.nets.length xn) ∧ Grows u1 w' := fun w' G => ⟨G.keeps _ _ kSL_0, G.keeps _ _ kSD_0, G.keeps _ _ kSD_1, G.keeps _ _ kSD_2, G.keeps _ _ a0, G.keeps _ _ a1, G.keeps _ _ a2, G⟩
      have HK := hideIt K0
      clear K0
      have gg : Grows u1 u1 := Grows.refl _
      go_wp2
      refine wp_region_held_drew (S := (fun w' => w'.cell? ⟨w.heap.size, 0, none⟩ = some (.slice C cs.length nc) ∧ w'.cell? ⟨w.heap.size + 1, 0, none⟩ = some (.slice (some ⟨bi, oi, none⟩) d.insts.length ni) ∧ w'.cell? ⟨w.heap.size + 1, 1, none⟩ = some (.slice N d.nets.length nn) ∧ w'.cell? ⟨w.heap.size + 1, 2, none⟩ = some (.slice O d.ports.length no) ∧ w'.cell? ⟨bi, oi + k * 3, none⟩ = some (.string x.name) ∧ w'.cell? ⟨bi, oi + k * 3 + 1, none⟩ = some (.int .i64 x.cell) ∧ w'.cell? ⟨bi, oi + k * 3 + 2, none⟩ = some (.slice XN x.nets.length xn) ∧ Grows u1 w')) (by kernel_rfl) ?_ (fun hh0 => ?_)
      · (try dsimp only); refine HK.out _ ?_; (repeat (first | exact gg | refine Grows.drew ?_ | refine Grows.alloc ?_ _ | refine Grows.setCell ?_ (by simp <;> omega) _))
      refine regTake 0 (v := ?_) ?_ hh0 ?_
      rotate_left
      · intro w hw; (try dsimp only at hw); go_simp; (try with_reducible rfl)
      try simp only [Act.put, List.setIfInBounds_toArray, List.set_cons_zero, List.set_cons_succ]
      refine regTake 1 (v := ?_) ?_ hh0 ?_
      rotate_left
      · intro w hw; (try dsimp only at hw); go_simp; (try with_reducible rfl)
      try simp only [Act.put, List.setIfInBounds_toArray, List.set_cons_zero, List.set_cons_succ]
      refine regTake 2 (v := ?_) ?_ hh0 ?_
      rotate_left
      · intro w hw; (try dsimp only at hw); go_simp; (try with_reducible rfl)
      try simp only [Act.put, List.setIfInBounds_toArray, List.set_cons_zero, List.set_cons_succ]
      refine regTake 3 (v := ?_) ?_ hh0 ?_
      rotate_left
      · intro w hw; (try dsimp only at hw); go_simp; (try with_reducible rfl)
      try simp only [Act.put, List.setIfInBounds_toArray, List.set_cons_zero, List.set_cons_succ]
      refine regTake 4 (v := ?_) ?_ hh0 ?_
      rotate_left
      · intro w hw; (try dsimp only at hw); go_simp; (try with_reducible rfl)
      try simp only [Act.put, List.setIfInBounds_toArray, List.set_cons_zero, List.set_cons_succ]
      refine regTake 5 (v := ?_) ?_ hh0 ?_
      rotate_left
      · intro w hw; (try dsimp only at hw); go_simp; (try with_reducible rfl)
      try simp only [Act.put, List.setIfInBounds_toArray, List.set_cons_zero, List.set_cons_succ]
      refine regTake 6 (v := ?_) ?_ hh0 ?_
      rotate_left
      · intro w hw; (try dsimp only at hw); go_simp; (try with_reducible rfl)
      try simp only [Act.put, List.setIfInBounds_toArray, List.set_cons_zero, List.set_cons_succ]
      refine regCall 7 (fun K hK => ?_)
      go_simp
      refine (iLine_any _ (hl.out.keep (Grows.keeps (by (repeat (first | exact gg | refine Grows.drew ?_ | refine Grows.alloc ?_ _ | refine Grows.setCell ?_ (by simp <;> omega) _))))) (hd.out.keep (Grows.keeps (by (repeat (first | exact gg | refine Grows.drew ?_ | refine Grows.alloc ?_ _ | refine Grows.setCell ?_ (by simp <;> omega) _))))) (RX.out.keep (Grows.keeps (by (repeat (first | exact gg | refine Grows.drew ?_ | refine Grows.alloc ?_ _ | refine Grows.setCell ?_ (by simp <;> omega) _))))) HT.out).mono ?_
      rintro e wx ⟨rfl, g⟩
      replace gg : Grows u1 wx := Grows.trans (by (repeat (first | exact gg | refine Grows.drew ?_ | refine Grows.alloc ?_ _ | refine Grows.setCell ?_ (by simp <;> omega) _))) g
      clear g
      (try go_wp2_with fail)
      refine hK.out _ _ ?_ (fun hh1 => ?_)
      · (try dsimp only); refine HK.out _ ?_; (repeat (first | exact gg | refine Grows.drew ?_ | refine Grows.alloc ?_ _ | refine Grows.setCell ?_ (by simp <;> omega) _))
      clear hK K hh0
      try simp only [Act.put, List.setIfInBounds_toArray, List.set_cons_zero, List.set_cons_succ]
      refine regTake 8 (v := ?_) ?_ hh1 ?_
      rotate_left
      · intro w hw; (try dsimp only at hw); go_simp; (try with_reducible rfl)
      try simp only [Act.put, List.setIfInBounds_toArray, List.set_cons_zero, List.set_cons_succ]
      refine wpAnyH_done (by kernel_rfl) ?_ _
      clear hh1 HK
      go_wp2
      go_ret
      exact ⟨ret_str E2.out.symm, G.out.trans gg⟩

set_option maxHeartbeats 2000000 in
set_option maxRecDepth 10000 in
theorem iDText_any {vl : Value} {cs : List CellD} {a b c : Value} {d : DesignD} (w : World) (hl : RCells w vl cs) (hd : RDesign w [a, b, c] d) (hsl : SmCells cs) (hsd : SmDesign d) :
    Calls Tryz.prog 39 #[.agg #[vl], .agg #[a, b, c]] w fun e w' => e = .returned (.string (textV cs d)) ∧ Grows w w' := by
  have cl := RList.len hl
  obtain ⟨C, nc, rfl⟩ : ∃ (D : Option Addr) (q : Nat), vl = .slice D cs.length q := by obtain ⟨D, q, e, -⟩ := RList.form hl; exact ⟨D, q, e⟩
  have il := RList.len hd.parts.1
  have nl := RList.len hd.parts.2.1
  have ol := RList.len hd.parts.2.2
  obtain ⟨I, N, O, ni, nn, no, rfl, rfl, rfl⟩ := des_open hd
  have SA := hideIt hsl
  have SB := hideIt hsd
  clear hsl hsd
  have g : Grows w w := Grows.refl w
  have G : Hid (Grows w ((w.alloc (.cells #[.slice C cs.length nc] 35)).alloc (.cells #[.slice I d.insts.length ni, .slice N d.nets.length nn, .slice O d.ports.length no] 40))) := hideIt (((Grows.refl w).alloc _).alloc _)
  clear g
  have SL : Hid (Blk ((w.alloc (.cells #[.slice C cs.length nc] 35)).alloc (.cells #[.slice I d.insts.length ni, .slice N d.nets.length nn, .slice O d.ports.length no] 40)) (w.heap.size) 35 #[.slice C cs.length nc]) := by
    have := (Blk.new w 35 #[.slice C cs.length nc]).grows ((Grows.refl (w.alloc (.cells #[.slice C cs.length nc] 35))).alloc (.cells #[.slice I d.insts.length ni, .slice N d.nets.length nn, .slice O d.ports.length no] 40))
    exact hideIt (by simpa using this)
  have SD : Hid (Blk ((w.alloc (.cells #[.slice C cs.length nc] 35)).alloc (.cells #[.slice I d.insts.length ni, .slice N d.nets.length nn, .slice O d.ports.length no] 40)) (w.heap.size + 1) 40 #[.slice I d.insts.length ni, .slice N d.nets.length nn, .slice O d.ports.length no]) := by
    have := (Blk.new (w.alloc (.cells #[.slice C cs.length nc] 35)) 40 #[.slice I d.insts.length ni, .slice N d.nets.length nn, .slice O d.ports.length no]).grows (Grows.refl ((w.alloc (.cells #[.slice C cs.length nc] 35)).alloc (.cells #[.slice I d.insts.length ni, .slice N d.nets.length nn, .slice O d.ports.length no] 40)))
    exact hideIt (by simpa using this)
  replace hl := hideIt (hl.keep G.out.keeps)
  replace hd := hideIt (hd.keep G.out.keeps)
  go_enter Tryz.func39, Tryz.ntmps39
  go_wp2_with fail
  refine (iIsDes_any _ hl.out hd.out SA.out SB.out).mono ?_
  rintro e u1 ⟨rfl, g⟩
  replace G := hideIt (G.out.trans g)
  replace hl := hideIt (hl.out.keep g.keeps)
  replace hd := hideIt (hd.out.keep g.keeps)
  replace SL := hideIt (SL.out.grows g)
  replace SD := hideIt (SD.out.grows g)
  clear g
  have kSL_0 : u1.cell? ⟨w.heap.size, 0, none⟩ = some (.slice C cs.length nc) := SL.out.cell 0
  have fSL := SL.out.frozen
  have lSL : w.heap.size < u1.heap.size := SL.out.lt
  have kSD_0 : u1.cell? ⟨w.heap.size + 1, 0, none⟩ = some (.slice I d.insts.length ni) := SD.out.cell 0
  have kSD_1 : u1.cell? ⟨w.heap.size + 1, 1, none⟩ = some (.slice N d.nets.length nn) := SD.out.cell 1
  have kSD_2 : u1.cell? ⟨w.heap.size + 1, 2, none⟩ = some (.slice O d.ports.length no) := SD.out.cell 2
  have fSD := SD.out.frozen
  have lSD : w.heap.size + 1 < u1.heap.size := SD.out.lt
  cases hc : desB cs d
  · have E2 := hideIt (show textV cs d = ⟨#[]⟩ from if_neg (by rw [hc]; decide))
    clear hc
    go_wp2
    go_ret
    exact ⟨ret_str E2.out.symm, G.out⟩
  · have DP := hideIt (pB_iff.1 (show pB (DesP cs d) = true from hc))
    have E2 := hideIt (show textV cs d = textB cs d from if_pos hc)
    clear hc
    go_wp2_with fail
    clear kSL_0 fSL lSL kSD_0 kSD_1 kSD_2 fSD lSD
    refine (iText_in _ hl.out hd.out DP.out).mono ?_
    rintro e u2 ⟨rfl, g⟩
    replace G := hideIt (G.out.trans g)
    replace hl := hideIt (hl.out.keep g.keeps)
    replace hd := hideIt (hd.out.keep g.keeps)
    replace SL := hideIt (SL.out.grows g)
    replace SD := hideIt (SD.out.grows g)
    clear g
    have kSL_0 : u2.cell? ⟨w.heap.size, 0, none⟩ = some (.slice C cs.length nc) := SL.out.cell 0
    have fSL := SL.out.frozen
    have lSL : w.heap.size < u2.heap.size := SL.out.lt
    have kSD_0 : u2.cell? ⟨w.heap.size + 1, 0, none⟩ = some (.slice I d.insts.length ni) := SD.out.cell 0
    have kSD_1 : u2.cell? ⟨w.heap.size + 1, 1, none⟩ = some (.slice N d.nets.length nn) := SD.out.cell 1
    have kSD_2 : u2.cell? ⟨w.heap.size + 1, 2, none⟩ = some (.slice O d.ports.length no) := SD.out.cell 2
    have fSD := SD.out.frozen
    have lSD : w.heap.size + 1 < u2.heap.size := SD.out.lt
    go_wp2
    go_ret
    exact ⟨ret_str E2.out.symm, G.out⟩

end Go.Proofs.YtphdlidoehagbaaGreatDoor
