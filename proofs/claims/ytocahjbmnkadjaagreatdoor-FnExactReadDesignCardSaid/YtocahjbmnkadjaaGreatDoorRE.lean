/-
  Cells by name: l03Cell and cellNamed.
-/
import Derived.Test.YtocahjbmnkadjaaGreatDoorGM
import Derived.Test.YtocahjbmnkadjaaGreatDoorGD
namespace Go.Proofs.YtocahjbmnkadjaaGreatDoor
open Go.RowKit
set_option maxHeartbeats 2000000 in
theorem l03Cell_any {v : Value} {cs : List CellD} (s : ByteArray) (w : World) (h : RCells w v cs) :
    Calls Tryz.prog 36 #[.agg #[v], .string s] w fun e w' => e = .returned (.int .i64 (cellI s cs)) ∧ Grows w w' := by
  have hl := RList.len h
  obtain ⟨C, nc, rfl, -, -, hx⟩ := RList.form h
  have g0 := (Grows.refl w).alloc (.cells #[.slice C cs.length nc] 35)
  have S := hideIt (Blk.new w 35 #[.slice C cs.length nc])
  have HX := hideIt hx
  have G := hideIt g0
  clear h hx g0
  have k0 : (w.alloc (.cells #[.slice C cs.length nc] 35)).cell? ⟨w.heap.size, 0, none⟩ = some (.slice C cs.length nc) := S.out.cell 0
  go_enter Tryz.func36, Tryz.ntmps36
  go_wp2
  go_loop [5] (fun i => ∃ k : Nat, k ≤ cs.length ∧ i = .int .i64 (k : Int) ∧ Hid (∀ (j : Nat) (p : CellD), j < k → cs[j]? = some p → decide (p.name = s) = false)) (fun i => cs.length - (intOf i).toNat)
  case atStart => exact ⟨0, by omega, rfl, fun j p hj => absurd hj (by omega)⟩
  case round =>
    obtain ⟨k, hk, rfl, hco⟩ := hrel
    by_cases hlt : k < cs.length
    · obtain ⟨p, hp⟩ : ∃ p, cs[k]? = some p := ⟨_, List.getElem?_eq_getElem hlt⟩
      obtain ⟨b, off, rfl, ds, hl1, hcs, hr⟩ := HX.out k p hp
      obtain ⟨d0, d1, d2, d3, d4, d5, d6, rfl⟩ := list7 hl1
      obtain ⟨rfl, -⟩ := hr.parts
      have kp : (w.alloc (.cells #[.slice (some ⟨b, off, none⟩) cs.length nc] 35)).cell? ⟨b, off + k * 7, none⟩ = some (.string p.name) := G.out.keeps _ _ (by simpa using hcs 0 _ rfl)
      have P1 := hideIt hp
      clear hcs hl1 hr hp
      cases hq : decide (p.name = s)
      · have he1 := strNe (of_decide_eq_false hq)
        have HQ := hideIt hq
        clear hq
        go_wp2
        go_round
        case rel => exact ⟨k + 1, by omega, by go_num, fun j q hj hy => by
          by_cases e : j = k
          · subst e; rw [P1.out] at hy; injection hy with hy; rw [← hy]; exact HQ.out
          · exact hco.out j q (by omega) hy⟩
        case measure => simp [intOf]; omega
      · have EV := hideIt (show cellI s cs = (k : Int) from idxF_hit P1.out hq hco.out)
        have he0 := of_decide_eq_true hq
        rw [he0] at kp
        clear he0 hq
        go_wp2
        go_ret
        exact ⟨ret_int EV.out.symm, G.out⟩
    · obtain rfl : k = cs.length := by omega
      have EV := hideIt (show cellI s cs = -1 from idxF_miss hco.out)
      clear hco
      go_wp2
      go_ret
      exact ⟨ret_int EV.out.symm, G.out⟩
theorem cellNamed1_any (s : ByteArray) (x : CellD) (c0 c1 c2 c3 c4 c5 c6 : Value) (g : Nat) (W : World) (hr : RCell W [c0, c1, c2, c3, c4, c5, c6] x) (hb : W.cell? ⟨g, 0, none⟩ = some (.string s)) :
    Calls Tryz.prog 124 #[.agg #[c0, c1, c2, c3, c4, c5, c6], .pointer (some ⟨g, 0, none⟩)] W fun e W' => e = .returned (.bool (decide (x.name = s))) ∧ Grows W W' := by
  obtain ⟨rfl, rfl, h2, h3, h4, rfl, rfl, -⟩ := hr.parts
  obtain ⟨A2, m2, rfl⟩ : ∃ (D : Option Addr) (nd : Nat), c2 = .slice D x.pins.length nd := by obtain ⟨D, c, e, -⟩ := RList.form h2; exact ⟨D, c, e⟩
  obtain ⟨A3, m3, rfl⟩ : ∃ (D : Option Addr) (nd : Nat), c3 = .slice D x.arcs.length nd := by obtain ⟨D, c, e, -⟩ := RList.form h3; exact ⟨D, c, e⟩
  obtain ⟨A4, m4, rfl⟩ : ∃ (D : Option Addr) (nd : Nat), c4 = .slice D x.truth.length nd := by obtain ⟨D, c, e, -⟩ := RList.form h4; exact ⟨D, c, e⟩
  have lb := cell_lt hb
  simp at lb
  clear hr h2 h3 h4
  by_cases he : x.name = s
  · have E := hideIt (decide_eq_true he)
    rw [he]
    clear he
    go_enter Tryz.func124, Tryz.ntmps124
    go_wp2
    go_ret
    exact ⟨ret_bool (by simp), (Grows.refl _).alloc _⟩
  · have E := hideIt (decide_eq_false he)
    have he1 := strNe he
    go_enter Tryz.func124, Tryz.ntmps124
    go_wp2
    go_ret
    exact ⟨ret_bool E.out.symm, (Grows.refl _).alloc _⟩
set_option maxHeartbeats 400000 in
theorem iCellNm_any {v : Value} {cs : List CellD} (s : ByteArray) (w : World) (h : RCells w v cs) :
    Calls Tryz.prog 98 #[.agg #[v], .string s] w fun e w' => e = .returned (.int .i64 (cellI s cs)) ∧ Grows w w' := by
  obtain ⟨C, nc, rfl⟩ : ∃ (D : Option Addr) (nd : Nat), v = .slice D cs.length nd := by obtain ⟨D, c, e, -⟩ := RList.form h; exact ⟨D, c, e⟩
  have g0 := ((Grows.refl w).alloc (.cells #[.slice C cs.length nc] 35)).alloc (.cells #[.string s] 9)
  have H := hideIt (RCells.keep h g0.keeps)
  have G := hideIt g0
  clear h g0
  go_enter Tryz.func98, Tryz.ntmps98
  go_wp2_with fail
  refine (indexFuncCell_any 124 _ (fun args W => enters_of Tryz.func124 (by kernel_rfl) rfl args W) (fun c => decide (c.name = s)) _ H.out ?_).mono ?_
  · intro y c0 c1 c2 c3 c4 c5 c6 W _ gw hr
    exact cellNamed1_any s y c0 c1 c2 c3 c4 c5 c6 _ W hr (gw.keeps _ _ (by simp))
  rintro e w1 ⟨rfl, g1⟩
  have G1 := hideIt (G.out.trans g1)
  clear g1
  go_wp2
  go_ret
  exact ⟨ret_int (by rfl), G1.out⟩
end Go.Proofs.YtocahjbmnkadjaaGreatDoor
/-
  Contracts of InstanceNamed, PortNamed, NetNamed, the reference's and the program's.
-/
namespace Go.Proofs.YtocahjbmnkadjaaGreatDoor
open Go.RowKit

theorem RDesign.shape {w : World} {v0 v1 v2 : Value} {x : DesignD} (h : RDesign w [v0, v1, v2] x) :
    (∃ (A : Option Addr) (n : Nat), v0 = .slice A x.insts.length n) ∧ (∃ (A : Option Addr) (n : Nat), v1 = .slice A x.nets.length n) ∧ (∃ (A : Option Addr) (n : Nat), v2 = .slice A x.ports.length n) := by
  obtain ⟨h0, h1, h2⟩ := h.parts
  exact ⟨by obtain ⟨A, c, h, -⟩ := RList.form h0; exact ⟨A, c, h⟩, by obtain ⟨A, c, h, -⟩ := RList.form h1; exact ⟨A, c, h⟩, by obtain ⟨A, c, h, -⟩ := RList.form h2; exact ⟨A, c, h⟩⟩
set_option maxHeartbeats 1000000 in
theorem l04Index_any {v : Value} {xs : List ByteArray} (s : ByteArray) (w : World) (h : RStrs w v xs) :
    Calls Tryz.prog 35 #[v, .string s] w fun e w' => e = .returned (.int .i64 (idxF (fun y => decide (y = s)) xs)) ∧ w' = w := by
  have hl := RList.len h
  obtain ⟨A, c, rfl, -, -, hx⟩ := RList.form h
  have HX := hideIt hx
  clear hx h
  go_enter Tryz.func35, Tryz.ntmps35
  go_wp2
  go_loop [5] (fun i => ∃ k : Nat, k ≤ xs.length ∧ i = .int .i64 (k : Int) ∧ Hid (∀ (j : Nat) (y : ByteArray), j < k → xs[j]? = some y → decide (y = s) = false)) (fun i => xs.length - (intOf i).toNat)
  case atStart => exact ⟨0, Nat.zero_le _, rfl, fun i y hi => absurd hi (by omega)⟩
  case round =>
    obtain ⟨k, hk, rfl, hco⟩ := hrel
    by_cases hlt : k < xs.length
    · obtain ⟨y, hy⟩ : ∃ y, xs[k]? = some y := ⟨_, List.getElem?_eq_getElem hlt⟩
      obtain ⟨b, off, rfl, cs, hl1, hcs, hr⟩ := HX.out k y hy
      obtain ⟨c0, rfl⟩ := list1 hl1
      obtain ⟨hr, -⟩ := hr
      injection hr with hr
      subst hr
      have hs0 : w.cell? ⟨b, off + k, none⟩ = some (.string y) := by simpa using (hcs 0 _ rfl)
      have Y := hideIt hy
      clear hcs hl1 hy
      by_cases he : y = s
      · have HE := hideIt (decide_eq_true he)
        go_wp2
        go_ret
        exact ⟨ret_int (idxF_hit Y.out HE.out hco.out).symm, rfl⟩
      · have HE := hideIt (decide_eq_false he)
        have he2 := strNe he
        go_wp2
        go_round
        case rel => exact ⟨k + 1, by omega, by go_num, fun j z hj hz => by
          by_cases e : j = k
          · subst e; rw [Y.out] at hz; injection hz with hz; rw [← hz]; exact HE.out
          · exact hco.out j z (by omega) hz⟩
        case measure => simp [intOf]; omega
    · have hk2 : k = xs.length := by omega
      subst hk2
      go_wp2
      go_ret
      exact ⟨ret_int (idxF_miss hco.out).symm, rfl⟩
set_option maxHeartbeats 1000000 in
theorem indexStrN_any {v : Value} {xs : List ByteArray} (s : ByteArray) (w : World) (h : RStrs w v xs) :
    Calls Tryz.prog 97 #[v, .string s] w fun e w' => e = .returned (.int .i64 (idxF (fun y => decide (y = s)) xs)) ∧ w' = w := by
  have hl := RList.len h
  obtain ⟨A, c, rfl, -, -, hx⟩ := RList.form h
  have HX := hideIt hx
  clear hx h
  go_enter Tryz.func97, Tryz.ntmps97
  go_wp2
  go_loop [5, 8] (fun _ i => ∃ k : Nat, k ≤ xs.length ∧ i = .int .i64 (k : Int) ∧ Hid (∀ (j : Nat) (y : ByteArray), j < k → xs[j]? = some y → decide (y = s) = false)) (fun _ i => xs.length - (intOf i).toNat)
  case atStart => exact ⟨0, Nat.zero_le _, rfl, fun i y hi => absurd hi (by omega)⟩
  case round =>
    obtain ⟨k, hk, rfl, hco⟩ := hrel
    by_cases hlt : k < xs.length
    · obtain ⟨y, hy⟩ : ∃ y, xs[k]? = some y := ⟨_, List.getElem?_eq_getElem hlt⟩
      obtain ⟨b, off, rfl, cs, hl1, hcs, hr⟩ := HX.out k y hy
      obtain ⟨c0, rfl⟩ := list1 hl1
      obtain ⟨hr, -⟩ := hr
      injection hr with hr
      subst hr
      have hs0 : w.cell? ⟨b, off + k, none⟩ = some (.string y) := by simpa using (hcs 0 _ rfl)
      have Y := hideIt hy
      clear hcs hl1 hy
      by_cases he : y = s
      · have HE := hideIt (decide_eq_true he)
        go_wp2
        go_ret
        exact ⟨ret_int (idxF_hit Y.out HE.out hco.out).symm, rfl⟩
      · have HE := hideIt (decide_eq_false he)
        have he2 := strNe (fun h => he h.symm)
        go_wp2
        go_round
        case rel => exact ⟨k + 1, by omega, by go_num, fun j z hj hz => by
          by_cases e : j = k
          · subst e; rw [Y.out] at hz; injection hz with hz; rw [← hz]; exact HE.out
          · exact hco.out j z (by omega) hz⟩
        case measure => simp [intOf]; omega
    · have hk2 : k = xs.length := by omega
      subst hk2
      go_wp2
      go_ret
      exact ⟨ret_int (idxF_miss hco.out).symm, rfl⟩
set_option maxHeartbeats 400000 in
theorem netNamed_any {v0 v1 v2 : Value} {x : DesignD} (s : ByteArray) (w : World) (h : RDesign w [v0, v1, v2] x) :
    Calls Tryz.prog 71 #[.agg #[v0, v1, v2], .string s] w fun e w' => e = .returned (.int .i64 (idxF (fun y => decide (y = s)) x.nets)) ∧ Grows w w' := by
  have H := hideIt h.parts.2.1
  have H0 := hideIt h
  clear h
  have g0 := hideIt ((Grows.refl w).alloc (.cells #[v0, v1, v2] 30))
  go_enter Tryz.func71, Tryz.ntmps71
  go_wp2_with fail
  refine (indexStrN_any s _ (H.out.keep g0.out.keeps)).mono ?_
  rintro e w1 ⟨rfl, g1⟩
  subst g1
  go_wp2
  go_ret
  exact ⟨rfl, g0.out⟩
end Go.Proofs.YtocahjbmnkadjaaGreatDoor
