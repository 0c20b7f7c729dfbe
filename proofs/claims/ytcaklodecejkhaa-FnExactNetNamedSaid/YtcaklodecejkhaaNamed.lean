/-
  Contracts of InstanceNamed, PortNamed, NetNamed, the reference's and the program's.
-/
import Derived.Test.YtcaklodecejkhaaDesignT
namespace Go.Proofs.Ytcaklodecejkhaa
open Go.RowKit

theorem RDesign.shape {w : World} {v0 v1 v2 : Value} {x : DesignD} (h : RDesign w [v0, v1, v2] x) :
    (∃ (A : Option Addr) (n : Nat), v0 = .slice A x.insts.length n) ∧ (∃ (A : Option Addr) (n : Nat), v1 = .slice A x.nets.length n) ∧ (∃ (A : Option Addr) (n : Nat), v2 = .slice A x.ports.length n) := by
  obtain ⟨h0, h1, h2⟩ := h.parts
  exact ⟨by obtain ⟨A, c, h, -⟩ := RList.form h0; exact ⟨A, c, h⟩, by obtain ⟨A, c, h, -⟩ := RList.form h1; exact ⟨A, c, h⟩, by obtain ⟨A, c, h, -⟩ := RList.form h2; exact ⟨A, c, h⟩⟩
set_option maxHeartbeats 2000000 in
theorem sInstNamed_any {v0 v1 v2 : Value} {x : DesignD} (s : ByteArray) (w : World) (h : RDesign w [v0, v1, v2] x) :
    Calls Try.prog 7 #[.agg #[v0, v1, v2], .string s] w fun e w' => e = .returned (.int .i64 (idxF (fun y => decide (y.name = s)) x.insts)) ∧ Grows w w' := by
  obtain ⟨⟨A0, n0, rfl⟩, ⟨A1, n1, rfl⟩, ⟨A2, n2, rfl⟩⟩ := h.shape
  have g0 := (Grows.refl w).alloc (.cells #[.slice A0 x.insts.length n0, .slice A1 x.nets.length n1, .slice A2 x.ports.length n2] 32)
  have hk := h.parts.1
  have hl := hk.len
  obtain ⟨A, c, hv, -, -, hx⟩ := RList.form hk
  injection hv with e1 e2 e3
  subst e1 e3
  have HX := hideIt hx
  have S := Blk.new w 32 #[.slice A0 x.insts.length n0, .slice A1 x.nets.length n1, .slice A2 x.ports.length n2]
  have kS : (w.alloc (.cells #[.slice A0 x.insts.length n0, .slice A1 x.nets.length n1, .slice A2 x.ports.length n2] 32)).cell? ⟨w.heap.size, 0, none⟩ = some (.slice A0 x.insts.length n0) := S.cell 0
  have G0 := hideIt g0
  clear hx h hk e2 g0 S
  go_enter Try.func7, Try.ntmps7
  go_wp2
  go_loop [5] (fun i => ∃ k : Nat, k ≤ x.insts.length ∧ i = .int .i64 (k : Int) ∧ Hid (∀ (j : Nat) (y : InstD), j < k → x.insts[j]? = some y → decide (y.name = s) = false)) (fun i => x.insts.length - (intOf i).toNat)
  case atStart => exact ⟨0, Nat.zero_le _, rfl, fun i y hi => absurd hi (by omega)⟩
  case round =>
    obtain ⟨k, hk, rfl, hco⟩ := hrel
    by_cases hlt : k < x.insts.length
    · obtain ⟨y, hy⟩ : ∃ y, x.insts[k]? = some y := ⟨_, List.getElem?_eq_getElem hlt⟩
      obtain ⟨b, off, rfl, cs, hl1, hcs, hr⟩ := HX.out k y hy
      obtain ⟨c0, c1, c2, rfl⟩ := list3 hl1
      have hc0 : c0 = .string y.name := hr.parts.1
      subst hc0
      have hs0 : (w.alloc (.cells #[.slice (some ⟨b, off, none⟩) x.insts.length n0, .slice A1 x.nets.length n1, .slice A2 x.ports.length n2] 32)).cell? ⟨b, off + k * 3, none⟩ = some (.string y.name) := G0.out.keeps _ _ (by simpa [Nat.add_assoc] using (hcs 0 _ rfl))
      have lb : b < w.heap.size := cell_lt (a := ⟨b, off + k * 3, none⟩) (by simpa [Nat.add_assoc] using (hcs 0 _ rfl))
      have hs1 : w.cell? ⟨b, off + k * 3, none⟩ = some (.string y.name) := by simpa [Nat.add_assoc] using (hcs 0 _ rfl)
      have Y := hideIt hy
      clear hcs hl1 hr hy
      by_cases he : y.name = s
      · have HE := hideIt (decide_eq_true he)
        go_wp2
        go_ret
        exact ⟨ret_int (idxF_hit Y.out HE.out hco.out).symm, G0.out⟩
      · have HE := hideIt (decide_eq_false he)
        have he2 := strNe he
        go_wp2
        go_round
        case rel => exact ⟨k + 1, by omega, by go_num, fun j z hj hz => by
          by_cases e : j = k
          · subst e; rw [Y.out] at hz; injection hz with hz; rw [← hz]; exact HE.out
          · exact hco.out j z (by omega) hz⟩
        case measure => simp [intOf]; omega
    · have hk2 : k = x.insts.length := by omega
      subst hk2
      go_wp2
      go_ret
      exact ⟨ret_int (idxF_miss hco.out).symm, G0.out⟩
set_option maxHeartbeats 2000000 in
theorem sPortNamed_any {v0 v1 v2 : Value} {x : DesignD} (s : ByteArray) (w : World) (h : RDesign w [v0, v1, v2] x) :
    Calls Try.prog 11 #[.agg #[v0, v1, v2], .string s] w fun e w' => e = .returned (.int .i64 (idxF (fun y => decide (y.name = s)) x.ports)) ∧ Grows w w' := by
  obtain ⟨⟨A0, n0, rfl⟩, ⟨A1, n1, rfl⟩, ⟨A2, n2, rfl⟩⟩ := h.shape
  have g0 := (Grows.refl w).alloc (.cells #[.slice A0 x.insts.length n0, .slice A1 x.nets.length n1, .slice A2 x.ports.length n2] 32)
  have hk := h.parts.2.2
  have hl := hk.len
  obtain ⟨A, c, hv, -, -, hx⟩ := RList.form hk
  injection hv with e1 e2 e3
  subst e1 e3
  have HX := hideIt hx
  have S := Blk.new w 32 #[.slice A0 x.insts.length n0, .slice A1 x.nets.length n1, .slice A2 x.ports.length n2]
  have kS : (w.alloc (.cells #[.slice A0 x.insts.length n0, .slice A1 x.nets.length n1, .slice A2 x.ports.length n2] 32)).cell? ⟨w.heap.size, 2, none⟩ = some (.slice A2 x.ports.length n2) := S.cell 2
  have G0 := hideIt g0
  clear hx h hk e2 g0 S
  go_enter Try.func11, Try.ntmps11
  go_wp2
  go_loop [5] (fun i => ∃ k : Nat, k ≤ x.ports.length ∧ i = .int .i64 (k : Int) ∧ Hid (∀ (j : Nat) (y : PortD), j < k → x.ports[j]? = some y → decide (y.name = s) = false)) (fun i => x.ports.length - (intOf i).toNat)
  case atStart => exact ⟨0, Nat.zero_le _, rfl, fun i y hi => absurd hi (by omega)⟩
  case round =>
    obtain ⟨k, hk, rfl, hco⟩ := hrel
    by_cases hlt : k < x.ports.length
    · obtain ⟨y, hy⟩ : ∃ y, x.ports[k]? = some y := ⟨_, List.getElem?_eq_getElem hlt⟩
      obtain ⟨b, off, rfl, cs, hl1, hcs, hr⟩ := HX.out k y hy
      obtain ⟨c0, c1, c2, rfl⟩ := list3 hl1
      have hc0 : c0 = .string y.name := hr.parts.1
      subst hc0
      have hs0 : (w.alloc (.cells #[.slice A0 x.insts.length n0, .slice A1 x.nets.length n1, .slice (some ⟨b, off, none⟩) x.ports.length n2] 32)).cell? ⟨b, off + k * 3, none⟩ = some (.string y.name) := G0.out.keeps _ _ (by simpa [Nat.add_assoc] using (hcs 0 _ rfl))
      have lb : b < w.heap.size := cell_lt (a := ⟨b, off + k * 3, none⟩) (by simpa [Nat.add_assoc] using (hcs 0 _ rfl))
      have hs1 : w.cell? ⟨b, off + k * 3, none⟩ = some (.string y.name) := by simpa [Nat.add_assoc] using (hcs 0 _ rfl)
      have Y := hideIt hy
      clear hcs hl1 hr hy
      by_cases he : y.name = s
      · have HE := hideIt (decide_eq_true he)
        go_wp2
        go_ret
        exact ⟨ret_int (idxF_hit Y.out HE.out hco.out).symm, G0.out⟩
      · have HE := hideIt (decide_eq_false he)
        have he2 := strNe he
        go_wp2
        go_round
        case rel => exact ⟨k + 1, by omega, by go_num, fun j z hj hz => by
          by_cases e : j = k
          · subst e; rw [Y.out] at hz; injection hz with hz; rw [← hz]; exact HE.out
          · exact hco.out j z (by omega) hz⟩
        case measure => simp [intOf]; omega
    · have hk2 : k = x.ports.length := by omega
      subst hk2
      go_wp2
      go_ret
      exact ⟨ret_int (idxF_miss hco.out).symm, G0.out⟩
set_option maxHeartbeats 400000 in
theorem iInstNamed_1 {c0 c1 c2 : Value} {y : InstD} (s : ByteArray) (b : Nat) (W : World) (hr : RInst W [c0, c1, c2] y) (hb : W.cell? ⟨b, 0, none⟩ = some (.string s)) :
    Calls Try.prog 22 #[.agg #[c0, c1, c2], .pointer (some ⟨b, 0, none⟩)] W fun e W' => e = .returned (.bool (decide (y.name = s))) ∧ Grows W W' := by
  have hc0 : c0 = .string y.name := hr.parts.1
  subst hc0
  have lb := cell_lt hb
  simp at lb
  clear hr
  by_cases he : y.name = s
  · go_enter Try.func22, Try.ntmps22
    go_wp2
    go_ret
    exact ⟨ret_bool (decide_eq_true he).symm, (Grows.refl _).alloc _⟩
  · have he2 := strNe he
    go_enter Try.func22, Try.ntmps22
    go_wp2
    go_ret
    exact ⟨ret_bool (decide_eq_false he).symm, (Grows.refl _).alloc _⟩
set_option maxHeartbeats 1000000 in
theorem iInstNamed_any {v0 v1 v2 : Value} {x : DesignD} (s : ByteArray) (w : World) (h : RDesign w [v0, v1, v2] x) :
    Calls Try.prog 9 #[.agg #[v0, v1, v2], .string s] w fun e w' => e = .returned (.int .i64 (idxF (fun y => decide (y.name = s)) x.insts)) ∧ Grows w w' := by
  have H := hideIt h.parts.1
  clear h
  go_enter Try.func9, Try.ntmps9
  go_wp2_with fail
  have g0 : Grows w ((w.alloc (.cells #[v0, v1, v2] 32)).alloc (.cells #[.string s] 9)) := ((Grows.refl _).alloc _).alloc _
  refine (indexFuncInst_any 22 _ (fun args W => enters_of Try.func22 (by kernel_rfl) rfl args W) (fun y => decide (y.name = s)) _ (RList.keep H.out g0.keeps fun _ _ h => h.keep g0.keeps) ?_).mono ?_
  · intro y c0 c1 c2 W _ gw hr
    exact iInstNamed_1 s _ W hr (gw.keeps _ _ (by simp))
  rintro e w1 ⟨rfl, g1⟩
  go_wp2
  go_ret
  exact ⟨rfl, g0.trans g1⟩
set_option maxHeartbeats 400000 in
theorem iPortNamed_1 {c0 c1 c2 : Value} {y : PortD} (s : ByteArray) (b : Nat) (W : World) (hr : RPort W [c0, c1, c2] y) (hb : W.cell? ⟨b, 0, none⟩ = some (.string s)) :
    Calls Try.prog 27 #[.agg #[c0, c1, c2], .pointer (some ⟨b, 0, none⟩)] W fun e W' => e = .returned (.bool (decide (y.name = s))) ∧ Grows W W' := by
  have hc0 : c0 = .string y.name := hr.parts.1
  subst hc0
  have lb := cell_lt hb
  simp at lb
  clear hr
  by_cases he : y.name = s
  · go_enter Try.func27, Try.ntmps27
    go_wp2
    go_ret
    exact ⟨ret_bool (decide_eq_true he).symm, (Grows.refl _).alloc _⟩
  · have he2 := strNe he
    go_enter Try.func27, Try.ntmps27
    go_wp2
    go_ret
    exact ⟨ret_bool (decide_eq_false he).symm, (Grows.refl _).alloc _⟩
set_option maxHeartbeats 1000000 in
theorem iPortNamed_any {v0 v1 v2 : Value} {x : DesignD} (s : ByteArray) (w : World) (h : RDesign w [v0, v1, v2] x) :
    Calls Try.prog 12 #[.agg #[v0, v1, v2], .string s] w fun e w' => e = .returned (.int .i64 (idxF (fun y => decide (y.name = s)) x.ports)) ∧ Grows w w' := by
  have H := hideIt h.parts.2.2
  clear h
  go_enter Try.func12, Try.ntmps12
  go_wp2_with fail
  have g0 : Grows w ((w.alloc (.cells #[v0, v1, v2] 32)).alloc (.cells #[.string s] 9)) := ((Grows.refl _).alloc _).alloc _
  refine (indexFuncPort_any 27 _ (fun args W => enters_of Try.func27 (by kernel_rfl) rfl args W) (fun y => decide (y.name = s)) _ (RList.keep H.out g0.keeps fun _ _ h => h.keep g0.keeps) ?_).mono ?_
  · intro y c0 c1 c2 W _ gw hr
    exact iPortNamed_1 s _ W hr (gw.keeps _ _ (by simp))
  rintro e w1 ⟨rfl, g1⟩
  go_wp2
  go_ret
  exact ⟨rfl, g0.trans g1⟩
set_option maxHeartbeats 1000000 in
theorem l04Index_any {v : Value} {xs : List ByteArray} (s : ByteArray) (w : World) (h : RStrs w v xs) :
    Calls Try.prog 28 #[v, .string s] w fun e w' => e = .returned (.int .i64 (idxF (fun y => decide (y = s)) xs)) ∧ w' = w := by
  have hl := RList.len h
  obtain ⟨A, c, rfl, -, -, hx⟩ := RList.form h
  have HX := hideIt hx
  clear hx h
  go_enter Try.func28, Try.ntmps28
  go_wp2
  go_loop [5] (fun i => ∃ k : Nat, k ≤ xs.length ∧ i = .int .i64 (k : Int) ∧ Hid (∀ (j : Nat) (y : ByteArray), j < k → xs[j]? = some y → decide (y = s) = false)) (fun i => xs.length - (intOf i).toNat)
  case atStart => exact ⟨0, Nat.zero_le _, rfl, fun i y hi => absurd hi (by omega)⟩
  case round =>
    obtain ⟨k, hk, rfl, hco⟩ := hrel
    by_cases hlt : k < xs.length
    · obtain ⟨y, hy⟩ : ∃ y, xs[k]? = some y := ⟨_, List.getElem?_eq_getElem hlt⟩
      obtain ⟨b, off, rfl, cs, hl1, hcs, hr⟩ := HX.out k y hy
      obtain ⟨c0, rfl⟩ := list1 hl1
      obtain ⟨hr, -⟩ := hr
      injection hr with hr
      subst hr
      have hs0 : w.cell? ⟨b, off + k, none⟩ = some (.string y) := by simpa using (hcs 0 _ rfl)
      have Y := hideIt hy
      clear hcs hl1 hy
      by_cases he : y = s
      · have HE := hideIt (decide_eq_true he)
        go_wp2
        go_ret
        exact ⟨ret_int (idxF_hit Y.out HE.out hco.out).symm, rfl⟩
      · have HE := hideIt (decide_eq_false he)
        have he2 := strNe he
        go_wp2
        go_round
        case rel => exact ⟨k + 1, by omega, by go_num, fun j z hj hz => by
          by_cases e : j = k
          · subst e; rw [Y.out] at hz; injection hz with hz; rw [← hz]; exact HE.out
          · exact hco.out j z (by omega) hz⟩
        case measure => simp [intOf]; omega
    · have hk2 : k = xs.length := by omega
      subst hk2
      go_wp2
      go_ret
      exact ⟨ret_int (idxF_miss hco.out).symm, rfl⟩
set_option maxHeartbeats 400000 in
theorem sNetNamed_any {v0 v1 v2 : Value} {x : DesignD} (s : ByteArray) (w : World) (h : RDesign w [v0, v1, v2] x) :
    Calls Try.prog 13 #[.agg #[v0, v1, v2], .string s] w fun e w' => e = .returned (.int .i64 (idxF (fun y => decide (y = s)) x.nets)) ∧ Grows w w' := by
  have H := hideIt h.parts.2.1
  have H0 := hideIt h
  clear h
  have g0 := hideIt ((Grows.refl w).alloc (.cells #[v0, v1, v2] 32))
  go_enter Try.func13, Try.ntmps13
  go_wp2_with fail
  refine (l04Index_any s _ (H.out.keep g0.out.keeps)).mono ?_
  rintro e w1 ⟨rfl, g1⟩
  subst g1
  go_wp2
  go_ret
  exact ⟨rfl, g0.out⟩
set_option maxHeartbeats 1000000 in
theorem indexStr_any {v : Value} {xs : List ByteArray} (s : ByteArray) (w : World) (h : RStrs w v xs) :
    Calls Try.prog 36 #[v, .string s] w fun e w' => e = .returned (.int .i64 (idxF (fun y => decide (y = s)) xs)) ∧ w' = w := by
  have hl := RList.len h
  obtain ⟨A, c, rfl, -, -, hx⟩ := RList.form h
  have HX := hideIt hx
  clear hx h
  go_enter Try.func36, Try.ntmps36
  go_wp2
  go_loop [5, 8] (fun _ i => ∃ k : Nat, k ≤ xs.length ∧ i = .int .i64 (k : Int) ∧ Hid (∀ (j : Nat) (y : ByteArray), j < k → xs[j]? = some y → decide (y = s) = false)) (fun _ i => xs.length - (intOf i).toNat)
  case atStart => exact ⟨0, Nat.zero_le _, rfl, fun i y hi => absurd hi (by omega)⟩
  case round =>
    obtain ⟨k, hk, rfl, hco⟩ := hrel
    by_cases hlt : k < xs.length
    · obtain ⟨y, hy⟩ : ∃ y, xs[k]? = some y := ⟨_, List.getElem?_eq_getElem hlt⟩
      obtain ⟨b, off, rfl, cs, hl1, hcs, hr⟩ := HX.out k y hy
      obtain ⟨c0, rfl⟩ := list1 hl1
      obtain ⟨hr, -⟩ := hr
      injection hr with hr
      subst hr
      have hs0 : w.cell? ⟨b, off + k, none⟩ = some (.string y) := by simpa using (hcs 0 _ rfl)
      have Y := hideIt hy
      clear hcs hl1 hy
      by_cases he : y = s
      · have HE := hideIt (decide_eq_true he)
        go_wp2
        go_ret
        exact ⟨ret_int (idxF_hit Y.out HE.out hco.out).symm, rfl⟩
      · have HE := hideIt (decide_eq_false he)
        have he2 := strNe (fun h => he h.symm)
        go_wp2
        go_round
        case rel => exact ⟨k + 1, by omega, by go_num, fun j z hj hz => by
          by_cases e : j = k
          · subst e; rw [Y.out] at hz; injection hz with hz; rw [← hz]; exact HE.out
          · exact hco.out j z (by omega) hz⟩
        case measure => simp [intOf]; omega
    · have hk2 : k = xs.length := by omega
      subst hk2
      go_wp2
      go_ret
      exact ⟨ret_int (idxF_miss hco.out).symm, rfl⟩
set_option maxHeartbeats 400000 in
theorem netNamed_any {v0 v1 v2 : Value} {x : DesignD} (s : ByteArray) (w : World) (h : RDesign w [v0, v1, v2] x) :
    Calls Try.prog 29 #[.agg #[v0, v1, v2], .string s] w fun e w' => e = .returned (.int .i64 (idxF (fun y => decide (y = s)) x.nets)) ∧ Grows w w' := by
  have H := hideIt h.parts.2.1
  have H0 := hideIt h
  clear h
  have g0 := hideIt ((Grows.refl w).alloc (.cells #[v0, v1, v2] 32))
  go_enter Try.func29, Try.ntmps29
  go_wp2_with fail
  refine (indexStr_any s _ (H.out.keep g0.out.keeps)).mono ?_
  rintro e w1 ⟨rfl, g1⟩
  subst g1
  go_wp2
  go_ret
  exact ⟨rfl, g0.out⟩
set_option maxHeartbeats 400000 in
theorem iNetNamed_any {v0 v1 v2 : Value} {x : DesignD} (s : ByteArray) (w : World) (h : RDesign w [v0, v1, v2] x) :
    Calls Try.prog 14 #[.agg #[v0, v1, v2], .string s] w fun e w' => e = .returned (.int .i64 (idxF (fun y => decide (y = s)) x.nets)) ∧ Grows w w' := by
  have H := hideIt h.parts.2.1
  have H0 := hideIt h
  clear h
  have g0 := hideIt ((Grows.refl w).alloc (.cells #[v0, v1, v2] 32))
  go_enter Try.func14, Try.ntmps14
  go_wp2_with fail
  refine (netNamed_any s _ (H0.out.keep g0.out.keeps)).mono ?_
  rintro e w1 ⟨rfl, g1⟩
  
  go_wp2
  go_ret
  exact ⟨rfl, g0.out.trans g1⟩
end Go.Proofs.Ytcaklodecejkhaa
