/-
  FormatTime, both sides.
-/
import Derived.Test.YtgglgghlndhfbaaDoorNumS
import Derived.Test.YtgglgghlndhfbaaDoorShelfT
import Derived.Lib.CutLaws
namespace Go.Proofs.YtgglgghlndhfbaaDoor
open Go.RowKit
theorem var_grows {P : Program} {w w' : World} {n : String} {cs : Array Value} (h : w.var? P n = some cs) (g : Grows w w') : w'.var? P n = some cs := by
  unfold World.var? at h ⊢
  rw [Option.bind_eq_some_iff] at h ⊢
  obtain ⟨b, hb, h⟩ := h
  refine ⟨b, hb, ?_⟩
  rw [Below.block g b (by
    rcases Nat.lt_or_ge b w.heap.size with hlt | hge
    · exact hlt
    · rw [Array.getElem?_eq_none hge] at h; cases h)]
  exact h
/-- the table of powers lies as the library lays it -/
def TW (w : World) : Prop := Lib.TabIs Tryd.prog w "internal/strconv.uint64pow10" .u64 Lib.pow10Tab
theorem TW.keep {w w' : World} (h : TW w) (g : Grows w w') : TW w' := var_grows h g
theorem grows_grow (w : World) (k : Nat) (os : Array Obj) : Grows w (Sort.grow (w.drewN k) os) :=
  ⟨rfl, rfl, rfl, by first | (simp [Sort.grow]; done) | (simp [Sort.grow]; omega), fun i hi => by
    show ((w.drewN k).heap ++ os)[i]? = _
    rw [Array.getElem?_append_left (by show i < w.heap.size; omega)]
    rfl⟩
def numB (n : Int) : ByteArray := ⟨(Lib.itoa n).toArray⟩
theorem numB_nat (n : Nat) : numB (n : Int) = decB n := by unfold numB decB; rw [Lib.itoa_nonneg]
def fmtB (t : Int) : ByteArray := ⟨(fmtV t).toArray⟩
def absB (n : Nat) : ByteArray := ⟨(absL n).toArray⟩
theorem fmtB_nat {n : Nat} (h : n ≤ 1000000000) : fmtB (n : Int) = absB n := by
  unfold fmtB fmtV fmtL absB
  rw [if_pos (by unfold isT; omega), if_neg (by omega)]
  rfl
theorem fmtB_neg {n : Nat} (h : n ≤ 1000000000) (h1 : 1 ≤ n) : fmtB (-(n : Int)) = (⟨#[45]⟩ : ByteArray) ++ absB n := by
  unfold fmtB fmtV fmtL absB
  rw [if_pos (by unfold isT; omega), if_pos (by omega), show (-(n : Int)).natAbs = n by omega]
  apply ByteArray.ext
  simp [ByteArray.data_append]
theorem fmtB_out {t : Int} (h : ¬ isT t) : fmtB t = ⟨#[]⟩ := by
  unfold fmtB fmtV
  rw [if_neg h]
theorem absL_len {n : Nat} (h : n ≤ 1000000000) : (absL n).length ≤ 20 ∧ 5 ≤ (absL n).length := by
  have h1 := decB_size (show n / 1000 < 10000000000000000 by omega)
  unfold decB at h1
  rw [bsz] at h1
  unfold absL dig3
  simp only [List.length_append, List.length_cons, List.length_nil]
  omega
theorem absB_size {n : Nat} (h : n ≤ 1000000000) : (absB n).size ≤ 20 ∧ 5 ≤ (absB n).size := by
  unfold absB
  rw [bsz]
  exact absL_len h
theorem inB_isT {t : Int} : inB t (-1000000000) 1000000000 = true ↔ isT t := by
  unfold inB isT
  simp
/-- the reference's way: the digits behind 1000, without their first -/
theorem spec_abs {n : Nat} : decB (n / 1000) ++ (⟨#[46]⟩ : ByteArray) ++ (decB (1000 + n % 1000)).extract 1 (decB (1000 + n % 1000)).size = absB n := by
  have e : (decB (1000 + n % 1000)).data.toList = UInt8.ofNat 49 :: dig3 (n % 1000) := by
    unfold decB
    rw [dec_1000 (Nat.mod_lt _ (by omega))]
  apply ByteArray.ext
  apply Array.ext'
  simp only [ByteArray.data_append, Array.toList_append]
  rw [Lib.extract_to_end, e]
  unfold absB absL decB
  simp
theorem impl_abs {n : Nat} : decB (n / 1000) ++ (⟨#[46]⟩ : ByteArray) ++ ⟨(Lib.repeatL [48] (3 - (Lib.decDigits (n % 1000)).length)).toArray⟩ ++ decB (n % 1000) = absB n := by
  have e := pad3 (r := n % 1000) (Nat.mod_lt _ (by omega))
  apply ByteArray.ext
  apply Array.ext'
  simp only [ByteArray.data_append, Array.toList_append]
  unfold absB absL decB
  rw [← e]
  simp
theorem rep_len (c : Nat) : (Lib.repeatL [48] c).length = c := by
  induction c with
  | zero => rfl
  | succ c ih => simp [Lib.repeatL, ih]
theorem at_arg {P : Program} {f : FuncId} {k : IntKind} {x y : Int} {W : World} {Q : Ending → World → Prop} (e : y = x) (h : Calls P f #[.int k x] W Q) : Calls P f #[.int k y] W Q := e ▸ h
theorem at_arg2 {P : Program} {f : FuncId} {k : IntKind} {v : Value} {x y : Int} {W : World} {Q : Ending → World → Prop} (e : y = x) (h : Calls P f #[v, .int k x] W Q) : Calls P f #[v, .int k y] W Q := e ▸ h
set_option maxHeartbeats 4000000 in
set_option maxRecDepth 10000 in
theorem sFmt_nat (n : Nat) (hn : n ≤ 1000000000) (w : World) : Calls Tryd.prog 8 #[.int .i64 (n : Int)] w fun e w' => e = .returned (.string (fmtB (n : Int))) ∧ Grows w w' := by
  have G : Hid (Grows w w) := hideIt (Grows.refl w)
  have e1 : ¬ ((n : Int) < 0) := by omega
  have e2 : inB (n : Int) (-1000000000) 1000000000 = true := inB_isT.2 ⟨by omega, by omega⟩
  have q1 : (n : Int).tdiv 1000 = ((n / 1000 : Nat) : Int) := by rw [Int.tdiv_eq_ediv_of_nonneg (by omega)]; omega
  have q2 : (n : Int).tmod 1000 = ((n % 1000 : Nat) : Int) := by rw [Int.tmod_eq_emod_of_nonneg (by omega)]; omega
  have z1 := decB_size (show 1000 + n % 1000 < 10000000000000000 by omega)
  have z0 : (1 : Int) ≤ ((decB (1000 + n % 1000)).size : Int) := by omega
  have EA := hideIt (spec_abs (n := n))
  have EF := hideIt (fmtB_nat hn)
  go_enter Tryd.func8, Tryd.ntmps8
  go_wp2_with fail
  refine (l01In_any _ _ _ _).mono ?_
  rintro e w1 ⟨rfl, rfl⟩
  rw [e2]
  clear e2
  go_wp2_with fail
  refine at_arg (x := ((1000 + n % 1000 : Nat) : Int)) (by push_cast; omega) ?_
  refine (num_any (1000 + n % 1000) (by omega) _).mono ?_
  rintro e u1 ⟨rfl, g_⟩
  replace G := hideIt ((show Grows w _ from (by repeat (first | exact Grows.refl _ | exact G.out | refine Grows.drew ?_ | refine Grows.drewN ?_ _ | refine Grows.alloc ?_ _))).trans g_)
  clear g_
  go_wp2
  refine wp_region_held_drew (S := (fun _ => True)) (by kernel_rfl) ?_ (fun hh0 => ?_)
  · (try dsimp only); try trivial
  refine regTake 0 (v := ?_) ?_ hh0 ?_
  rotate_left
  · intro w hw; (try dsimp only at hw); go_simp; (try with_reducible rfl)
  try simp only [Act.put, List.setIfInBounds_toArray, List.set_cons_zero, List.set_cons_succ]
  refine regTake 1 (v := .int .i64 ((n / 1000 : Nat) : Int)) (fun w hw => ?_) hh0 ?_
  · (try dsimp only at hw)
    go_simp
    (try rw [Go.IntWalk.i64_in _ (by omega)])
  try simp only [Act.put, List.setIfInBounds_toArray, List.set_cons_zero, List.set_cons_succ]
  refine regTake 4 (v := ?_) ?_ hh0 ?_
  rotate_left
  · intro w hw; (try dsimp only at hw); go_simp; (try with_reducible rfl)
  try simp only [Act.put, List.setIfInBounds_toArray, List.set_cons_zero, List.set_cons_succ]
  refine regTake 5 (v := ?_) ?_ hh0 ?_
  rotate_left
  · intro w hw; (try dsimp only at hw); go_simp; (try with_reducible rfl)
  try simp only [Act.put, List.setIfInBounds_toArray, List.set_cons_zero, List.set_cons_succ]
  refine regCall 2 (fun K hK => ?_)
  go_simp
  refine (num_any (n / 1000) (by omega) _).mono ?_
  rintro e u2 ⟨rfl, g_⟩
  replace G := hideIt ((show Grows w _ from (by repeat (first | exact Grows.refl _ | exact G.out | refine Grows.drew ?_ | refine Grows.drewN ?_ _ | refine Grows.alloc ?_ _))).trans g_)
  clear g_
  have z2 := decB_size (show n / 1000 < 10000000000000000 by omega)
  have z3 : ¬ 9223372036854775807 < (decB (n / 1000)).size + 1 := by omega
  have z4 : ¬ 9223372036854775807 < (decB (n / 1000)).size + 1 + ((decB (1000 + n % 1000)).size - 1) := by omega
  (try go_wp2_with fail)
  refine hK.out _ _ ?_ (fun hh1 => ?_)
  · (try dsimp only); try trivial
  clear hK K hh0
  try simp only [Act.put, List.setIfInBounds_toArray, List.set_cons_zero, List.set_cons_succ]
  refine regTake 3 (v := ?_) ?_ hh1 ?_
  rotate_left
  · intro w hw; (try dsimp only at hw); go_simp; (try with_reducible rfl)
  try simp only [Act.put, List.setIfInBounds_toArray, List.set_cons_zero, List.set_cons_succ]
  refine regTake 6 (v := ?_) ?_ hh1 ?_
  rotate_left
  · intro w hw; (try dsimp only at hw); go_simp; (try with_reducible rfl)
  try simp only [Act.put, List.setIfInBounds_toArray, List.set_cons_zero, List.set_cons_succ]
  refine regTake 7 (v := ?_) ?_ hh1 ?_
  rotate_left
  · intro w hw; (try dsimp only at hw); go_simp; (try with_reducible rfl)
  try simp only [Act.put, List.setIfInBounds_toArray, List.set_cons_zero, List.set_cons_succ]
  refine wpAnyH_done (by kernel_rfl) ?_ _
  go_wp2
  go_ret
  exact ⟨by rw [EF.out, ← EA.out]; rfl, (by repeat (first | exact Grows.refl _ | exact G.out | refine Grows.drew ?_ | refine Grows.drewN ?_ _ | refine Grows.alloc ?_ _))⟩
set_option maxHeartbeats 4000000 in
theorem sFmt_any (t : Int) (w : World) (h1 : -9223372036854775808 ≤ t) : Calls Tryd.prog 8 #[.int .i64 t] w fun e w' => e = .returned (.string (fmtB t)) ∧ Grows w w' := by
  by_cases hi : isT t
  · rcases Int.lt_or_le t 0 with h0 | h0
    · obtain ⟨n, rfl⟩ : ∃ n : Nat, t = -(n : Int) := ⟨t.natAbs, by omega⟩
      have hn : n ≤ 1000000000 := by unfold isT at hi; omega
      have n1 : 1 ≤ n := by omega
      have e2 : inB (-(n : Int)) (-1000000000) 1000000000 = true := inB_isT.2 hi
      have E1 := hideIt (fmtB_neg hn n1)
      have E2 := hideIt (fmtB_nat hn)
      have z := absB_size hn
      have zz : ¬ 9223372036854775807 < 1 + (absB n).size := by omega
      have zy : ¬ 9223372036854775807 < (absB n).size + 1 := by omega
      go_enter Tryd.func8, Tryd.ntmps8
      go_wp2_with fail
      refine (l01In_any _ _ _ _).mono ?_
      rintro e w1 ⟨rfl, rfl⟩
      rw [e2]
      clear e2
      go_wp2_with fail
      refine (sFmt_nat n hn _).mono ?_
      rintro e u1 ⟨rfl, g⟩
      rw [E2.out]
      go_wp2
      go_ret
      exact ⟨by rw [E1.out]; rfl, g⟩
    · obtain ⟨n, rfl⟩ : ∃ n : Nat, t = (n : Int) := ⟨t.toNat, by omega⟩
      exact sFmt_nat n (by unfold isT at hi; omega) w
  · have e2 : inB t (-1000000000) 1000000000 = false := by
      cases h : inB t (-1000000000) 1000000000
      · rfl
      · exact absurd (inB_isT.1 h) hi
    have EF := hideIt (fmtB_out hi)
    go_enter Tryd.func8, Tryd.ntmps8
    go_wp2_with fail
    refine (l01In_any _ _ _ _).mono ?_
    rintro e w1 ⟨rfl, rfl⟩
    rw [e2]
    go_wp2
    go_ret
    exact ⟨by rw [EF.out]; rfl, Grows.refl _⟩
theorem decimal_any (n : Int) (h0 : -9223372036854775808 ≤ n) (h1 : n ≤ 9223372036854775807) (w : World) (h : TW w) : Calls Tryd.prog 46 #[.int .i64 n] w fun e w' => e = .returned (.string (numB n)) ∧ Grows w w' := by
  have H := hideIt h
  clear h
  go_enter Tryd.func46, Tryd.ntmps46
  go_wp2_with fail
  refine (Tryd.strconv_FormatInt_10 n h0 h1 _ H.out).mono ?_
  rintro e u ⟨rfl, k, os, rfl⟩
  go_wp2
  go_ret
  exact ⟨rfl, grows_grow _ _ _⟩
theorem decimal_nat (n : Nat) (h1 : n < 10000000000000000) (w : World) (h : TW w) : Calls Tryd.prog 46 #[.int .i64 (n : Int)] w fun e w' => e = .returned (.string (decB n)) ∧ Grows w w' := by
  rw [← numB_nat]
  exact decimal_any n (by omega) (by omega) w h
set_option maxHeartbeats 4000000 in
set_option maxRecDepth 10000 in
theorem iFmt_in (t : Int) (hi : isT t) (w : World) (hw : TW w) : Calls Tryd.prog 28 #[.int .i64 t] w fun e w' => e = .returned (.string (fmtB t)) ∧ Grows w w' := by
  have H := hideIt hw
  clear hw
  rcases Int.lt_or_le t 0 with h0 | h0
  · obtain ⟨n, rfl⟩ : ∃ n : Nat, t = -(n : Int) := ⟨t.natAbs, by omega⟩
    have hn : n ≤ 1000000000 := by unfold isT at hi; omega
    have E1 := hideIt (fmtB_neg hn (by omega))
    have q1 : (n : Int).tdiv 1000 = ((n / 1000 : Nat) : Int) := by rw [Int.tdiv_eq_ediv_of_nonneg (by omega)]; omega
    have q2 : (n : Int).tmod 1000 = ((n % 1000 : Nat) : Int) := by rw [Int.tmod_eq_emod_of_nonneg (by omega)]; omega
    have z1 := decB_size (show n / 1000 < 10000000000000000 by omega)
    have z2 : (decB (n % 1000)).size ≤ 3 := by unfold decB; rw [bsz]; exact dec_len 3 _ (by omega) (by omega)
    have EA := hideIt (impl_abs (n := n))
    have ez : (decB (n % 1000)).size = (Lib.decDigits (n % 1000)).length := bsz _
    have G : Hid (Grows w w) := hideIt (Grows.refl w)
    go_enter Tryd.func28, Tryd.ntmps28
    go_wp2_with fail
    refine at_arg (x := ((n % 1000 : Nat) : Int)) (by push_cast; omega) ?_
    refine (decimal_nat (n % 1000) (by omega) _ H.out).mono ?_
    rintro e u1 ⟨rfl, g_⟩
    replace G := hideIt g_
    replace H := hideIt (H.out.keep g_)
    clear g_
    go_wp2_with fail
    refine at_arg (x := ((n / 1000 : Nat) : Int)) (by push_cast; omega) ?_
    refine (decimal_nat (n / 1000) (by omega) _ H.out).mono ?_
    rintro e u2 ⟨rfl, g_⟩
    replace G := hideIt (G.out.trans g_)
    clear g_
    have z3 : ¬ 9223372036854775807 < 1 + (decB (n / 1000)).size := by omega
    have z4 : ¬ 9223372036854775807 < 1 + (decB (n / 1000)).size + 1 := by omega
    go_wp2_with fail
    refine at_arg2 (x := ((3 - (decB (n % 1000)).size : Nat) : Int)) (by omega) ?_
    refine (Tryd.strings_Repeat ⟨#[48]⟩ (3 - (decB (n % 1000)).size) _ (by omega) (by show 1 * _ ≤ _; omega)).mono ?_
    rintro e u3 ⟨rfl, g_⟩
    replace G := hideIt (G.out.trans g_)
    clear g_
    have z5 : (⟨(Lib.repeatL [48] (3 - (decB (n % 1000)).size)).toArray⟩ : ByteArray).size ≤ 3 := by rw [bsz, rep_len]; omega
    have z6 : ¬ 9223372036854775807 < 1 + (decB (n / 1000)).size + 1 + (⟨(Lib.repeatL [48] (3 - (decB (n % 1000)).size)).toArray⟩ : ByteArray).size := by omega
    have z7 : ¬ 9223372036854775807 < 1 + (decB (n / 1000)).size + 1 + (⟨(Lib.repeatL [48] (3 - (decB (n % 1000)).size)).toArray⟩ : ByteArray).size + (decB (n % 1000)).size := by omega
    go_wp2
    go_ret
    refine ⟨?_, G.out⟩
    rw [E1.out, ← EA.out, ← ez]
    refine congrArg (fun b => Ending.returned (Value.string b)) (?_ : (⟨#[45]⟩ : ByteArray) ++ decB (n / 1000) ++ (⟨#[46]⟩ : ByteArray) ++ ⟨(Lib.repeatL [48] (3 - (decB (n % 1000)).size)).toArray⟩ ++ decB (n % 1000) = _)
    simp only [ByteArray.append_assoc]
  · obtain ⟨n, rfl⟩ : ∃ n : Nat, t = (n : Int) := ⟨t.toNat, by omega⟩
    have hn : n ≤ 1000000000 := by unfold isT at hi; omega
    have E1 := hideIt (fmtB_nat hn)
    have q1 : (n : Int).tdiv 1000 = ((n / 1000 : Nat) : Int) := by rw [Int.tdiv_eq_ediv_of_nonneg (by omega)]; omega
    have q2 : (n : Int).tmod 1000 = ((n % 1000 : Nat) : Int) := by rw [Int.tmod_eq_emod_of_nonneg (by omega)]; omega
    have z1 := decB_size (show n / 1000 < 10000000000000000 by omega)
    have z2 : (decB (n % 1000)).size ≤ 3 := by unfold decB; rw [bsz]; exact dec_len 3 _ (by omega) (by omega)
    have EA := hideIt (impl_abs (n := n))
    have ez : (decB (n % 1000)).size = (Lib.decDigits (n % 1000)).length := bsz _
    have G : Hid (Grows w w) := hideIt (Grows.refl w)
    go_enter Tryd.func28, Tryd.ntmps28
    go_wp2_with fail
    refine at_arg (x := ((n % 1000 : Nat) : Int)) (by push_cast; omega) ?_
    refine (decimal_nat (n % 1000) (by omega) _ H.out).mono ?_
    rintro e u1 ⟨rfl, g_⟩
    replace G := hideIt g_
    replace H := hideIt (H.out.keep g_)
    clear g_
    go_wp2_with fail
    refine at_arg (x := ((n / 1000 : Nat) : Int)) (by push_cast; omega) ?_
    refine (decimal_nat (n / 1000) (by omega) _ H.out).mono ?_
    rintro e u2 ⟨rfl, g_⟩
    replace G := hideIt (G.out.trans g_)
    clear g_
    have z3 : ¬ 9223372036854775807 < (decB (n / 1000)).size := by omega
    have z4 : ¬ 9223372036854775807 < (decB (n / 1000)).size + 1 := by omega
    go_wp2_with fail
    refine at_arg2 (x := ((3 - (decB (n % 1000)).size : Nat) : Int)) (by omega) ?_
    refine (Tryd.strings_Repeat ⟨#[48]⟩ (3 - (decB (n % 1000)).size) _ (by omega) (by show 1 * _ ≤ _; omega)).mono ?_
    rintro e u3 ⟨rfl, g_⟩
    replace G := hideIt (G.out.trans g_)
    clear g_
    have z5 : (⟨(Lib.repeatL [48] (3 - (decB (n % 1000)).size)).toArray⟩ : ByteArray).size ≤ 3 := by rw [bsz, rep_len]; omega
    have z6 : ¬ 9223372036854775807 < (decB (n / 1000)).size + 1 + (⟨(Lib.repeatL [48] (3 - (decB (n % 1000)).size)).toArray⟩ : ByteArray).size := by omega
    have z7 : ¬ 9223372036854775807 < (decB (n / 1000)).size + 1 + (⟨(Lib.repeatL [48] (3 - (decB (n % 1000)).size)).toArray⟩ : ByteArray).size + (decB (n % 1000)).size := by omega
    go_wp2
    go_ret
    refine ⟨?_, G.out⟩
    rw [E1.out, ← EA.out, ← ez]
    refine congrArg (fun b => Ending.returned (Value.string b)) (?_ : decB (n / 1000) ++ (⟨#[46]⟩ : ByteArray) ++ ⟨(Lib.repeatL [48] (3 - (decB (n % 1000)).size)).toArray⟩ ++ decB (n % 1000) = _)
    simp only [ByteArray.append_assoc]
theorem iFmt_any (t : Int) (w : World) (hw : TW w) : Calls Tryd.prog 9 #[.int .i64 t] w fun e w' => e = .returned (.string (fmtB t)) ∧ Grows w w' := by
  have H := hideIt hw
  clear hw
  by_cases hi : isT t
  · have e2 : inB t (-1000000000) 1000000000 = true := inB_isT.2 hi
    have HI := hideIt hi
    clear hi
    go_enter Tryd.func9, Tryd.ntmps9
    go_wp2_with fail
    refine (isTime_any _ _).mono ?_
    rintro e w1 ⟨rfl, rfl⟩
    rw [e2]
    clear e2
    go_wp2_with fail
    refine (iFmt_in t HI.out _ H.out).mono ?_
    rintro e u ⟨rfl, g⟩
    go_wp2
    go_ret
    exact ⟨rfl, g⟩
  · have e2 : inB t (-1000000000) 1000000000 = false := by
      cases h : inB t (-1000000000) 1000000000
      · rfl
      · exact absurd (inB_isT.1 h) hi
    have EF := hideIt (fmtB_out hi)
    go_enter Tryd.func9, Tryd.ntmps9
    go_wp2_with fail
    refine (isTime_any _ _).mono ?_
    rintro e w1 ⟨rfl, rfl⟩
    rw [e2]
    go_wp2
    go_ret
    exact ⟨by rw [EF.out]; rfl, Grows.refl _⟩
end Go.Proofs.YtgglgghlndhfbaaDoor
