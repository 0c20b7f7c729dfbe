/-
  A number read from its text, the reference's.
-/
import Derived.Test.YtgglgghlndhfbaaDoorSSplit
namespace Go.Proofs.YtgglgghlndhfbaaDoor
open Go.RowKit
theorem numB_neg {m : Nat} (h : 1 ≤ m) : numB (-(m : Int)) = (⟨#[45]⟩ : ByteArray) ++ decB m := by
  unfold numB decB
  rw [Lib.itoa_neg m h]
  apply ByteArray.ext
  simp [ByteArray.data_append]
set_option maxHeartbeats 1000000 in
theorem numI_any (n : Int) (h0 : -1000000000000000 < n) (h1 : n < 1000000000000000) (w : World) : Calls Tryd.prog 26 #[.int .i64 n] w fun e w' => e = .returned (.string (numB n)) ∧ Grows w w' := by
  rcases Int.lt_or_le n 0 with hn | hn
  · obtain ⟨m, rfl⟩ : ∃ m : Nat, n = -(m : Int) := ⟨n.natAbs, by omega⟩
    have m1 : 1 ≤ m := by omega
    have E := hideIt (numB_neg m1)
    have z := decB_size (show m < 10000000000000000 by omega)
    have zz : ¬ 9223372036854775807 < 1 + (decB m).size := by omega
    go_enter Tryd.func26, Tryd.ntmps26
    go_wp2_with fail
    refine (num_any m (by omega) _).mono ?_
    rintro e u ⟨rfl, g⟩
    go_wp2
    go_ret
    exact ⟨by rw [E.out]; rfl, g⟩
  · obtain ⟨m, rfl⟩ : ∃ m : Nat, n = (m : Int) := ⟨n.toNat, by omega⟩
    rw [numB_nat]
    exact num_any m (by omega) w
theorem val_neg {d : List UInt8} {m : Int} (h : 45 :: d = Lib.itoa m) : m < 0 ∧ d = Lib.decDigits m.natAbs := by
  unfold Lib.itoa at h
  split at h
  · rename_i hm
    injection h with h1 h2
    exact ⟨hm, h2⟩
  · obtain ⟨c, l, e, hc⟩ := dec_head m.toNat
    rw [e] at h
    injection h with h1 h2
    subst h1
    unfold isDig at hc
    exact absurd hc.1 (by decide)
theorem val_pos {l : List UInt8} {m : Int} (h : l = Lib.itoa m) (hh : l.head? ≠ some 45) : 0 ≤ m ∧ l = Lib.decDigits m.natAbs := by
  unfold Lib.itoa at h
  split at h
  · rw [h] at hh
    exact absurd rfl hh
  · rename_i hm
    exact ⟨by omega, by rw [h]; congr 1; omega⟩
set_option maxHeartbeats 8000000 in
set_option maxRecDepth 10000 in
theorem value_any (s : ByteArray) (w : World) (hs : s.size ≤ 1048576) : Calls Tryd.prog 56 #[.string s] w (NumPost s w) := by
  by_cases h0 : s.size = 0
  · have hz : ¬ 0 < s.size := by omega
    have HD : Hid (∀ m, okN m → s.data.toList = Lib.itoa m → s.data.toList = Lib.decDigits m.natAbs ∧ m = (m.natAbs : Int)) := hideIt (fun m hm e => by
      have h2 : s.data.toList.length = s.size := dsize s
      rw [h0] at h2
      rw [List.length_eq_zero_iff.1 h2] at e
      unfold Lib.itoa at e
      split at e
      · cases e
      · exact absurd e.symm (dec_ne _))
    have PN : Hid (NumP s.data.toList 0 false) := hideIt (num_no fun m hm e => by
      have h1 := (HD.out m hm e).1
      have h2 : s.data.toList.length = s.size := dsize s
      rw [h1, h0] at h2
      exact dec_ne _ (List.length_eq_zero_iff.1 h2))
    clear HD
    go_enter Tryd.func56, Tryd.ntmps56
    go_wp2
    refine bodyPost_ret (by simp [*, results, Tryd.results56, go_sem]; try rfl) rfl ?_
    exact .mk' PN.out (Grows.refl _)
  have h0' : 0 < s.size := by omega
  obtain ⟨b, hb⟩ : ∃ b : Nat, (s[0]'h0').toNat = b := ⟨_, rfl⟩
  have hh : s.data.toList.head? = some (s[0]'h0') := by
    rw [List.head?_eq_getElem?, List.getElem?_eq_getElem (by rw [dsize]; exact h0')]
    simp [ByteArray.getElem_eq_getElem_data]
  by_cases c1 : b = 45
  · have ec : s[0]'h0' = 45 := UInt8.toNat_inj.1 (hb.trans c1)
    obtain ⟨d, hd⟩ : ∃ d, d = s.extract 1 s.size := ⟨_, rfl⟩
    have dd : d.data.toList = s.data.toList.drop 1 := by rw [hd, Lib.extract_to_end]
    have sd : s.data.toList = 45 :: d.data.toList := by
      rw [dd]
      cases hL : s.data.toList with
      | nil => rw [hL] at hh; cases hh
      | cons x l => rw [hL, ec] at hh; injection hh with hh; rw [hh]; rfl
    have szd : d.size < s.size := by rw [← dsize, ← dsize, sd]; simp
    have HD : Hid (∀ m, okN m → s.data.toList = Lib.itoa m → d.data.toList = Lib.decDigits m.natAbs ∧ m = -(m.natAbs : Int)) := hideIt (fun m hm e => by
      obtain ⟨h1, h2⟩ := val_neg (sd.symm.trans e)
      exact ⟨h2, by omega⟩)
    have hd' : s.extract 1 s.size = d := hd.symm
    have z1 : (1 : Int) ≤ (s.size : Int) := by omega
    subst c1
    clear hh ec dd sd hd h0
    go_enter Tryd.func56, Tryd.ntmps56
    by_cases hsh : d.size < 1
    · have PN : Hid (NumP s.data.toList 0 false) := hideIt (num_no fun m hm e => by
        have h1 := (HD.out m hm e).1
        have h2 : d.data.toList.length = d.size := dsize d
        rw [h1] at h2
        have h3 := decB_size (show m.natAbs < 10000000000000000 by unfold okN at hm; omega)
        unfold decB at h3
        rw [bsz] at h3
        omega)
      go_wp2
      refine bodyPost_ret (by simp [*, results, Tryd.results56, go_sem]; try rfl) rfl ?_
      exact .mk' PN.out (Grows.refl _)
    by_cases hlg : 12 < d.size
    · have PN : Hid (NumP s.data.toList 0 false) := hideIt (num_no fun m hm e => by
        have h1 := (HD.out m hm e).1
        have h2 : d.data.toList.length = d.size := dsize d
        rw [h1] at h2
        have h3 := dec_len 10 m.natAbs (by omega) (by unfold okN at hm; omega)
        omega)
      go_wp2
      refine bodyPost_ret (by simp [*, results, Tryd.results56, go_sem]; try rfl) rfl ?_
      exact .mk' PN.out (Grows.refl _)
    obtain ⟨D, hD⟩ : ∃ D, D = d.data.toList := ⟨_, rfl⟩
    have hDl : D.length = d.size := by rw [hD]; exact dsize d
    have DE := hideIt hD
    have HD2 : Hid (∀ m, okN m → s.data.toList = Lib.itoa m → D = Lib.decDigits m.natAbs ∧ m = -(m.natAbs : Int)) := hideIt (fun m hm e => by rw [hD]; exact HD.out m hm e)
    clear hD HD
    go_wp2
    go_loopw [5, 6] (fun a i w2 => ∃ j : Nat, j ≤ d.size ∧ i = .int .i64 (j : Int) ∧ a = .int .i64 (valOf 0 (D.take j) : Int) ∧ Hid (∀ c ∈ D.take j, isDig c) ∧ Hid (Grows w w2)) (fun _ i _ => d.size - (intOf i).toNat)
    case atStart => exact ⟨0, Nat.zero_le _, rfl, rfl, hideIt (fun c hc => by simp at hc), hideIt (Grows.refl _)⟩
    case round =>
      obtain ⟨j, hj, rfl, rfl, AD, GW⟩ := hrel
      have vl := valOf_lt (D.take j) AD.out 0
      have vl2 : (0 + 1) * 10 ^ (D.take j).length ≤ 10 ^ 12 := by
        rw [Nat.zero_add, Nat.one_mul]
        exact Nat.pow_le_pow_right (by omega) (by rw [List.length_take]; omega)
      have vl3 : valOf 0 (D.take j) < 1000000000000 := Nat.lt_of_lt_of_le vl vl2
      clear vl vl2
      by_cases hlt : j < d.size
      · obtain ⟨n, hn⟩ : ∃ n : Nat, (d[j]'hlt).toNat = n := ⟨_, rfl⟩
        have n8 : n < 256 := by rw [← hn]; exact UInt8.toNat_lt _
        have hx : D[j]? = some (d[j]'hlt) := by
          rw [DE.out, List.getElem?_eq_getElem (by rw [dsize]; exact hlt)]
          simp [ByteArray.getElem_eq_getElem_data]
        have tk := hideIt (take_succ8 hx)
        have HN := hideIt hn
        obtain ⟨V, hV⟩ : ∃ V, V = valOf 0 (D.take j) := ⟨_, rfl⟩
        rw [← hV] at vl3 ⊢
        have HV := hideIt hV
        clear hV
        by_cases hd : 48 ≤ n ∧ n ≤ 57
        · obtain ⟨d1, d2⟩ := hd
          have EV : Hid (valOf 0 (D.take (j + 1)) = V * 10 + (n - 48)) := hideIt (by rw [tk.out, valOf_append, ← HV.out, ← HN.out]; rfl)
          have AD2 : Hid (∀ c ∈ D.take (j + 1), isDig c) := hideIt (fun c hc => by
            rw [tk.out] at hc
            rcases List.mem_append.1 hc with hc | hc
            · exact AD.out c hc
            · obtain rfl := List.mem_singleton.1 hc
              unfold isDig
              have := HN.out
              omega)
          clear hx AD tk
          go_wp2
          go_roundw
          case rel => exact ⟨j + 1, by omega, by go_num, by rw [EV.out]; go_num, AD2, GW⟩
          case measure => first | (simp [intOf]; done) | (simp [intOf]; omega)
        · have PN : Hid (NumP s.data.toList 0 false) := hideIt (num_no fun m hm e => by
            have h1 := (HD2.out m hm e).1
            have h2 : isDig (d[j]'hlt) := dec_digs m.natAbs _ (by rw [← h1]; exact List.mem_of_getElem? hx)
            unfold isDig at h2
            have := HN.out
            omega)
          clear hx AD tk
          by_cases hd1 : n < 48
          · go_wp2
            refine bodyPost_ret (by simp [*, results, Tryd.results56, go_sem]; try rfl) rfl ?_
            exact .mk' PN.out GW.out
          · have hd2 : 57 < n := by omega
            go_wp2
            refine bodyPost_ret (by simp [*, results, Tryd.results56, go_sem]; try rfl) rfl ?_
            exact .mk' PN.out GW.out
      · obtain rfl : j = d.size := by omega
        rw [show D.take d.size = D by rw [← hDl, List.take_length]] at vl3 ⊢
        obtain ⟨M, hM⟩ : ∃ M, M = valOf 0 D := ⟨_, rfl⟩
        rw [← hM] at vl3 ⊢
        have VM : Hid (∀ m, okN m → s.data.toList = Lib.itoa m → (-(M : Int)) = m) := hideIt (fun m hm e => by
          obtain ⟨h1, h2⟩ := HD2.out m hm e
          rw [hM, h1, valOf_dec]
          exact h2.symm)
        clear hM AD
        skip
        go_wp2_with fail
        refine (numI_any (-(M : Int)) (by omega) (by omega) _).mono ?_
        rintro e u3 ⟨rfl, g⟩
        replace GW := hideIt (GW.out.trans g)
        clear g
        by_cases hf : numB (-(M : Int)) = s
        · have PY : Hid (NumP s.data.toList (-(M : Int)) true) := hideIt ⟨fun _ => by rw [← hf]; rfl, fun m hm e => ⟨rfl, VM.out m hm e⟩⟩
          have hee : ((numB (-(M : Int))).toList == s.toList) = true := by rw [hf]; exact beq_self_eq_true _
          clear hf
          go_wp2
          refine bodyPost_ret (by simp [*, results, Tryd.results56, go_sem]; try rfl) rfl ?_
          exact .mk' PY.out GW.out
        · have PN : Hid (NumP s.data.toList (-(M : Int)) false) := hideIt (num_no fun m hm e => hf (by
            rw [VM.out m hm e]
            apply ByteArray.ext
            apply Array.ext'
            exact e.symm))
          have hd := strDif hf
          clear hf
          go_wp2
          refine bodyPost_ret (by simp [*, results, Tryd.results56, go_sem]; try rfl) rfl ?_
          exact .mk' PN.out GW.out
  · have HD : Hid (∀ m, okN m → s.data.toList = Lib.itoa m → s.data.toList = Lib.decDigits m.natAbs ∧ m = (m.natAbs : Int)) := hideIt (fun m hm e => by
      obtain ⟨h1, h2⟩ := val_pos e (by
        rw [hh]
        intro q
        injection q with q
        rw [q] at hb
        exact c1 hb.symm)
      exact ⟨h2, by omega⟩)
    have c1' : ((b : Int) == 45) = false := by simp; omega
    clear hh h0
    go_enter Tryd.func56, Tryd.ntmps56
    have hsh : ¬ s.size < 1 := by omega
    by_cases hlg : 12 < s.size
    · have PN : Hid (NumP s.data.toList 0 false) := hideIt (num_no fun m hm e => by
        have h1 := (HD.out m hm e).1
        have h2 : s.data.toList.length = s.size := dsize s
        rw [h1] at h2
        have h3 := dec_len 10 m.natAbs (by omega) (by unfold okN at hm; omega)
        omega)
      go_wp2
      refine bodyPost_ret (by simp [*, results, Tryd.results56, go_sem]; try rfl) rfl ?_
      exact .mk' PN.out (Grows.refl _)
    obtain ⟨D, hD⟩ : ∃ D, D = s.data.toList := ⟨_, rfl⟩
    have hDl : D.length = s.size := by rw [hD]; exact dsize s
    have DE := hideIt hD
    have HD2 : Hid (∀ m, okN m → s.data.toList = Lib.itoa m → D = Lib.decDigits m.natAbs ∧ m = (m.natAbs : Int)) := hideIt (fun m hm e => by rw [hD]; exact HD.out m hm e)
    clear hD HD
    go_wp2
    go_loopw [5, 6] (fun a i w2 => ∃ j : Nat, j ≤ s.size ∧ i = .int .i64 (j : Int) ∧ a = .int .i64 (valOf 0 (D.take j) : Int) ∧ Hid (∀ c ∈ D.take j, isDig c) ∧ Hid (Grows w w2)) (fun _ i _ => s.size - (intOf i).toNat)
    case atStart => exact ⟨0, Nat.zero_le _, rfl, rfl, hideIt (fun c hc => by simp at hc), hideIt (Grows.refl _)⟩
    case round =>
      obtain ⟨j, hj, rfl, rfl, AD, GW⟩ := hrel
      have vl := valOf_lt (D.take j) AD.out 0
      have vl2 : (0 + 1) * 10 ^ (D.take j).length ≤ 10 ^ 12 := by
        rw [Nat.zero_add, Nat.one_mul]
        exact Nat.pow_le_pow_right (by omega) (by rw [List.length_take]; omega)
      have vl3 : valOf 0 (D.take j) < 1000000000000 := Nat.lt_of_lt_of_le vl vl2
      clear vl vl2
      by_cases hlt : j < s.size
      · obtain ⟨n, hn⟩ : ∃ n : Nat, (s[j]'hlt).toNat = n := ⟨_, rfl⟩
        have n8 : n < 256 := by rw [← hn]; exact UInt8.toNat_lt _
        have hx : D[j]? = some (s[j]'hlt) := by
          rw [DE.out, List.getElem?_eq_getElem (by rw [dsize]; exact hlt)]
          simp [ByteArray.getElem_eq_getElem_data]
        have tk := hideIt (take_succ8 hx)
        have HN := hideIt hn
        obtain ⟨V, hV⟩ : ∃ V, V = valOf 0 (D.take j) := ⟨_, rfl⟩
        rw [← hV] at vl3 ⊢
        have HV := hideIt hV
        clear hV
        by_cases hd : 48 ≤ n ∧ n ≤ 57
        · obtain ⟨d1, d2⟩ := hd
          have EV : Hid (valOf 0 (D.take (j + 1)) = V * 10 + (n - 48)) := hideIt (by rw [tk.out, valOf_append, ← HV.out, ← HN.out]; rfl)
          have AD2 : Hid (∀ c ∈ D.take (j + 1), isDig c) := hideIt (fun c hc => by
            rw [tk.out] at hc
            rcases List.mem_append.1 hc with hc | hc
            · exact AD.out c hc
            · obtain rfl := List.mem_singleton.1 hc
              unfold isDig
              have := HN.out
              omega)
          clear hx AD tk
          go_wp2
          go_roundw
          case rel => exact ⟨j + 1, by omega, by go_num, by rw [EV.out]; go_num, AD2, GW⟩
          case measure => first | (simp [intOf]; done) | (simp [intOf]; omega)
        · have PN : Hid (NumP s.data.toList 0 false) := hideIt (num_no fun m hm e => by
            have h1 := (HD2.out m hm e).1
            have h2 : isDig (s[j]'hlt) := dec_digs m.natAbs _ (by rw [← h1]; exact List.mem_of_getElem? hx)
            unfold isDig at h2
            have := HN.out
            omega)
          clear hx AD tk
          by_cases hd1 : n < 48
          · go_wp2
            refine bodyPost_ret (by simp [*, results, Tryd.results56, go_sem]; try rfl) rfl ?_
            exact .mk' PN.out GW.out
          · have hd2 : 57 < n := by omega
            go_wp2
            refine bodyPost_ret (by simp [*, results, Tryd.results56, go_sem]; try rfl) rfl ?_
            exact .mk' PN.out GW.out
      · obtain rfl : j = s.size := by omega
        rw [show D.take s.size = D by rw [← hDl, List.take_length]] at vl3 ⊢
        obtain ⟨M, hM⟩ : ∃ M, M = valOf 0 D := ⟨_, rfl⟩
        rw [← hM] at vl3 ⊢
        have VM : Hid (∀ m, okN m → s.data.toList = Lib.itoa m → (M : Int) = m) := hideIt (fun m hm e => by
          obtain ⟨h1, h2⟩ := HD2.out m hm e
          rw [hM, h1, valOf_dec]
          exact h2.symm)
        clear hM AD
        skip
        go_wp2_with fail
        refine (numI_any (M : Int) (by omega) (by omega) _).mono ?_
        rintro e u3 ⟨rfl, g⟩
        replace GW := hideIt (GW.out.trans g)
        clear g
        by_cases hf : numB (M : Int) = s
        · have PY : Hid (NumP s.data.toList (M : Int) true) := hideIt ⟨fun _ => by rw [← hf]; rfl, fun m hm e => ⟨rfl, VM.out m hm e⟩⟩
          have hee : ((numB (M : Int)).toList == s.toList) = true := by rw [hf]; exact beq_self_eq_true _
          clear hf
          go_wp2
          refine bodyPost_ret (by simp [*, results, Tryd.results56, go_sem]; try rfl) rfl ?_
          exact .mk' PY.out GW.out
        · have PN : Hid (NumP s.data.toList (M : Int) false) := hideIt (num_no fun m hm e => hf (by
            rw [VM.out m hm e]
            apply ByteArray.ext
            apply Array.ext'
            exact e.symm))
          have hd := strDif hf
          clear hf
          go_wp2
          refine bodyPost_ret (by simp [*, results, Tryd.results56, go_sem]; try rfl) rfl ?_
          exact .mk' PN.out GW.out
end Go.Proofs.YtgglgghlndhfbaaDoor
