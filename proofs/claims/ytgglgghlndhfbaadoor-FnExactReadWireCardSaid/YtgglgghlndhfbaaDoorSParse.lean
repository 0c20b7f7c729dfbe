/-
  ParseTime, the reference's.
-/
import Derived.Test.YtgglgghlndhfbaaDoorIParse
namespace Go.Proofs.YtgglgghlndhfbaaDoor
open Go.RowKit
theorem info_u8' : (Tryd.prog.info? 5).map (fun i => (i.zero, i.size, i.bytes)) = some (some (.int .u8 0), 1, 1) := by kernel_rfl
def dg (s : ByteArray) (k : Nat) : List UInt8 := (s.data.toList.take k).filter keepC
def cu8 (c : UInt8) : Value := .int .u8 (c.toNat : Int)
theorem dg_step {s : ByteArray} {k : Nat} {c : UInt8} (h : s.data.toList[k]? = some c) : dg s (k + 1) = dg s k ++ (if keepC c = true then [c] else []) := by
  unfold dg
  rw [List.take_add_one, h, List.filter_append]
  simp only [Option.toList_some, List.filter_cons, List.filter_nil]
theorem dg_len (s : ByteArray) (k : Nat) : (dg s k).length ≤ k := by
  unfold dg
  exact Nat.le_trans (List.length_filter_le _ _) (by rw [List.length_take]; omega)
theorem keep_yes {c : UInt8} (h1 : c.toNat ≠ 46) (h2 : c.toNat ≠ 45) : keepC c = true := by
  unfold keepC
  have e1 : c ≠ 46 := fun e => h1 (by rw [e]; rfl)
  have e2 : c ≠ 45 := fun e => h2 (by rw [e]; rfl)
  simp [e1, e2]
theorem keep_no {c : UInt8} (h : c.toNat = 46 ∨ c.toNat = 45) : keepC c = false := by
  unfold keepC
  rcases h with h | h
  · have : c = 46 := UInt8.toNat_inj.1 h
    rw [this]; rfl
  · have : c = 45 := UInt8.toNat_inj.1 h
    rw [this]; rfl
theorem take_succ8 {D : List UInt8} {j : Nat} {c : UInt8} (h : D[j]? = some c) : D.take (j + 1) = D.take j ++ [c] := by rw [List.take_add_one, h]; rfl
set_option maxHeartbeats 8000000 in
set_option maxRecDepth 10000 in
theorem sParse_any (s : ByteArray) (w : World) (hs : s.size ≤ 1048576) :
    Calls Tryd.prog 10 #[.string s] w (ParsePost s w) := by
  obtain ⟨i0, hi, hz0, hz1, hz2⟩ := info_parts info_u8'
  have OW0 : Hid ((w.alloc (.cells #[] 5)).ownsRow w.heap.size 5 1 (.slice (some ⟨w.heap.size, 0, none⟩) 0 0) (dg s 0).length ((dg s 0).map cu8)) := hideIt ⟨rfl, .inr ⟨_, 0, #[], rfl, Nat.le_refl _, Blk.new w _ _, Nat.le_refl _, Nat.zero_le _, rfl, rfl⟩⟩
  have G0 : Hid (Grows w (w.alloc (.cells #[] 5))) := hideIt ((Grows.refl w).alloc _)
  go_enter Tryd.func10, Tryd.ntmps10
  go_wp2
  go_loopw [4, 5] (fun v i wr => ∃ (nv : Value) (k : Nat), nv = v ∧ k ≤ s.size ∧ i = .int .i64 (k : Int) ∧ Hid (wr.ownsRow w.heap.size 5 1 nv (dg s (k)).length ((dg s (k)).map cu8)) ∧ Hid (Grows w wr)) (fun _ i _ => s.size - (intOf i).toNat)
  case atStart => exact ⟨_, 0, rfl, Nat.zero_le _, rfl, OW0, G0⟩
  case round =>
    clear OW0 G0
    obtain ⟨nv, k, rfl, hk, rfl, OW, GG⟩ := hrel
    have dl := dg_len s k
    by_cases hlt : k < s.size
    · obtain ⟨n, hn⟩ : ∃ n : Nat, (s[k]'hlt).toNat = n := ⟨_, rfl⟩
      have n8 : n < 256 := by rw [← hn]; exact UInt8.toNat_lt _
      have hb : s.data.toList[k]? = some (s[k]'hlt) := by
        rw [List.getElem?_eq_getElem (by rw [dsize]; exact hlt)]
        simp [ByteArray.getElem_eq_getElem_data]
      have DS := hideIt (dg_step hb)
      have HN := hideIt hn
      clear hb
      by_cases c1 : n = 46
      · have KF := keep_no (.inl (hn.trans c1))
        rw [KF] at DS
        subst c1
        have DS2 := hideIt (show dg s (k + 1) = dg s k by rw [DS.out]; simp)
        clear DS
        have OW2 : Hid (wr.ownsRow w.heap.size 5 1 nv (dg s (k + 1)).length ((dg s (k + 1)).map cu8)) := hideIt (by rw [DS2.out]; exact OW.out)
        go_wp2
        go_roundw
        case rel => exact ⟨_, k + 1, rfl, by omega, by go_num, OW2, GG⟩
        case measure => simp [intOf]; omega
      by_cases c2 : n = 45
      · have KF := keep_no (.inr (hn.trans c2))
        rw [KF] at DS
        subst c2
        have DS2 := hideIt (show dg s (k + 1) = dg s k by rw [DS.out]; simp)
        clear DS
        have OW2 : Hid (wr.ownsRow w.heap.size 5 1 nv (dg s (k + 1)).length ((dg s (k + 1)).map cu8)) := hideIt (by rw [DS2.out]; exact OW.out)
        go_wp2
        go_roundw
        case rel => exact ⟨_, k + 1, rfl, by omega, by go_num, OW2, GG⟩
        case measure => simp [intOf]; omega
      · have KF := keep_yes (c := s[k]'hlt) (by omega) (by omega)
        have c1' : ((n : Int) != 46) = true := by simp; omega
        have c2' : ((n : Int) != 45) = true := by simp; omega
        rw [KF] at DS
        replace DS := hideIt (show dg s (k + 1) = dg s k ++ [s[k]'hlt] from DS.out)
        clear KF
        have own1 := hideIt (OW.out.alloc (.cells #[.int .u8 (n : Int)] 5))
        have G1 := hideIt (GG.out.alloc (.cells #[.int .u8 (n : Int)] 5))
        have nlt : Hid (∀ q, nv.ownBlock = some q → w.heap.size ≤ q ∧ q < wr.heap.size) := hideIt OW.out.lt
        clear OW GG
        go_wp2_with (at_builtin; refine wpList_append_own_at _ rfl _ _ 34 rfl (w.heap.size) 5 i0 (.int .u8 0) 1 1 Tryd.underlying34 hi hz0 hz1 hz2 rfl (by decide) nv (dg s k).length ((dg s k).map cu8) rfl own1.out ⟨wr.heap.size, 0, none⟩ 1 1 [.int .u8 (n : Int)] rfl ?c1 ?c2 ?c3 ?c4 ?c5 ?c6 ?_)
        case c1 => simp
        case c2 =>
          intro j u hj
          match j, hj with
          | 0, hj => simp at hj; subst hj; simp [Addr.add]
        case c3 => intro u hu; simp at hu; subst hu; rfl
        case c4 => unfold maxLen; omega
        case c5 => omega
        case c6 => exact G1.out.size
        intro v' w4 hown3 hgrow hnil hat
        have GG := hideIt (Grows.grown G1.out hgrow (fun q e => (nlt.out q e).1))
        have OW : Hid (w4.ownsRow w.heap.size 5 1 v' (dg s (k + 1)).length ((dg s (k + 1)).map cu8)) := hideIt (by rw [DS.out, List.length_append, List.map_append]; unfold cu8 at hown3 ⊢; rw [List.map_cons, HN.out]; exact hown3)
        clear hown3 hgrow hnil hat own1 G1 nlt
        go_wp2
        go_roundw
        case rel => exact ⟨_, k + 1, rfl, by omega, by go_num, OW, GG⟩
        case measure => simp [intOf]; omega
    · obtain rfl : k = s.size := by omega
      have hDD : Hid (s.data.toList.filter keepC = dg s s.size) := hideIt (by unfold dg; rw [← dsize s, List.take_length])
      obtain ⟨D, hD⟩ : ∃ D, D = dg s s.size := ⟨_, rfl⟩
      rw [← hD] at OW hDD dl
      clear hD
      obtain ⟨A, c, rfl⟩ := own_slice' OW.out
      go_wp2
      go_loopw [6, 7] (fun a i w2 => ∃ j : Nat, j ≤ D.length ∧ i = .int .i64 (j : Int) ∧ a = .int .i64 (valOf 0 (D.take j) : Int) ∧ (j = 0 ∨ D.length ≤ 12) ∧ Hid (∀ c ∈ D.take j, isDig c) ∧ Hid (Grows w w2) ∧ Hid (w2.ownsRow w.heap.size 5 1 (.slice A D.length c) D.length (D.map cu8))) (fun _ i _ => D.length - (intOf i).toNat)
      case atStart => exact ⟨0, Nat.zero_le _, rfl, rfl, .inl rfl, hideIt (fun c hc => by simp at hc), GG, OW⟩
      case round =>
        clear GG OW
        obtain ⟨j, hj, rfl, rfl, hj0, AD, GW, OW⟩ := hrel
        by_cases hlt2 : j < D.length ∧ D.length ≤ 12
        · obtain ⟨hlt2, h12⟩ := hlt2
          obtain ⟨b, hbD⟩ : ∃ b, D[j]? = some b := ⟨_, List.getElem?_eq_getElem hlt2⟩
          obtain ⟨g, c', e', -, hcell⟩ := own_cells' OW.out (by omega)
          injection e' with e1 e2 e3
          subst e1 e3
          have kb := hcell _ _ hbD
          unfold cu8 at kb
          have tk := hideIt (take_succ8 hbD)
          have vl := valOf_lt (D.take j) AD.out 0
          have vl2 : (0 + 1) * 10 ^ (D.take j).length ≤ 10 ^ 12 := by rw [Nat.zero_add, Nat.one_mul]; exact Nat.pow_le_pow_right (by omega) (by rw [List.length_take]; omega)
          have vl3 : valOf 0 (D.take j) < 1000000000000 := Nat.lt_of_lt_of_le vl vl2
          have b8 : b.toNat < 256 := UInt8.toNat_lt _
          obtain ⟨n, hn⟩ : ∃ n : Nat, b.toNat = n := ⟨_, rfl⟩
          rw [hn] at kb b8
          obtain ⟨V, hV⟩ : ∃ V, V = valOf 0 (D.take j) := ⟨_, rfl⟩
          rw [← hV] at vl3 ⊢
          have HV := hideIt hV
          clear vl vl2 hV hcell
          by_cases hd : 48 ≤ n ∧ n ≤ 57
          · obtain ⟨d1, d2⟩ := hd
            have EV : Hid (valOf 0 (D.take (j + 1)) = V * 10 + (n - 48)) := hideIt (by rw [tk.out, valOf_append, ← HV.out, ← hn]; rfl)
            have AD2 : Hid (∀ c ∈ D.take (j + 1), isDig c) := hideIt (fun c hc => by
              rw [tk.out] at hc
              rcases List.mem_append.1 hc with hc | hc
              · exact AD.out c hc
              · obtain rfl := List.mem_singleton.1 hc
                unfold isDig
                omega)
            clear hbD hn AD tk
            go_wp2
            go_roundw
            case rel => exact ⟨j + 1, by omega, by go_num, by rw [EV.out]; go_num, .inr h12, AD2, GW, OW⟩
            case measure => simp [intOf]; omega
          · have PN : Hid (PT s 0 false) := hideIt (.inr ⟨rfl, rfl, fun t ht e => by
              have h1 : ∀ c ∈ D, isDig c := by rw [← hDD.out, e, fmtB_in ht]; exact digs_fmt
              have h2 := h1 b (List.mem_of_getElem? hbD)
              unfold isDig at h2
              omega⟩)
            clear hbD hn AD tk
            by_cases hd1 : n < 48
            · go_wp2
              refine bodyPost_ret (by simp [*, results, Tryd.results10, go_sem]; try rfl) rfl ?_
              exact .mk' PN.out GW.out
            · have hd2 : 57 < n := by omega
              go_wp2
              refine bodyPost_ret (by simp [*, results, Tryd.results10, go_sem]; try rfl) rfl ?_
              exact .mk' PN.out GW.out
        · have NV : (valOf 0 (D.take j) : Int) = numOf D := by
            unfold numOf
            by_cases h12 : D.length ≤ 12
            · obtain rfl : j = D.length := by omega
              rw [if_pos h12, List.take_length]
            · obtain rfl : j = 0 := by omega
              rw [if_neg h12]
              rfl
          have NB : 0 ≤ numOf D ∧ numOf D < 1000000000000 := by
            rw [← NV]
            have vl := valOf_lt (D.take j) AD.out 0
            have vl2 : (0 + 1) * 10 ^ (D.take j).length ≤ 10 ^ 12 := by
              rw [Nat.zero_add, Nat.one_mul]
              exact Nat.pow_le_pow_right (by omega) (by rw [List.length_take]; omega)
            have vl3 : valOf 0 (D.take j) < 1000000000000 := Nat.lt_of_lt_of_le vl vl2
            omega
          rw [NV]
          obtain ⟨M, hM⟩ : ∃ M, M = numOf D := ⟨_, rfl⟩
          rw [← hM] at NB ⊢
          have HM := hideIt hM
          clear NV hM AD OW
          by_cases hg : j < D.length
          · have h12 : ¬ D.length ≤ 12 := fun h => hlt2 ⟨hg, h⟩
            clear hlt2
            by_cases h0 : s.size = 0
            · exfalso; omega
            · have h0' : 0 < s.size := by omega
              obtain ⟨n, hn⟩ : ∃ n : Nat, (s[0]'h0').toNat = n := ⟨_, rfl⟩
              have hb : s.data.toList.head? = some (s[0]'h0') := by
                rw [List.head?_eq_getElem?, List.getElem?_eq_getElem (by rw [dsize]; exact h0')]
                simp [ByteArray.getElem_eq_getElem_data]
              by_cases c1 : n = 45
              · have hh : s.data.toList.head? = some 45 := by rw [hb]; congr 1; exact UInt8.toNat_inj.1 (hn.trans c1)
                subst c1
                obtain ⟨N9, hN⟩ : ∃ N9 : Int, N9 = -M := ⟨_, rfl⟩
                have SN : signOf s (numOf D) = N9 := by rw [hN]; exact by rw [HM.out]; unfold signOf; rw [if_pos hh]
                have VT : Hid (∀ t, isT t → s = fmtB t → N9 = t) := hideIt (fun t ht e => by rw [← SN, ← hDD.out]; exact spec_num ht e)
                have ZE : Hid (s = ⟨#[]⟩ → N9 = 0) := hideIt (fun e0 => by rw [← SN, ← hDD.out, e0]; rfl)
                have hn9 : -1000000000000 ≤ N9 ∧ N9 ≤ 1000000000000 := by omega
                have HN9 := hideIt hN
                clear SN hN
                clear hh hb
                go_wp2_with fail
                rw [← HN9.out]
                have hb0 : -9223372036854775808 ≤ N9 := by omega
                refine (sFmt_any N9 _ hb0).mono ?_
                rintro e u3 ⟨rfl, g⟩
                replace GW := hideIt (GW.out.trans g)
                clear g
                by_cases hf : fmtB N9 = s
                · have PY : Hid (PT s N9 true) := hideIt (PT.yes hf (fun e0 => by rw [ZE.out e0]; exact ⟨by omega, by omega⟩))
                  clear VT ZE
                  subst hf
                  go_wp2
                  refine bodyPost_ret (by simp [*, results, Tryd.results10, go_sem]; try rfl) rfl ?_
                  exact .mk' PY.out GW.out
                · have PN : Hid (PT s 0 false) := hideIt (PT.no hf VT.out)
                  have hd := strDif hf
                  clear hf
                  go_wp2
                  refine bodyPost_ret (by simp [*, results, Tryd.results10, go_sem]; try rfl) rfl ?_
                  exact .mk' PN.out GW.out
              · have hh : s.data.toList.head? ≠ some 45 := by
                  rw [hb]
                  intro e
                  injection e with e
                  rw [e] at hn
                  exact c1 hn.symm
                obtain ⟨N9, hN⟩ : ∃ N9 : Int, N9 = M := ⟨_, rfl⟩
                have SN : signOf s (numOf D) = N9 := by rw [hN]; exact by rw [HM.out]; unfold signOf; rw [if_neg hh]
                have VT : Hid (∀ t, isT t → s = fmtB t → N9 = t) := hideIt (fun t ht e => by rw [← SN, ← hDD.out]; exact spec_num ht e)
                have ZE : Hid (s = ⟨#[]⟩ → N9 = 0) := hideIt (fun e0 => by rw [← SN, ← hDD.out, e0]; rfl)
                have hn9 : -1000000000000 ≤ N9 ∧ N9 ≤ 1000000000000 := by omega
                have HN9 := hideIt hN
                clear SN hN
                clear hh hb
                go_wp2_with fail
                rw [← HN9.out]
                have hb0 : -9223372036854775808 ≤ N9 := by omega
                refine (sFmt_any N9 _ hb0).mono ?_
                rintro e u3 ⟨rfl, g⟩
                replace GW := hideIt (GW.out.trans g)
                clear g
                by_cases hf : fmtB N9 = s
                · have PY : Hid (PT s N9 true) := hideIt (PT.yes hf (fun e0 => by rw [ZE.out e0]; exact ⟨by omega, by omega⟩))
                  clear VT ZE
                  subst hf
                  go_wp2
                  refine bodyPost_ret (by simp [*, results, Tryd.results10, go_sem]; try rfl) rfl ?_
                  exact .mk' PY.out GW.out
                · have PN : Hid (PT s 0 false) := hideIt (PT.no hf VT.out)
                  have hd := strDif hf
                  clear hf
                  go_wp2
                  refine bodyPost_ret (by simp [*, results, Tryd.results10, go_sem]; try rfl) rfl ?_
                  exact .mk' PN.out GW.out
          · clear hlt2
            by_cases h0 : s.size = 0
            · have hh : s.data.toList.head? = none := by
                have h1 : s.data.toList.length = 0 := by rw [dsize]; exact h0
                rw [List.length_eq_zero_iff.1 h1]; rfl
              obtain ⟨N9, hN⟩ : ∃ N9 : Int, N9 = M := ⟨_, rfl⟩
              have SN : signOf s (numOf D) = N9 := by rw [hN]; exact by rw [HM.out]; unfold signOf; rw [if_neg (by rw [hh]; simp)]
              have VT : Hid (∀ t, isT t → s = fmtB t → N9 = t) := hideIt (fun t ht e => by rw [← SN, ← hDD.out]; exact spec_num ht e)
              have ZE : Hid (s = ⟨#[]⟩ → N9 = 0) := hideIt (fun e0 => by rw [← SN, ← hDD.out, e0]; rfl)
              have hn9 : -1000000000000 ≤ N9 ∧ N9 ≤ 1000000000000 := by omega
              have HN9 := hideIt hN
              clear SN hN
              clear hh
              go_wp2_with fail
              rw [← HN9.out]
              have hb0 : -9223372036854775808 ≤ N9 := by omega
              refine (sFmt_any N9 _ hb0).mono ?_
              rintro e u3 ⟨rfl, g⟩
              replace GW := hideIt (GW.out.trans g)
              clear g
              by_cases hf : fmtB N9 = s
              · have PY : Hid (PT s N9 true) := hideIt (PT.yes hf (fun e0 => by rw [ZE.out e0]; exact ⟨by omega, by omega⟩))
                clear VT ZE
                subst hf
                go_wp2
                refine bodyPost_ret (by simp [*, results, Tryd.results10, go_sem]; try rfl) rfl ?_
                exact .mk' PY.out GW.out
              · have PN : Hid (PT s 0 false) := hideIt (PT.no hf VT.out)
                have hd := strDif hf
                clear hf
                go_wp2
                refine bodyPost_ret (by simp [*, results, Tryd.results10, go_sem]; try rfl) rfl ?_
                exact .mk' PN.out GW.out
            · have h0' : 0 < s.size := by omega
              obtain ⟨n, hn⟩ : ∃ n : Nat, (s[0]'h0').toNat = n := ⟨_, rfl⟩
              have hb : s.data.toList.head? = some (s[0]'h0') := by
                rw [List.head?_eq_getElem?, List.getElem?_eq_getElem (by rw [dsize]; exact h0')]
                simp [ByteArray.getElem_eq_getElem_data]
              by_cases c1 : n = 45
              · have hh : s.data.toList.head? = some 45 := by rw [hb]; congr 1; exact UInt8.toNat_inj.1 (hn.trans c1)
                subst c1
                obtain ⟨N9, hN⟩ : ∃ N9 : Int, N9 = -M := ⟨_, rfl⟩
                have SN : signOf s (numOf D) = N9 := by rw [hN]; exact by rw [HM.out]; unfold signOf; rw [if_pos hh]
                have VT : Hid (∀ t, isT t → s = fmtB t → N9 = t) := hideIt (fun t ht e => by rw [← SN, ← hDD.out]; exact spec_num ht e)
                have ZE : Hid (s = ⟨#[]⟩ → N9 = 0) := hideIt (fun e0 => by rw [← SN, ← hDD.out, e0]; rfl)
                have hn9 : -1000000000000 ≤ N9 ∧ N9 ≤ 1000000000000 := by omega
                have HN9 := hideIt hN
                clear SN hN
                clear hh hb
                go_wp2_with fail
                rw [← HN9.out]
                have hb0 : -9223372036854775808 ≤ N9 := by omega
                refine (sFmt_any N9 _ hb0).mono ?_
                rintro e u3 ⟨rfl, g⟩
                replace GW := hideIt (GW.out.trans g)
                clear g
                by_cases hf : fmtB N9 = s
                · have PY : Hid (PT s N9 true) := hideIt (PT.yes hf (fun e0 => by rw [ZE.out e0]; exact ⟨by omega, by omega⟩))
                  clear VT ZE
                  subst hf
                  go_wp2
                  refine bodyPost_ret (by simp [*, results, Tryd.results10, go_sem]; try rfl) rfl ?_
                  exact .mk' PY.out GW.out
                · have PN : Hid (PT s 0 false) := hideIt (PT.no hf VT.out)
                  have hd := strDif hf
                  clear hf
                  go_wp2
                  refine bodyPost_ret (by simp [*, results, Tryd.results10, go_sem]; try rfl) rfl ?_
                  exact .mk' PN.out GW.out
              · have hh : s.data.toList.head? ≠ some 45 := by
                  rw [hb]
                  intro e
                  injection e with e
                  rw [e] at hn
                  exact c1 hn.symm
                obtain ⟨N9, hN⟩ : ∃ N9 : Int, N9 = M := ⟨_, rfl⟩
                have SN : signOf s (numOf D) = N9 := by rw [hN]; exact by rw [HM.out]; unfold signOf; rw [if_neg hh]
                have VT : Hid (∀ t, isT t → s = fmtB t → N9 = t) := hideIt (fun t ht e => by rw [← SN, ← hDD.out]; exact spec_num ht e)
                have ZE : Hid (s = ⟨#[]⟩ → N9 = 0) := hideIt (fun e0 => by rw [← SN, ← hDD.out, e0]; rfl)
                have hn9 : -1000000000000 ≤ N9 ∧ N9 ≤ 1000000000000 := by omega
                have HN9 := hideIt hN
                clear SN hN
                clear hh hb
                go_wp2_with fail
                rw [← HN9.out]
                have hb0 : -9223372036854775808 ≤ N9 := by omega
                refine (sFmt_any N9 _ hb0).mono ?_
                rintro e u3 ⟨rfl, g⟩
                replace GW := hideIt (GW.out.trans g)
                clear g
                by_cases hf : fmtB N9 = s
                · have PY : Hid (PT s N9 true) := hideIt (PT.yes hf (fun e0 => by rw [ZE.out e0]; exact ⟨by omega, by omega⟩))
                  clear VT ZE
                  subst hf
                  go_wp2
                  refine bodyPost_ret (by simp [*, results, Tryd.results10, go_sem]; try rfl) rfl ?_
                  exact .mk' PY.out GW.out
                · have PN : Hid (PT s 0 false) := hideIt (PT.no hf VT.out)
                  have hd := strDif hf
                  clear hf
                  go_wp2
                  refine bodyPost_ret (by simp [*, results, Tryd.results10, go_sem]; try rfl) rfl ?_
                  exact .mk' PN.out GW.out
end Go.Proofs.YtgglgghlndhfbaaDoor
