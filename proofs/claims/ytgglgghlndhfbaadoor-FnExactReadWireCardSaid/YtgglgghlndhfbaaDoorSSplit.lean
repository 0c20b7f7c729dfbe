/-
  A text cut at a byte, the reference's.
-/
import Derived.Test.YtgglgghlndhfbaaDoorIReadT
import Derived.Test.YtgglgghlndhfbaaDoorSParse
namespace Go.Proofs.YtgglgghlndhfbaaDoor
open Go.RowKit
theorem info_str : (Tryd.prog.info? 9).map (fun i => (i.zero, i.size, i.bytes)) = some (some (.string .empty), 1, 16) := by kernel_rfl
/-- these strings lie in a row -/
def StrsAt (W : World) (v : Value) (ws : List ByteArray) : Prop := ∃ g c : Nat, v = .slice (some ⟨g, 0, none⟩) ws.length c ∧ ∀ (j : Nat) (x : ByteArray), ws[j]? = some x → W.cell? ⟨g, j, none⟩ = some (.string x)
theorem StrsAt.keep {W W' : World} {v : Value} {ws : List ByteArray} (h : StrsAt W v ws) (g : Grows W W') : StrsAt W' v ws := by
  obtain ⟨b, c, e, hc⟩ := h
  exact ⟨b, c, e, fun j x hx => g.keeps _ _ (hc j x hx)⟩
theorem ex_data (s : ByteArray) (f k : Nat) : (s.extract f k).data.toList = (s.data.toList.drop f).take (k - f) := by
  rw [ByteArray.data_extract, Array.toList_extract, List.extract_eq_take_drop]
/-- where the cutting stands -/
def CutAt (s : ByteArray) (c : UInt8) (ps : List ByteArray) (f k : Nat) : Prop :=
  (k ≤ s.size ∧ f ≤ k ∧ splitL c s.data.toList = ps.map (·.data.toList) ++ splitL c (s.data.toList.drop f) ∧ c ∉ (s.data.toList.drop f).take (k - f)) ∨ (k = s.size + 1 ∧ splitL c s.data.toList = ps.map (·.data.toList))
theorem CutAt.start (s : ByteArray) (c : UInt8) : CutAt s c [] 0 0 := .inl ⟨Nat.zero_le _, Nat.le_refl _, rfl, by simp⟩
theorem CutAt.skip {s : ByteArray} {c x : UInt8} {ps : List ByteArray} {f k : Nat} (h : CutAt s c ps f k) (hk : k < s.size) (hx : s.data.toList[k]? = some x) (hn : x ≠ c) : CutAt s c ps f (k + 1) := by
  rcases h with ⟨h1, h2, h3, h4⟩ | ⟨h1, _⟩
  · refine .inl ⟨by omega, by omega, h3, fun hm => ?_⟩
    rw [show k + 1 - f = (k - f) + 1 by omega, List.take_add_one, List.getElem?_drop, show f + (k - f) = k by omega, hx] at hm
    rcases List.mem_append.1 hm with hm | hm
    · exact h4 hm
    · simp at hm; exact hn hm.symm
  · omega
theorem CutAt.cut {s : ByteArray} {c : UInt8} {ps : List ByteArray} {f k : Nat} (h : CutAt s c ps f k) (hk : k < s.size) (hx : s.data.toList[k]? = some c) : CutAt s c (ps ++ [s.extract f k]) (k + 1) (k + 1) := by
  rcases h with ⟨h1, h2, h3, h4⟩ | ⟨h1, _⟩
  · refine .inl ⟨by omega, Nat.le_refl _, ?_, by simp⟩
    have e : s.data.toList.drop f = (s.data.toList.drop f).take (k - f) ++ c :: s.data.toList.drop (k + 1) := by
      have h5 := List.take_append_drop (k - f) (s.data.toList.drop f)
      rw [List.drop_drop, show f + (k - f) = k by omega] at h5
      have hkl : k < s.data.toList.length := by rw [dsize]; exact hk
      rw [List.drop_eq_getElem_cons hkl] at h5
      rw [List.getElem?_eq_getElem hkl] at hx
      injection hx with hx
      rw [hx] at h5
      exact h5.symm
    have e2 : splitL c (s.data.toList.drop f) = (s.extract f k).data.toList :: splitL c (s.data.toList.drop (k + 1)) := by
      rw [ex_data s f k]
      have e3 := split_app (b := s.data.toList.drop (k + 1)) h4
      rwa [← e] at e3
    rw [h3, e2, List.map_append, List.append_assoc]
    rfl
  · omega
theorem CutAt.end_ {s : ByteArray} {c : UInt8} {ps : List ByteArray} {f k : Nat} (h : CutAt s c ps f k) (hk : k = s.size) : CutAt s c (ps ++ [s.extract f k]) (k + 1) (k + 1) := by
  rcases h with ⟨h1, h2, h3, h4⟩ | ⟨h1, _⟩
  · refine .inr ⟨by omega, ?_⟩
    have e : (s.data.toList.drop f).take (k - f) = s.data.toList.drop f := List.take_of_length_le (by rw [List.length_drop, dsize]; omega)
    rw [e] at h4
    rw [h3, split_none h4, List.map_append]
    congr 1
    show _ = [(s.extract f k).data.toList]
    rw [ex_data s f k, e]
  · omega
def SplitPost (s : ByteArray) (c : UInt8) (w : World) (e : Ending) (w' : World) : Prop := ∃ (v : Value) (ws : List ByteArray), e = .returned v ∧ StrsAt w' v ws ∧ ws.map (·.data.toList) = splitL c s.data.toList ∧ ws.length ≤ s.size + 1 ∧ Grows w w'
set_option maxHeartbeats 8000000 in
set_option maxRecDepth 10000 in
theorem split_any (s : ByteArray) (c : UInt8) (cz : Int) (hcz : cz = (c.toNat : Int)) (w : World) (hs : s.size ≤ 1048576) : Calls Tryd.prog 31 #[.string s, .int .u8 cz] w (SplitPost s c w) := by
  obtain ⟨i0, hi, hz0, hz1, hz2⟩ := info_parts info_str
  have hc8 : c.toNat < 256 := UInt8.toNat_lt _
  obtain ⟨b, hb⟩ : ∃ b : Nat, c.toNat = b := ⟨_, rfl⟩
  rw [hb] at hcz hc8
  subst hcz
  have HB := hideIt hb
  clear hb
  have OW0 : Hid ((w.alloc (.cells #[] 9)).ownsRow w.heap.size 9 1 (.slice (some ⟨w.heap.size, 0, none⟩) 0 0) 0 []) := hideIt ⟨rfl, .inr ⟨_, 0, #[], rfl, Nat.le_refl _, Blk.new w _ _, Nat.le_refl _, Nat.zero_le _, rfl, rfl⟩⟩
  have G0 : Hid (Grows w (w.alloc (.cells #[] 9))) := hideIt ((Grows.refl w).alloc _)
  go_enter Tryd.func31, Tryd.ntmps31
  go_wp2
  go_loopw [5, 6, 7] (fun v a i wr => ∃ (nv : Value) (ps : List ByteArray) (f k : Nat), nv = v ∧ a = .int .i64 (f : Int) ∧ i = .int .i64 (k : Int) ∧ k ≤ s.size + 1 ∧ Hid (ps.length ≤ k) ∧ Hid (wr.ownsRow w.heap.size 9 1 nv (ps).length ((ps).map Value.string)) ∧ Hid (Grows w wr) ∧ Hid (CutAt s c ps f k)) (fun _ _ i _ => s.size + 1 - (intOf i).toNat)
  case atStart => exact ⟨_, [], 0, 0, rfl, rfl, rfl, Nat.zero_le _, hideIt (Nat.zero_le _), OW0, G0, hideIt (CutAt.start s c)⟩
  case round =>
    clear OW0 G0
    obtain ⟨nv, ps, f, k, rfl, rfl, rfl, hk, HPL, OW, GG, CU⟩ := hrel
    by_cases hle : k ≤ s.size
    · have hfk : f ≤ k := by
        rcases CU.out with ⟨_, h2, _⟩ | ⟨h1, _⟩
        · exact h2
        · omega
      by_cases hlt : k < s.size
      · obtain ⟨n, hn⟩ : ∃ n : Nat, (s[k]'hlt).toNat = n := ⟨_, rfl⟩
        have n8 : n < 256 := by rw [← hn]; exact UInt8.toNat_lt _
        have hx : s.data.toList[k]? = some (s[k]'hlt) := by
          rw [List.getElem?_eq_getElem (by rw [dsize]; exact hlt)]
          simp [ByteArray.getElem_eq_getElem_data]
        have nek : ((k : Int) == (s.size : Int)) = false := by simp; omega
        by_cases hnc : n = b
        · have ec : s[k]'hlt = c := UInt8.toNat_inj.1 (by rw [hn, HB.out, hnc])
          have NX := hideIt (CU.out.cut hlt (by rw [hx, ec]))
          subst hnc
          clear hx ec CU
          have own1 := hideIt (OW.out.alloc (.cells #[.string (s.extract f k)] 9))
          have G1 := hideIt (GG.out.alloc (.cells #[.string (s.extract f k)] 9))
          have nlt : Hid (∀ q, nv.ownBlock = some q → w.heap.size ≤ q ∧ q < wr.heap.size) := hideIt OW.out.lt
          have hpl := HPL.out
          clear OW GG
          go_wp2_with (at_builtin; refine wpList_append_own_at _ rfl _ _ 51 rfl (w.heap.size) 9 i0 (.string .empty) 1 16 Tryd.underlying51 hi hz0 hz1 hz2 rfl (by decide) nv ps.length (ps.map Value.string) rfl own1.out ⟨wr.heap.size, 0, none⟩ 1 1 [.string (s.extract f k)] rfl ?c1 ?c2 ?c3 ?c4 ?c5 ?c6 ?_)
          case c1 => simp
          case c2 =>
            intro j u hj
            match j, hj with
            | 0, hj => simp at hj; subst hj; simp [Addr.add]
          case c3 => intro u hu; simp at hu; subst hu; rfl
          case c4 => unfold maxLen; omega
          case c5 => omega
          case c6 => exact G1.out.size
          intro v' w4 hown3 hgrow hnil hat
          have GG := hideIt (Grows.grown G1.out hgrow (fun q e => (nlt.out q e).1))
          have OW : Hid (w4.ownsRow w.heap.size 9 1 v' (ps ++ [s.extract f k]).length ((ps ++ [s.extract f k]).map Value.string)) := hideIt (by rw [List.length_append, List.map_append]; exact hown3)
          clear hown3 hgrow hnil hat own1 G1 nlt
          go_wp2
          go_roundw
          case rel => exact ⟨_, ps ++ [s.extract f k], k + 1, k + 1, rfl, by go_num, by go_num, by omega, hideIt (by have := HPL.out; simp; omega), OW, GG, NX⟩
          case measure => first | (simp [intOf]; done) | (simp [intOf]; omega)
        · have ec : s[k]'hlt ≠ c := fun e => hnc (by rw [← hn, e, HB.out])
          have NX := hideIt (CU.out.skip hlt hx ec)
          have nbb : ((n : Int) == (b : Int)) = false := by simp; omega
          clear hx ec CU
          go_wp2
          go_roundw
          case rel => exact ⟨_, ps, f, k + 1, rfl, rfl, by go_num, by omega, hideIt (by have := HPL.out; omega), OW, GG, NX⟩
          case measure => first | (simp [intOf]; done) | (simp [intOf]; omega)
      · obtain rfl : k = s.size := by omega
        have NX := hideIt (CU.out.end_ rfl)
        clear CU
        have own1 := hideIt (OW.out.alloc (.cells #[.string (s.extract f s.size)] 9))
        have G1 := hideIt (GG.out.alloc (.cells #[.string (s.extract f s.size)] 9))
        have nlt : Hid (∀ q, nv.ownBlock = some q → w.heap.size ≤ q ∧ q < wr.heap.size) := hideIt OW.out.lt
        have hpl := HPL.out
        clear OW GG
        go_wp2_with (at_builtin; refine wpList_append_own_at _ rfl _ _ 51 rfl (w.heap.size) 9 i0 (.string .empty) 1 16 Tryd.underlying51 hi hz0 hz1 hz2 rfl (by decide) nv ps.length (ps.map Value.string) rfl own1.out ⟨wr.heap.size, 0, none⟩ 1 1 [.string (s.extract f s.size)] rfl ?c1 ?c2 ?c3 ?c4 ?c5 ?c6 ?_)
        case c1 => simp
        case c2 =>
          intro j u hj
          match j, hj with
          | 0, hj => simp at hj; subst hj; simp [Addr.add]
        case c3 => intro u hu; simp at hu; subst hu; rfl
        case c4 => unfold maxLen; omega
        case c5 => omega
        case c6 => exact G1.out.size
        intro v' w4 hown3 hgrow hnil hat
        have GG := hideIt (Grows.grown G1.out hgrow (fun q e => (nlt.out q e).1))
        have OW : Hid (w4.ownsRow w.heap.size 9 1 v' (ps ++ [s.extract f s.size]).length ((ps ++ [s.extract f s.size]).map Value.string)) := hideIt (by rw [List.length_append, List.map_append]; exact hown3)
        clear hown3 hgrow hnil hat own1 G1 nlt
        go_wp2
        go_roundw
        case rel => exact ⟨_, ps ++ [s.extract f s.size], s.size + 1, s.size + 1, rfl, by go_num, by go_num, by omega, hideIt (by have := HPL.out; simp; omega), OW, GG, NX⟩
        case measure => first | (simp [intOf]; done) | (simp [intOf]; omega)
    · have PE : Hid (splitL c s.data.toList = ps.map (·.data.toList)) := hideIt (by
        rcases CU.out with ⟨h1, _⟩ | ⟨_, h2⟩
        · omega
        · exact h2)
      have pne : 1 ≤ ps.length := by
        have h1 := split_ne c s.data.toList
        rw [PE.out] at h1
        cases ps with
        | nil => exact absurd rfl h1
        | cons _ _ => simp
      obtain ⟨g, c', rfl, -, hcell⟩ := own_cells' OW.out pne
      have SA : Hid (StrsAt wr (.slice (some ⟨g, 0, none⟩) ps.length c') ps) := hideIt ⟨g, c', rfl, hcell⟩
      have PL : Hid (ps.length ≤ s.size + 1) := hideIt (by have := HPL.out; omega)
      clear hcell CU OW
      go_wp2
      go_ret
      exact ⟨_, ps, rfl, SA.out, PE.out.symm, PL.out, GG.out⟩
end Go.Proofs.YtgglgghlndhfbaaDoor
