/-
  Draws of a time and of a time's text.
-/
import Derived.Test.YtgglgghlndhfbaaDoorSParse
import Derived.Test.YtgglgghlndhfbaaDoorDrawS
import Derived.Test.YtgglgghlndhfbaaDoorOwnI
namespace Go.Proofs.YtgglgghlndhfbaaDoor
open Go.RowKit
/-- these bytes lie in a block, whole and open -/
def BytesAt (W : World) (g : Nat) (l : List UInt8) : Prop := g < W.heap.size ∧ (∀ (j : Nat) (hj : j < l.length), W.cell? ⟨g, j, none⟩ = some (.int .u8 (l[j].toNat : Int))) ∧ ∀ j, j < l.length → W.frozen? ⟨g, j, none⟩ = false
theorem BytesAt.chg {W W' : World} {g : Nat} {l : List UInt8} {bs : List Nat} (h : BytesAt W g l) (c : Chg bs W W') (hg : g ∉ bs) : BytesAt W' g l :=
  ⟨Nat.lt_of_lt_of_le h.1 c.size, fun j hj => c.cell (h.2.1 j hj) hg, fun j hj => by rw [World.frozen?_of_block (a := ⟨g, j, none⟩) (c.block g h.1 hg)]; exact h.2.2 j hj⟩
theorem BytesAt.take {W : World} {g : Nat} {l : List UInt8} (h : BytesAt W g l) (k : Nat) : BytesAt W g (l.take k) :=
  ⟨h.1, fun j hj => by
    rw [List.length_take] at hj
    rw [List.getElem_take]
    exact h.2.1 j (by omega), fun j hj => h.2.2 j (by rw [List.length_take] at hj; omega)⟩
theorem BytesAt.set_ {W : World} {g : Nat} {l : List UInt8} (h : BytesAt W g l) {k : Nat} (hk : k < l.length) (c : UInt8) : BytesAt (W.setCell ⟨g, k, none⟩ (.int .u8 (c.toNat : Int))) g (l.set k c) := by
  refine ⟨by simpa [World.setCell] using h.1, fun j hj => ?_, fun j hj => ?_⟩
  · rw [List.length_set] at hj
    rw [List.getElem_set]
    by_cases e : k = j
    · subst e
      rw [if_pos rfl]
      exact World.cell?_setCell_same' _ _ _ (by rw [h.2.1 k hk]; rfl)
    · rw [if_neg e]
      exact (World.cell?_setCell_other _ ⟨g, k, none⟩ ⟨g, j, none⟩ _ (by simp)).trans (h.2.1 j hj)
  · rw [List.length_set] at hj
    rw [World.frozen?_setCell]
    exact h.2.2 j hj
theorem bytes_new (w : World) (s : ByteArray) : BytesAt (Lib.bytesWorld w 5 s) w.heap.size s.data.toList := by
  have hn := Lib.bytesWorld_at_new w 5 s
  refine ⟨by rw [Lib.bytesWorld_size]; omega, fun j hj => ?_, fun j hj => ?_⟩
  · rw [Lib.bytesWorld_cell w 5 s j (by rw [dsize] at hj; exact hj), List.getD_eq_getElem?_getD, List.getElem?_eq_getElem hj]
    rfl
  · have hl : j < (Lib.bytesCells w 5 s).size := by
      unfold Lib.bytesCells
      rw [dsize] at hj
      have : s.data.size = s.size := rfl
      simp
      omega
    unfold World.frozen?
    rw [hn]
    simp
    omega
theorem conv_back {W : World} {g : Nat} {l : List UInt8} (h : BytesAt W g l) (cap : Nat) : Sem.run Tryd.prog (convert 34 9 (.slice (some ⟨g, 0, none⟩) l.length cap)) W = .ok (.string ⟨l.toArray⟩) W :=
  run_convert_bytes_back W 34 9 5 ⟨g, 0, none⟩ cap l Tryd.underlying34 Tryd.underlying5 Tryd.underlying9 (fun j hj => by
    have := h.2.1 j hj
    rw [show (⟨g, 0, none⟩ : Addr).add j = ⟨g, j, none⟩ by unfold Addr.add; split <;> simp_all]
    exact this)
theorem drawFormatTime_any {v : Value} {xs : List Int} {w : World} (hx : RBytes w v xs) :
    Calls Tryd.prog 18 #[v] w fun e w' => ∃ t : Int, e = .returned (.int .i64 t) ∧ -1000000001 ≤ t ∧ t ≤ 1000000001 ∧ Grows w w' := by
  have HX := hideIt hx
  clear hx
  go_enter Tryd.func18, Tryd.ntmps18
  go_wp2_with fail
  refine (l01From_any HX.out).mono ?_
  rintro e u0 ⟨b, rfl, h_, g_⟩
  have HS := hideIt h_
  clear h_ g_
  go_wp2_with fail
  refine (l01Time_any HS.out).mono ?_
  rintro e u1 ⟨r, rfl, r1, r2, h_, -⟩
  replace HS := hideIt h_
  clear h_
  go_wp2
  go_ret
  exact ⟨_, rfl, r1, r2, HS.out.ge.2.1⟩
theorem fmtB_small (t : Int) : (fmtB t).size ≤ 21 := by
  by_cases h : isT t
  · have hn : t.natAbs ≤ 1000000000 := by unfold isT at h; omega
    have hl := absL_len hn
    rw [← dsize, fmtB_in h]
    unfold fmtL
    split
    · rw [List.length_cons]; omega
    · omega
  · rw [fmtB_out h]; decide
set_option maxHeartbeats 4000000 in
set_option maxRecDepth 10000 in
theorem drawParseTime_any {v : Value} {xs : List Int} {w : World} (hx : RBytes w v xs) :
    Calls Tryd.prog 19 #[v] w fun e w' => ∃ u : ByteArray, e = .returned (.string u) ∧ u.size ≤ 100 ∧ Grows w w' := by
  have HX := hideIt hx
  clear hx
  go_enter Tryd.func19, Tryd.ntmps19
  go_wp2_with fail
  refine (l01From_any HX.out).mono ?_
  rintro e u0 ⟨b, rfl, h_, g_⟩
  have HS := hideIt h_
  clear h_ g_
  go_wp2_with fail
  refine (l01Time_any HS.out).mono ?_
  rintro e u1 ⟨r, rfl, r1, r2, h_, -⟩
  replace HS := hideIt h_
  clear h_
  go_wp2_with fail
  refine (sFmt_any r _ (by omega)).mono ?_
  rintro e u2 ⟨rfl, g_⟩
  replace HS := hideIt (HS.out.grows g_)
  clear g_
  have zs := fmtB_small r
  obtain ⟨s, hs⟩ : ∃ s, s = fmtB r := ⟨_, rfl⟩
  rw [← hs] at zs ⊢
  clear hs
  have hcv := Lib.run_convert_string_bytes (P := Tryd.prog) u2 9 34 5 s Tryd.underlying9 Tryd.underlying34 Tryd.underlying5
  have BA := hideIt (bytes_new u2 s)
  have gb : Grows u2 (Lib.bytesWorld u2 5 s) := grows_bytes (.inr ⟨s, rfl⟩)
  have lb := HS.out.ge.2.2
  have lw : w.heap.size ≤ u2.heap.size := by have := HS.out.ge.1; omega
  replace HS := hideIt (HS.out.grows gb)
  have hcap := grownCap_ge u2 s.size 0 5
  have NB : Hid (u2.heap.size ∉ [b]) := hideIt (by simp; omega)
  clear gb
  go_wp2_with fail
  refine (l01Next_any (w0 := w) 4 HS.out).mono ?_
  rintro e u4 ⟨r4, rfl, r4a, r4b, h_, c_⟩
  replace HS := hideIt h_
  replace BA := hideIt (BA.out.chg c_ NB.out)
  have r4c := r4b (by omega)
  clear r4b h_ c_
  by_cases e0 : r4 = 0
  · subst e0
    by_cases hz : s.size = 0
    · have hz2 : ¬ (0 : Int) < (s.size : Int) := by omega
      clear hz
      have hcb := conv_back BA.out (grownCap u2 s.size 0 5)
      rw [dsize] at hcb
      go_wp2
      go_ret
      refine ⟨_, rfl, ?_, HS.out.ge.2.1⟩
      first | (rw [bsz, dsize]; omega) | omega
    · have hz2 : (0 : Int) < (s.size : Int) := by omega
      have hz3 : 0 < s.size := by omega
      go_wp2_with fail
      refine (l01Next_any (w0 := w) _ HS.out).mono ?_
      rintro e u5 ⟨k_, rfl, k_a, k_b, h_, c_⟩
      replace HS := hideIt h_
      replace BA := hideIt (BA.out.chg c_ NB.out)
      have k_c := k_b (by omega)
      clear k_b h_ c_
      obtain ⟨k, rfl⟩ : ∃ k : Nat, k_ = (k : Int) := ⟨k_.toNat, by omega⟩
      have kn : k < s.size := by omega
      go_wp2_with fail
      refine (l01Next_any (w0 := w) 6 HS.out).mono ?_
      rintro e u6 ⟨q_, rfl, q_a, q_b, h_, c_⟩
      replace HS := hideIt h_
      replace BA := hideIt (BA.out.chg c_ NB.out)
      have q_c := q_b (by omega)
      clear q_b h_ c_
      obtain ⟨q, rfl⟩ : ∃ q : Nat, q_ = (q : Int) := ⟨q_.toNat, by omega⟩
      have qn : q < 6 := by omega
      have kl : k < s.data.toList.length := by rw [dsize]; exact kn
      have kc := BA.out.2.1 k kl
      have kf := BA.out.2.2 k kl
      have kz := BA.out.1
      have BS := hideIt (BA.out.set_ kl ((⟨#[48, 49, 50, 51, 46, 45]⟩ : ByteArray)[q]'(by exact qn)))
      have hcb := conv_back BS.out (grownCap u2 s.size 0 5)
      rw [List.length_set, dsize] at hcb
      go_wp2
      go_ret
      exact ⟨_, rfl, by rw [bsz, List.length_set, dsize]; omega, by repeat (first | exact HS.out.ge.2.1 | refine Grows.drew ?_ | refine Grows.setCell ?_ (by simp; omega) _)⟩
  by_cases e1 : r4 = 1
  · subst e1
    go_wp2_with fail
    refine (l01Next_any (w0 := w) _ HS.out).mono ?_
    rintro e u5 ⟨k_, rfl, k_a, k_b, h_, c_⟩
    replace HS := hideIt h_
    replace BA := hideIt (BA.out.chg c_ NB.out)
    have k_c := k_b (by omega)
    clear k_b h_ c_
    obtain ⟨k, rfl⟩ : ∃ k : Nat, k_ = (k : Int) := ⟨k_.toNat, by omega⟩
    have kn : k ≤ s.size := by omega
    have kcap : (k : Int) ≤ (grownCap u2 s.size 0 5 : Int) := by omega
    have hcb := conv_back (BA.out.take k) (grownCap u2 s.size 0 5)
    rw [List.length_take, dsize, Nat.min_eq_left kn] at hcb
    go_wp2
    go_ret
    exact ⟨_, rfl, by rw [bsz, List.length_take, dsize]; omega, HS.out.ge.2.1⟩
  have hcb := conv_back BA.out (grownCap u2 s.size 0 5)
  rw [dsize] at hcb
  go_wp2
  go_ret
  refine ⟨_, rfl, ?_, HS.out.ge.2.1⟩
  first | (rw [bsz, dsize]; omega) | omega
end Go.Proofs.YtgglgghlndhfbaaDoor
