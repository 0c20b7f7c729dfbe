/-
  Contracts of the functions that mark a value's memory with numbers and that look whether the marks stand.
-/
import Derived.Test.YtgglgghlndhfbaaDoorTab
import Derived.Test.YtgglgghlndhfbaaDoorChg
namespace Go.Proofs.YtgglgghlndhfbaaDoor
open Go.RowKit

/-- the marks from k on -/
def mkL (k : Int) (n : Nat) : List Int := (List.range n).map fun (i : Nat) => k + (i : Int)
theorem mkL_len (k : Int) (n : Nat) : (mkL k n).length = n := by simp [mkL]
theorem mkL_at {k : Int} {n i : Nat} (h : i < n) : (mkL k n)[i]? = some (k + (i : Int)) := by simp [mkL, h]

/-- the marking's state behind i rounds -/
def Marked (w wr : World) (g : Nat) (n : Nat) (k : Int) (i : Nat) : Prop :=
  ∃ cs : Array Value, Blk wr g 2 cs ∧ n ≤ cs.size ∧ (∀ j, j < i → cs[j]? = some (.int .i64 (k + (j : Int)))) ∧ Chg [g] w wr
theorem Marked.step {w wr : World} {g n i : Nat} {k : Int} (h : Marked w wr g n k i) (hi : i < n) : Marked w (wr.setCell ⟨g, i, none⟩ (.int .i64 (k + (i : Int)))) g n k (i + 1) := by
  obtain ⟨cs, hb, hs, hc, hg⟩ := h
  refine ⟨_, hb.set_ i _, by simpa using hs, fun j hj => ?_, hg.setCell (by simp) _⟩
  rw [Array.getElem?_setIfInBounds]
  by_cases e : i = j
  · subst e
    rw [if_pos rfl, if_pos (by omega)]
  · rw [if_neg e]
    exact hc j (by omega)
set_option maxHeartbeats 1000000 in
theorem markInts_any {v : Value} {xs : List Int} {bs : List Nat} (k : Int) (w : World) (h : OInts w v xs bs) (hn : SmL xs) (hk : 0 ≤ k) (hk2 : k ≤ 1000000000000) :
    Calls Tryd.prog 38 #[v, .int .i64 k] w fun e w' => e = .returned (.int .i64 (k + (xs.length : Int))) ∧ OInts w' v (mkL k xs.length) bs ∧ Chg bs w w' := by
  unfold SmL at hn
  rcases h with ⟨rfl, rfl, rfl⟩ | ⟨g, c, cs, bss, rfl, h1, h2, hb, hl, rfl, hc⟩
  · go_enter Tryd.func38, Tryd.ntmps38
    go_wp2
    go_loopw [1, 5] (fun q i wr => q = .int .i64 k ∧ i = .int .i64 0 ∧ wr = w) (fun _ _ _ => 0)
    case atStart => exact ⟨rfl, rfl, rfl⟩
    case round =>
      obtain ⟨rfl, rfl, rfl⟩ := hrel
      go_wp2
      go_ret
      exact ⟨ret_int (by simp), .inl ⟨rfl, rfl, rfl⟩, Chg.refl _ _⟩
  · have hflat : bss.flatten = [] := by
      rw [List.flatten_eq_nil_iff]
      intro l hl'
      obtain ⟨i, hi⟩ := List.getElem?_of_mem hl'
      have hlt : i < xs.length := by have := (List.getElem?_eq_some_iff.1 hi).1; omega
      obtain ⟨es, b', _, _, hbi, ho⟩ := hc i _ (List.getElem?_eq_getElem hlt)
      rw [hi] at hbi
      injection hbi with hbi
      rw [hbi, ho.2]
    have hsz : xs.length ≤ cs.size := by
      rcases Nat.eq_zero_or_pos xs.length with h0 | h0
      · omega
      · obtain ⟨es, b', hes, hcs, _, _⟩ := hc (xs.length - 1) _ (List.getElem?_eq_getElem (by omega))
        have := hcs 0 es[0] (List.getElem?_eq_getElem (by omega))
        have := (Array.getElem?_eq_some_iff.1 this).1
        omega
    have HS : Marked w w g xs.length k 0 := ⟨cs, hb, hsz, fun j hj => absurd hj (by omega), Chg.refl _ _⟩
    have HS := hideIt HS
    rw [hflat]
    clear hb hc hl hflat hsz
    go_enter Tryd.func38, Tryd.ntmps38
    go_wp2
    go_loopw [1, 5] (fun q i wr => ∃ j : Nat, j ≤ xs.length ∧ q = .int .i64 (k + (j : Int)) ∧ i = .int .i64 (j : Int) ∧ Marked w wr g xs.length k j) (fun _ i _ => xs.length - (intOf i).toNat)
    case atStart => exact ⟨0, Nat.zero_le _, by simp, rfl, HS.out⟩
    case round =>
      obtain ⟨j, hj, rfl, rfl, hm⟩ := hrel
      by_cases hlt : j < xs.length
      · have hst := hideIt (hm.step hlt)
        obtain ⟨ds, hb, hsz, -, -⟩ := hm
        obtain ⟨old, hd⟩ : ∃ old, wr.cell? ⟨g, j, none⟩ = some old := ⟨_, by rw [hb.cell]; exact Array.getElem?_eq_getElem (by omega)⟩
        have hf : wr.frozen? ⟨g, j, none⟩ = false := hb.frozen j
        clear hb hsz
        go_wp2
        go_roundw
        case rel => exact ⟨j + 1, by omega, by go_num, by go_num, hst.out⟩
        case measure => simp [intOf]; omega
      · have hj2 : j = xs.length := by omega
        subst hj2
        have HM := hideIt hm
        clear hm
        go_wp2
        go_ret
        obtain ⟨ds, hb, hsz, hc, hg⟩ := HM.out
        refine ⟨rfl, .inr ⟨g, c, ds, List.replicate xs.length [], by rw [mkL_len], by rw [mkL_len]; exact h1, h2, hb, by simp [mkL_len], ?_, fun i x hx => ?_⟩, hg⟩
        · congr 1
          symm
          rw [List.flatten_eq_nil_iff]
          intro l hl
          exact (List.mem_replicate.1 hl).2
        · have hi : i < xs.length := by have := (List.getElem?_eq_some_iff.1 hx).1; rw [mkL_len] at this; exact this
          rw [mkL_at hi] at hx
          injection hx with hx
          subst hx
          refine ⟨[.int .i64 (k + (i : Int))], [], rfl, fun j u hu => ?_, by rw [List.getElem?_replicate, if_pos hi], rfl, rfl⟩
          match j, hu with
          | 0, hu =>
            simp at hu
            subst hu
            simpa using hc i hi
set_option maxHeartbeats 1000000 in
theorem heldInts_any {v : Value} {n : Nat} (k : Int) (w : World) (h : RInts w v (mkL k n)) (hn : n ≤ 1048576) (hk : 0 ≤ k) (hk2 : k ≤ 1000000000000) :
    Calls Tryd.prog 39 #[v, .int .i64 k] w fun e w' => e = .returned (.int .i64 (k + (n : Int))) ∧ Grows w w' := by
  obtain ⟨A, c, hv, hle, hc, hx⟩ := h.form
  rw [mkL_len] at hv hle
  subst hv
  have HX := hideIt hx
  clear hx h hle hc
  go_enter Tryd.func39, Tryd.ntmps39
  go_wp2
  go_loopw [1, 5] (fun q i wr => ∃ j : Nat, j ≤ n ∧ q = .int .i64 (k + (j : Int)) ∧ i = .int .i64 (j : Int) ∧ Grows w wr) (fun _ i _ => n - (intOf i).toNat)
  case atStart => exact ⟨0, Nat.zero_le _, by simp, rfl, Grows.refl _⟩
  case round =>
    obtain ⟨j, hj, rfl, rfl, hg⟩ := hrel
    by_cases hlt : j < n
    · obtain ⟨b, off, rfl, cs, hl1, hcs, hr⟩ := HX.out j _ (mkL_at hlt)
      unfold RI at hr
      subst hr
      have hs : wr.cell? ⟨b, off + j, none⟩ = some (.int .i64 (k + (j : Int))) := by simpa using hg.keeps _ _ (hcs 0 _ rfl)
      clear hcs hl1
      go_wp2
      try (go_quiet (fail); go_wp2)
      go_roundw
      case rel => exact ⟨j + 1, by omega, by go_num, by go_num, by first | exact hg | exact hg.drewN _ | exact (hg.drewN _).drewN _⟩
      case measure => simp [intOf]; omega
    · have hj2 : j = n := by omega
      subst hj2
      go_wp2
      go_ret
      exact ⟨rfl, hg⟩
def mkTable (k : Int) (t : TableD) : TableD := ⟨mkL k t.slews.length, mkL (k + t.slews.length) t.loads.length, mkL (k + t.slews.length + t.loads.length) t.values.length⟩
theorem nodup3 {b1 b2 b3 : List Nat} (h : (b1 ++ b2 ++ b3).Nodup) : (∀ g ∈ b1, g ∉ b2) ∧ (∀ g ∈ b1, g ∉ b3) ∧ (∀ g ∈ b2, g ∉ b3) := by
  rw [List.nodup_append, List.nodup_append] at h
  obtain ⟨⟨_, _, h1⟩, _, h2⟩ := h
  exact ⟨fun g hg hm => h1 g hg g hm rfl, fun g hg hm => h2 g (List.mem_append_left _ hg) g hm rfl, fun g hg hm => h2 g (List.mem_append_right _ hg) g hm rfl⟩
set_option maxHeartbeats 1000000 in
theorem markTable_any {a b c : Value} {t : TableD} {bs : List Nat} (k : Int) (w : World) (h : OTable w [a, b, c] t bs) (hd : bs.Nodup) (hs : SmTable t) (hk : 0 ≤ k) (hk2 : k ≤ 900000000000) :
    Calls Tryd.prog 15 #[.agg #[a, b, c], .int .i64 k] w fun e w' => e = .returned (.int .i64 (k + (t.slews.length : Int) + (t.loads.length : Int) + (t.values.length : Int))) ∧ OTable w' [a, b, c] (mkTable k t) bs ∧ Chg bs w w' := by
  obtain ⟨a', b', c', b1, b2, b3, he, ha, hb, hc, rfl⟩ := h
  injection he with e1 he
  injection he with e2 he
  injection he with e3 he
  subst e1 e2 e3
  clear he
  obtain ⟨s1, s2, s3⟩ := hs
  obtain ⟨d12, d13, d23⟩ := nodup3 hd
  have g0 : Grows w (w.alloc (.cells #[a, b, c] 29)) := (Grows.refl w).alloc _
  have HA := hideIt (ha.same ((SameOn.refl b1 w).grows ha.lt g0))
  have HB := hideIt (hb.same ((SameOn.refl b2 w).grows hb.lt g0))
  have HC := hideIt (hc.same ((SameOn.refl b3 w).grows hc.lt g0))
  have HS := hideIt (Blk.new w 29 #[a, b, c])
  have n1 : w.heap.size ∉ b1 := fun hm => by have := ha.lt _ hm; omega
  have n2 : w.heap.size ∉ b2 := fun hm => by have := hb.lt _ hm; omega
  have n3 : w.heap.size ∉ b3 := fun hm => by have := hc.lt _ hm; omega
  have N1 := hideIt n1
  have N2 := hideIt n2
  have N3 := hideIt n3
  have D12 := hideIt d12
  have D13 := hideIt d13
  have D23 := hideIt d23
  have C0 : Hid (Chg (b1 ++ b2 ++ b3) w (w.alloc (.cells #[a, b, c] 29))) := Chg.of_grows g0
  have S1 := hideIt s1
  have S2 := hideIt s2
  have S3 := hideIt s3
  have q1 : 0 ≤ (t.slews.length : Int) ∧ (t.slews.length : Int) ≤ 1048576 := by unfold SmL at s1; omega
  have q2 : 0 ≤ (t.loads.length : Int) ∧ (t.loads.length : Int) ≤ 1048576 := by unfold SmL at s2; omega
  have q3 : 0 ≤ (t.values.length : Int) ∧ (t.values.length : Int) ≤ 1048576 := by unfold SmL at s3; omega
  obtain ⟨q1, q1'⟩ := q1
  obtain ⟨q2, q2'⟩ := q2
  obtain ⟨q3, q3'⟩ := q3
  clear ha hb hc g0 n1 n2 n3 d12 d13 d23 s1 s2 s3 hd
  go_enter Tryd.func15, Tryd.ntmps15
  go_wp2_with fail
  refine (markInts_any k _ HA.out S1.out hk (by omega)).mono ?_
  rintro e u1 ⟨rfl, o1, c1⟩
  have HB1 := hideIt (HB.out.same (c1.same HB.out.lt fun g hg hm => D12.out g hm hg))
  have HC1 := hideIt (HC.out.same (c1.same HC.out.lt fun g hg hm => D13.out g hm hg))
  have HS1 := hideIt (HS.out.chg c1 N1.out)
  have C1 := hideIt (C0.out.trans (c1.mono (by simp +contextual)))
  have O1 := hideIt o1
  clear o1 c1
  have k0 : u1.cell? ⟨w.heap.size, 0, none⟩ = some a := HS1.out.cell 0
  have k1 : u1.cell? ⟨w.heap.size, 1, none⟩ = some b := HS1.out.cell 1
  have k2 : u1.cell? ⟨w.heap.size, 2, none⟩ = some c := HS1.out.cell 2
  go_wp2_with fail
  clear k0 k1 k2
  refine (markInts_any _ _ HB1.out S2.out (by omega) (by omega)).mono ?_
  rintro e u2 ⟨rfl, o2, c2⟩
  have O11 := hideIt (O1.out.same (c2.same O1.out.lt fun g hg hm => D12.out g hg hm))
  have HC2 := hideIt (HC1.out.same (c2.same HC1.out.lt fun g hg hm => D23.out g hm hg))
  have HS2 := hideIt (HS1.out.chg c2 N2.out)
  have C2 := hideIt (C1.out.trans (c2.mono (by simp +contextual)))
  have O2 := hideIt o2
  clear o2 c2
  have k0 : u2.cell? ⟨w.heap.size, 0, none⟩ = some a := HS2.out.cell 0
  have k1 : u2.cell? ⟨w.heap.size, 1, none⟩ = some b := HS2.out.cell 1
  have k2 : u2.cell? ⟨w.heap.size, 2, none⟩ = some c := HS2.out.cell 2
  go_wp2_with fail
  clear k0 k1 k2
  refine (markInts_any _ _ HC2.out S3.out (by omega) (by omega)).mono ?_
  rintro e u3 ⟨rfl, o3, c3⟩
  have O12 := hideIt (O11.out.same (c3.same O11.out.lt fun g hg hm => D13.out g hg hm))
  have O21 := hideIt (O2.out.same (c3.same O2.out.lt fun g hg hm => D23.out g hg hm))
  have C3 := hideIt (C2.out.trans (c3.mono (by simp +contextual)))
  have O3 := hideIt o3
  clear o3 c3
  go_wp2
  go_ret
  exact ⟨rfl, ⟨a, b, c, b1, b2, b3, rfl, O12.out, O21.out, O3.out, rfl⟩, C3.out⟩
set_option maxHeartbeats 1000000 in
theorem heldTable_any {a b c : Value} {t : TableD} (k : Int) (w : World) (h : RTable w [a, b, c] (mkTable k t)) (hs : SmTable t) (hk : 0 ≤ k) (hk2 : k ≤ 900000000000) :
    Calls Tryd.prog 16 #[.agg #[a, b, c], .int .i64 k] w fun e w' => e = .returned (.int .i64 (k + (t.slews.length : Int) + (t.loads.length : Int) + (t.values.length : Int))) ∧ Grows w w' := by
  obtain ⟨ha, hb, hc⟩ := h.open_
  obtain ⟨s1, s2, s3⟩ := hs
  have g0 : Grows w (w.alloc (.cells #[a, b, c] 29)) := (Grows.refl w).alloc _
  have HA := hideIt (ha.keep g0.keeps)
  have HB := hideIt (hb.keep g0.keeps)
  have HC := hideIt (hc.keep g0.keeps)
  have G0 := hideIt g0
  have HS := hideIt (Blk.new w 29 #[a, b, c])
  have q1 : 0 ≤ (t.slews.length : Int) ∧ (t.slews.length : Int) ≤ 1048576 := by unfold SmL at s1; omega
  have q2 : 0 ≤ (t.loads.length : Int) ∧ (t.loads.length : Int) ≤ 1048576 := by unfold SmL at s2; omega
  have q3 : 0 ≤ (t.values.length : Int) ∧ (t.values.length : Int) ≤ 1048576 := by unfold SmL at s3; omega
  have S1 := hideIt s1
  have S2 := hideIt s2
  have S3 := hideIt s3
  obtain ⟨q1, q1'⟩ := q1
  obtain ⟨q2, q2'⟩ := q2
  obtain ⟨q3, q3'⟩ := q3
  clear ha hb hc g0 s1 s2 s3 h
  go_enter Tryd.func16, Tryd.ntmps16
  go_wp2_with fail
  refine (heldInts_any k _ HA.out S1.out hk (by omega)).mono ?_
  rintro e u1 ⟨rfl, g1⟩
  have HS1 := hideIt (HS.out.grows g1)
  have G1 := hideIt (G0.out.trans g1)
  have HB1 := hideIt (HB.out.keep g1.keeps)
  have HC1 := hideIt (HC.out.keep g1.keeps)
  clear g1
  have k0 : u1.cell? ⟨w.heap.size, 0, none⟩ = some a := HS1.out.cell 0
  have k1 : u1.cell? ⟨w.heap.size, 1, none⟩ = some b := HS1.out.cell 1
  have k2 : u1.cell? ⟨w.heap.size, 2, none⟩ = some c := HS1.out.cell 2
  go_wp2_with fail
  clear k0 k1 k2
  refine (heldInts_any _ _ HB1.out S2.out (by omega) (by omega)).mono ?_
  rintro e u2 ⟨rfl, g2⟩
  have HS2 := hideIt (HS1.out.grows g2)
  have G2 := hideIt (G1.out.trans g2)
  have HC2 := hideIt (HC1.out.keep g2.keeps)
  clear g2
  have k0 : u2.cell? ⟨w.heap.size, 0, none⟩ = some a := HS2.out.cell 0
  have k1 : u2.cell? ⟨w.heap.size, 1, none⟩ = some b := HS2.out.cell 1
  have k2 : u2.cell? ⟨w.heap.size, 2, none⟩ = some c := HS2.out.cell 2
  go_wp2_with fail
  clear k0 k1 k2
  refine (heldInts_any _ _ HC2.out S3.out (by omega) (by omega)).mono ?_
  rintro e u3 ⟨rfl, g3⟩
  have G3 := hideIt (G2.out.trans g3)
  clear g3
  go_wp2
  go_ret
  exact ⟨rfl, G3.out⟩
end Go.Proofs.YtgglgghlndhfbaaDoor
