/-
  What a valid block is; loads and delays of a wire's nodes, in plain Lean.
-/
import Derived.Test.YtpppobomekebdaaGreatDoorPlF
import Derived.Test.YtpppobomekebdaaGreatDoorIsWire2
namespace Go.Proofs.YtpppobomekebdaaGreatDoor
open Go.RowKit
structure BlkP (l : List CellD) (d : DesignD) (ws : List WireD) : Prop where
  des : DesP l d
  len : ws.length = d.nets.length
  wire : ∀ (n : Nat) (x : WireD), ws[n]? = some x → wireB x ((sinksL d (n : Int)).length : Int) = true
noncomputable def blkB (l : List CellD) (d : DesignD) (ws : List WireD) : Bool := pB (BlkP l d ws)
def addAt (xs : List Int) (p : Nat) (v : Int) : List Int := xs.set p (xs.getD p 0 + v)
theorem addAt_len (xs : List Int) (p : Nat) (v : Int) : (addAt xs p v).length = xs.length := by simp [addAt]
theorem addAt_at {xs : List Int} {p : Nat} {v : Int} (h : p < xs.length) (j : Nat) : (addAt xs p v).getD j 0 = if j = p then xs.getD p 0 + v else xs.getD j 0 := by
  unfold addAt
  rw [List.getD_eq_getElem?_getD, List.getElem?_set]
  by_cases e : p = j
  · subst e; simp [h]
  · rw [if_neg e, if_neg (fun h => e h.symm), ← List.getD_eq_getElem?_getD]
theorem sum_addAt : ∀ {xs : List Int} {p : Nat} {v : Int}, p < xs.length → (addAt xs p v).sum = xs.sum + v
  | [], p, v, h => by simp at h
  | x :: xs, 0, v, _ => by simp [addAt]; omega
  | x :: xs, p + 1, v, h => by
    have ih := sum_addAt (xs := xs) (p := p) (v := v) (by simpa using h)
    simp only [addAt, List.getD_cons_succ, List.set_cons_succ, List.sum_cons] at ih ⊢
    omega
theorem take_addAt {xs : List Int} {p m : Nat} {v : Int} (h : p < m) : (addAt xs p v).take m = addAt (xs.take m) p v := by
  unfold addAt
  rw [List.take_set]
  congr 1
  rw [List.getD_eq_getElem?_getD, List.getD_eq_getElem?_getD, List.getElem?_take_of_lt h]
/-- no entry is negative -/
def NonNeg (xs : List Int) : Prop := ∀ j, 0 ≤ xs.getD j 0
theorem NonNeg.add {xs : List Int} {p : Nat} {v : Int} (h : NonNeg xs) (hv : 0 ≤ v) (hp : p < xs.length) : NonNeg (addAt xs p v) := fun j => by
  rw [addAt_at hp]
  split
  · have := h p; omega
  · exact h j
theorem sum_nonneg : ∀ {xs : List Int}, NonNeg xs → 0 ≤ xs.sum
  | [], _ => by simp
  | x :: xs, h => by
    have h0 : 0 ≤ x := h 0
    have ih := sum_nonneg (xs := xs) fun j => h (j + 1)
    rw [List.sum_cons]
    omega
theorem le_sum : ∀ {xs : List Int} {j : Nat}, NonNeg xs → xs.getD j 0 ≤ xs.sum
  | [], j, _ => by simp
  | x :: xs, 0, h => by
    have ih := sum_nonneg (xs := xs) fun j => h (j + 1)
    show x ≤ _
    rw [List.sum_cons]
    omega
  | x :: xs, j + 1, h => by
    have h0 : 0 ≤ x := h 0
    have ih := le_sum (xs := xs) (j := j) fun j => h (j + 1)
    show xs.getD j 0 ≤ _
    rw [List.sum_cons]
    omega
theorem NonNeg.take {xs : List Int} (h : NonNeg xs) (m : Nat) : NonNeg (xs.take m) := fun j => by
  rw [List.getD_eq_getElem?_getD, List.getElem?_take]
  split
  · rw [← List.getD_eq_getElem?_getD]; exact h j
  · simp
theorem sum_le_all : ∀ {xs : List Int} {B : Int}, 0 ≤ B → (∀ x ∈ xs, x ≤ B) → xs.sum ≤ B * xs.length
  | [], B, _, _ => by simp
  | x :: xs, B, hB, h => by
    have h0 := h x (by simp)
    have ih := sum_le_all (xs := xs) hB fun y hy => h y (by simp [hy])
    rw [List.sum_cons, List.length_cons, Int.natCast_succ, Int.mul_add]
    omega

/-- the sinks' capacities come onto their nodes -/
def ldA (cap sink caps : List Int) : Nat → List Int
  | 0 => cap
  | i + 1 => addAt (ldA cap sink caps i) (sink.getD i 0).toNat (caps.getD i 0)
/-- the loads go up to the parents, the last node first -/
def ldB (par xs0 : List Int) : Nat → List Int
  | 0 => xs0
  | j + 1 => addAt (ldB par xs0 j) (par.getD (xs0.length - 1 - j) 0).toNat ((ldB par xs0 j).getD (xs0.length - 1 - j) 0)
theorem ldA_len (cap sink caps : List Int) : ∀ i, (ldA cap sink caps i).length = cap.length
  | 0 => rfl
  | i + 1 => by show (addAt _ _ _).length = _; rw [addAt_len, ldA_len]
theorem ldB_len (par xs0 : List Int) : ∀ j, (ldB par xs0 j).length = xs0.length
  | 0 => rfl
  | j + 1 => by show (addAt _ _ _).length = _; rw [addAt_len, ldB_len]
theorem ldA_ok {cap sink caps : List Int} {S : Int} (hc : NonNeg cap) (hS : cap.sum ≤ S) (hs : ∀ i, i < sink.length → 0 ≤ sink.getD i 0 ∧ (sink.getD i 0).toNat < cap.length) (hk : ∀ j, 0 ≤ caps.getD j 0 ∧ caps.getD j 0 ≤ 500) :
    ∀ i, i ≤ sink.length → NonNeg (ldA cap sink caps i) ∧ (ldA cap sink caps i).sum ≤ S + 500 * (i : Int)
  | 0, _ => ⟨hc, by show cap.sum ≤ _; omega⟩
  | i + 1, h => by
    obtain ⟨h1, h2⟩ := ldA_ok hc hS hs hk i (by omega)
    have hp := (hs i (by omega)).2
    have hv := hk i
    refine ⟨NonNeg.add h1 hv.1 (by rw [ldA_len]; exact hp), ?_⟩
    show (addAt _ _ _).sum ≤ _
    rw [sum_addAt (by rw [ldA_len]; exact hp)]
    omega
theorem take_succ_sum {xs : List Int} {m : Nat} (h : m < xs.length) : (xs.take (m + 1)).sum = (xs.take m).sum + xs.getD m 0 := by
  rw [List.take_add_one, List.getElem?_eq_getElem h, List.sum_append, List.getD_eq_getElem?_getD, List.getElem?_eq_getElem h]
  simp
theorem ldB_ok {par xs0 : List Int} {T : Int} (hn : NonNeg xs0) (hT : xs0.sum ≤ T) (hpar : ∀ i, 1 ≤ i → i < xs0.length → 0 ≤ par.getD i 0 ∧ (par.getD i 0).toNat < i) :
    ∀ j, j < xs0.length → NonNeg (ldB par xs0 j) ∧ (∀ q, (ldB par xs0 j).getD q 0 ≤ T) ∧ ((ldB par xs0 j).take (xs0.length - j)).sum ≤ T
  | 0, _ => ⟨hn, fun q => Int.le_trans (le_sum hn) hT, by show (xs0.take _).sum ≤ T; rw [Nat.sub_zero, List.take_length]; exact hT⟩
  | j + 1, h => by
    obtain ⟨h1, h2, h3⟩ := ldB_ok hn hT hpar j (by omega)
    obtain ⟨i, hi⟩ : ∃ i, i = xs0.length - 1 - j := ⟨_, rfl⟩
    obtain ⟨p0, p1⟩ := hpar i (by omega) (by omega)
    have hl := ldB_len par xs0 j
    have e : ldB par xs0 (j + 1) = addAt (ldB par xs0 j) (par.getD i 0).toNat ((ldB par xs0 j).getD i 0) := by rw [hi]; rfl
    rw [e]
    have hs := take_succ_sum (xs := ldB par xs0 j) (m := i) (by omega)
    rw [show i + 1 = xs0.length - j by omega] at hs
    have ht : ((addAt (ldB par xs0 j) (par.getD i 0).toNat ((ldB par xs0 j).getD i 0)).take (xs0.length - (j + 1))).sum ≤ T := by
      rw [show xs0.length - (j + 1) = i by omega, take_addAt p1, sum_addAt (by rw [List.length_take]; omega)]
      omega
    refine ⟨NonNeg.add h1 (h1 i) (by omega), fun q => ?_, ht⟩
    rw [addAt_at (by omega)]
    split
    · have hnn := (NonNeg.add h1 (h1 i) (show (par.getD i 0).toNat < (ldB par xs0 j).length by omega)).take i
      have hle := le_sum (j := (par.getD i 0).toNat) hnn
      rw [show xs0.length - (j + 1) = i by omega] at ht
      rw [List.getD_eq_getElem?_getD, List.getElem?_take_of_lt p1, ← List.getD_eq_getElem?_getD, addAt_at (by omega), if_pos rfl] at hle
      omega
    · exact h2 q
/-- delays of the nodes up to the i-th -/
def dlS (par res lds : List Int) : Nat → List Int
  | 0 => [0]
  | i + 1 => dlS par res lds i ++ [(dlS par res lds i).getD (par.getD (i + 1) 0).toNat 0 + res.getD (i + 1) 0 * lds.getD (i + 1) 0]
theorem dlS_len (par res lds : List Int) : ∀ i, (dlS par res lds i).length = i + 1
  | 0 => rfl
  | i + 1 => by show (dlS par res lds i ++ [_]).length = _; rw [List.length_append, dlS_len]; rfl
theorem dlS_ok {par res lds : List Int} (hres : ∀ i, 0 ≤ res.getD i 0 ∧ res.getD i 0 ≤ 1000) (hld : ∀ i, 0 ≤ lds.getD i 0 ∧ lds.getD i 0 ≤ 43000) :
    ∀ i j, 0 ≤ (dlS par res lds i).getD j 0 ∧ (dlS par res lds i).getD j 0 ≤ 43000000 * (i : Int)
  | 0, j => by
    cases j with
    | zero => simp [dlS]
    | succ j => simp [dlS]
  | i + 1, j => by
    show 0 ≤ (dlS par res lds i ++ [(dlS par res lds i).getD (par.getD (i + 1) 0).toNat 0 + res.getD (i + 1) 0 * lds.getD (i + 1) 0]).getD j 0 ∧ (dlS par res lds i ++ [(dlS par res lds i).getD (par.getD (i + 1) 0).toNat 0 + res.getD (i + 1) 0 * lds.getD (i + 1) 0]).getD j 0 ≤ _
    have ih := dlS_ok (par := par) hres hld i
    have hm : 0 ≤ res.getD (i + 1) 0 * lds.getD (i + 1) 0 ∧ res.getD (i + 1) 0 * lds.getD (i + 1) 0 ≤ 43000000 := by
      obtain ⟨a1, a2⟩ := hres (i + 1)
      obtain ⟨b1, b2⟩ := hld (i + 1)
      refine ⟨Int.mul_nonneg a1 b1, ?_⟩
      have h1 := Int.mul_le_mul_of_nonneg_right a2 b1
      omega
    have iq := ih (par.getD (i + 1) 0).toNat
    obtain ⟨v, hv⟩ : ∃ v, v = (dlS par res lds i).getD (par.getD (i + 1) 0).toNat 0 + res.getD (i + 1) 0 * lds.getD (i + 1) 0 := ⟨_, rfl⟩
    rw [← hv]
    have hvb : 0 ≤ v ∧ v ≤ 43000000 * ((i : Int) + 1) := by omega
    have hc : ((i + 1 : Nat) : Int) = (i : Int) + 1 := by omega
    rw [hc, List.getD_eq_getElem?_getD, List.getElem?_append]
    split
    · rw [← List.getD_eq_getElem?_getD]
      have := ih j
      omega
    · rcases Nat.eq_zero_or_pos (j - (dlS par res lds i).length) with h0 | h0
      · rw [h0]
        exact hvb
      · rw [List.getElem?_eq_none (by simp; omega)]
        show (0 : Int) ≤ 0 ∧ (0 : Int) ≤ _
        omega
def capsL (l : List CellD) (d : DesignD) (n : Int) : List Int := (sinksL d n).map fun s => capOf l d ((placesL d).getD s.toNat zPl)
def loadsL (l : List CellD) (d : DesignD) (w : WireD) (n : Int) : List Int := ldB w.parent (ldA w.cap w.sink (capsL l d n) (sinksL d n).length) (w.cap.length - 1)
def delaysL (l : List CellD) (d : DesignD) (w : WireD) (n : Int) : List Int := dlS w.parent w.res (loadsL l d w n) (w.cap.length - 1)
end Go.Proofs.YtpppobomekebdaaGreatDoor
