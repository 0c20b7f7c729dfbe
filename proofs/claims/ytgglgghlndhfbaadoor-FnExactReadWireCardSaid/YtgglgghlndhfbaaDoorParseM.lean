/-
  What a time's text gives to one who takes its digits out.
-/
import Derived.Test.YtgglgghlndhfbaaDoorFmt
namespace Go.Proofs.YtgglgghlndhfbaaDoor
open Go.RowKit
def keepC (c : UInt8) : Bool := c != 46 && c != 45
theorem keep_dig {c : UInt8} (h : isDig c) : keepC c = true := by
  unfold keepC
  unfold isDig at h
  have h1 : c ≠ 46 := by rintro rfl; revert h; decide
  have h2 : c ≠ 45 := by rintro rfl; revert h; decide
  simp [h1, h2]
theorem filter_digs {l : List UInt8} (h : ∀ c ∈ l, isDig c) : l.filter keepC = l := List.filter_eq_self.2 fun c hc => keep_dig (h c hc)
theorem filter_abs (n : Nat) : (absL n).filter keepC = Lib.decDigits (n / 1000) ++ dig3 (n % 1000) := by
  unfold absL
  rw [List.filter_append, List.filter_append, filter_digs (dec_digs _), filter_digs (dig3_digs (Nat.mod_lt _ (by omega)))]
  rfl
theorem filter_fmt (t : Int) : (fmtL t).filter keepC = Lib.decDigits (t.natAbs / 1000) ++ dig3 (t.natAbs % 1000) := by
  unfold fmtL
  split
  · rw [List.filter_cons]
    rw [show keepC 45 = false from by decide]
    exact filter_abs _
  · exact filter_abs _
theorem valOf_lt (l : List UInt8) (h : ∀ c ∈ l, isDig c) : ∀ acc, valOf acc l < (acc + 1) * 10 ^ l.length := by
  induction l with
  | nil => intro acc; simp [valOf]
  | cons c l ih =>
    intro acc
    have hc := h c (by simp)
    unfold isDig at hc
    have h1 := ih (fun x hx => h x (by simp [hx])) (acc * 10 + (c.toNat - 48))
    have h2 : (acc * 10 + (c.toNat - 48) + 1) * 10 ^ l.length ≤ ((acc + 1) * 10) * 10 ^ l.length := Nat.mul_le_mul_right _ (by omega)
    have e : valOf acc (c :: l) = valOf (acc * 10 + (c.toNat - 48)) l := rfl
    rw [e, List.length_cons, Nat.pow_succ, Nat.mul_comm (10 ^ l.length) 10, ← Nat.mul_assoc]
    omega
/-- the number that the digits of a text spell: none are read of more than twelve -/
def numOf (D : List UInt8) : Int := if D.length ≤ 12 then (valOf 0 D : Int) else 0
def signOf (s : ByteArray) (n : Int) : Int := if s.data.toList.head? = some 45 then -n else n
theorem fmtB_data (t : Int) : (fmtB t).data.toList = fmtV t := rfl
theorem numOf_fmt {t : Int} (h : isT t) : numOf ((fmtL t).filter keepC) = (t.natAbs : Int) := by
  have hn : t.natAbs ≤ 1000000000 := by unfold isT at h; omega
  have hl := absL_len hn
  unfold absL at hl
  simp only [List.length_append, List.length_cons, List.length_nil] at hl
  have h7 := dec_len 7 (t.natAbs / 1000) (by omega) (by omega)
  unfold numOf
  rw [filter_fmt, if_pos (by rw [List.length_append]; unfold dig3; simp; omega), valOf_append, valOf_dec, valOf_dig3 _ (by omega)]
  congr 1
  omega
theorem digs_fmt {t : Int} : ∀ c ∈ (fmtL t).filter keepC, isDig c := by
  rw [filter_fmt]
  intro c hc
  rcases List.mem_append.1 hc with hc | hc
  · exact dec_digs _ c hc
  · exact dig3_digs (Nat.mod_lt _ (by omega)) c hc
theorem sign_fmt {t : Int} (h : isT t) (n : Int) : signOf (fmtB t) n = if t < 0 then -n else n := by
  unfold signOf
  rw [fmtB_data]
  unfold fmtV fmtL
  rw [if_pos h]
  by_cases h0 : t < 0
  · simp only [h0, if_true]
    rfl
  · simp only [h0, if_false]
    rw [if_neg]
    obtain ⟨c, l, e, hc⟩ := dec_head (t.natAbs / 1000)
    unfold absL
    rw [e]
    intro hh
    have : c = 45 := by simpa using hh
    subst this
    revert hc
    unfold isDig
    decide
/-- the time that a text tells -/
def PT (s : ByteArray) (n : Int) (ok : Bool) : Prop := (ok = true ∧ isT n ∧ s = fmtB n) ∨ (ok = false ∧ n = 0 ∧ ∀ t, isT t → s ≠ fmtB t)
theorem PT.uniq {s : ByteArray} {n m : Int} {a b : Bool} (h : PT s n a) (k : PT s m b) : n = m ∧ a = b := by
  rcases h with ⟨rfl, h1, h2⟩ | ⟨rfl, rfl, h3⟩ <;> rcases k with ⟨rfl, k1, k2⟩ | ⟨rfl, rfl, k3⟩
  · refine ⟨?_, rfl⟩
    have e : fmtB n = fmtB m := h2.symm.trans k2
    have e2 : fmtV n = fmtV m := by rw [← fmtB_data, e, fmtB_data]
    unfold fmtV at e2
    rw [if_pos h1, if_pos k1] at e2
    exact fmt_inj h1 k1 e2
  · exact absurd h2 (k3 n h1)
  · exact absurd k2 (h3 m k1)
  · exact ⟨rfl, rfl⟩
theorem fmtB_in {t : Int} (h : isT t) : (fmtB t).data.toList = fmtL t := by rw [fmtB_data]; unfold fmtV; rw [if_pos h]
theorem fmtB_ne {t : Int} (h : isT t) : fmtB t ≠ ⟨#[]⟩ := fun e => by
  have h1 := fmtB_in h
  rw [e] at h1
  have hn : t.natAbs ≤ 1000000000 := by unfold isT at h; omega
  have h2 := absL_len hn
  have h3 : (fmtL t).length = 0 := by rw [← h1]; rfl
  unfold fmtL at h3
  split at h3 <;> (try rw [List.length_cons] at h3) <;> omega
/-- the number is the time, if there is one -/
theorem PT.yes {s : ByteArray} {n : Int} (h : fmtB n = s) (hz : s = ⟨#[]⟩ → isT n) : PT s n true := by
  by_cases hi : isT n
  · exact .inl ⟨rfl, hi, h.symm⟩
  · rw [fmtB_out hi] at h
    exact absurd (hz h.symm) hi
theorem PT.no {s : ByteArray} {n : Int} (h : fmtB n ≠ s) (hc : ∀ t, isT t → s = fmtB t → n = t) : PT s 0 false :=
  .inr ⟨rfl, rfl, fun t ht e => h (by rw [hc t ht e, e])⟩
/-- the reference's number -/
theorem spec_num {s : ByteArray} {t : Int} (ht : isT t) (e : s = fmtB t) : signOf s (numOf (s.data.toList.filter keepC)) = t := by
  subst e
  rw [sign_fmt ht, fmtB_in ht, numOf_fmt ht]
  split <;> omega
theorem impl_num {s : ByteArray} {t : Int} (ht : isT t) (e : s = fmtB t) : Lib.parseIntB 64 (Lib.replace s.data.toList [46] [] 1) = .ok t := by
  subst e
  rw [fmtB_in ht, read_fmt ht]
theorem own_cells' {α : Type} {w : World} {base : Nat} {t : TypeId} {v : Value} {xs : List α} {f : α → Value} (h : w.ownsRow base t 1 v xs.length (xs.map f)) (hn : 1 ≤ xs.length) :
    ∃ g c : Nat, v = .slice (some ⟨g, 0, none⟩) xs.length c ∧ base ≤ g ∧ ∀ (j : Nat) (x : α), xs[j]? = some x → w.cell? ⟨g, j, none⟩ = some (f x) := by
  obtain ⟨hl, ⟨rfl, h0⟩ | ⟨g, c, cur, rfl, hb, hg, h1, h2, h3, h4⟩⟩ := h
  · omega
  · have hB : Blk w g t cur := hg
    refine ⟨g, c, rfl, hb, fun j x hx => ?_⟩
    have hi : j < xs.length := (List.getElem?_eq_some_iff.1 hx).1
    have h5 : (cur.toList.take (xs.length * 1))[j]? = some (f x) := by rw [h4, List.getElem?_map, hx]; rfl
    rw [Nat.mul_one, List.getElem?_take_of_lt hi] at h5
    rw [hB.cell]
    simpa using h5
theorem own_slice' {w : World} {base n : Nat} {t : TypeId} {v : Value} {xs : List Value} (h : w.ownsRow base t 1 v n xs) : ∃ (A : Option Addr) (c : Nat), v = .slice A n c := by
  obtain ⟨hl, ⟨rfl, h0⟩ | ⟨g, c, cur, rfl, _⟩⟩ := h
  · exact ⟨none, 0, by rw [h0]⟩
  · exact ⟨_, _, rfl⟩
end Go.Proofs.YtgglgghlndhfbaaDoor
