/-
  Texts of times and numbers: what they are, and that they are read back.
-/
import Derived.Lib.ParseIntBCases
import Derived.Lib.ItoaMem
import Derived.Lib.Replace
import Derived.Lib.Repeat
namespace Go.Proofs.YtlnpefiipdkafaaGreatDoor
open Go.Lib

def isDig (c : UInt8) : Prop := 48 ≤ c.toNat ∧ c.toNat ≤ 57
def dig3 (r : Nat) : List UInt8 := [UInt8.ofNat (48 + r / 100), UInt8.ofNat (48 + r / 10 % 10), UInt8.ofNat (48 + r % 10)]
/-- a time's text, ahead of its sign -/
def absL (n : Nat) : List UInt8 := decDigits (n / 1000) ++ ([46] ++ dig3 (n % 1000))
def fmtL (t : Int) : List UInt8 := if t < 0 then 45 :: absL t.natAbs else absL t.natAbs
def isT (t : Int) : Prop := -1000000000 ≤ t ∧ t ≤ 1000000000
instance (t : Int) : Decidable (isT t) := by unfold isT; infer_instance
def fmtV (t : Int) : List UInt8 := if isT t then fmtL t else []
theorem dec_big {u : Nat} (h : ¬ u < 10) : decDigits u = decDigits (u / 10) ++ [UInt8.ofNat (48 + u % 10)] := by rw [decDigits, dif_neg h]
theorem dec_1000 {r : Nat} (h : r < 1000) : decDigits (1000 + r) = UInt8.ofNat 49 :: dig3 r := by
  rw [dec_big (by omega), show (1000 + r) / 10 = 100 + r / 10 by omega, dec_big (by omega), show (100 + r / 10) / 10 = 10 + r / 100 by omega, dec_big (by omega), show (10 + r / 100) / 10 = 1 by omega, decDigits_one (by omega),
    show (10 + r / 100) % 10 = r / 100 by omega, show (100 + r / 10) % 10 = r / 10 % 10 by omega, show (1000 + r) % 10 = r % 10 by omega]
  rfl
theorem pad3 {r : Nat} (h : r < 1000) : repeatL [48] (3 - (decDigits r).length) ++ decDigits r = dig3 r := by
  by_cases h1 : r < 10
  · rw [decDigits_one h1]
    have e1 : r / 100 = 0 := by omega
    have e2 : r / 10 % 10 = 0 := by omega
    have e3 : r % 10 = r := by omega
    unfold dig3
    rw [e1, e2, e3]
    rfl
  · by_cases h2 : r < 100
    · rw [decDigits_two h1 h2]
      have e1 : r / 100 = 0 := by omega
      have e2 : r / 10 % 10 = r / 10 := by omega
      unfold dig3
      rw [e1, e2]
      rfl
    · rw [dec_big h1, decDigits_two (by omega) (by omega)]
      have e1 : r / 10 / 10 = r / 100 := by omega
      unfold dig3
      rw [e1]
      rfl
theorem ofNat_dig {d : Nat} (h : d < 10) : (UInt8.ofNat (48 + d)).toNat = 48 + d := by
  rw [UInt8.toNat_ofNat']; omega
theorem dec_digs (u : Nat) : ∀ c ∈ decDigits u, isDig c := by
  induction u using Nat.strongRecOn with
  | _ u ih =>
    by_cases h : u < 10
    · rw [decDigits_one h]
      intro c hc
      obtain rfl := List.mem_singleton.1 hc
      unfold isDig
      rw [ofNat_dig h]
      omega
    · rw [dec_big h]
      intro c hc
      rcases List.mem_append.1 hc with hc | hc
      · exact ih (u / 10) (by omega) c hc
      · obtain rfl := List.mem_singleton.1 hc
        unfold isDig
        rw [ofNat_dig (by omega)]
        omega
theorem dig3_digs {r : Nat} (h : r < 1000) : ∀ c ∈ dig3 r, isDig c := by
  intro c hc
  unfold dig3 at hc
  simp only [List.mem_cons, List.not_mem_nil, or_false] at hc
  unfold isDig
  rcases hc with rfl | rfl | rfl
  · rw [ofNat_dig (by omega)]; omega
  · rw [ofNat_dig (by omega)]; omega
  · rw [ofNat_dig (by omega)]; omega
/-- the number that digits spell, behind acc -/
def valOf (acc : Nat) (l : List UInt8) : Nat := l.foldl (fun a c => a * 10 + (c.toNat - 48)) acc
theorem valOf_append (acc : Nat) (a b : List UInt8) : valOf acc (a ++ b) = valOf (valOf acc a) b := List.foldl_append ..
theorem valOf_dec (u : Nat) : valOf 0 (decDigits u) = u := by
  induction u using Nat.strongRecOn with
  | _ u ih =>
    by_cases h : u < 10
    · rw [decDigits_one h]
      show 0 * 10 + ((UInt8.ofNat (48 + u)).toNat - 48) = u
      rw [ofNat_dig h]
      omega
    · rw [dec_big h, valOf_append, ih (u / 10) (by omega)]
      show u / 10 * 10 + ((UInt8.ofNat (48 + u % 10)).toNat - 48) = u
      rw [ofNat_dig (by omega)]
      omega
theorem valOf_dig3 (acc : Nat) {r : Nat} (h : r < 1000) : valOf acc (dig3 r) = acc * 1000 + r := by
  show ((acc * 10 + ((UInt8.ofNat (48 + r / 100)).toNat - 48)) * 10 + ((UInt8.ofNat (48 + r / 10 % 10)).toNat - 48)) * 10 + ((UInt8.ofNat (48 + r % 10)).toNat - 48) = _
  rw [ofNat_dig (by omega), ofNat_dig (by omega), ofNat_dig (by omega)]
  omega
theorem valOf_ge (acc : Nat) (l : List UInt8) : acc ≤ valOf acc l := by
  induction l generalizing acc with
  | nil => exact Nat.le_refl _
  | cons c l ih => exact Nat.le_trans (by omega) (ih (acc * 10 + (c.toNat - 48)))
theorem parseU {M acc : Nat} {l : List UInt8} (hd : ∀ c ∈ l, isDig c) (h : valOf acc l ≤ M) (hM : valOf acc l < 1844674407370955162) : parseUintM M acc l = .ok (valOf acc l) := by
  induction l generalizing acc with
  | nil => rfl
  | cons c l ih =>
    have hc := hd c (by simp)
    have e : valOf acc (c :: l) = valOf (acc * 10 + (c.toNat - 48)) l := rfl
    rw [e] at h hM ⊢
    have g := valOf_ge (acc * 10 + (c.toNat - 48)) l
    rw [parseUintM, if_pos (show 48 ≤ c.toNat ∧ c.toNat ≤ 57 from hc), if_neg (by omega), if_neg (by omega)]
    exact ih (fun x hx => hd x (by simp [hx])) h hM
theorem dec_ne (u : Nat) : decDigits u ≠ [] := by
  rw [decDigits]
  split <;> simp
/-- the digits of a text, without its point, are read as the number -/
theorem parse_abs {n : Nat} (h : n ≤ 1000000000) : parseUintB 64 (decDigits (n / 1000) ++ dig3 (n % 1000)) = .ok n := by
  have hv : valOf 0 (decDigits (n / 1000) ++ dig3 (n % 1000)) = n := by
    rw [valOf_append, valOf_dec, valOf_dig3 _ (by omega)]
    omega
  unfold parseUintB
  rw [if_neg (by intro e; exact dec_ne _ (List.append_eq_nil_iff.1 e).1), parseU (fun c hc => ?_) (by rw [hv]; omega) (by rw [hv]; omega), hv]
  rcases List.mem_append.1 hc with hc | hc
  · exact dec_digs _ c hc
  · exact dig3_digs (by omega) c hc
theorem dec_head (u : Nat) : ∃ (c : UInt8) (l : List UInt8), decDigits u = c :: l ∧ isDig c := by
  match h : decDigits u with
  | [] => exact absurd h (dec_ne u)
  | c :: l => exact ⟨c, l, rfl, dec_digs u c (by rw [h]; simp)⟩
theorem parse_fmt {t : Int} (h : isT t) : parseIntB 64 (if t < 0 then 45 :: (decDigits (t.natAbs / 1000) ++ dig3 (t.natAbs % 1000)) else decDigits (t.natAbs / 1000) ++ dig3 (t.natAbs % 1000)) = .ok t := by
  unfold isT at h
  have hp := @parse_abs t.natAbs (by omega)
  split
  · rename_i hn
    rw [parseIntB_minus, hp]
    unfold signedC
    simp only []
    rw [if_neg (by omega)]
    congr 1
    omega
  · rename_i hn
    obtain ⟨c, l, e, hc⟩ := dec_head (t.natAbs / 1000)
    rw [e, List.cons_append] at hp ⊢
    unfold isDig at hc
    rw [parseIntB_plain 64 c _ (by omega) (by omega), hp]
    unfold signlessC
    simp only []
    rw [if_neg (by omega)]
    congr 1
    omega
theorem index_at (c : UInt8) (b : List UInt8) : ∀ (a : List UInt8), c ∉ a → index (a ++ c :: b) [c] = a.length
  | [], _ => by simp [index, List.isPrefixOf]
  | x :: a, h => by
    simp at h
    have ih := index_at c b a h.2
    have hx : (c == x) = false := by simpa using h.1
    show (if [c].isPrefixOf (x :: (a ++ c :: b)) then 0 else if index (a ++ c :: b) [c] == -1 then -1 else index (a ++ c :: b) [c] + 1) = _
    rw [ih]
    simp [List.isPrefixOf, hx]
theorem replace_at {a b : List UInt8} (h : 46 ∉ a) : replace (a ++ 46 :: b) [46] [] 1 = a ++ b := by
  have hi := index_at 46 b a h
  have hc : 1 ≤ count (a ++ 46 :: b) [46] := by rw [count_hit (by simp) hi]; omega
  have e1 : replaceNum (a ++ 46 :: b) [46] 1 = 1 := by unfold replaceNum; rw [if_neg (by omega)]; rfl
  unfold replace
  rw [if_neg (by simp), e1, replaceK_hit _ _ _ _ _ hi]
  simp [replaceK]
theorem not46 {c : UInt8} (h : isDig c) : c ≠ 46 := by
  rintro rfl
  unfold isDig at h
  have : (46 : UInt8).toNat = 46 := rfl
  omega
/-- the text without its point -/
theorem replace_fmt (t : Int) : replace (fmtL t) [46] [] 1 = (if t < 0 then 45 :: (decDigits (t.natAbs / 1000) ++ dig3 (t.natAbs % 1000)) else decDigits (t.natAbs / 1000) ++ dig3 (t.natAbs % 1000)) := by
  have hd : 46 ∉ decDigits (t.natAbs / 1000) := fun hm => not46 (dec_digs _ _ hm) rfl
  unfold fmtL absL
  split
  · rw [show (45 :: (decDigits (t.natAbs / 1000) ++ ([46] ++ dig3 (t.natAbs % 1000)))) = (45 :: decDigits (t.natAbs / 1000)) ++ 46 :: dig3 (t.natAbs % 1000) by simp, replace_at (by simp; exact hd)]
    rfl
  · rw [show (decDigits (t.natAbs / 1000) ++ ([46] ++ dig3 (t.natAbs % 1000))) = decDigits (t.natAbs / 1000) ++ 46 :: dig3 (t.natAbs % 1000) by simp, replace_at hd]
/-- a time is read back from its text -/
theorem read_fmt {t : Int} (h : isT t) : parseIntB 64 (replace (fmtL t) [46] [] 1) = .ok t := by rw [replace_fmt, parse_fmt h]
theorem fmt_inj {t u : Int} (h : isT t) (k : isT u) (e : fmtL t = fmtL u) : t = u := by
  have h1 := read_fmt h
  rw [e, read_fmt k] at h1
  injection h1 with h1
  exact h1.symm
end Go.Proofs.YtlnpefiipdkafaaGreatDoor
