/-
  Contracts of a name's test, the reference's and the program's.
-/
import Derived.Test.YtcaklodecejkhaaDoorNum
import Derived.Test.YtcaklodecejkhaaDoorShelf
namespace Go.Proofs.YtcaklodecejkhaaDoor
open Go.RowKit

def lowU (b : UInt8) : Bool := decide (97 ≤ b.toNat ∧ b.toNat ≤ 122)
def digU (b : UInt8) : Bool := decide (48 ≤ b.toNat ∧ b.toNat ≤ 57)
def nameL : List UInt8 → Bool
  | [] => false
  | b :: r => decide (r.length ≤ 7) && lowU b && r.all fun c => lowU c || digU c
def nameB (s : ByteArray) : Bool := nameL s.data.toList
theorem nameL_no {l : List UInt8} {k : Nat} {b : UInt8} (hb : l[k]? = some b) (h : lowU b = false) (h2 : digU b = false ∨ k = 0) : nameL l = false := by
  cases l with
  | nil => rfl
  | cons a r =>
    cases k with
    | zero =>
      simp at hb
      subst hb
      simp [nameL, h]
    | succ k =>
      have h3 : digU b = false := by rcases h2 with h2 | h2; exact h2; omega
      have : (r.all fun c => lowU c || digU c) = false := by
        rw [List.all_eq_false]
        exact ⟨b, List.mem_of_getElem? (by simpa using hb), by simp [h, h3]⟩
      simp [nameL, this]
theorem nameL_len {l : List UInt8} (h : ¬ (1 ≤ l.length ∧ l.length ≤ 8)) : nameL l = false := by
  cases l with
  | nil => rfl
  | cons a r =>
    simp only [List.length_cons] at h
    have : decide (r.length ≤ 7) = false := decide_eq_false (by omega)
    simp [nameL, this]
theorem nameL_yes {l : List UInt8} (h : ∀ (j : Nat) (b : UInt8), l[j]? = some b → lowU b = true ∨ (digU b = true ∧ 0 < j)) (h1 : 1 ≤ l.length) (h2 : l.length ≤ 8) : nameL l = true := by
  cases l with
  | nil => simp at h1
  | cons a r =>
    have ha : lowU a = true := by
      rcases h 0 a (by simp) with h | h
      · exact h
      · omega
    have hr : (r.all fun c => lowU c || digU c) = true := by
      rw [List.all_eq_true]
      intro c hc
      obtain ⟨j, hj⟩ := List.getElem?_of_mem hc
      rcases h (j + 1) c (by simpa using hj) with h | h
      · simp [h]
      · simp [h.1]
    simp only [List.length_cons] at h2
    have : decide (r.length ≤ 7) = true := decide_eq_true (by omega)
    simp [nameL, this, ha, hr]
theorem nameL_inv {l : List UInt8} (h : nameL l = true) : 1 ≤ l.length ∧ l.length ≤ 8 := by
  rcases Decidable.em (1 ≤ l.length ∧ l.length ≤ 8) with h1 | h1
  · exact h1
  · rw [nameL_len h1] at h; cases h
theorem len_data (s : ByteArray) : s.data.toList.length = s.size := by rw [Array.length_toList]; rfl
set_option maxHeartbeats 4000000 in
theorem l03Name_any (s : ByteArray) (w : World) (hs : s.size ≤ maxLen) :
    Calls Tryd.prog 30 #[.string s] w fun e w' => e = .returned (.bool (nameB s)) ∧ w' = w := by
  have zs : (s.size : Int) ≤ 9223372036854775807 := by unfold maxLen at hs; omega
  clear hs
  go_enter Tryd.func30, Tryd.ntmps30
  go_wp2
  go_loop [3, 4, 5] (fun i _ _ => ∃ k : Nat, k ≤ s.size ∧ i = .int .i64 (k : Int) ∧ Hid (∀ (j : Nat) (b : UInt8), j < k → s.data.toList[j]? = some b → lowU b = true ∨ (digU b = true ∧ 0 < j))) (fun i _ _ => s.size - (intOf i).toNat)
  case atStart => exact ⟨0, Nat.zero_le _, rfl, fun i y hi => absurd hi (by omega)⟩
  case round =>
    obtain ⟨k, hk, rfl, hco⟩ := hrel
    by_cases hlt : k < s.size
    · obtain ⟨n, hn⟩ : ∃ n : Nat, (s[k]'hlt).toNat = n := ⟨_, rfl⟩
      have hb : Hid (s.data.toList[k]? = some (s[k]'hlt)) := hideIt (by
        rw [List.getElem?_eq_getElem (by rw [len_data]; exact hlt)]
        simp [ByteArray.getElem_eq_getElem_data])
      have HN := hideIt hn
      by_cases c1 : n < 48
      · go_wp2
        go_ret
        exact ⟨ret_bool (nameL_no hb.out (by unfold lowU; rw [HN.out]; exact decide_eq_false (by omega)) (.inl (by unfold digU; rw [HN.out]; exact decide_eq_false (by omega)))).symm, rfl⟩
      by_cases c2 : n ≤ 57
      · by_cases k0 : k = 0
        · subst k0
          go_wp2
          go_ret
          exact ⟨ret_bool (nameL_no hb.out (by unfold lowU; rw [HN.out]; exact decide_eq_false (by omega)) (.inr rfl)).symm, rfl⟩
        · have kp : 0 < k := by omega
          go_wp2
          go_round
          case rel => exact ⟨k + 1, by omega, by go_num, fun j b hj hbj => by
            by_cases e : j = k
            · subst e
              rw [hb.out] at hbj
              injection hbj with hbj
              subst hbj
              exact .inr ⟨by unfold digU; rw [HN.out]; exact decide_eq_true (by omega), by omega⟩
            · exact hco.out j b (by omega) hbj⟩
          case measure => simp [intOf]; omega
      by_cases c3 : n < 97
      · go_wp2
        go_ret
        exact ⟨ret_bool (nameL_no hb.out (by unfold lowU; rw [HN.out]; exact decide_eq_false (by omega)) (.inl (by unfold digU; rw [HN.out]; exact decide_eq_false (by omega)))).symm, rfl⟩
      by_cases c4 : n ≤ 122
      · go_wp2
        go_round
        case rel => exact ⟨k + 1, by omega, by go_num, fun j b hj hbj => by
          by_cases e : j = k
          · subst e
            rw [hb.out] at hbj
            injection hbj with hbj
            subst hbj
            exact .inl (by unfold lowU; rw [HN.out]; exact decide_eq_true (by omega))
          · exact hco.out j b (by omega) hbj⟩
        case measure => simp [intOf]; omega
      · have c5 : 122 < n := by omega
        have d4 : decide ((n : Int) ≤ 122) = false := decide_eq_false (by omega)
        clear c1 c2 c3 c4
        go_wp2
        go_ret
        exact ⟨ret_bool (nameL_no hb.out (by unfold lowU; rw [HN.out]; exact decide_eq_false (by omega)) (.inl (by unfold digU; rw [HN.out]; exact decide_eq_false (by omega)))).symm, rfl⟩
    · obtain rfl : k = s.size := by omega
      have fin : Hid (nameB s = (decide ((s.size : Int) ≥ 1) && decide ((s.size : Int) ≤ 8))) := hideIt (by
        unfold nameB
        by_cases h1 : 1 ≤ s.size ∧ s.size ≤ 8
        · rw [nameL_yes (fun j b hj => hco.out j b (by rw [← len_data]; exact (List.getElem?_eq_some_iff.1 hj).1) hj) (by rw [len_data]; exact h1.1) (by rw [len_data]; exact h1.2)]
          have e1 : decide ((s.size : Int) ≥ 1) = true := decide_eq_true (by omega)
          have e2 : decide ((s.size : Int) ≤ 8) = true := decide_eq_true (by omega)
          rw [e1, e2]; rfl
        · rw [nameL_len (by rw [len_data]; exact h1)]
          by_cases h2 : 1 ≤ s.size
          · have e2 : decide ((s.size : Int) ≤ 8) = false := decide_eq_false (by omega)
            rw [e2]; simp
          · have e1 : decide ((s.size : Int) ≥ 1) = false := decide_eq_false (by omega)
            rw [e1]; rfl)
      clear hco
      by_cases h1 : 1 ≤ s.size
      · go_wp2
        all_goals go_ret
        all_goals exact ⟨ret_bool (by rw [fin.out]; simp; omega), rfl⟩
      · go_wp2
        all_goals go_ret
        all_goals exact ⟨ret_bool (by rw [fin.out]; simp; omega), rfl⟩
end Go.Proofs.YtcaklodecejkhaaDoor
