/-
  Contract of the program's test of a name.
-/
import Derived.Test.YtcaklodecejkhaaDoorName
import Derived.Lib.IndexAny
namespace Go.Proofs.YtcaklodecejkhaaDoor
open Go.RowKit

def csB : ByteArray := ⟨#[97, 98, 99, 100, 101, 102, 103, 104, 105, 106, 107, 108, 109, 110, 111, 112, 113, 114, 115, 116, 117, 118, 119, 120, 121, 122, 48, 49, 50, 51, 52, 53, 54, 55, 56, 57]⟩
def ltB : ByteArray := ⟨#[97, 98, 99, 100, 101, 102, 103, 104, 105, 106, 107, 108, 109, 110, 111, 112, 113, 114, 115, 116, 117, 118, 119, 120, 121, 122]⟩
theorem mem_drop {p : UInt8 → Bool} {x : UInt8} (hx : p x = false) : ∀ {l : List UInt8}, x ∈ l → x ∈ l.dropWhile p
  | [], h => by cases h
  | a :: r, h => by
    rw [List.dropWhile_cons]
    split
    · rename_i ha
      rcases List.mem_cons.1 h with e | h
      · subst e; rw [hx] at ha; cases ha
      · exact mem_drop hx h
    · exact h
theorem drop_all {p : UInt8 → Bool} : ∀ {l : List UInt8}, (∀ x ∈ l, p x = true) → l.dropWhile p = []
  | [], _ => rfl
  | a :: r, h => by
    rw [List.dropWhile_cons, if_pos (h a (by simp))]
    exact drop_all fun x hx => h x (by simp [hx])
theorem trimS_nil {l cs : List UInt8} : Lib.trimS l cs = [] ↔ ∀ x ∈ l, cs.contains x = true := by
  unfold Lib.trimS Lib.trimLeftS Lib.trimRightS
  constructor
  · intro h x hx
    cases hc : cs.contains x with
    | true => rfl
    | false =>
      have h1 : x ∈ (l.reverse.dropWhile (cs.contains ·)).reverse := by
        rw [List.mem_reverse]
        exact mem_drop hc (List.mem_reverse.2 hx)
      have h2 := mem_drop (p := (cs.contains ·)) hc h1
      rw [h] at h2
      cases h2
  · intro h
    have : l.reverse.dropWhile (cs.contains ·) = [] := by
      exact drop_all fun x hx => h x (List.mem_reverse.1 hx)
    rw [this]
    rfl
theorem cs_all : ((List.range 256).all fun n => csB.data.toList.contains n.toUInt8 == (lowU n.toUInt8 || digU n.toUInt8)) = true := by decide +kernel
theorem lt_all : ((List.range 256).all fun n => ltB.data.toList.contains n.toUInt8 == lowU n.toUInt8) = true := by decide +kernel
theorem u8_back (b : UInt8) : b.toNat.toUInt8 = b := by simp
theorem cs_has (b : UInt8) : csB.data.toList.contains b = (lowU b || digU b) := by
  have := List.all_eq_true.1 cs_all b.toNat (List.mem_range.2 b.toNat_lt)
  rw [u8_back] at this
  simpa using this
theorem lt_has (b : UInt8) : ltB.data.toList.contains b = lowU b := by
  have := List.all_eq_true.1 lt_all b.toNat (List.mem_range.2 b.toNat_lt)
  rw [u8_back] at this
  simpa using this
theorem trim36 (s : ByteArray) (w : World) (hs : s.size ≤ maxLen) :
    Calls Tryd.prog 60 #[.string s, .string csB] w fun e w' => ∃ r : ByteArray, e = .returned (.string r) ∧ (r = ⟨#[]⟩ ↔ ∀ x ∈ s.data.toList, (lowU x || digU x) = true) ∧ Grows w w' := by
  refine (Tryd.strings_Trim_ascii s csB w (by unfold maxLen at hs; omega) (by decide) (ascii_of_all (by decide +kernel))).mono ?_
  rintro e w' ⟨rfl, hb⟩
  refine ⟨_, rfl, ?_, hb⟩
  constructor
  · intro h x hx
    have h1 : Lib.trimS s.data.toList csB.data.toList = [] := by
      have h2 := congrArg (fun q : ByteArray => q.data.toList) h
      simpa using h2
    rw [← cs_has]
    exact trimS_nil.1 h1 x hx
  · intro h
    rw [trimS_nil.2 (fun x hx => by rw [cs_has]; exact h x hx)]
theorem index26 (b : UInt8) (w : World) :
    Calls Tryd.prog 61 #[.string ltB, .int .u8 (b.toNat : Int)] w fun e w' => ∃ i : Int, e = .returned (.int .i64 i) ∧ decide (i ≥ 0) = lowU b ∧ w' = w := by
  refine (Tryd.strings_IndexByte ltB (b.toNat : Int) w).mono ?_
  rintro e w' ⟨rfl, rfl⟩
  refine ⟨_, rfl, ?_, rfl⟩
  rw [Int.toNat_natCast, u8_back, ← lt_has, Lib.contains_iff_indexByte]
set_option maxHeartbeats 1000000 in
theorem isName_any (s : ByteArray) (w : World) (hs : s.size ≤ maxLen) :
    Calls Tryd.prog 36 #[.string s] w fun e w' => e = .returned (.bool (nameB s)) ∧ Grows w w' := by
  have HS := hideIt hs
  have zs : (s.size : Int) ≤ 9223372036854775807 := by unfold maxLen at hs; omega
  clear hs
  cases h1 : inB (s.size : Int) 1 8
  · have EN := hideIt (show nameB s = false from nameL_len (by rw [len_data]; have := inB_false h1; omega))
    have E1 := hideIt h1
    clear h1
    go_enter Tryd.func36, Tryd.ntmps36
    go_wp2_with (go_at_call 39; refine (within_any _ _ _ _).mono ?_; rintro e w' ⟨rfl, rfl⟩; rw [E1.out])
    go_ret
    exact ⟨ret_bool EN.out.symm, Grows.refl _⟩
  · obtain ⟨l1, l2⟩ := inB_true h1
    have E1 := hideIt h1
    clear h1
    have hlt : 0 < s.size := by omega
    have hb : Hid (s.data.toList[0]? = some (s[0]'hlt)) := hideIt (by
      rw [List.getElem?_eq_getElem (by rw [len_data]; exact hlt)]
      simp [ByteArray.getElem_eq_getElem_data])
    by_cases hall : ∀ x ∈ s.data.toList, (lowU x || digU x) = true
    · have EN : Hid (nameB s = lowU (s[0]'hlt)) := hideIt (by
        have h0 := hb.out
        unfold nameB
        cases hl : lowU (s[0]'hlt) with
        | false => exact nameL_no h0 hl (.inr rfl)
        | true =>
          refine nameL_yes (fun j b hj => ?_) (by rw [len_data]; omega) (by rw [len_data]; omega)
          have := hall b (List.mem_of_getElem? hj)
          rcases Nat.eq_zero_or_pos j with e | e
          · subst e
            rw [h0] at hj
            injection hj with hj
            subst hj
            exact .inl hl
          · simp only [Bool.or_eq_true] at this
            rcases this with h | h
            · exact .inl h
            · exact .inr ⟨h, e⟩)
      have HA := hideIt hall
      clear hall
      go_enter Tryd.func36, Tryd.ntmps36
      go_wp2_with (go_at_call 39; refine (within_any _ _ _ _).mono ?_; rintro e w' ⟨rfl, rfl⟩; rw [E1.out])
      refine (trim36 s _ HS.out).mono ?_
      rintro e u ⟨r, rfl, hr, g⟩
      obtain rfl := hr.2 HA.out
      clear hr
      go_wp2_with fail
      refine (index26 (s[0]'hlt) _).mono ?_
      rintro e u2 ⟨i, rfl, hi, rfl⟩
      cases hl : lowU (s[0]'hlt)
      · rw [hl] at hi
        have hi2 := of_decide_eq_false hi
        have EN2 := hideIt (EN.out.trans hl)
        clear hi hl
        go_wp2
        go_ret
        exact ⟨ret_bool (by rw [EN2.out]; exact decide_eq_false (by omega)), g⟩
      · rw [hl] at hi
        have hi2 := of_decide_eq_true hi
        have EN2 := hideIt (EN.out.trans hl)
        clear hi hl
        go_wp2
        go_ret
        exact ⟨ret_bool EN2.out.symm, g⟩
    · have EN : Hid (nameB s = false) := hideIt (by
        cases hn : nameB s with
        | false => rfl
        | true =>
          refine absurd (fun x hx => ?_) hall
          unfold nameB at hn
          obtain ⟨j, hj⟩ := List.getElem?_of_mem hx
          cases hc : (lowU x || digU x) with
          | true => rfl
          | false =>
            simp only [Bool.or_eq_false_iff] at hc
            rw [nameL_no hj hc.1 (.inl hc.2)] at hn
            cases hn)
      have HA := hideIt hall
      clear hall
      go_enter Tryd.func36, Tryd.ntmps36
      go_wp2_with (go_at_call 39; refine (within_any _ _ _ _).mono ?_; rintro e w' ⟨rfl, rfl⟩; rw [E1.out])
      refine (trim36 s _ HS.out).mono ?_
      rintro e u ⟨r, rfl, hr, g⟩
      have hne : ¬ r = ⟨#[]⟩ := fun e => HA.out (hr.1 e)
      have q1 : (r.toList == (⟨#[]⟩ : ByteArray).toList) = false := by
        rw [Bool.eq_false_iff]
        intro e
        rw [beq_iff_eq, ByteArray.toList_eq, ByteArray.toList_eq] at e
        exact hne (ByteArray.ext (Array.toList_inj.mp e))
      have q2 : (r.toList == []) = false := by
        rw [ByteArray.toList_eq (⟨#[]⟩ : ByteArray)] at q1
        exact q1
      have q3 : r.toList.isEmpty = false := by
        cases hz : r.toList with
        | nil => rw [hz] at q2; cases q2
        | cons a b => rfl
      clear hr hne
      go_wp2
      go_ret
      exact ⟨ret_bool EN.out.symm, g⟩
end Go.Proofs.YtcaklodecejkhaaDoor
