/-
  Contracts of a name's test, the reference's and the program's.
-/
import Derived.Test.YtocahjbmnkadjaaGreatDoorGA
import Derived.Test.YtocahjbmnkadjaaGreatDoorShelf
import Derived.Lib.IndexAny
import Derived.Test.YtocahjbmnkadjaaGreatDoorGC
import Derived.Test.YtocahjbmnkadjaaGreatDoorGB
import Derived.Laws.AppendOwn
import Derived.OwnWalk
namespace Go.Proofs.YtocahjbmnkadjaaGreatDoor
open Go.RowKit

def lowU (b : UInt8) : Bool := decide (97 ≤ b.toNat ∧ b.toNat ≤ 122)
def digU (b : UInt8) : Bool := decide (48 ≤ b.toNat ∧ b.toNat ≤ 57)
def nameL : List UInt8 → Bool
  | [] => false
  | b :: r => decide (r.length ≤ 7) && lowU b && r.all fun c => lowU c || digU c
def nameB (s : ByteArray) : Bool := nameL s.data.toList
theorem nameL_no {l : List UInt8} {k : Nat} {b : UInt8} (hb : l[k]? = some b) (h : lowU b = false) (h2 : digU b = false ∨ k = 0) : nameL l = false := by
  cases l with
  | nil => rfl
  | cons a r =>
    cases k with
    | zero =>
      simp at hb
      subst hb
      simp [nameL, h]
    | succ k =>
      have h3 : digU b = false := by rcases h2 with h2 | h2; exact h2; omega
      have : (r.all fun c => lowU c || digU c) = false := by
        rw [List.all_eq_false]
        exact ⟨b, List.mem_of_getElem? (by simpa using hb), by simp [h, h3]⟩
      simp [nameL, this]
theorem nameL_len {l : List UInt8} (h : ¬ (1 ≤ l.length ∧ l.length ≤ 8)) : nameL l = false := by
  cases l with
  | nil => rfl
  | cons a r =>
    simp only [List.length_cons] at h
    have : decide (r.length ≤ 7) = false := decide_eq_false (by omega)
    simp [nameL, this]
theorem nameL_yes {l : List UInt8} (h : ∀ (j : Nat) (b : UInt8), l[j]? = some b → lowU b = true ∨ (digU b = true ∧ 0 < j)) (h1 : 1 ≤ l.length) (h2 : l.length ≤ 8) : nameL l = true := by
  cases l with
  | nil => simp at h1
  | cons a r =>
    have ha : lowU a = true := by
      rcases h 0 a (by simp) with h | h
      · exact h
      · omega
    have hr : (r.all fun c => lowU c || digU c) = true := by
      rw [List.all_eq_true]
      intro c hc
      obtain ⟨j, hj⟩ := List.getElem?_of_mem hc
      rcases h (j + 1) c (by simpa using hj) with h | h
      · simp [h]
      · simp [h.1]
    simp only [List.length_cons] at h2
    have : decide (r.length ≤ 7) = true := decide_eq_true (by omega)
    simp [nameL, this, ha, hr]
theorem nameL_inv {l : List UInt8} (h : nameL l = true) : 1 ≤ l.length ∧ l.length ≤ 8 := by
  rcases Decidable.em (1 ≤ l.length ∧ l.length ≤ 8) with h1 | h1
  · exact h1
  · rw [nameL_len h1] at h; cases h
theorem len_data (s : ByteArray) : s.data.toList.length = s.size := by rw [Array.length_toList]; rfl
set_option maxHeartbeats 4000000 in
theorem l03Name_any (s : ByteArray) (w : World) (hs : s.size ≤ maxLen) :
    Calls Tryz.prog 59 #[.string s] w fun e w' => e = .returned (.bool (nameB s)) ∧ w' = w := by
  have zs : (s.size : Int) ≤ 9223372036854775807 := by unfold maxLen at hs; omega
  clear hs
  go_enter Tryz.func59, Tryz.ntmps59
  go_wp2
  go_loop [3, 4, 5] (fun i _ _ => ∃ k : Nat, k ≤ s.size ∧ i = .int .i64 (k : Int) ∧ Hid (∀ (j : Nat) (b : UInt8), j < k → s.data.toList[j]? = some b → lowU b = true ∨ (digU b = true ∧ 0 < j))) (fun i _ _ => s.size - (intOf i).toNat)
  case atStart => exact ⟨0, Nat.zero_le _, rfl, fun i y hi => absurd hi (by omega)⟩
  case round =>
    obtain ⟨k, hk, rfl, hco⟩ := hrel
    by_cases hlt : k < s.size
    · obtain ⟨n, hn⟩ : ∃ n : Nat, (s[k]'hlt).toNat = n := ⟨_, rfl⟩
      have hb : Hid (s.data.toList[k]? = some (s[k]'hlt)) := hideIt (by
        rw [List.getElem?_eq_getElem (by rw [len_data]; exact hlt)]
        simp [ByteArray.getElem_eq_getElem_data])
      have HN := hideIt hn
      by_cases c1 : n < 48
      · go_wp2
        go_ret
        exact ⟨ret_bool (nameL_no hb.out (by unfold lowU; rw [HN.out]; exact decide_eq_false (by omega)) (.inl (by unfold digU; rw [HN.out]; exact decide_eq_false (by omega)))).symm, rfl⟩
      by_cases c2 : n ≤ 57
      · by_cases k0 : k = 0
        · subst k0
          go_wp2
          go_ret
          exact ⟨ret_bool (nameL_no hb.out (by unfold lowU; rw [HN.out]; exact decide_eq_false (by omega)) (.inr rfl)).symm, rfl⟩
        · have kp : 0 < k := by omega
          go_wp2
          go_round
          case rel => exact ⟨k + 1, by omega, by go_num, fun j b hj hbj => by
            by_cases e : j = k
            · subst e
              rw [hb.out] at hbj
              injection hbj with hbj
              subst hbj
              exact .inr ⟨by unfold digU; rw [HN.out]; exact decide_eq_true (by omega), by omega⟩
            · exact hco.out j b (by omega) hbj⟩
          case measure => simp [intOf]; omega
      by_cases c3 : n < 97
      · go_wp2
        go_ret
        exact ⟨ret_bool (nameL_no hb.out (by unfold lowU; rw [HN.out]; exact decide_eq_false (by omega)) (.inl (by unfold digU; rw [HN.out]; exact decide_eq_false (by omega)))).symm, rfl⟩
      by_cases c4 : n ≤ 122
      · go_wp2
        go_round
        case rel => exact ⟨k + 1, by omega, by go_num, fun j b hj hbj => by
          by_cases e : j = k
          · subst e
            rw [hb.out] at hbj
            injection hbj with hbj
            subst hbj
            exact .inl (by unfold lowU; rw [HN.out]; exact decide_eq_true (by omega))
          · exact hco.out j b (by omega) hbj⟩
        case measure => simp [intOf]; omega
      · have c5 : 122 < n := by omega
        have d4 : decide ((n : Int) ≤ 122) = false := decide_eq_false (by omega)
        clear c1 c2 c3 c4
        go_wp2
        go_ret
        exact ⟨ret_bool (nameL_no hb.out (by unfold lowU; rw [HN.out]; exact decide_eq_false (by omega)) (.inl (by unfold digU; rw [HN.out]; exact decide_eq_false (by omega)))).symm, rfl⟩
    · obtain rfl : k = s.size := by omega
      have fin : Hid (nameB s = (decide ((s.size : Int) ≥ 1) && decide ((s.size : Int) ≤ 8))) := hideIt (by
        unfold nameB
        by_cases h1 : 1 ≤ s.size ∧ s.size ≤ 8
        · rw [nameL_yes (fun j b hj => hco.out j b (by rw [← len_data]; exact (List.getElem?_eq_some_iff.1 hj).1) hj) (by rw [len_data]; exact h1.1) (by rw [len_data]; exact h1.2)]
          have e1 : decide ((s.size : Int) ≥ 1) = true := decide_eq_true (by omega)
          have e2 : decide ((s.size : Int) ≤ 8) = true := decide_eq_true (by omega)
          rw [e1, e2]; rfl
        · rw [nameL_len (by rw [len_data]; exact h1)]
          by_cases h2 : 1 ≤ s.size
          · have e2 : decide ((s.size : Int) ≤ 8) = false := decide_eq_false (by omega)
            rw [e2]; simp
          · have e1 : decide ((s.size : Int) ≥ 1) = false := decide_eq_false (by omega)
            rw [e1]; rfl)
      clear hco
      by_cases h1 : 1 ≤ s.size
      · go_wp2
        all_goals go_ret
        all_goals exact ⟨ret_bool (by rw [fin.out]; simp; omega), rfl⟩
      · go_wp2
        all_goals go_ret
        all_goals exact ⟨ret_bool (by rw [fin.out]; simp; omega), rfl⟩
end Go.Proofs.YtocahjbmnkadjaaGreatDoor
/-
  Contract of the program's test of a name.
-/
namespace Go.Proofs.YtocahjbmnkadjaaGreatDoor
open Go.RowKit

def csB : ByteArray := ⟨#[97, 98, 99, 100, 101, 102, 103, 104, 105, 106, 107, 108, 109, 110, 111, 112, 113, 114, 115, 116, 117, 118, 119, 120, 121, 122, 48, 49, 50, 51, 52, 53, 54, 55, 56, 57]⟩
def ltB : ByteArray := ⟨#[97, 98, 99, 100, 101, 102, 103, 104, 105, 106, 107, 108, 109, 110, 111, 112, 113, 114, 115, 116, 117, 118, 119, 120, 121, 122]⟩
theorem mem_drop {p : UInt8 → Bool} {x : UInt8} (hx : p x = false) : ∀ {l : List UInt8}, x ∈ l → x ∈ l.dropWhile p
  | [], h => by cases h
  | a :: r, h => by
    rw [List.dropWhile_cons]
    split
    · rename_i ha
      rcases List.mem_cons.1 h with e | h
      · subst e; rw [hx] at ha; cases ha
      · exact mem_drop hx h
    · exact h
theorem drop_all {p : UInt8 → Bool} : ∀ {l : List UInt8}, (∀ x ∈ l, p x = true) → l.dropWhile p = []
  | [], _ => rfl
  | a :: r, h => by
    rw [List.dropWhile_cons, if_pos (h a (by simp))]
    exact drop_all fun x hx => h x (by simp [hx])
theorem trimS_nil {l cs : List UInt8} : Lib.trimS l cs = [] ↔ ∀ x ∈ l, cs.contains x = true := by
  unfold Lib.trimS Lib.trimLeftS Lib.trimRightS
  constructor
  · intro h x hx
    cases hc : cs.contains x with
    | true => rfl
    | false =>
      have h1 : x ∈ (l.reverse.dropWhile (cs.contains ·)).reverse := by
        rw [List.mem_reverse]
        exact mem_drop hc (List.mem_reverse.2 hx)
      have h2 := mem_drop (p := (cs.contains ·)) hc h1
      rw [h] at h2
      cases h2
  · intro h
    have : l.reverse.dropWhile (cs.contains ·) = [] := by
      exact drop_all fun x hx => h x (List.mem_reverse.1 hx)
    rw [this]
    rfl
theorem cs_all : ((List.range 256).all fun n => csB.data.toList.contains n.toUInt8 == (lowU n.toUInt8 || digU n.toUInt8)) = true := by decide +kernel
theorem lt_all : ((List.range 256).all fun n => ltB.data.toList.contains n.toUInt8 == lowU n.toUInt8) = true := by decide +kernel
theorem u8_back (b : UInt8) : b.toNat.toUInt8 = b := by simp
theorem cs_has (b : UInt8) : csB.data.toList.contains b = (lowU b || digU b) := by
  have := List.all_eq_true.1 cs_all b.toNat (List.mem_range.2 b.toNat_lt)
  rw [u8_back] at this
  simpa using this
theorem lt_has (b : UInt8) : ltB.data.toList.contains b = lowU b := by
  have := List.all_eq_true.1 lt_all b.toNat (List.mem_range.2 b.toNat_lt)
  rw [u8_back] at this
  simpa using this
theorem trim36 (s : ByteArray) (w : World) (hs : s.size ≤ maxLen) :
    Calls Tryz.prog 111 #[.string s, .string csB] w fun e w' => ∃ r : ByteArray, e = .returned (.string r) ∧ (r = ⟨#[]⟩ ↔ ∀ x ∈ s.data.toList, (lowU x || digU x) = true) ∧ Grows w w' := by
  refine (Tryz.strings_Trim_ascii s csB w (by unfold maxLen at hs; omega) (by decide) (ascii_of_all (by decide +kernel))).mono ?_
  rintro e w' ⟨rfl, hb⟩
  refine ⟨_, rfl, ?_, hb⟩
  constructor
  · intro h x hx
    have h1 : Lib.trimS s.data.toList csB.data.toList = [] := by
      have h2 := congrArg (fun q : ByteArray => q.data.toList) h
      simpa using h2
    rw [← cs_has]
    exact trimS_nil.1 h1 x hx
  · intro h
    rw [trimS_nil.2 (fun x hx => by rw [cs_has]; exact h x hx)]
theorem index26 (b : UInt8) (w : World) :
    Calls Tryz.prog 69 #[.string ltB, .int .u8 (b.toNat : Int)] w fun e w' => ∃ i : Int, e = .returned (.int .i64 i) ∧ decide (i ≥ 0) = lowU b ∧ w' = w := by
  refine (Tryz.strings_IndexByte ltB (b.toNat : Int) w).mono ?_
  rintro e w' ⟨rfl, rfl⟩
  refine ⟨_, rfl, ?_, rfl⟩
  rw [Int.toNat_natCast, u8_back, ← lt_has, Lib.contains_iff_indexByte]
set_option maxHeartbeats 1000000 in
theorem isName_any (s : ByteArray) (w : World) (hs : s.size ≤ maxLen) :
    Calls Tryz.prog 89 #[.string s] w fun e w' => e = .returned (.bool (nameB s)) ∧ Grows w w' := by
  have HS := hideIt hs
  have zs : (s.size : Int) ≤ 9223372036854775807 := by unfold maxLen at hs; omega
  clear hs
  cases h1 : inB (s.size : Int) 1 8
  · have EN := hideIt (show nameB s = false from nameL_len (by rw [len_data]; have := inB_false h1; omega))
    have E1 := hideIt h1
    clear h1
    go_enter Tryz.func89, Tryz.ntmps89
    go_wp2_with (go_at_call 92; refine (within_any _ _ _ _).mono ?_; rintro e w' ⟨rfl, rfl⟩; rw [E1.out])
    go_ret
    exact ⟨ret_bool EN.out.symm, Grows.refl _⟩
  · obtain ⟨l1, l2⟩ := inB_true h1
    have E1 := hideIt h1
    clear h1
    have hlt : 0 < s.size := by omega
    have hb : Hid (s.data.toList[0]? = some (s[0]'hlt)) := hideIt (by
      rw [List.getElem?_eq_getElem (by rw [len_data]; exact hlt)]
      simp [ByteArray.getElem_eq_getElem_data])
    by_cases hall : ∀ x ∈ s.data.toList, (lowU x || digU x) = true
    · have EN : Hid (nameB s = lowU (s[0]'hlt)) := hideIt (by
        have h0 := hb.out
        unfold nameB
        cases hl : lowU (s[0]'hlt) with
        | false => exact nameL_no h0 hl (.inr rfl)
        | true =>
          refine nameL_yes (fun j b hj => ?_) (by rw [len_data]; omega) (by rw [len_data]; omega)
          have := hall b (List.mem_of_getElem? hj)
          rcases Nat.eq_zero_or_pos j with e | e
          · subst e
            rw [h0] at hj
            injection hj with hj
            subst hj
            exact .inl hl
          · simp only [Bool.or_eq_true] at this
            rcases this with h | h
            · exact .inl h
            · exact .inr ⟨h, e⟩)
      have HA := hideIt hall
      clear hall
      go_enter Tryz.func89, Tryz.ntmps89
      go_wp2_with (go_at_call 92; refine (within_any _ _ _ _).mono ?_; rintro e w' ⟨rfl, rfl⟩; rw [E1.out])
      refine (trim36 s _ HS.out).mono ?_
      rintro e u ⟨r, rfl, hr, g⟩
      obtain rfl := hr.2 HA.out
      clear hr
      go_wp2_with fail
      refine (index26 (s[0]'hlt) _).mono ?_
      rintro e u2 ⟨i, rfl, hi, rfl⟩
      cases hl : lowU (s[0]'hlt)
      · rw [hl] at hi
        have hi2 := of_decide_eq_false hi
        have EN2 := hideIt (EN.out.trans hl)
        clear hi hl
        go_wp2
        go_ret
        exact ⟨ret_bool (by rw [EN2.out]; exact decide_eq_false (by omega)), g⟩
      · rw [hl] at hi
        have hi2 := of_decide_eq_true hi
        have EN2 := hideIt (EN.out.trans hl)
        clear hi hl
        go_wp2
        go_ret
        exact ⟨ret_bool EN2.out.symm, g⟩
    · have EN : Hid (nameB s = false) := hideIt (by
        cases hn : nameB s with
        | false => rfl
        | true =>
          refine absurd (fun x hx => ?_) hall
          unfold nameB at hn
          obtain ⟨j, hj⟩ := List.getElem?_of_mem hx
          cases hc : (lowU x || digU x) with
          | true => rfl
          | false =>
            simp only [Bool.or_eq_false_iff] at hc
            rw [nameL_no hj hc.1 (.inl hc.2)] at hn
            cases hn)
      have HA := hideIt hall
      clear hall
      go_enter Tryz.func89, Tryz.ntmps89
      go_wp2_with (go_at_call 92; refine (within_any _ _ _ _).mono ?_; rintro e w' ⟨rfl, rfl⟩; rw [E1.out])
      refine (trim36 s _ HS.out).mono ?_
      rintro e u ⟨r, rfl, hr, g⟩
      have hne : ¬ r = ⟨#[]⟩ := fun e => HA.out (hr.1 e)
      have q1 : (r.toList == (⟨#[]⟩ : ByteArray).toList) = false := by
        rw [Bool.eq_false_iff]
        intro e
        rw [beq_iff_eq, ByteArray.toList_eq, ByteArray.toList_eq] at e
        exact hne (ByteArray.ext (Array.toList_inj.mp e))
      have q2 : (r.toList == []) = false := by
        rw [ByteArray.toList_eq (⟨#[]⟩ : ByteArray)] at q1
        exact q1
      have q3 : r.toList.isEmpty = false := by
        cases hz : r.toList with
        | nil => rw [hz] at q2; cases q2
        | cons a b => rfl
      clear hr hne
      go_wp2
      go_ret
      exact ⟨ret_bool EN.out.symm, g⟩
end Go.Proofs.YtocahjbmnkadjaaGreatDoor
/-
  Plain facts on cells: pins.
-/
namespace Go.Proofs.YtocahjbmnkadjaaGreatDoor
open Go.RowKit

/-- a proposition as a Bool -/
noncomputable def pB (p : Prop) : Bool := @decide p (Classical.propDecidable p)
theorem pB_true {p : Prop} (h : p) : pB p = true := by exact @decide_eq_true p (Classical.propDecidable p) h
theorem pB_false {p : Prop} (h : ¬ p) : pB p = false := by exact @decide_eq_false p (Classical.propDecidable p) h
theorem pB_iff {p : Prop} : pB p = true ↔ p := by exact @decide_eq_true_iff p (Classical.propDecidable p)
theorem pB_congr {p q : Prop} (h : p ↔ q) : pB p = pB q := by rw [propext h]

def PinOk (n i : Nat) (p : PinD) : Prop := nameB p.name = true ∧ inB p.cap 0 500 = true ∧ (i + 1 = n → p.dir = 2 ∧ p.cap = 0 ∧ p.clock = false) ∧ (i + 1 < n → p.dir = 1)
def PinsP (ps : List PinD) : Prop := (2 ≤ ps.length ∧ ps.length ≤ 5) ∧ (∀ (i : Nat) (p : PinD), ps[i]? = some p → PinOk ps.length i p) ∧
  (∀ (i j : Nat) (p q : PinD), i < j → ps[i]? = some p → ps[j]? = some q → ¬ p.name = q.name)
/-- how many of the first k pins are clocks -/
def clkN (ps : List PinD) (k : Nat) : Nat := ((ps.take k).filter (·.clock)).length
theorem clkN_succ {ps : List PinD} {k : Nat} {p : PinD} (h : ps[k]? = some p) : clkN ps (k + 1) = clkN ps k + (if p.clock then 1 else 0) := by
  have hk : k < ps.length := (List.getElem?_eq_some_iff.1 h).1
  have e : ps.take (k + 1) = ps.take k ++ [p] := by
    rw [List.take_add_one, h]; rfl
  unfold clkN
  rw [e, List.filter_append, List.length_append]
  cases hc : p.clock <;> simp [hc]
theorem clkN_le (ps : List PinD) (k : Nat) : clkN ps k ≤ k := by
  unfold clkN
  exact Nat.le_trans (List.length_filter_le _ _) (by simp; omega)
end Go.Proofs.YtocahjbmnkadjaaGreatDoor
/-
  Contract of the program's test of different names.
-/
namespace Go.Proofs.YtocahjbmnkadjaaGreatDoor
open Go.RowKit

set_option maxHeartbeats 1000000 in
theorem indexStr_any {v : Value} {xs : List ByteArray} (s : ByteArray) (w : World) (h : RStrs w v xs) :
    Calls Tryz.prog 97 #[v, .string s] w fun e w' => e = .returned (.int .i64 (idxF (fun y => decide (y = s)) xs)) ∧ w' = w := by
  have hl := RList.len h
  obtain ⟨A, c, rfl, -, -, hx⟩ := RList.form h
  have HX := hideIt hx
  clear hx h
  go_enter Tryz.func97, Tryz.ntmps97
  go_wp2
  go_loop [5, 8] (fun _ i => ∃ k : Nat, k ≤ xs.length ∧ i = .int .i64 (k : Int) ∧ Hid (∀ (j : Nat) (y : ByteArray), j < k → xs[j]? = some y → decide (y = s) = false)) (fun _ i => xs.length - (intOf i).toNat)
  case atStart => exact ⟨0, Nat.zero_le _, rfl, fun i y hi => absurd hi (by omega)⟩
  case round =>
    obtain ⟨k, hk, rfl, hco⟩ := hrel
    by_cases hlt : k < xs.length
    · obtain ⟨y, hy⟩ : ∃ y, xs[k]? = some y := ⟨_, List.getElem?_eq_getElem hlt⟩
      obtain ⟨b, off, rfl, cs, hl1, hcs, hr⟩ := HX.out k y hy
      obtain ⟨c0, rfl⟩ := list1 hl1
      obtain ⟨hr, -⟩ := hr
      injection hr with hr
      subst hr
      have hs0 : w.cell? ⟨b, off + k, none⟩ = some (.string y) := by simpa using (hcs 0 _ rfl)
      have Y := hideIt hy
      clear hcs hl1 hy
      by_cases he : y = s
      · have HE := hideIt (decide_eq_true he)
        go_wp2
        go_ret
        exact ⟨ret_int (idxF_hit Y.out HE.out hco.out).symm, rfl⟩
      · have HE := hideIt (decide_eq_false he)
        have he2 := strNe (fun h => he h.symm)
        go_wp2
        go_round
        case rel => exact ⟨k + 1, by omega, by go_num, fun j z hj hz => by
          by_cases e : j = k
          · subst e; rw [Y.out] at hz; injection hz with hz; rw [← hz]; exact HE.out
          · exact hco.out j z (by omega) hz⟩
        case measure => simp [intOf]; omega
    · have hk2 : k = xs.length := by omega
      subst hk2
      go_wp2
      go_ret
      exact ⟨ret_int (idxF_miss hco.out).symm, rfl⟩

theorem take_le {α : Type} {xs : List α} {k : Nat} (h : k ≤ xs.length) : (xs.take k).length = k := by simp; omega
theorem RStrs.take {w : World} {A : Option Addr} {xs : List ByteArray} {c k : Nat} (h : RStrs w (.slice A xs.length c) xs) (hk : k ≤ xs.length) : RStrs w (.slice A k c) (xs.take k) := by
  obtain ⟨A', c', e, h1, h2, h3⟩ := h
  injection e with e1 e2 e3
  subst e1 e3
  refine ⟨A, c, by rw [take_le hk], by rw [take_le hk]; omega, h2, ?_⟩
  rcases h3 with rfl | ⟨b, off, hA, hc⟩
  · left; simp
  · right
    refine ⟨b, off, hA, fun i x hx => hc i x ?_⟩
    rw [List.getElem?_take] at hx
    split at hx
    · exact hx
    · cases hx
set_option maxHeartbeats 400000 in
theorem containsStr_any {v : Value} {xs : List ByteArray} (s : ByteArray) (w : World) (h : RStrs w v xs) :
    Calls Tryz.prog 94 #[v, .string s] w fun e w' => e = .returned (.bool (xs.any fun y => decide (y = s))) ∧ w' = w := by
  have E := hideIt (idxF_any (fun y => decide (y = s)) xs)
  have HC := hideIt (indexStr_any s w h)
  clear h
  go_enter Tryz.func94, Tryz.ntmps94
  go_wp2_with (go_at_call 97; refine HC.out.mono ?_; rintro e w' ⟨rfl, rfl⟩)
  go_ret
  exact ⟨ret_bool E.out, rfl⟩
def NamesP (l : List ByteArray) : Prop := (∀ (i : Nat) (s : ByteArray), l[i]? = some s → nameB s = true) ∧ ∀ (i j : Nat) (s u : ByteArray), i < j → l[i]? = some s → l[j]? = some u → ¬ s = u
set_option maxHeartbeats 2000000 in
theorem areNames_any {v : Value} {xs : List ByteArray} (w : World) (h : RStrs w v xs) :
    Calls Tryz.prog 67 #[v] w fun e w' => e = .returned (.bool (pB (NamesP xs))) ∧ Grows w w' := by
  have hl := RList.len h
  obtain ⟨A, c, rfl, hle, hcm, hx⟩ := RList.form h
  have H := hideIt h
  have HX := hideIt hx
  clear hx h
  go_enter Tryz.func67, Tryz.ntmps67
  go_wp2
  go_loopw [3, 4, 7] (fun _ _ i wr => ∃ k : Nat, k ≤ xs.length ∧ i = .int .i64 (k : Int) ∧ Hid (∀ (j : Nat) (u : ByteArray), j < k → xs[j]? = some u → nameB u = true ∧ ∀ (i : Nat) (s : ByteArray), i < j → xs[i]? = some s → ¬ s = u) ∧ Grows w wr) (fun _ _ i _ => xs.length - (intOf i).toNat)
  case atStart => exact ⟨0, by omega, rfl, fun j u hj => absurd hj (by omega), Grows.refl _⟩
  case round =>
    obtain ⟨k, hk, rfl, hco, hg⟩ := hrel
    have HG := hideIt hg
    by_cases hlt : k < xs.length
    · obtain ⟨u, hu⟩ : ∃ u, xs[k]? = some u := ⟨_, List.getElem?_eq_getElem hlt⟩
      obtain ⟨b, off, rfl, cs, hl1, hcs, hr, hz⟩ := HX.out k u hu
      subst hr
      have hs0 : wr.cell? ⟨b, off + k, none⟩ = some (.string u) := hg.keeps _ _ (by simpa using (hcs 0 _ rfl))
      have U := hideIt hu
      have kc : k ≤ c := by omega
      have kc2 : (k : Int) ≤ (c : Int) := by omega
      have HT := hideIt (RStrs.take H.out (Nat.le_of_lt hlt))
      clear hcs hl1 hu hg
      cases hn : nameB u
      · have EP := hideIt (pB_false (p := NamesP xs) fun h => by have := h.1 _ u U.out; rw [hn] at this; cases this)
        go_wp2_with fail
        refine (isName_any _ _ hz).mono ?_
        rintro e w1 ⟨rfl, g1⟩
        rw [hn]
        have G1 := hideIt (HG.out.trans g1)
        clear g1 hn
        go_wp2
        go_ret
        exact ⟨ret_bool EP.out.symm, G1.out⟩
      have HN := hideIt hn
      cases ha : ((xs.take k).any fun y => decide (y = u))
      · have NE : Hid (∀ (i : Nat) (s : ByteArray), i < k → xs[i]? = some s → ¬ s = u) := hideIt fun i s hi hs e => by
          rw [List.any_eq_false] at ha
          have hm : s ∈ xs.take k := List.mem_of_getElem? (i := i) (by rw [List.getElem?_take, if_pos hi]; exact hs)
          have := ha s hm
          simp [e] at this
        have HA := hideIt ha
        clear ha hn
        go_wp2_with fail
        refine (isName_any _ _ hz).mono ?_
        rintro e w1 ⟨rfl, g1⟩
        rw [HN.out]
        have G1 := hideIt (HG.out.trans g1)
        clear g1
        go_wp2_with fail
        refine (containsStr_any _ _ (HT.out.keep G1.out.keeps)).mono ?_
        rintro e w2 ⟨rfl, rfl⟩
        rw [HA.out]
        go_wp2
        go_roundw
        case rel => exact ⟨k + 1, by omega, by go_num, fun j s hj hs => by
          by_cases ej : j = k
          · subst ej; rw [U.out] at hs; injection hs with hs; subst hs; exact ⟨HN.out, NE.out⟩
          · exact hco.out j s (by omega) hs, G1.out⟩
        case measure => simp [intOf]; omega
      · have EP := hideIt (pB_false (p := NamesP xs) fun h => by
          obtain ⟨s, hm, hs⟩ := List.any_eq_true.1 ha
          obtain ⟨i, hi⟩ := List.getElem?_of_mem hm
          rw [List.getElem?_take] at hi
          split at hi
          · exact h.2 i k s u (by assumption) hi U.out (of_decide_eq_true hs)
          · cases hi)
        have HA := hideIt ha
        clear ha hn
        go_wp2_with fail
        refine (isName_any _ _ hz).mono ?_
        rintro e w1 ⟨rfl, g1⟩
        rw [HN.out]
        have G1 := hideIt (HG.out.trans g1)
        clear g1
        go_wp2_with fail
        refine (containsStr_any _ _ (HT.out.keep G1.out.keeps)).mono ?_
        rintro e w2 ⟨rfl, rfl⟩
        rw [HA.out]
        go_wp2
        go_ret
        exact ⟨ret_bool EP.out.symm, G1.out⟩
    · obtain rfl : k = xs.length := by omega
      have EP := hideIt (pB_true (p := NamesP xs) ⟨fun i s hi => (hco.out i s (List.getElem?_eq_some_iff.1 hi).1 hi).1, fun i j s u hij hi hj => (hco.out j u (List.getElem?_eq_some_iff.1 hj).1 hj).2 i s hij hi⟩)
      clear hco
      go_wp2
      go_ret
      exact ⟨ret_bool EP.out.symm, HG.out⟩
end Go.Proofs.YtocahjbmnkadjaaGreatDoor
/-
  Contract of the program's test of pins.
-/
namespace Go.Proofs.YtocahjbmnkadjaaGreatDoor
open Go.RowKit

theorem info_str : (Tryz.prog.info? 9).map (fun i => (i.zero, i.size, i.bytes)) = some (some (.string .empty), 1, 16) := by kernel_rfl
theorem own_strs {w : World} {base : Nat} {v : Value} {xs : List ByteArray} {n : Nat} (hn : n = xs.length) (h : w.ownsRow base 9 1 v n (xs.map (.string ·))) (hz : ∀ x ∈ xs, x.size ≤ maxLen) : RStrs w v xs := by
  subst hn
  obtain ⟨hl, ⟨rfl, h0⟩ | ⟨g, c, cur, rfl, hb', hg, h1, h2, h3, h4⟩⟩ := h
  · have hx : xs = [] := List.eq_nil_of_length_eq_zero h0
    subst hx
    exact ⟨none, 0, rfl, Nat.le_refl _, Nat.zero_le _, .inl rfl⟩
  · have hB : Blk w g 9 cur := hg
    refine ⟨_, c, rfl, h1, h2, .inr ⟨g, 0, rfl, fun i x hx => ⟨[.string x], rfl, fun j u hu => ?_, rfl, hz x (List.mem_of_getElem? hx)⟩⟩⟩
    have hi : i < xs.length := (List.getElem?_eq_some_iff.1 hx).1
    match j, hu with
    | 0, hu =>
      simp at hu
      subst hu
      have h5 : (cur.toList.take (xs.length * 1))[i]? = some (.string x) := by rw [h4, List.getElem?_map, hx]; rfl
      rw [List.getElem?_take_of_lt (by omega)] at h5
      have := hB.cell i
      simpa [this] using h5
def nmV (ps : List PinD) (k : Nat) : List Value := ((ps.take k).map (·.name)).map (.string ·)
theorem nmV_succ {ps : List PinD} {k : Nat} {p : PinD} (h : ps[k]? = some p) : nmV ps (k + 1) = nmV ps k ++ [.string p.name] := by
  unfold nmV
  rw [List.take_add_one, h]
  simp
theorem lengthPin_any {v : Value} {ps : List PinD} {w0 : World} (w : World) (h : RPins w0 v ps) :
    Calls Tryz.prog 112 #[v] w fun e w' => e = .returned (.int .i64 (ps.length : Int)) ∧ w = w' := by
  have hl := RList.len h
  obtain ⟨A, c, rfl, -, -, -⟩ := RList.form h
  clear h
  go_enter Tryz.func112, Tryz.ntmps112
  go_wp2
  go_ret
  exact ⟨rfl, rfl⟩
set_option maxHeartbeats 4000000 in
set_option maxRecDepth 10000 in
theorem arePins_any {v : Value} {ps : List PinD} (w : World) (h : RPins w v ps) (hsm : SmL ps) :
    Calls Tryz.prog 90 #[v] w fun e w' => e = .returned (.bool (pB (PinsP ps))) ∧ Grows w w' := by
  obtain ⟨i0, hi, hz0, hz1, hz2⟩ := info_parts info_str
  have hl := RList.len h
  unfold SmL at hsm
  obtain ⟨A, c, rfl, hle, hcm, hx⟩ := RList.form h
  have HX := hideIt hx
  have HN := hideIt (fun (i : Nat) (p : PinD) (hi : ps[i]? = some p) => (by obtain ⟨b, off, e, cs, hl1, hcs, hr⟩ := hx i p hi; exact hr.2 : p.name.size ≤ maxLen))
  have H := hideIt h
  clear hx h
  go_enter Tryz.func90, Tryz.ntmps90
  go_wp2
  go_loopw [3, 4, 8] (fun s _ i wr => ∃ (nv : Value) (k : Nat), nv = s ∧ k ≤ ps.length ∧ i = .int .i64 (k : Int) ∧ Hid (wr.ownsRow w.heap.size 9 1 nv k (nmV ps k)) ∧ Hid (∀ (j : Nat) (p : PinD), j < k → ps[j]? = some p → inB p.cap 0 500 = true ∧ (j + 1 = ps.length → p.dir = 2 ∧ p.cap = 0 ∧ p.clock = false) ∧ (j + 1 < ps.length → p.dir = 1)) ∧ Grows w wr) (fun _ _ i _ => ps.length - (intOf i).toNat)
  case atStart => exact ⟨_, 0, rfl, by omega, rfl, World.ownsRow_nil _ _ _ _, fun j p hj => absurd hj (by omega), Grows.refl _⟩
  case round =>
    obtain ⟨nv, k, rfl, hk, rfl, hown, hco, hg⟩ := hrel
    have HG := hideIt hg
    clear hg
    by_cases hlt : k < ps.length
    · obtain ⟨p, hp⟩ : ∃ p, ps[k]? = some p := ⟨_, List.getElem?_eq_getElem hlt⟩
      obtain ⟨b, off, rfl, cs, hl1, hcs, hr⟩ := HX.out k p hp
      obtain ⟨d0, d1, d2, d3, rfl⟩ := list4 hl1
      obtain ⟨rfl, rfl, rfl, rfl, -⟩ := hr.parts
      have kp0 : wr.cell? ⟨b, off + k * 4, none⟩ = some (.string p.name) := HG.out.keeps _ _ (by simpa using hcs 0 _ rfl)
      have kp1 : wr.cell? ⟨b, off + k * 4 + 1, none⟩ = some (.int .i64 p.dir) := HG.out.keeps _ _ (by simpa [Nat.add_assoc] using hcs 1 _ rfl)
      have kp2 : wr.cell? ⟨b, off + k * 4 + 2, none⟩ = some (.int .i64 p.cap) := HG.out.keeps _ _ (by simpa [Nat.add_assoc] using hcs 2 _ rfl)
      have kp3 : wr.cell? ⟨b, off + k * 4 + 3, none⟩ = some (.bool p.clock) := HG.out.keeps _ _ (by simpa [Nat.add_assoc] using hcs 3 _ rfl)
      have P1 := hideIt hp
      clear hcs hl1 hr hp
      have own1 := hideIt ((hown.out.alloc (.cells #[.string p.name, .int .i64 p.dir, .int .i64 p.cap, .bool p.clock] 125)).alloc (.cells #[.string p.name] 9))
      have G2 := hideIt ((HG.out.alloc (.cells #[.string p.name, .int .i64 p.dir, .int .i64 p.cap, .bool p.clock] 125)).alloc (.cells #[.string p.name] 9))
      have BV := hideIt ((Blk.new wr 125 #[.string p.name, .int .i64 p.dir, .int .i64 p.cap, .bool p.clock]).grows ((Grows.refl _).alloc (.cells #[.string p.name] 9)))
      have nlt : Hid (∀ q, nv.ownBlock = some q → w.heap.size ≤ q ∧ q < wr.heap.size) := hideIt hown.out.lt
      go_wp2_with (at_builtin; refine wpList_append_own _ rfl _ _ 27 rfl w.heap.size 9 i0 (.string .empty) 1 16 Tryz.underlying27 hi hz0 hz1 hz2 rfl (by decide) nv k (nmV ps k) rfl own1.out ⟨wr.heap.size + 1, 0, none⟩ 1 1 [.string p.name] rfl ?c1 ?c2 ?c3 ?c4 ?c5 ?c6 ?_)
      case c1 => simp
      case c2 =>
        intro j u hj
        match j, hj with
        | 0, hj => simp at hj; subst hj; simp [Addr.add]
      case c3 => intro u hu; simp at hu; subst hu; rfl
      case c4 => unfold maxLen; omega
      case c5 => omega
      case c6 => exact G2.out.size
      intro v' w1 hown2 hgrow hnil
      have G3 := hideIt (G2.out.grown hgrow (fun q e => (nlt.out q e).1))
      have hne : some wr.heap.size ≠ nv.ownBlock := fun e => by have := (nlt.out _ e.symm).2; omega
      have lw1 : wr.heap.size < w1.heap.size := by have := hgrow.size; simp at this; omega
      have kv0 : w1.cell? ⟨wr.heap.size, 0, none⟩ = some (.string p.name) := hgrow.cell (BV.out.cell 0) hne
      have kv1 : w1.cell? ⟨wr.heap.size, 1, none⟩ = some (.int .i64 p.dir) := hgrow.cell (BV.out.cell 1) hne
      have kv2 : w1.cell? ⟨wr.heap.size, 2, none⟩ = some (.int .i64 p.cap) := hgrow.cell (BV.out.cell 2) hne
      have kv3 : w1.cell? ⟨wr.heap.size, 3, none⟩ = some (.bool p.clock) := hgrow.cell (BV.out.cell 3) hne
      have OW := hideIt (show w1.ownsRow w.heap.size 9 1 v' (k + 1) (nmV ps (k + 1)) by rw [nmV_succ P1.out]; exact hown2)
      clear hown2 hgrow hnil hne kp0 kp1 kp2 kp3 BV own1
      have OKN : Hid ((inB p.cap 0 500 = true ∧ (k + 1 = ps.length → p.dir = 2 ∧ p.cap = 0 ∧ p.clock = false) ∧ (k + 1 < ps.length → p.dir = 1)) → Hid (∀ (j : Nat) (r : PinD), j < k + 1 → ps[j]? = some r → inB r.cap 0 500 = true ∧ (j + 1 = ps.length → r.dir = 2 ∧ r.cap = 0 ∧ r.clock = false) ∧ (j + 1 < ps.length → r.dir = 1))) := hideIt fun h j r hj hr => by
        by_cases ej : j = k
        · subst ej
          rw [P1.out] at hr
          injection hr with hr
          subst hr
          exact h
        · exact hco.out j r (by omega) hr
      have BAD : Hid (¬ (inB p.cap 0 500 = true ∧ (k + 1 = ps.length → p.dir = 2 ∧ p.cap = 0 ∧ p.clock = false) ∧ (k + 1 < ps.length → p.dir = 1)) → pB (PinsP ps) = false) := hideIt fun h => pB_false fun hp => h (hp.2.1 _ p P1.out).2
      by_cases hla : k + 1 = ps.length
      · by_cases hd : p.dir = 2
        rotate_left
        · have EP := hideIt (BAD.out (fun h => hd (h.2.1 hla).1))
          go_wp2
          go_ret
          exact ⟨ret_bool EP.out.symm, G3.out⟩
        by_cases hc0 : p.cap = 0
        rotate_left
        · have EP := hideIt (BAD.out (fun h => hc0 (h.2.1 hla).2.1))
          go_wp2
          go_ret
          exact ⟨ret_bool EP.out.symm, G3.out⟩
        cases hk0 : p.clock
        · have OK1 := hideIt (OKN.out ⟨by rw [hc0]; decide, fun _ => ⟨hd, hc0, hk0⟩, fun h => by omega⟩)
          go_wp2
          go_roundw
          case rel => exact ⟨_, k + 1, rfl, by omega, by go_num, OW.out, OK1.out, G3.out⟩
          case measure => simp [intOf]; omega
        · have EP := hideIt (BAD.out (fun h => by have := (h.2.1 hla).2.2; rw [hk0] at this; cases this))
          go_wp2
          go_ret
          exact ⟨ret_bool EP.out.symm, G3.out⟩
      · have hlb : k + 1 < ps.length := by omega
        by_cases hd : p.dir = 1
        rotate_left
        · have EP := hideIt (BAD.out (fun h => hd (h.2.2 hlb)))
          go_wp2
          go_ret
          exact ⟨ret_bool EP.out.symm, G3.out⟩
        cases hcp : inB p.cap 0 500
        · have CP := hideIt hcp
          have EP := hideIt (BAD.out (fun h => by have := h.1; rw [hcp] at this; cases this))
          clear hcp
          go_wp2_with (go_at_call 92; refine (within_any _ _ _ _).mono ?_; rintro e w' ⟨rfl, rfl⟩; rw [CP.out])
          go_ret
          exact ⟨ret_bool EP.out.symm, G3.out⟩
        · have CP := hideIt hcp
          have OK1 := hideIt (OKN.out ⟨hcp, fun h => by omega, fun _ => hd⟩)
          clear hcp
          go_wp2_with (go_at_call 92; refine (within_any _ _ _ _).mono ?_; rintro e w' ⟨rfl, rfl⟩; rw [CP.out])
          go_roundw
          case rel => exact ⟨_, k + 1, rfl, by omega, by go_num, OW.out, OK1.out, G3.out⟩
          case measure => simp [intOf]; omega
    · obtain rfl : k = ps.length := by omega
      have RS := hideIt (own_strs (n := ps.length) (base := w.heap.size) (xs := ps.map (·.name)) (by simp) (by have := hown.out; unfold nmV at this; rw [List.take_length] at this; exact this) (fun x hx => by
        obtain ⟨p, hp, rfl⟩ := List.mem_map.1 hx
        obtain ⟨i, hi⟩ := List.getElem?_of_mem hp
        exact HN.out i p hi))
      have EQ : Hid (pB (PinsP ps) = (inB (ps.length : Int) 2 5 && pB (NamesP (ps.map (·.name))))) := hideIt (by
        cases hn : inB (ps.length : Int) 2 5
        · rw [Bool.false_and]
          exact pB_false fun h => by have := inB_false hn; have := h.1; omega
        · rw [Bool.true_and]
          have hn2 := inB_true hn
          refine pB_congr ⟨fun h => ⟨fun i s hs => ?_, fun i j s u hij hs hu => ?_⟩, fun h => ⟨by omega, fun i p hp => ⟨h.1 i _ (by rw [List.getElem?_map, hp]; rfl), hco.out i p (List.getElem?_eq_some_iff.1 hp).1 hp⟩, fun i j p q hij hp hq => h.2 i j _ _ hij (by rw [List.getElem?_map, hp]; rfl) (by rw [List.getElem?_map, hq]; rfl)⟩⟩
          · rw [List.getElem?_map] at hs
            obtain ⟨p, hp, rfl⟩ := Option.map_eq_some_iff.1 hs
            exact (h.2.1 i p hp).1
          · rw [List.getElem?_map] at hs hu
            obtain ⟨p, hp, rfl⟩ := Option.map_eq_some_iff.1 hs
            obtain ⟨q, hq, rfl⟩ := Option.map_eq_some_iff.1 hu
            exact h.2.2 i j p q hij hp hq)
      clear hco hown
      cases hn : inB (ps.length : Int) 2 5
      · have EP := hideIt (EQ.out.trans (by rw [hn, Bool.false_and]))
        have CN := hideIt hn
        clear hn
        go_wp2_with (first | (go_at_call 112; refine (lengthPin_any _ H.out).mono ?_; rintro e w' ⟨rfl, rfl⟩) | (go_at_call 92; refine (within_any _ _ _ _).mono ?_; rintro e w' ⟨rfl, rfl⟩; rw [CN.out]))
        go_ret
        exact ⟨ret_bool EP.out.symm, HG.out⟩
      · have EP := hideIt (EQ.out.trans (by rw [hn, Bool.true_and]))
        have CN := hideIt hn
        clear hn
        go_wp2_with (first | (go_at_call 112; refine (lengthPin_any _ H.out).mono ?_; rintro e w' ⟨rfl, rfl⟩) | (go_at_call 92; refine (within_any _ _ _ _).mono ?_; rintro e w' ⟨rfl, rfl⟩; rw [CN.out]))
        refine (areNames_any _ RS.out).mono ?_
        rintro e w2 ⟨rfl, g2⟩
        obtain ⟨q, eq⟩ : ∃ q, q = pB (NamesP (ps.map (·.name))) := ⟨_, rfl⟩
        rw [← eq]
        have EQ2 := hideIt (EP.out.trans eq.symm)
        have G4 := hideIt (HG.out.trans g2)
        clear g2 eq
        go_wp2
        go_ret
        exact ⟨ret_bool EQ2.out.symm, G4.out⟩
end Go.Proofs.YtocahjbmnkadjaaGreatDoor
