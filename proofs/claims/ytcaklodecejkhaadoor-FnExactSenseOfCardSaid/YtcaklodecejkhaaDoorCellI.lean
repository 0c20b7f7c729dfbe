/-
  What the program's test of a cell says, in plain Lean, and that it is the reference's.
-/
import Derived.Test.YtcaklodecejkhaaDoorCellB
import Derived.Test.YtcaklodecejkhaaDoorFind
namespace Go.Proofs.YtcaklodecejkhaaDoor
open Go.RowKit

theorem clkN_mono (ps : List PinD) {k m : Nat} (h : k ≤ m) : clkN ps k ≤ clkN ps m := by
  unfold clkN
  have e : ps.take k = (ps.take m).take k := by rw [List.take_take, Nat.min_eq_left h]
  rw [e]
  exact ((List.take_sublist k (ps.take m)).filter _).length_le
theorem clkN_one {ps : List PinD} (h : clkN ps ps.length ≤ 1) {i j : Nat} {p q : PinD} (hi : ps[i]? = some p) (hj : ps[j]? = some q) (hp : p.clock = true) (hq : q.clock = true) : i = j := by
  have main : ∀ {i j : Nat} {p q : PinD}, ps[i]? = some p → ps[j]? = some q → p.clock = true → q.clock = true → ¬ i < j := by
    intro i j p q hi hj hp hq hlt
    have a := clkN_succ hi
    have b := clkN_succ hj
    rw [hp] at a
    rw [hq] at b
    have c := clkN_mono ps (k := i + 1) (m := j) hlt
    have d := clkN_mono ps (k := j + 1) (m := ps.length) (List.getElem?_eq_some_iff.1 hj).1
    simp at a b
    omega
  rcases Nat.lt_trichotomy i j with h | h | h
  · exact absurd h (main hi hj hp hq)
  · exact h
  · exact absurd h (main hj hi hq hp)
/-- the first clock pin, -1 if there is none -/
def clkI (ps : List PinD) : Int := idxF (fun p => p.clock) ps
theorem clkI_hit {ps : List PinD} {i : Nat} (h : clkI ps = (i : Int)) : ∃ p, ps[i]? = some p ∧ p.clock = true := by
  unfold clkI idxF at h
  cases hf : ps.findIdx? (fun p => p.clock) with
  | none => rw [hf] at h; simp only at h; omega
  | some m =>
    rw [hf] at h
    simp only at h
    obtain rfl : m = i := by omega
    obtain ⟨hm, hp, -⟩ := List.findIdx?_eq_some_iff_getElem.1 hf
    exact ⟨_, List.getElem?_eq_getElem hm, hp⟩
theorem clkI_lt {ps : List PinD} (h : 0 ≤ clkI ps) : ∃ i : Nat, clkI ps = (i : Int) ∧ i < ps.length ∧ clkAt ps (i : Int) = true := by
  obtain ⟨p, hp, hc⟩ := clkI_hit (ps := ps) (i := (clkI ps).toNat) (by omega)
  exact ⟨(clkI ps).toNat, by omega, (List.getElem?_eq_some_iff.1 hp).1, by rw [clkAt_of hp, hc]⟩
theorem clkI_iff {ps : List PinD} (h : clkN ps ps.length ≤ 1) {i : Nat} (hi : i < ps.length) : ((i : Int) = clkI ps) ↔ clkAt ps (i : Int) = true := by
  have e := List.getElem?_eq_getElem hi
  rw [clkAt_of e]
  constructor
  · intro hc
    obtain ⟨p, hp, hc⟩ := clkI_hit hc.symm
    rw [e] at hp
    injection hp with hp
    rw [hp]; exact hc
  · intro hc
    refine (idxF_hit e hc fun j y hj hy => ?_).symm
    cases hyc : y.clock
    · rfl
    · exact absurd (clkN_one h hy e hyc hc) (by omega)
/-- an arc as the program tests it -/
def iArcB (ps : List PinD) (a : ArcD) : Bool :=
  if a.kind = 4 ∨ a.kind = 5 then decide (a.sense = 0) && decide (a.slew.length = 0) && tablesB a.delay false && decide (a.src = clkI ps) && decide (0 ≤ a.src) && inB a.dst 0 ((ps.length : Int) - 1 - 1) && decide (a.dst ≠ a.src)
  else tablesB a.delay true && tablesB a.slew true && decide (a.dst = (ps.length : Int) - 1) && inB a.src 0 ((ps.length : Int) - 1 - 1) &&
    (if a.kind = 1 then !clkAt ps a.src && inB a.sense 1 3 else if a.kind = 2 ∨ a.kind = 3 then clkAt ps a.src && decide (a.sense = 0) else false)
theorem inB_iff {n lo hi : Int} : inB n lo hi = true ↔ lo ≤ n ∧ n ≤ hi := ⟨inB_true, fun h => inB_mk h.1 h.2⟩
theorem last_no {ps : List PinD} (hp : PinsP ps) {i : Nat} (hi : i + 1 = ps.length) : clkAt ps (i : Int) = false := by
  have e := List.getElem?_eq_getElem (l := ps) (i := i) (by omega)
  rw [clkAt_of e]
  exact ((hp.2.1 _ _ e).2.2.1 hi).2.2
theorem arc_same {ps : List PinD} (hp : PinsP ps) (h : clkN ps ps.length ≤ 1) (a : ArcD) : iArcB ps a = sArcB ps a := by
  have hn := hp.1.1
  rw [Bool.eq_iff_iff]
  unfold iArcB sArcB
  by_cases k45 : a.kind = 4 ∨ a.kind = 5
  · have n1 : ¬ a.kind = 1 := by omega
    have n23 : ¬ (a.kind = 2 ∨ a.kind = 3) := by omega
    simp only [if_pos k45, if_neg n1, if_neg n23, Bool.and_eq_true, decide_eq_true_eq, inB_iff, Bool.not_eq_true']
    constructor
    · rintro ⟨⟨⟨⟨⟨⟨s0, sl⟩, tb⟩, sc⟩, sp⟩, d1, d2⟩, ne⟩
      obtain ⟨i, hi, hil, hic⟩ := clkI_lt (ps := ps) (by omega)
      have hil2 : ¬ i + 1 = ps.length := fun e => by rw [last_no hp e] at hic; cases hic
      refine ⟨⟨⟨by omega, by omega⟩, by omega, by omega⟩, ⟨⟨⟨⟨by rw [sc, hi]; exact hic, by omega⟩, ?_⟩, s0⟩, tb⟩, sl⟩
      obtain ⟨j, hj⟩ : ∃ j : Nat, a.dst = (j : Int) := ⟨a.dst.toNat, by omega⟩
      cases hc : clkAt ps a.dst
      · rfl
      · rw [hj] at hc
        have := (clkI_iff h (by omega)).2 hc
        omega
    · rintro ⟨⟨⟨s1, s2⟩, d1, d2⟩, ⟨⟨⟨⟨cs, dl⟩, cd⟩, s0⟩, tb⟩, sl⟩
      obtain ⟨i, hi⟩ : ∃ i : Nat, a.src = (i : Int) := ⟨a.src.toNat, by omega⟩
      rw [hi] at cs
      have := (clkI_iff h (by omega)).2 cs
      refine ⟨⟨⟨⟨⟨⟨s0, sl⟩, tb⟩, by omega⟩, by omega⟩, by omega, by omega⟩, fun e => ?_⟩
      rw [e, hi, cs] at cd
      cases cd
  · simp only [if_neg k45]
    by_cases n1 : a.kind = 1
    · simp only [if_pos n1, Bool.and_eq_true, decide_eq_true_eq, inB_iff, Bool.not_eq_true']
      constructor
      · rintro ⟨⟨⟨⟨t1, t2⟩, d⟩, s⟩, c, se⟩
        exact ⟨⟨s, by omega, by omega⟩, ⟨⟨⟨c, d⟩, se⟩, t1⟩, t2⟩
      · rintro ⟨⟨s, d1, d2⟩, ⟨⟨⟨c, d⟩, se⟩, t1⟩, t2⟩
        exact ⟨⟨⟨⟨t1, t2⟩, d⟩, s⟩, c, se⟩
    · by_cases n23 : a.kind = 2 ∨ a.kind = 3
      · simp only [if_neg n1, if_pos n23, Bool.and_eq_true, decide_eq_true_eq, inB_iff]
        constructor
        · rintro ⟨⟨⟨⟨t1, t2⟩, d⟩, s⟩, c, se⟩
          exact ⟨⟨s, by omega, by omega⟩, ⟨⟨⟨c, d⟩, se⟩, t1⟩, t2⟩
        · rintro ⟨⟨s, d1, d2⟩, ⟨⟨⟨c, d⟩, se⟩, t1⟩, t2⟩
          exact ⟨⟨⟨⟨t1, t2⟩, d⟩, s⟩, c, se⟩
      · simp [n1, n23]
def iArcsP (ps : List PinD) (ar : List ArcD) : Prop := ∀ (k : Nat) (a : ArcD), ar[k]? = some a → iArcB ps a = true ∧ ∀ (j : Nat) (b : ArcD), j < k → ar[j]? = some b → ¬ sameArc b a
theorem kindB_clk {x : CellD} (h : kindB x = true) : clkN x.pins x.pins.length ≤ 1 := by
  unfold kindB at h
  by_cases k1 : x.kind = 1
  · simp [k1] at h; omega
  by_cases k2 : x.kind = 2
  · simp [k2] at h; omega
  by_cases k3 : x.kind = 3
  · simp [k3] at h; omega
  simp [k1, k2, k3] at h
structure ICellP (x : CellD) : Prop where
  name : nameB x.name = true
  pins : PinsP x.pins
  arcs : iArcsP x.pins x.arcs
  few : x.arcs.length ≤ 8
  leak : inB x.leak 0 100000 = true
  energy : inB x.energy 0 100000 = true
  ofKind : kindB x = true
theorem icell_iff (x : CellD) : ICellP x ↔ CellP x := by
  constructor
  · intro h
    have e := arc_same h.pins (kindB_clk h.ofKind)
    exact ⟨h.pins, h.name, fun k a hk => by rw [← e]; exact h.arcs k a hk, h.few, h.leak, h.energy, h.ofKind⟩
  · intro h
    have e := arc_same h.pins (kindB_clk h.ofKind)
    exact ⟨h.name, h.pins, fun k a hk => by rw [e]; exact h.arcs k a hk, h.few, h.leak, h.energy, h.ofKind⟩
end Go.Proofs.YtcaklodecejkhaaDoor
