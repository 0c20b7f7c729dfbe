/-
  Contracts of the functions on slices of integers: size, copy, equality.
-/
import Derived.Test.YtgglgghlndhfbaaDoorData
import Derived.Test.YtgglgghlndhfbaaDoorProg
namespace Go.Proofs.YtgglgghlndhfbaaDoor
open Go.RowKit

/-- a block that is known whole -/
def Blk (w : World) (g : Nat) (t : TypeId) (cs : Array Value) : Prop := w.heap[g]? = some (.cells cs t (0, 0))
section
variable {w w' : World} {g : Nat} {t : TypeId} {cs : Array Value}
theorem Blk.lt (h : Blk w g t cs) : g < w.heap.size := by
  rcases Nat.lt_or_ge g w.heap.size with hlt | hge
  · exact hlt
  · unfold Blk at h; rw [Array.getElem?_eq_none hge] at h; cases h
theorem Blk.cell (h : Blk w g t cs) (i : Nat) : w.cell? ⟨g, i, none⟩ = cs[i]? := by
  unfold Blk at h; simp [World.cell?, h]
theorem Blk.frozen (h : Blk w g t cs) (i : Nat) : w.frozen? ⟨g, i, none⟩ = false := by
  unfold Blk at h
  simp [World.frozen?, h]
theorem Blk.new (w : World) (t : TypeId) (cs : Array Value) : Blk (w.alloc (.cells cs t)) w.heap.size t cs := by
  exact heap_alloc_new w _
theorem Blk.grows (h : Blk w g t cs) (hg : Grows w w') : Blk w' g t cs := (Below.block hg g h.lt).trans h
theorem Blk.far (h : Blk w g t cs) {p : Addr} (hp : g ≠ p.block) (u : Value) : Blk (w.setCell p u) g t cs := (Below.heap_setCell w p u g hp).trans h
theorem Blk.set_ (h : Blk w g t cs) (i : Nat) (u : Value) : Blk (w.setCell ⟨g, i, none⟩ u) g t (cs.setIfInBounds i u) := by
  unfold Blk at h ⊢
  simp [World.setCell, Array.getElem?_modify, h]
end

/-- A fresh slice of integers, alone in the first block behind w. -/
def NewInts (w w' : World) (v : Value) (xs : List Int) : Prop :=
  ∃ cs : Array Value, v = .slice (some ⟨w.heap.size, 0, none⟩) xs.length xs.length ∧ Blk w' w.heap.size 2 cs ∧ cs.size = xs.length ∧
    (∀ (i : Nat) (x : Int), xs[i]? = some x → cs[i]? = some (.int .i64 x)) ∧ Grows w w'
theorem NewInts.grows {w w' : World} {v : Value} {xs : List Int} (h : NewInts w w' v xs) : Grows w w' := by
  obtain ⟨_, _, _, _, _, h⟩ := h
  exact h
theorem NewInts.reads {w w' : World} {v : Value} {xs : List Int} (h : NewInts w w' v xs) (hl : xs.length ≤ maxLen) : RInts w' v xs := by
  obtain ⟨cs, hv, hb, hs, hc, hg⟩ := h
  refine ⟨_, _, hv, Nat.le_refl _, hl, .inr ⟨_, _, rfl, fun i x hx => ⟨[.int .i64 x], rfl, fun j u hu => ?_, rfl⟩⟩⟩
  match j, hu with
  | 0, hu =>
    simp at hu
    subst hu
    rw [hb.cell]
    simpa using hc i x hx

theorem info_i64 : (Tryd.prog.info? 2).map (fun i => (i.zero, i.size, i.bytes)) = some (some (.int .i64 0), 1, 8) := by kernel_rfl

/-- what is left of a budget, -1 if it is used up -/
def subL (left : Int) (n : Nat) : Int := if left - n < 0 then -1 else left - n

theorem eq_of_getElem? {α : Type} {xs ys : List α} (hl : xs.length = ys.length) (h : ∀ i, i < xs.length → xs[i]? = ys[i]?) : xs = ys := by
  apply List.ext_getElem? 
  intro i
  rcases Nat.lt_or_ge i xs.length with hi | hi
  · exact h i hi
  · rw [List.getElem?_eq_none hi, List.getElem?_eq_none (by omega)]
set_option maxHeartbeats 1000000 in
theorem eqInts_any {v1 v2 : Value} {xs ys : List Int} (w : World) (h1 : RInts w v1 xs) (h2 : RInts w v2 ys) :
    Calls Tryd.prog 37 #[v1, v2] w fun e w' => e = .returned (.bool (decide (xs = ys))) ∧ Grows w w' := by
  have l1 := h1.len
  have l2 := h2.len
  obtain ⟨A, c, rfl, hle, hc, hx⟩ := h1.form
  obtain ⟨A2, c2, rfl, hle2, hc2, hy⟩ := h2.form
  have HX := hideIt hx
  have HY := hideIt hy
  clear hx hy h1 h2 hle hle2 hc hc2
  by_cases hl : xs.length = ys.length
  · have HL := hideIt hl
    have hb : ((xs.length : Int) != (ys.length : Int)) = false := by rw [hl]; simp
    clear hl
    go_enter Tryd.func37, Tryd.ntmps37
    go_wp2
    go_loopw [5] (fun i wr => ∃ k : Nat, k ≤ xs.length ∧ i = .int .i64 k ∧ Hid (∀ j, j < k → xs[j]? = ys[j]?) ∧ Grows w wr) (fun i _ => xs.length - (intOf i).toNat)
    case atStart => exact ⟨0, Nat.zero_le _, rfl, fun i hi => absurd hi (by omega), Grows.refl _⟩
    case round =>
      obtain ⟨k, hk, rfl, hco, hg⟩ := hrel
      by_cases hlt : k < xs.length
      · have hlt2 : k < ys.length := by have := HL.out; omega
        obtain ⟨x, hx⟩ : ∃ x, xs[k]? = some x := ⟨_, List.getElem?_eq_getElem hlt⟩
        obtain ⟨y, hy⟩ : ∃ y, ys[k]? = some y := ⟨_, List.getElem?_eq_getElem hlt2⟩
        obtain ⟨b, off, rfl, cs, hl1, hcs, hr⟩ := HX.out k x hx
        obtain ⟨b2, off2, rfl, cs2, hl2, hcs2, hr2⟩ := HY.out k y hy
        unfold RI at hr hr2
        subst hr hr2
        have hs : wr.cell? ⟨b, off + k, none⟩ = some (.int .i64 x) := by simpa using hg.keeps _ _ (hcs 0 _ rfl)
        have hs2 : wr.cell? ⟨b2, off2 + k, none⟩ = some (.int .i64 y) := by simpa using hg.keeps _ _ (hcs2 0 _ rfl)
        have X1 := hideIt hx
        have Y1 := hideIt hy
        clear hcs hcs2 hl1 hl2 hx hy
        cases hxy : (x != y)
        · have XY := hideIt hxy
          go_wp2
          go_quiet (fail)
          go_wp2
          go_roundw
          case rel => exact ⟨k + 1, by omega, by go_num, fun j hj => by
            by_cases e : j = k
            · subst e; rw [X1.out, Y1.out]; have := XY.out; simpa using this
            · exact hco.out j (by omega), by first | exact hg.drewN _ | exact (hg.drewN _).drewN _⟩
          case measure => simp [intOf]; omega
        · have XY := hideIt hxy
          go_wp2
          go_quiet (fail)
          go_wp2
          go_ret
          refine ⟨ret_bool ?_, by first | exact hg.drewN _ | exact (hg.drewN _).drewN _⟩
          symm
          rw [decide_eq_false_iff_not]
          intro e
          subst e
          have h1 := X1.out.symm.trans Y1.out
          injection h1 with h1
          have := XY.out
          simp [h1] at this
      · have hk2 : k = xs.length := by omega
        subst hk2
        go_wp2
        go_ret
        exact ⟨ret_bool (by symm; rw [decide_eq_true_iff]; exact eq_of_getElem? HL.out hco.out), hg⟩
  · have hb : ((xs.length : Int) != (ys.length : Int)) = true := by simp; omega
    have HL := hideIt hl
    clear hl
    go_enter Tryd.func37, Tryd.ntmps37
    go_wp2
    go_ret
    exact ⟨ret_bool (by symm; rw [decide_eq_false_iff_not]; intro e; subst e; exact HL.out rfl), Grows.refl _⟩
end Go.Proofs.YtgglgghlndhfbaaDoor
