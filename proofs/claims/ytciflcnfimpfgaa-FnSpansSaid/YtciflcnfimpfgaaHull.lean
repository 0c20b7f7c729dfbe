/-
  Contracts of HullOf, the reference's and the program's.
-/
import Derived.Test.YtciflcnfimpfgaaBounds
import Derived.Test.YtciflcnfimpfgaaLists
namespace Go.Proofs.Ytciflcnfimpfgaa
open Go.RowKit

def okSpan (x : SpanD) : Bool := spanV x.1 x.2
def hullV (xs : List SpanD) : Int × Int × Int :=
  if xs.all okSpan = true then (if xs.length = 0 then (0, 0, 4) else (minL (xs.map (·.1)), maxL (xs.map (·.2)), 0)) else (0, 0, 1)
theorem hullV_no {xs : List SpanD} {k : Nat} {x : SpanD} (hx : xs[k]? = some x) (h : okSpan x = false) : hullV xs = (0, 0, 1) := by
  unfold hullV
  rw [if_neg]
  intro ha
  have := List.all_eq_true.1 ha x (List.mem_of_getElem? hx)
  rw [h] at this
  cases this
theorem all_ok {xs : List SpanD} (h : ∀ (j : Nat) (x : SpanD), j < xs.length → xs[j]? = some x → okSpan x = true) : xs.all okSpan = true := by
  rw [List.all_eq_true]
  intro x hx
  obtain ⟨i, hi⟩ := List.getElem?_of_mem hx
  exact h i x (lt_of_at hi) hi
theorem hullV_zero {xs : List SpanD} (h : ∀ (j : Nat) (x : SpanD), j < xs.length → xs[j]? = some x → okSpan x = true) (hn : xs.length = 0) : hullV xs = (0, 0, 4) := by
  unfold hullV
  rw [if_pos (all_ok h), if_pos hn]
theorem hullV_yes {xs : List SpanD} (h : ∀ (j : Nat) (x : SpanD), j < xs.length → xs[j]? = some x → okSpan x = true) (hn : ¬ xs.length = 0) : hullV xs = (minTo (xs.map (·.1)) xs.length, maxTo (xs.map (·.2)) xs.length, 0) := by
  unfold hullV
  rw [if_pos (all_ok h), if_neg hn]
  simp [minL, maxL]
theorem minTo_map {xs : List SpanD} {k : Nat} {x : SpanD} (h : xs[k]? = some x) : minTo (xs.map (·.1)) (k + 1) = if x.1 < minTo (xs.map (·.1)) k then x.1 else minTo (xs.map (·.1)) k :=
  minTo_succ (by rw [List.getElem?_map, h]; rfl)
theorem maxTo_map {xs : List SpanD} {k : Nat} {x : SpanD} (h : xs[k]? = some x) : maxTo (xs.map (·.2)) (k + 1) = if maxTo (xs.map (·.2)) k < x.2 then x.2 else maxTo (xs.map (·.2)) k :=
  maxTo_succ (by rw [List.getElem?_map, h]; rfl)
theorem minTo_zero {xs : List SpanD} {x : SpanD} (h : xs[0]? = some x) : minTo (xs.map (·.1)) 0 = x.1 := by
  cases xs with
  | nil => simp at h
  | cons a r => simp at h; subst h; simp [minTo]
theorem maxTo_zero {xs : List SpanD} {x : SpanD} (h : xs[0]? = some x) : maxTo (xs.map (·.2)) 0 = x.2 := by
  cases xs with
  | nil => simp at h
  | cons a r => simp at h; subst h; simp [maxTo]
set_option maxHeartbeats 400000 in
theorem hull_any (a b c d : Int) (w : World) :
    Calls Try.prog 46 #[.agg #[.int .i64 a, .int .i64 b], .agg #[.int .i64 c, .int .i64 d]] w fun e w' => e = .returned (.agg #[.int .i64 (if c < a then c else a), .int .i64 (if b < d then d else b)]) ∧ Grows w w' := by
  by_cases h1 : c < a <;> by_cases h2 : b < d
  all_goals
    go_enter Try.func46, Try.ntmps46
    go_wp2
    refine bodyPost_ret (by simp [*, results, Try.results46, go_sem]; try rfl) rfl ?_
    exact ⟨by simp [*], (((Grows.refl _).alloc _).alloc _).alloc _⟩
set_option maxHeartbeats 4000000 in
theorem iHull_any {v : Value} {xs : List SpanD} (w : World) (h : RSpans w v xs) :
    Calls Try.prog 15 #[v] w fun e w' => e = .returned (.tuple #[.agg #[.int .i64 (hullV xs).1, .int .i64 (hullV xs).2.1], .int .i64 (hullV xs).2.2]) ∧ Grows w w' := by
  have hl := h.len
  obtain ⟨A, c, rfl, hle, hc, hx⟩ := h.form
  have HX := hideIt hx
  have G0 : Hid (Grows w (w.alloc (.cells #[.int .i64 0, .int .i64 0] 29))) := hideIt ((Grows.refl w).alloc _)
  have R0 := hideIt (Blk.new w 29 #[.int .i64 0, .int .i64 0])
  clear hx h hle hc
  go_enter Try.func15, Try.ntmps15
  go_wp2
  go_loopw [11] (fun i wr => ∃ k : Nat, k ≤ xs.length ∧ i = .int .i64 (k : Int) ∧ Hid (∀ (j : Nat) (x : SpanD), j < k → xs[j]? = some x → okSpan x = true) ∧ Grows w wr ∧ Blk wr w.heap.size 29 #[.int .i64 0, .int .i64 0]) (fun i _ => xs.length - (intOf i).toNat)
  case atStart => exact ⟨0, Nat.zero_le _, rfl, fun i x hi => absurd hi (by omega), G0.out, R0.out⟩
  case round =>
    obtain ⟨k, hk, rfl, hco, hg, hB⟩ := hrel
    by_cases hlt : k < xs.length
    · obtain ⟨x, hx⟩ : ∃ x, xs[k]? = some x := ⟨_, List.getElem?_eq_getElem hlt⟩
      obtain ⟨b, off, rfl, cs, hl1, hcs, hr⟩ := HX.out k x hx
      unfold RSpan at hr
      subst hr
      have hs0 : wr.cell? ⟨b, off + k * 2, none⟩ = some (.int .i64 x.1) := by simpa [Nat.add_assoc] using hg.keeps _ _ (hcs 0 _ rfl)
      have hs1 : wr.cell? ⟨b, off + k * 2 + 1, none⟩ = some (.int .i64 x.2) := by simpa [Nat.add_assoc] using hg.keeps _ _ (hcs 1 _ rfl)
      have lb := cell_lt hs0
      simp at lb
      have X1 := hideIt hx
      have HG := hideIt hg
      have HB := hideIt hB
      clear hcs hl1 hx hg hB
      go_wp2_with fail
      refine (iIsSpan_any _ _ _).mono ?_
      rintro e u ⟨rfl, g⟩
      have ga : Hid (Grows wr (wr.alloc (.cells #[.int .i64 x.1, .int .i64 x.2] 29))) := hideIt ((Grows.refl wr).alloc _)
      have hbu := (HB.out.grows ga.out).grows g
      have k0 : u.cell? ⟨w.heap.size, 0, none⟩ = some (.int .i64 0) := hbu.cell 0
      have k1 : u.cell? ⟨w.heap.size, 1, none⟩ = some (.int .i64 0) := hbu.cell 1
      have kf := hbu.frozen
      have kl := hbu.lt
      have HU := hideIt hbu
      have GU := hideIt ((HG.out.trans ga.out).trans g)
      clear hbu g HB HG
      cases ho : okSpan x
      · have E : Hid (hullV xs = (0, 0, 1)) := hullV_no X1.out ho
        have ho2 : spanV x.1 x.2 = false := ho
        clear ho
        rw [ho2]
        go_wp2
        refine bodyPost_ret (by simp [*, results, Try.results15, go_sem]; try rfl) rfl ?_
        exact ⟨by rw [E.out], (GU.out.setCell (by simp <;> omega) _).setCell (by simp <;> omega) _⟩
      · have ho2 : spanV x.1 x.2 = true := ho
        have HO := hideIt ho
        clear ho
        rw [ho2]
        go_wp2
        go_roundw
        case rel => exact ⟨k + 1, by omega, by go_num, fun j y hj hy => by
          by_cases e : j = k
          · subst e; rw [X1.out] at hy; injection hy with hy; rw [← hy]; exact HO.out
          · exact hco.out j y (by omega) hy, GU.out, HU.out⟩
        case measure => simp [intOf]; omega
    · have hk2 : k = xs.length := by omega
      subst hk2
      obtain ⟨w1, rfl⟩ : ∃ w1, w1 = wr := ⟨_, rfl⟩
      have k0 : w1.cell? ⟨w.heap.size, 0, none⟩ = some (.int .i64 0) := hB.cell 0
      have k1 : w1.cell? ⟨w.heap.size, 1, none⟩ = some (.int .i64 0) := hB.cell 1
      have kf := hB.frozen
      have kl := hB.lt
      have HG := hideIt hg
      have HB := hideIt hB
      clear hg hB
      by_cases hn : xs.length = 0
      · have E : Hid (hullV xs = (0, 0, 4)) := hullV_zero hco.out hn
        go_wp2
        refine bodyPost_ret (by simp [*, results, Try.results15, go_sem]; try rfl) rfl ?_
        exact ⟨by rw [E.out], (HG.out.setCell (by simp <;> omega) _).setCell (by simp <;> omega) _⟩
      · have E : Hid (hullV xs = (minTo (xs.map (·.1)) xs.length, maxTo (xs.map (·.2)) xs.length, 0)) := hullV_yes hco.out hn
        obtain ⟨x0, h0⟩ : ∃ x, xs[0]? = some x := ⟨_, List.getElem?_eq_getElem (by omega)⟩
        obtain ⟨b, off, rfl, cs, hl1, hcs, hr⟩ := HX.out 0 x0 h0
        unfold RSpan at hr
        subst hr
        have hs0 : w1.cell? ⟨b, off, none⟩ = some (.int .i64 x0.1) := by simpa using HG.out.keeps _ _ (hcs 0 _ rfl)
        have hs1 : w1.cell? ⟨b, off + 1, none⟩ = some (.int .i64 x0.2) := by simpa using HG.out.keeps _ _ (hcs 1 _ rfl)
        have lb := cell_lt hs0
        simp at lb
        have X0 := hideIt h0
        clear hcs hl1 h0
        have hn0 : 0 < xs.length := by omega
        have hb0 : ((xs.length : Int) == 0) = false := by rw [beq_eq_false_iff_ne]; omega
        go_wp2
        go_loopw [29] (fun i wr => ∃ k : Nat, 0 ≤ k ∧ k ≤ xs.length ∧ i = .int .i64 (k : Int) ∧ Grows w1 wr ∧ Blk wr w1.heap.size 29 #[.int .i64 (minTo (xs.map (·.1)) k), .int .i64 (maxTo (xs.map (·.2)) k)]) (fun i _ => xs.length - (intOf i).toNat)
        case atStart => exact ⟨0, Nat.zero_le _, by omega, rfl, (Grows.refl w1).alloc _, by rw [minTo_zero X0.out, maxTo_zero X0.out]; exact Blk.new w1 _ _⟩
        case round =>
          obtain ⟨k, hk0, hk, rfl, hg, hO⟩ := hrel
          have zR0 := hg.keeps _ _ k0
          have zR1 := hg.keeps _ _ k1
          have zf := (HB.out.grows hg).frozen
          have zl := (HB.out.grows hg).lt
          have zO0 : wr.cell? ⟨w1.heap.size, 0, none⟩ = some (.int .i64 (minTo (xs.map (·.1)) k)) := hO.cell 0
          have zO1 : wr.cell? ⟨w1.heap.size, 1, none⟩ = some (.int .i64 (maxTo (xs.map (·.2)) k)) := hO.cell 1
          have zOf := hO.frozen
          have zOl := hO.lt
          have n1 : ¬ b = w1.heap.size := by omega
          have n2 : ¬ w.heap.size = w1.heap.size := by omega
          have HO := hideIt hO
          have HG2 := hideIt hg
          clear hO hg k0 k1 kf hs0 hs1
          by_cases hlt : k < xs.length
          · obtain ⟨x, hx⟩ : ∃ x, xs[k]? = some x := ⟨_, List.getElem?_eq_getElem hlt⟩
            obtain ⟨bq, oq, heq, cs, hl1, hcs, hr1⟩ := HX.out k x hx
            injection heq with heq
            injection heq with e1 e2
            subst e1 e2
            unfold RSpan at hr1
            subst hr1
            have hs0 : wr.cell? ⟨b, off + k * 2, none⟩ = some (.int .i64 x.1) := by simpa [Nat.add_assoc] using HG2.out.keeps _ _ (HG.out.keeps _ _ (hcs 0 _ rfl))
            have hs1 : wr.cell? ⟨b, off + k * 2 + 1, none⟩ = some (.int .i64 x.2) := by simpa [Nat.add_assoc] using HG2.out.keeps _ _ (HG.out.keeps _ _ (hcs 1 _ rfl))
            have lb2 := cell_lt hs0
            simp at lb2
            have X1 := hideIt hx
            clear hcs hl1 hx
            go_wp2_with fail
            refine (hull_any _ _ _ _ _).mono ?_
            rintro e u ⟨rfl, g⟩
            have ga : Hid (Grows wr (wr.alloc (.cells #[.int .i64 x.1, .int .i64 x.2] 29))) := hideIt ((Grows.refl wr).alloc _)
            have gu := hideIt (ga.out.trans g)
            have ho := HO.out.grows gu.out
            have y0 : u.cell? ⟨w1.heap.size, 0, none⟩ = some (.int .i64 (minTo (xs.map (·.1)) k)) := ho.cell 0
            have y1 : u.cell? ⟨w1.heap.size, 1, none⟩ = some (.int .i64 (maxTo (xs.map (·.2)) k)) := ho.cell 1
            have yf := ho.frozen
            have HO2 := hideIt ho
            clear ho g
            rw [← minTo_map X1.out, ← maxTo_map X1.out]
            go_wp2
            go_roundw
            case rel => exact ⟨k + 1, by omega, by omega, by go_num, ((HG2.out.trans gu.out).setCell (by simp <;> omega) _).setCell (by simp <;> omega) _, (HO2.out.set_ 0 _).set_ 1 _⟩
            case measure => simp [intOf]; omega
          · have hk2 : k = xs.length := by omega
            subst hk2
            go_wp2
            refine bodyPost_ret (by simp [*, results, Try.results15, go_sem]; try rfl) rfl ?_
            exact ⟨by rw [E.out], ((HG.out.trans HG2.out).setCell (by simp <;> omega) _).setCell (by simp <;> omega) _⟩
end Go.Proofs.Ytciflcnfimpfgaa
