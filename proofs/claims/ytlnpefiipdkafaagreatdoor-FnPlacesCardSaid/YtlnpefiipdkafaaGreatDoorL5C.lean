/-
  A drawn design's instances and nets when they no longer grow.
-/
import Derived.Test.YtlnpefiipdkafaaGreatDoorL5A
namespace Go.Proofs.YtlnpefiipdkafaaGreatDoor
open Go.RowKit
/-- instances, all known, and nets whose row may grow -/
def DF (Q : Nat → Prop) (w : World) (vi : Value) (xs : List InstD) (vn : Value) (ns : List ByteArray) : Prop :=
  ∃ bi, OList 3 72 OInstB w vi xs bi ∧ RStrW w vn ns [] ∧ OwnQ Q w.heap.size (vn.ownBlock.toList ++ bi)
section
variable {Q : Nat → Prop} {w w' : World} {vi vn : Value} {xs : List InstD} {ns : List ByteArray}
theorem DSt.df (h : DSt Q w vi xs vn ns) : DF Q w vi xs vn ns := by
  obtain ⟨r, h1, h2, h3⟩ := h
  exact ⟨_, RW.list h1, h2, h3⟩
theorem DF.same (h : DF Q w vi xs vn ns) (g : ∀ q, Q q → q < w.heap.size → w'.heap[q]? = w.heap[q]?) : DF Q w' vi xs vn ns := by
  obtain ⟨bi, h1, h2, h3⟩ := h
  have key : ∀ bs : List Nat, (∀ q ∈ bs, q ∈ vn.ownBlock.toList ++ bi) → SameOn bs w w' := fun bs hs q hq => g q (h3.2 q (hs q hq)).1 (h3.2 q (hs q hq)).2
  exact ⟨bi, OList.same h1 (key _ fun q hq => List.mem_append_right _ hq) (fun _ _ _ h g => h.same g), RW.keep h2 (key _ fun q hq => List.mem_append_left _ (by simpa using hq)) (fun _ _ _ h _ => h), h3.1, fun q hq => ⟨(h3.2 q hq).1, SameOn.size_lt (key _ fun q hq => hq) hq (h3.2 q hq).2⟩⟩
theorem DF.next {ds : List Nat} (h : DF Q w vi xs vn ns) (c : Chg ds w w') (hd : ∀ g ∈ ds, ¬ Q g) : DF Q w' vi xs vn ns :=
  h.same fun q hq hl => c.block q hl fun hm => hd q hm hq
theorem DF.imp {Q' : Nat → Prop} (h : DF Q w vi xs vn ns) (hq : ∀ g, g < w.heap.size → Q g → Q' g) : DF Q' w vi xs vn ns := by
  obtain ⟨bi, h1, h2, h3⟩ := h
  exact ⟨bi, h1, h2, h3.1, fun g hg => ⟨hq g (h3.2 g hg).2 (h3.2 g hg).1, (h3.2 g hg).2⟩⟩
theorem DF.slices (h : DF Q w vi xs vn ns) : (∃ (A : Option Addr) (c : Nat), vi = .slice A xs.length c) ∧ ∃ (A : Option Addr) (c : Nat), vn = .slice A ns.length c := by
  obtain ⟨bi, h1, h2, _⟩ := h
  refine ⟨?_, RW.slice h2⟩
  have := RList.form (OList.reads (R := RInst) h1 fun _ _ _ h => h.1.reads)
  obtain ⟨A, c, e, -⟩ := this
  exact ⟨A, c, e⟩
theorem DF.reads (h : DF Q w vi xs vn ns) : RInsts w vi xs ∧ RStrs w vn ns := by
  obtain ⟨bi, h1, h2, _⟩ := h
  exact ⟨OList.reads h1 fun _ _ _ h => h.1.reads, OList.reads (RW.list h2) fun _ _ _ h => ⟨h.1, by have := h.2.1; unfold maxLen; omega⟩⟩
theorem DF.small (h : DF Q w vi xs vn ns) : (∀ x ∈ xs, (1 ≤ x.nets.length ∧ x.nets.length ≤ 8) ∧ x.name.size ≤ 100) ∧ ∀ s ∈ ns, s.size ≤ 100 := by
  obtain ⟨bi, h1, h2, _⟩ := h
  refine ⟨?_, ?_⟩
  · intro x hx
    obtain ⟨i, hi⟩ := List.getElem?_of_mem hx
    rcases h1 with ⟨_, rfl, _⟩ | ⟨g, c, cs, bss, hv, _, _, _, _, _, hc⟩
    · cases hx
    · obtain ⟨es, b, _, _, _, e4⟩ := hc i x hi
      exact e4.2
  · obtain ⟨bss, ⟨cells, _, hE, _⟩, _⟩ := h2
    have h3 : Els 1 (fun w es x b => OStrB w es x b ∧ x.size ≤ 100) w cells ns bss := hE.mono (O' := fun w es x b => OStrB w es x b ∧ x.size ≤ 100) fun es x b _ ho => ⟨ho, ho.2.1⟩
    exact h3.all
/-- one instance's cells, and what is left when a cell of it, or its first net, turns -/
theorem DF.inst {i : Nat} (h : DF Q w vi xs vn ns) (hi : i < xs.length) : ∃ (gi ci gn cn : Nat) (x : InstD) (n0 : Int), vi = .slice (some ⟨gi, 0, none⟩) xs.length ci ∧ xs[i]? = some x ∧ (Q gi ∧ gi < w.heap.size ∧ ∀ o, w.frozen? ⟨gi, o, none⟩ = false) ∧ (Q gn ∧ gn < w.heap.size ∧ ∀ o, w.frozen? ⟨gn, o, none⟩ = false) ∧ gi ≠ gn ∧ 1 ≤ x.nets.length ∧
    (w.cell? ⟨gi, i * 3, none⟩ = some (.string x.name) ∧ w.cell? ⟨gi, i * 3 + 1, none⟩ = some (.int .i64 x.cell) ∧ w.cell? ⟨gi, i * 3 + 2, none⟩ = some (.slice (some ⟨gn, 0, none⟩) x.nets.length cn) ∧ w.cell? ⟨gn, 0, none⟩ = some (.int .i64 n0)) ∧
    (∀ (z : Int), DF Q (w.setCell ⟨gn, 0, none⟩ (.int .i64 z)) vi (xs.set i { x with nets := x.nets.set 0 z }) vn ns) ∧
    ∀ (j : Nat) (v : Value) (y : InstD), j < 2 → (∀ d : Value, [Value.string x.name, .int .i64 x.cell, d].set j v = [.string y.name, .int .i64 y.cell, d]) → y.nets = x.nets → y.name.size ≤ 100 → DF Q (w.setCell ⟨gi, i * 3 + j, none⟩ v) vi (xs.set i y) vn ns := by
  obtain ⟨bi, h1, h2, h3⟩ := h
  obtain ⟨x, hx⟩ : ∃ x, xs[i]? = some x := ⟨_, List.getElem?_eq_getElem hi⟩
  have hnb := h3.right.1
  obtain ⟨gi, ci, hv, hg, _, _, hgl, hgf, -⟩ := OList.rowAt h1 (by omega)
  obtain ⟨g', c', cs, es, b, hv', hB, hgm, hgb, hbs, hbn, hel, hes, ho, FIN⟩ := OList.turn (O' := OInstB) h1 hnb hx
  rw [hv] at hv'
  injection hv' with q1 q2 q3
  injection q1 with q1
  injection q1 with q1
  subst q1 q3
  have ho' := ho
  obtain ⟨⟨vv, b2, rfl, hz, hI, rfl⟩, hlen, hns⟩ := ho
  obtain ⟨gn, cn, n0s, rfl, hbe, l1, l2, hBn, l3, hat⟩ := hI.row hlen.1
  subst hbe
  obtain ⟨n0, hn0⟩ : ∃ n0, x.nets[0]? = some n0 := ⟨_, List.getElem?_eq_getElem (by omega)⟩
  have hgn : gn ∈ bi := hbs gn (by simp)
  have qi := h3.2 gi (List.mem_append_right _ hgm)
  have qn := h3.2 gn (List.mem_append_right _ hgn)
  have hne : gi ≠ gn := fun e => hgb (by simp [e])
  have hvn : ∀ q ∈ bi, ∀ k ∈ vn.ownBlock.toList, k ≠ q := fun q hq k hk e => by
    have hn := h3.1
    rw [List.nodup_append] at hn
    exact hn.2.2 k hk q hq e
  refine ⟨gi, ci, gn, cn, x, n0, hv, hx, ⟨qi.1, qi.2, hgf⟩, ⟨qn.1, qn.2, hBn.frozen⟩, hne, hlen.1, ⟨by rw [hB.cell]; simpa using hes 0 _ rfl, by rw [hB.cell]; exact hes 1 _ rfl, by rw [hB.cell]; exact hes 2 _ rfl, hI.at hn0⟩, fun z => ?_, fun j v y hj hy hyn hyz => ?_⟩
  · have hc : Chg [gn] w (w.setCell ⟨gn, 0, none⟩ (.int .i64 z)) := (Chg.refl _ _).setCell (by simp) _
    obtain ⟨bi', hL, hm⟩ := FIN (w.setCell ⟨gn, 0, none⟩ (.int .i64 z)) cs _ { x with nets := x.nets.set 0 z } [gn] (hB.chg hc (by simpa using hne)) (fun _ _ => rfl) hel hes
      ⟨⟨_, _, rfl, hz, hI.set_ (by omega) z, rfl⟩, by simpa using hlen, hns⟩ (fun es y d hd hy => hy.same (hc.same (fun q hq => (h3.2 q (List.mem_append_right _ (hd q hq).1)).2) (fun q hq hmm => (hd q hq).2.1 hmm)))
    have hsub : ∀ q ∈ bi', q ∈ bi := fun q hq => by
      rcases hm q hq with h | h
      · exact h
      · simp at h; subst h; exact hgn
    have hbi' : OList 3 72 OInstB (w.setCell ⟨gn, 0, none⟩ (.int .i64 z)) vi (xs.set i { x with nets := x.nets.set 0 z }) bi := by
      rcases h1 with ⟨e, _, _⟩ | ⟨g2, c2, cs2, bss, e2, k1, k2, kb, kl, kbs, kc⟩
      · rw [hv] at e; cases e
      · have e2' := e2
        rw [hv] at e2'
        injection e2' with q1 q2 q3
        injection q1 with q1
        injection q1 with q1
        subst q1 q3
        refine .inr ⟨gi, ci, cs2, bss, by rw [List.length_set]; exact e2, by rw [List.length_set]; exact k1, k2, kb.chg hc (by simpa using hne), by rw [List.length_set]; exact kl, kbs, fun m y hy => ?_⟩
        by_cases hmi : m = i
        · subst hmi
          rw [List.getElem?_set_self hi] at hy
          injection hy with hy
          subst hy
          obtain ⟨es', b', f1, f2, f3, f4⟩ := kc m x hx
          obtain ⟨⟨vv', b2', rfl, _, hI', rfl⟩, _, _⟩ := f4
          have hvv : vv' = .slice (some ⟨gn, 0, none⟩) x.nets.length cn := by
            have z1 := f2 2 _ rfl
            rw [← kb.cell, hB.cell, hes 2 _ rfl] at z1
            injection z1 with z1
            exact z1.symm
          subst hvv
          obtain ⟨g9, _, _, e9, eb9, -⟩ := hI'.row hlen.1
          injection e9 with e9
          injection e9 with e9
          injection e9 with e9
          subst e9 eb9
          exact ⟨_, _, f1, f2, f3, ⟨_, _, rfl, hz, hI.set_ (by omega) z, rfl⟩, by simpa using hlen, hns⟩
        · rw [List.getElem?_set_ne (fun q => hmi q.symm)] at hy
          obtain ⟨es', b', f1, f2, f3, f4⟩ := kc m y hy
          refine ⟨es', b', f1, f2, f3, f4.same (hc.same (fun q hq => ?_) (fun q hq hmm => ?_))⟩
          · exact (h3.2 q (List.mem_append_right _ (by rw [kbs]; exact List.mem_cons_of_mem _ (List.mem_flatten.2 ⟨b', List.mem_of_getElem? f3, hq⟩)))).2
          · simp at hmm
            subst hmm
            obtain ⟨es0, b0, r1, r2, r3, r4⟩ := kc i x hx
            obtain ⟨⟨vv', b2', rfl, _, hI', rfl⟩, _, _⟩ := r4
            have hvv : vv' = .slice (some ⟨q, 0, none⟩) x.nets.length cn := by
              have z1 := r2 2 _ rfl
              rw [← kb.cell, hB.cell, hes 2 _ rfl] at z1
              injection z1 with z1
              exact z1.symm
            subst hvv
            obtain ⟨g9, _, _, e9, eb9, -⟩ := hI'.row hlen.1
            injection e9 with e9
            injection e9 with e9
            injection e9 with e9
            subst e9 eb9
            have hnd := hnb
            rw [kbs, List.nodup_cons] at hnd
            have hp := List.pairwise_flatten.1 hnd.2
            obtain ⟨i1, i2⟩ := List.getElem?_eq_some_iff.1 f3
            obtain ⟨j1, j2⟩ := List.getElem?_eq_some_iff.1 r3
            rcases Nat.lt_or_gt_of_ne hmi with hlt | hgt
            · have := (List.pairwise_iff_getElem.1 hp.2) m i i1 j1 hlt
              rw [i2, j2] at this
              exact this _ hq _ (by simp) rfl
            · have := (List.pairwise_iff_getElem.1 hp.2) i m j1 i1 hgt
              rw [i2, j2] at this
              exact this _ (by simp) _ hq rfl
    refine ⟨bi, hbi', RW.keep h2 (hc.same (fun q hq => (h3.2 q (List.mem_append_left _ (by simpa using hq))).2) (fun q hq hmm => by simp at hmm; subst hmm; exact hvn _ hgn _ (by simpa using hq) rfl)) (fun _ _ _ h _ => h), h3.mono hc.size⟩
  · have hc : Chg [gi] w (w.setCell ⟨gi, i * 3 + j, none⟩ v) := (Chg.refl _ _).setCell (by simp) _
    have h1' := h1
    rw [hv] at h1'
    have key := OList.put (i := i) (j := j) (u := v) (x' := y) h1' hnb (by omega) hx (fun es b hh => by
      obtain ⟨⟨vv, b2, rfl, _, hI2, rfl⟩, _, _⟩ := hh
      exact ⟨⟨vv, b, hy vv, by unfold maxLen; omega, by rw [hyn]; exact hI2, rfl⟩, by rw [hyn]; exact hlen, hyz⟩) (fun _ _ _ h g => h.same g)
    refine ⟨bi, by rw [hv]; exact key, RW.keep h2 (hc.same (fun q hq => (h3.2 q (List.mem_append_left _ (by simpa using hq))).2) (fun q hq hmm => by simp at hmm; subst hmm; exact hvn _ hgm _ (by simpa using hq) rfl)) (fun _ _ _ h _ => h), h3.mono hc.size⟩
end
end Go.Proofs.YtlnpefiipdkafaaGreatDoor
