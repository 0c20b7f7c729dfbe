/-
  The walk of FnExactAddSpans.
-/
import Derived.Test.YtkedpeihdjbldaaSpan
import Derived.Test.YtkedpeihdjbldaaOpenSpan
namespace Go.Proofs.Ytkedpeihdjbldaa
open Go.RowKit
def addV (a b c d : Int) : Int × Int × Int :=
  if spanV a b = true ∧ spanV c d = true then (if spanV (a + c) (b + d) = true then (a + c, b + d, 0) else (0, 0, 2)) else (0, 0, 1)
theorem spanV_bd {a b : Int} (h : spanV a b = true) : (-1000000000 ≤ a ∧ a ≤ 1000000000) ∧ (-1000000000 ≤ b ∧ b ≤ 1000000000) ∧ a ≤ b := by
  simp only [spanV, Bool.and_eq_true, decide_eq_true_eq] at h
  exact ⟨inB_true h.1.1, inB_true h.1.2, h.2⟩
set_option maxHeartbeats 400000 in
theorem sAddSpans_any (a b c d : Int) (w : World) :
    Calls Try.prog 18 #[.agg #[.int .i64 a, .int .i64 b], .agg #[.int .i64 c, .int .i64 d]] w fun e w' => e = .returned (.tuple #[.agg #[.int .i64 (addV a b c d).1, .int .i64 (addV a b c d).2.1], .int .i64 (addV a b c d).2.2]) ∧ Grows w w' := by
  have E : Hid (addV a b c d = if spanV a b = true ∧ spanV c d = true then (if spanV (a + c) (b + d) = true then (a + c, b + d, 0) else (0, 0, 2)) else (0, 0, 1)) := rfl
  cases h1 : spanV a b
  · go_enter Try.func18, Try.ntmps18
    go_wp2_with fail
    refine (sIsSpan_any _ _ _).mono ?_
    rintro e w1 ⟨rfl, g1⟩
    obtain ⟨c1, f1⟩ := g1.cells
    have z2 : w.heap.size + 1 + 1 < w1.heap.size := by have := g1.size; simp at this; omega
    rw [h1]
    go_wp2
    refine bodyPost_ret (by simp [*, results, Try.results18, go_sem]; try rfl) rfl ?_
    exact ⟨by rw [E.out]; simp [h1], (((((Grows.refl _).alloc _).alloc _).alloc _).trans g1).setCell (by simp; omega) _ |>.setCell (by simp; omega) _⟩
  · cases h2 : spanV c d
    · go_enter Try.func18, Try.ntmps18
      go_wp2_with fail
      refine (sIsSpan_any _ _ _).mono ?_
      rintro e w1 ⟨rfl, g1⟩
      obtain ⟨c1, f1⟩ := g1.cells
      have z1 : w.heap.size + 1 < w1.heap.size := by have := g1.size; simp at this; omega
      have z2 : w.heap.size + 1 + 1 < w1.heap.size := by have := g1.size; simp at this; omega
      rw [h1]
      go_wp2_with fail
      refine (sIsSpan_any _ _ _).mono ?_
      rintro e w2 ⟨rfl, g2⟩
      obtain ⟨c2, f2⟩ := g2.cells
      have y2 : w.heap.size + 1 + 1 < w2.heap.size := by have := g2.size; omega
      rw [h2]
      go_wp2
      refine bodyPost_ret (by simp [*, results, Try.results18, go_sem]; try rfl) rfl ?_
      exact ⟨by rw [E.out]; simp [h1, h2], ((((((Grows.refl _).alloc _).alloc _).alloc _).trans g1).trans g2).setCell (by simp; omega) _ |>.setCell (by simp; omega) _⟩
    · obtain ⟨⟨a1, a2⟩, ⟨a3, a4⟩, a5⟩ := spanV_bd h1
      obtain ⟨⟨b1, b2⟩, ⟨b3, b4⟩, b5⟩ := spanV_bd h2
      go_enter Try.func18, Try.ntmps18
      go_wp2_with fail
      refine (sIsSpan_any _ _ _).mono ?_
      rintro e w1 ⟨rfl, g1⟩
      obtain ⟨c1, f1⟩ := g1.cells
      have z0 : w.heap.size < w1.heap.size := by have := g1.size; simp at this; omega
      have z1 : w.heap.size + 1 < w1.heap.size := by have := g1.size; simp at this; omega
      have z2 : w.heap.size + 1 + 1 < w1.heap.size := by have := g1.size; simp at this; omega
      rw [h1]
      go_wp2_with fail
      refine (sIsSpan_any _ _ _).mono ?_
      rintro e w2 ⟨rfl, g2⟩
      obtain ⟨c2, f2⟩ := g2.cells
      have y0 : w.heap.size < w2.heap.size := by have := g2.size; omega
      have y1 : w.heap.size + 1 < w2.heap.size := by have := g2.size; omega
      have y2 : w.heap.size + 1 + 1 < w2.heap.size := by have := g2.size; omega
      rw [h2]
      go_wp2_with fail
      refine (sIsSpan_any _ _ _).mono ?_
      rintro e w3 ⟨rfl, g3⟩
      obtain ⟨c3, f3⟩ := g3.cells
      have x2 : w.heap.size + 1 + 1 < w3.heap.size := by have := g3.size; simp at this; omega
      have x3 : w2.heap.size < w3.heap.size := by have := g3.size; simp at this; omega
      cases h3 : spanV (a + c) (b + d)
      · go_wp2
        refine bodyPost_ret (by simp [*, results, Try.results18, go_sem]; try rfl) rfl ?_
        exact ⟨by rw [E.out]; simp [h1, h2, h3], (((((((Grows.refl _).alloc _).alloc _).alloc _).trans g1).trans g2).alloc _).trans g3 |>.setCell (by simp; omega) _ |>.setCell (by simp; omega) _⟩
      · go_wp2
        refine bodyPost_ret (by simp [*, results, Try.results18, go_sem]; try rfl) rfl ?_
        exact ⟨by rw [E.out]; simp [h1, h2, h3], (((((((Grows.refl _).alloc _).alloc _).alloc _).trans g1).trans g2).alloc _).trans g3 |>.setCell (by simp; omega) _ |>.setCell (by simp; omega) _⟩
-- THE PROGRAM
set_option maxHeartbeats 400000 in
theorem iAddSpans_any (a b c d : Int) (w : World) :
    Calls Try.prog 19 #[.agg #[.int .i64 a, .int .i64 b], .agg #[.int .i64 c, .int .i64 d]] w fun e w' => e = .returned (.tuple #[.agg #[.int .i64 (addV a b c d).1, .int .i64 (addV a b c d).2.1], .int .i64 (addV a b c d).2.2]) ∧ Grows w w' := by
  have E : Hid (addV a b c d = if spanV a b = true ∧ spanV c d = true then (if spanV (a + c) (b + d) = true then (a + c, b + d, 0) else (0, 0, 2)) else (0, 0, 1)) := rfl
  cases h1 : spanV a b
  · go_enter Try.func19, Try.ntmps19
    go_wp2_with fail
    refine (iIsSpan_any _ _ _).mono ?_
    rintro e w1 ⟨rfl, g1⟩
    obtain ⟨c1, f1⟩ := g1.cells
    have z1_0 : w.heap.size < w1.heap.size := by have := g1.size; (try simp at this); omega
    have z1_1 : w.heap.size + 1 < w1.heap.size := by have := g1.size; (try simp at this); omega
    have z1_2 : w.heap.size + 1 + 1 < w1.heap.size := by have := g1.size; (try simp at this); omega
    rw [h1]
    go_wp2
    refine bodyPost_ret (by simp [*, results, Try.results19, go_sem]; try rfl) rfl ?_
    exact ⟨by rw [E.out]; simp [h1], ((((Grows.refl _).alloc _).alloc _).alloc _).trans g1 |>.setCell (by simp; omega) _ |>.setCell (by simp; omega) _⟩
  · cases h2 : spanV c d
    · go_enter Try.func19, Try.ntmps19
      go_wp2_with fail
      refine (iIsSpan_any _ _ _).mono ?_
      rintro e w1 ⟨rfl, g1⟩
      obtain ⟨c1, f1⟩ := g1.cells
      have z1_0 : w.heap.size < w1.heap.size := by have := g1.size; (try simp at this); omega
      have z1_1 : w.heap.size + 1 < w1.heap.size := by have := g1.size; (try simp at this); omega
      have z1_2 : w.heap.size + 1 + 1 < w1.heap.size := by have := g1.size; (try simp at this); omega
      rw [h1]
      go_wp2_with fail
      refine (iIsSpan_any _ _ _).mono ?_
      rintro e w2 ⟨rfl, g2⟩
      obtain ⟨c2, f2⟩ := g2.cells
      have z2_0 : w.heap.size < w2.heap.size := by have := g2.size; (try simp at this); omega
      have z2_1 : w.heap.size + 1 < w2.heap.size := by have := g2.size; (try simp at this); omega
      have z2_2 : w.heap.size + 1 + 1 < w2.heap.size := by have := g2.size; (try simp at this); omega
      rw [h2]
      go_wp2
      refine bodyPost_ret (by simp [*, results, Try.results19, go_sem]; try rfl) rfl ?_
      exact ⟨by rw [E.out]; simp [h1, h2], (((((Grows.refl _).alloc _).alloc _).alloc _).trans g1).trans g2 |>.setCell (by simp; omega) _ |>.setCell (by simp; omega) _⟩
    · obtain ⟨a1, a2, a5⟩ := spanV_bd h1
      obtain ⟨b1, b2, b5⟩ := spanV_bd h2
      have A1 := hideIt a1
      have A2 := hideIt a2
      have B1 := hideIt b1
      have B2 := hideIt b2
      clear a1 a2 a5 b1 b2 b5
      go_enter Try.func19, Try.ntmps19
      go_wp2_with fail
      refine (iIsSpan_any _ _ _).mono ?_
      rintro e w1 ⟨rfl, g1⟩
      obtain ⟨c1, f1⟩ := g1.cells
      have z1_0 : w.heap.size < w1.heap.size := by have := g1.size; (try simp at this); omega
      have z1_1 : w.heap.size + 1 < w1.heap.size := by have := g1.size; (try simp at this); omega
      have z1_2 : w.heap.size + 1 + 1 < w1.heap.size := by have := g1.size; (try simp at this); omega
      rw [h1]
      go_wp2_with fail
      refine (iIsSpan_any _ _ _).mono ?_
      rintro e w2 ⟨rfl, g2⟩
      obtain ⟨c2, f2⟩ := g2.cells
      have z2_0 : w.heap.size < w2.heap.size := by have := g2.size; (try simp at this); omega
      have z2_1 : w.heap.size + 1 < w2.heap.size := by have := g2.size; (try simp at this); omega
      have z2_2 : w.heap.size + 1 + 1 < w2.heap.size := by have := g2.size; (try simp at this); omega
      rw [h2]
      go_wp2_with fail
      refine (plus_any _ _ _ _ _ A1.out A2.out B1.out B2.out).mono ?_
      rintro e w3 ⟨rfl, g3⟩
      obtain ⟨c3, f3⟩ := g3.cells
      have z3_0 : w.heap.size < w3.heap.size := by have := g3.size; (try simp at this); omega
      have z3_1 : w.heap.size + 1 < w3.heap.size := by have := g3.size; (try simp at this); omega
      have z3_2 : w.heap.size + 1 + 1 < w3.heap.size := by have := g3.size; (try simp at this); omega
      go_wp2_with fail
      refine (iIsSpan_any _ _ _).mono ?_
      rintro e w4 ⟨rfl, g4⟩
      obtain ⟨c4, f4⟩ := g4.cells
      have z4_0 : w.heap.size < w4.heap.size := by have := g4.size; (try simp at this); omega
      have z4_1 : w.heap.size + 1 < w4.heap.size := by have := g4.size; (try simp at this); omega
      have z4_2 : w.heap.size + 1 + 1 < w4.heap.size := by have := g4.size; (try simp at this); omega
      cases h3 : spanV (a + c) (b + d)
      · go_wp2
        refine bodyPost_ret (by simp [*, results, Try.results19, go_sem]; try rfl) rfl ?_
        exact ⟨by rw [E.out]; simp [h1, h2, h3], (((((((Grows.refl _).alloc _).alloc _).alloc _).trans g1).trans g2).trans g3).trans g4 |>.setCell (by simp; omega) _ |>.setCell (by simp; omega) _⟩
      · go_wp2_with fail
        refine (plus_any _ _ _ _ _ A1.out A2.out B1.out B2.out).mono ?_
        rintro e w5 ⟨rfl, g5⟩
        obtain ⟨c5, f5⟩ := g5.cells
        have z5_0 : w.heap.size < w5.heap.size := by have := g5.size; (try simp at this); omega
        have z5_1 : w.heap.size + 1 < w5.heap.size := by have := g5.size; (try simp at this); omega
        have z5_2 : w.heap.size + 1 + 1 < w5.heap.size := by have := g5.size; (try simp at this); omega
        go_wp2
        refine bodyPost_ret (by simp [*, results, Try.results19, go_sem]; try rfl) rfl ?_
        exact ⟨by rw [E.out]; simp [h1, h2, h3], ((((((((Grows.refl _).alloc _).alloc _).alloc _).trans g1).trans g2).trans g3).trans g4).trans g5 |>.setCell (by simp; omega) _ |>.setCell (by simp; omega) _⟩
-- THE LAW
/-- a span's variable, made behind W -/
def MadeSpan (W w' : World) (p : Value) (x y : Int) : Prop :=
  ∃ k : Nat, p = .pointer (some ⟨k, 0, none⟩) ∧ W.heap.size ≤ k ∧ k < w'.heap.size ∧ w'.cell? ⟨k, 0, none⟩ = some (.int .i64 x) ∧ w'.cell? ⟨k, 1, none⟩ = some (.int .i64 y) ∧ Grows W w'
set_option maxHeartbeats 2000000 in
theorem walk_FnExactAddSpans {p q : Int × Int} {v1 v2 : Value} (hp : v1 = .agg #[.int .i64 p.1, .int .i64 p.2]) (hq : v2 = .agg #[.int .i64 q.1, .int .i64 q.2]) (w : World) :
    Calls Try.prog 8 #[v1, v2] w fun e w' => e = .returned (.bool true) ∧ Below w.heap.size w w' := by
  subst hp hq
  obtain ⟨a, b⟩ := p
  obtain ⟨c, d⟩ := q
  generalize hv : addV a b c d = v
  have E : Hid (addV a b c d = v) := hv
  clear hv
  obtain ⟨v1, v2, v3⟩ := v
  dsimp only
  have K0 : ∀ w', Grows ((w.alloc (.cells #[.int .i64 a, .int .i64 b] 24)).alloc (.cells #[.int .i64 c, .int .i64 d] 24)) w' → w'.cell? ⟨w.heap.size, 0, none⟩ = some (.int .i64 a) ∧ w'.cell? ⟨w.heap.size, 1, none⟩ = some (.int .i64 b) ∧ w'.cell? ⟨w.heap.size + 1, 0, none⟩ = some (.int .i64 c) ∧ w'.cell? ⟨w.heap.size + 1, 1, none⟩ = some (.int .i64 d) ∧ Grows ((w.alloc (.cells #[.int .i64 a, .int .i64 b] 24)).alloc (.cells #[.int .i64 c, .int .i64 d] 24)) w' := fun w' G => ⟨(G.cells.1 _ _ (by simp <;> omega)).trans (by simp), (G.cells.1 _ _ (by simp <;> omega)).trans (by simp), (G.cells.1 _ _ (by simp <;> omega)).trans (by simp), (G.cells.1 _ _ (by simp <;> omega)).trans (by simp), G⟩
  have HK := hideIt K0
  clear K0
  have gg : Grows ((w.alloc (.cells #[.int .i64 a, .int .i64 b] 24)).alloc (.cells #[.int .i64 c, .int .i64 d] 24)) ((w.alloc (.cells #[.int .i64 a, .int .i64 b] 24)).alloc (.cells #[.int .i64 c, .int .i64 d] 24)) := Grows.refl _
  go_enter Try.func8, Try.ntmps8
  go_upto_region 1 with fail
  go_cut [5, 6] (fun s5 s6 wx => MadeSpan ((w.alloc (.cells #[.int .i64 a, .int .i64 b] 24)).alloc (.cells #[.int .i64 c, .int .i64 d] 24)) wx s5 v1 v2 ∧ s6 = .int .i64 v3)
  case first =>
    go_region_held3 (fun w' => w'.cell? ⟨w.heap.size, 0, none⟩ = some (.int .i64 a) ∧ w'.cell? ⟨w.heap.size, 1, none⟩ = some (.int .i64 b) ∧ w'.cell? ⟨w.heap.size + 1, 0, none⟩ = some (.int .i64 c) ∧ w'.cell? ⟨w.heap.size + 1, 1, none⟩ = some (.int .i64 d) ∧ Grows ((w.alloc (.cells #[.int .i64 a, .int .i64 b] 24)).alloc (.cells #[.int .i64 c, .int .i64 d] 24)) w')
    ((refine HK.out _ ?_; (repeat (first | exact gg | refine Grows.drew ?_ | refine Grows.alloc ?_ _ | refine Grows.setCell ?_ (by simp <;> omega) _))))
    (first | (go_at_call 10; refine (toSpan_any _ _ _).mono ?_; rintro e wx ⟨rfl, g⟩; obtain ⟨hc, hf⟩ := g.cells; have zt := fun (n : Nat) (h : n < _) => Nat.lt_of_lt_of_le h g.size; have zg := g.size; (try simp at zg); (try replace zg := Nat.lt_of_succ_le zg); replace gg : Grows ((w.alloc (.cells #[.int .i64 a, .int .i64 b] 24)).alloc (.cells #[.int .i64 c, .int .i64 d] 24)) wx := Grows.trans (by (repeat (first | exact gg | refine Grows.drew ?_ | refine Grows.alloc ?_ _ | refine Grows.setCell ?_ (by simp <;> omega) _))) g; have zz0 : w.heap.size < wx.heap.size := (by have := gg.size; (try simp at this); omega); have zz1 : w.heap.size + 1 < wx.heap.size := (by have := gg.size; (try simp at this); omega); (try (have zq : w.heap.size + 1 + 1 < wx.heap.size := (by have := g.size; (try simp at this); omega)))) | (go_at_call 18; refine (sAddSpans_any _ _ _ _ _).mono ?_; rintro e wx ⟨rfl, g⟩; obtain ⟨hc, hf⟩ := g.cells; have zt := fun (n : Nat) (h : n < _) => Nat.lt_of_lt_of_le h g.size; have zg := g.size; (try simp at zg); (try replace zg := Nat.lt_of_succ_le zg); replace gg : Grows ((w.alloc (.cells #[.int .i64 a, .int .i64 b] 24)).alloc (.cells #[.int .i64 c, .int .i64 d] 24)) wx := Grows.trans (by (repeat (first | exact gg | refine Grows.drew ?_ | refine Grows.alloc ?_ _ | refine Grows.setCell ?_ (by simp <;> omega) _))) g; have zz0 : w.heap.size < wx.heap.size := (by have := gg.size; (try simp at this); omega); have zz1 : w.heap.size + 1 < wx.heap.size := (by have := gg.size; (try simp at this); omega); (try (have zq : w.heap.size + 1 + 1 < wx.heap.size := (by have := g.size; (try simp at this); omega))); rw [E.out]))
    all_goals (go_wp2_with fail; go_meet; refine ⟨⟨_, rfl, ?_, ?_, ?_, ?_, ?_⟩, rfl⟩)
    all_goals first | (simp; done) | (simp; omega) | (go_simp; done) | (repeat (first | exact gg | refine Grows.drew ?_ | refine Grows.alloc ?_ _ | refine Grows.setCell ?_ (by simp <;> omega) _))
  case rest =>
    obtain ⟨⟨k1, rfl, hk1, hk2, hk3, hk4, gg⟩, rfl⟩ := hcut
    obtain ⟨w1, rfl⟩ : ∃ x : World, x = wc := ⟨_, rfl⟩
    have G1 := hideIt gg
    have z0 : w.heap.size < w1.heap.size := by have := gg.size; simp at this; omega
    have z1 : w.heap.size + 1 < w1.heap.size := by have := gg.size; simp at this; omega
    have q0 : w1.cell? ⟨w.heap.size, 0, none⟩ = some (.int .i64 a) := (gg.cells.1 _ _ (by simp <;> omega)).trans (by simp)
    have q1 : w1.cell? ⟨w.heap.size, 1, none⟩ = some (.int .i64 b) := (gg.cells.1 _ _ (by simp <;> omega)).trans (by simp)
    have q2 : w1.cell? ⟨w.heap.size + 1, 0, none⟩ = some (.int .i64 c) := (gg.cells.1 _ _ (by simp <;> omega)).trans (by simp)
    have q3 : w1.cell? ⟨w.heap.size + 1, 1, none⟩ = some (.int .i64 d) := (gg.cells.1 _ _ (by simp <;> omega)).trans (by simp)
    clear gg HK
    have K0 : ∀ w', Grows (w1) w' → w'.cell? ⟨w.heap.size, 0, none⟩ = some (.int .i64 a) ∧ w'.cell? ⟨w.heap.size, 1, none⟩ = some (.int .i64 b) ∧ w'.cell? ⟨w.heap.size + 1, 0, none⟩ = some (.int .i64 c) ∧ w'.cell? ⟨w.heap.size + 1, 1, none⟩ = some (.int .i64 d) ∧ Grows (w1) w' := fun w' G => ⟨(G.cells.1 _ _ z0).trans q0, (G.cells.1 _ _ z0).trans q1, (G.cells.1 _ _ z1).trans q2, (G.cells.1 _ _ z1).trans q3, G⟩
    have HK := hideIt K0
    clear K0
    have gg : Grows (w1) (w1) := Grows.refl _
    go_upto_region 2 with fail
    go_cut [7, 8] (fun s7 s8 wx => MadeSpan w1 wx s7 v1 v2 ∧ s8 = .int .i64 v3)
    case first =>
      go_region_held3 (fun w' => w'.cell? ⟨w.heap.size, 0, none⟩ = some (.int .i64 a) ∧ w'.cell? ⟨w.heap.size, 1, none⟩ = some (.int .i64 b) ∧ w'.cell? ⟨w.heap.size + 1, 0, none⟩ = some (.int .i64 c) ∧ w'.cell? ⟨w.heap.size + 1, 1, none⟩ = some (.int .i64 d) ∧ Grows (w1) w')
    ((refine HK.out _ ?_; (repeat (first | exact gg | refine Grows.drew ?_ | refine Grows.alloc ?_ _ | refine Grows.setCell ?_ (by simp <;> omega) _))))
    (first | (go_at_call 10; refine (toSpan_any _ _ _).mono ?_; rintro e wx ⟨rfl, g⟩; obtain ⟨hc, hf⟩ := g.cells; have zt := fun (n : Nat) (h : n < _) => Nat.lt_of_lt_of_le h g.size; have zg := g.size; (try simp at zg); (try replace zg := Nat.lt_of_succ_le zg); replace gg : Grows (w1) wx := Grows.trans (by (repeat (first | exact gg | refine Grows.drew ?_ | refine Grows.alloc ?_ _ | refine Grows.setCell ?_ (by simp <;> omega) _))) g; have zz0 : w.heap.size < wx.heap.size := (by have := gg.size; (try simp at this); omega); have zz1 : w.heap.size + 1 < wx.heap.size := (by have := gg.size; (try simp at this); omega); (try (have zq : w1.heap.size < wx.heap.size := (by have := g.size; (try simp at this); omega)))) | (go_at_call 19; refine (iAddSpans_any _ _ _ _ _).mono ?_; rintro e wx ⟨rfl, g⟩; obtain ⟨hc, hf⟩ := g.cells; have zt := fun (n : Nat) (h : n < _) => Nat.lt_of_lt_of_le h g.size; have zg := g.size; (try simp at zg); (try replace zg := Nat.lt_of_succ_le zg); replace gg : Grows (w1) wx := Grows.trans (by (repeat (first | exact gg | refine Grows.drew ?_ | refine Grows.alloc ?_ _ | refine Grows.setCell ?_ (by simp <;> omega) _))) g; have zz0 : w.heap.size < wx.heap.size := (by have := gg.size; (try simp at this); omega); have zz1 : w.heap.size + 1 < wx.heap.size := (by have := gg.size; (try simp at this); omega); (try (have zq : w1.heap.size < wx.heap.size := (by have := g.size; (try simp at this); omega))); rw [E.out]))
      all_goals (go_wp2_with fail; go_meet; refine ⟨⟨_, rfl, ?_, ?_, ?_, ?_, ?_⟩, rfl⟩)
      all_goals first | (simp; done) | (simp; omega) | omega | (go_simp; done) | (repeat (first | exact gg | refine Grows.drew ?_ | refine Grows.alloc ?_ _ | refine Grows.setCell ?_ (by simp <;> omega) _))
    case rest =>
      obtain ⟨⟨k2, rfl, hk5, hk6, hk7, hk8, g2⟩, rfl⟩ := hcut
      have q4 : wc.cell? ⟨k1, 0, none⟩ = some (.int .i64 v1) := (g2.cells.1 _ _ (by omega)).trans hk3
      have q5 : wc.cell? ⟨k1, 1, none⟩ = some (.int .i64 v2) := (g2.cells.1 _ _ (by omega)).trans hk4
      go_wp2_with (go_at_call 20; refine (eqSpan_any _ _ _ _ _).mono ?_; rintro e wx ⟨rfl, g3⟩)
      go_ret
      exact ⟨rfl, Grows.below ((((((Grows.refl _).alloc _).alloc _).trans G1.out).trans g2).trans g3)⟩
end Go.Proofs.Ytkedpeihdjbldaa
