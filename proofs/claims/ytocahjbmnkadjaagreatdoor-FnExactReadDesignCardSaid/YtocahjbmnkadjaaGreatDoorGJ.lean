/-
  A region that draws its order, walked operation by operation in the text's order: what reads is taken, what is not wanted is passed over, calls are carried out one by one.
-/
import Derived.Test.YtocahjbmnkadjaaGreatDoorGA
import Derived.Test.YtocahjbmnkadjaaGreatDoorGI
import Derived.Test.YtocahjbmnkadjaaGreatDoorGG
namespace Go.Proofs.YtocahjbmnkadjaaGreatDoor
open Go.RowKit
section
variable {P : Program} {l : List Oper} {Q : Exit → Act → World → Prop} {S : World → Prop}
theorem regTake (i : Nat) {oi : Oper} {v : Value} {fuel : Nat} {listed : Array Bool} {a : Act} {w : World}
    (hv : ∀ w, S w → (execOp a.eval oi).run P w = .ok (.value v) w) (hS : S w)
    (h : wpAnyH P .any l.toArray Q S fuel (listed.setIfInBounds i true) (a.put oi.dst v) w) (hi : l[i]? = some oi := by rfl)
    (hs : Region.noSelect l.toArray = true := by kernel_rfl) (hf : Region.free .any l.toArray listed i = true := by kernel_rfl) (hr : (Region.ready .any l.toArray listed).contains i = true := by kernel_rfl)
    (hQ : ∀ c a w, Q (.panic c) (a.put oi.dst v) w → Q (.panic c) a w := by exact fun _ _ _ h => h) (hw : Region.wanted oi (yielded l.toArray a.tmps) = true := by rfl) : wpAnyH P .any l.toArray Q S (fuel + 1) listed a w :=
  wpAnyH_take (by simpa using hi) hs hf hr hQ (Or.inl ⟨hw, hv⟩) hS h
theorem regSkip (i : Nat) {oi : Oper} {fuel : Nat} {listed : Array Bool} {a : Act} {w : World} (hS : S w)
    (h : wpAnyH P .any l.toArray Q S fuel (listed.setIfInBounds i true) (a.put oi.dst undef) w) (hi : l[i]? = some oi := by rfl)
    (hs : Region.noSelect l.toArray = true := by kernel_rfl) (hf : Region.free .any l.toArray listed i = true := by kernel_rfl) (hr : (Region.ready .any l.toArray listed).contains i = true := by kernel_rfl)
    (hQ : ∀ c a w, Q (.panic c) (a.put oi.dst undef) w → Q (.panic c) a w := by exact fun _ _ _ h => h) (hw : Region.wanted oi (yielded l.toArray a.tmps) = false := by rfl) : wpAnyH P .any l.toArray Q S (fuel + 1) listed a w :=
  wpAnyH_take (by simpa using hi) hs hf hr hQ (Or.inr ⟨hw, rfl⟩) hS h
theorem regCall (i : Nat) {o : Oper} {fuel : Nat} {listed : Array Bool} {a : Act} {w : World}
    (h : ∀ K' : Act → World → Prop, Shut (∀ a w, S w → (S w → wpAnyH P .any l.toArray Q S fuel (listed.setIfInBounds i true) a w) → K' a w) → Oper.wp P o a w K' Q) (hi : l[i]? = some o := by rfl) (hr : Region.ready .any l.toArray listed = [i] := by kernel_rfl)
    (hw : Region.wanted o (yielded l.toArray a.tmps) = true := by rfl) : wpAnyH P .any l.toArray Q S (fuel + 1) listed a w := by
  refine wpAnyH_ready hr (by simp) (AllReadyH.cons (o := o) (by simpa using hi) (fun K hK => ?_) AllReadyH.nil)
  rw [if_pos hw]
  exact h K hK
end
end Go.Proofs.YtocahjbmnkadjaaGreatDoor
/-
  A drawn region in which two operations may come up: both ways.
-/
namespace Go.Proofs.YtocahjbmnkadjaaGreatDoor
open Go.RowKit
section
variable {P : Program} {l : List Oper} {Q : Exit → Act → World → Prop} {S : World → Prop}
theorem regCall2 (i j : Nat) {o p : Oper} {fuel : Nat} {listed : Array Bool} {a : Act} {w : World}
    (h : ∀ K' : Act → World → Prop, Shut (∀ a w, S w → (S w → wpAnyH P .any l.toArray Q S fuel (listed.setIfInBounds i true) a w) → K' a w) → Oper.wp P o a w K' Q)
    (h2 : ∀ K' : Act → World → Prop, Shut (∀ a w, S w → (S w → wpAnyH P .any l.toArray Q S fuel (listed.setIfInBounds j true) a w) → K' a w) → Oper.wp P p a w K' Q)
    (hi : l[i]? = some o := by rfl) (hj : l[j]? = some p := by rfl) (hr : Region.ready .any l.toArray listed = [i, j] := by kernel_rfl)
    (hw : Region.wanted o (yielded l.toArray a.tmps) = true := by rfl) (hw2 : Region.wanted p (yielded l.toArray a.tmps) = true := by rfl) : wpAnyH P .any l.toArray Q S (fuel + 1) listed a w := by
  refine wpAnyH_ready hr (by simp) (AllReadyH.cons (o := o) (by simpa using hi) (fun K hK => ?_) (AllReadyH.cons (o := p) (by simpa using hj) (fun K hK => ?_) AllReadyH.nil))
  · rw [if_pos hw]
    exact h K hK
  · rw [if_pos hw2]
    exact h2 K hK
theorem gk {a b : World} (h : Grows a b := by repeat (first | exact gg | refine Grows.drew ?_ | refine Grows.alloc ?_ _ | refine Grows.setCell ?_ (by simp <;> omega) _)) : Grows a b := h
theorem Grows.gt {a b c d : World} (_ : Grows a b) (g : Grows c d) (h : Grows a c := by repeat (first | exact gg | refine Grows.drew ?_ | refine Grows.alloc ?_ _ | refine Grows.setCell ?_ (by simp <;> omega) _)) : Grows a d := h.trans g
theorem regTk (i : Nat) {oi : Oper} {v : Value} {fuel : Nat} {listed : Array Bool} {a a' : Act} {w : World} (hS : S w)
    (h : wpAnyH P .any l.toArray Q S fuel (listed.setIfInBounds i true) a' w) (hi : l[i]? = some oi := by rfl)
    (hv : ∀ w, S w → (execOp a.eval oi).run P w = .ok (.value v) w := by intro w hw; (try dsimp only at hw); go_simp; (try with_reducible rfl))
    (ha : a.put oi.dst v = a' := by (try simp only [Act.put, List.setIfInBounds_toArray, List.set_cons_zero, List.set_cons_succ]); with_reducible rfl)
    (hs : Region.noSelect l.toArray = true := by kernel_rfl) (hf : Region.free .any l.toArray listed i = true := by kernel_rfl) (hr : (Region.ready .any l.toArray listed).contains i = true := by kernel_rfl)
    (hQ : ∀ c a w, Q (.panic c) (a.put oi.dst v) w → Q (.panic c) a w := by exact fun _ _ _ h => h) (hw : Region.wanted oi (yielded l.toArray a.tmps) = true := by rfl) : wpAnyH P .any l.toArray Q S (fuel + 1) listed a w := by
  subst ha
  exact regTake i hv hS h hi hs hf hr hQ hw
theorem regSk (i : Nat) {oi : Oper} {fuel : Nat} {listed : Array Bool} {a a' : Act} {w : World} (hS : S w)
    (h : wpAnyH P .any l.toArray Q S fuel (listed.setIfInBounds i true) a' w) (hi : l[i]? = some oi := by rfl)
    (ha : a.put oi.dst undef = a' := by (try simp only [Act.put, List.setIfInBounds_toArray, List.set_cons_zero, List.set_cons_succ]); with_reducible rfl)
    (hs : Region.noSelect l.toArray = true := by kernel_rfl) (hf : Region.free .any l.toArray listed i = true := by kernel_rfl) (hr : (Region.ready .any l.toArray listed).contains i = true := by kernel_rfl)
    (hQ : ∀ c a w, Q (.panic c) (a.put oi.dst undef) w → Q (.panic c) a w := by exact fun _ _ _ h => h) (hw : Region.wanted oi (yielded l.toArray a.tmps) = false := by rfl) : wpAnyH P .any l.toArray Q S (fuel + 1) listed a w := by
  subst ha
  exact regSkip i hS h hi hs hf hr hQ hw
end
end Go.Proofs.YtocahjbmnkadjaaGreatDoor
/-
  Contracts of small methods of a cell: its output, its inputs, its clock, whether it has an arc of a kind.
-/
namespace Go.Proofs.YtocahjbmnkadjaaGreatDoor
open Go.RowKit

def chkB (k : Int) : Bool := decide (k = 4 ∨ k = 5)
set_option maxHeartbeats 400000 in
theorem isCheck_any (k : Int) (w : World) :
    Calls Tryz.prog 140 #[.int .i64 k] w fun e w' => e = .returned (.bool (chkB k)) ∧ w = w' := by
  cases h1 : (k == 4)
  · have E : Hid (chkB k = (k == 5)) := hideIt (by
      have : ¬ k = 4 := by simpa using h1
      unfold chkB
      rw [Bool.eq_iff_iff]
      simp [this])
    cases h2 : (k == 5)
    · have E2 := hideIt (E.out.trans h2)
      go_enter Tryz.func140, Tryz.ntmps140
      go_wp2
      go_ret
      exact ⟨ret_bool E2.out.symm, rfl⟩
    · have E2 := hideIt (E.out.trans h2)
      go_enter Tryz.func140, Tryz.ntmps140
      go_wp2
      go_ret
      exact ⟨ret_bool E2.out.symm, rfl⟩
  · have E : Hid (chkB k = true) := hideIt (by
      have : k = 4 := by simpa using h1
      unfold chkB
      simp [this])
    go_enter Tryz.func140, Tryz.ntmps140
    go_wp2
    go_ret
    exact ⟨ret_bool E.out.symm, rfl⟩
set_option maxHeartbeats 400000 in
theorem output_any {v0 v1 v2 v3 v4 v5 v6 : Value} {x : CellD} (w : World) (h : RCell w [v0, v1, v2, v3, v4, v5, v6] x) :
    Calls Tryz.prog 116 #[.agg #[v0, v1, v2, v3, v4, v5, v6]] w fun e w' => e = .returned (.int .i64 ((x.pins.length : Int) - 1)) ∧ Grows w w' := by
  obtain ⟨rfl, rfl, hp, -, -, rfl, rfl, -⟩ := h.parts
  have hl := RList.len hp
  obtain ⟨A, n0, rfl⟩ : ∃ (A : Option Addr) (n0 : Nat), v2 = .slice A x.pins.length n0 := by obtain ⟨D, c, e, -⟩ := RList.form hp; exact ⟨D, c, e⟩
  have H := hideIt hp
  clear hp h
  go_enter Tryz.func116, Tryz.ntmps116
  go_wp2_with (go_at_call 112; refine (lengthPin_any _ H.out).mono ?_; rintro e w' ⟨rfl, rfl⟩)
  go_ret
  exact ⟨rfl, (Grows.refl _).alloc _⟩
set_option maxHeartbeats 400000 in
theorem isInput_any {v0 v1 v2 v3 v4 v5 v6 : Value} {x : CellD} (p : Int) (w : World) (h : RCell w [v0, v1, v2, v3, v4, v5, v6] x) :
    Calls Tryz.prog 143 #[.agg #[v0, v1, v2, v3, v4, v5, v6], .int .i64 p] w fun e w' => e = .returned (.bool (inB p 0 ((x.pins.length : Int) - 1 - 1))) ∧ Grows w w' := by
  obtain ⟨A, n0, e2⟩ : ∃ (A : Option Addr) (n0 : Nat), v2 = .slice A x.pins.length n0 := by obtain ⟨D, c, e, -⟩ := RList.form h.parts.2.2.1; exact ⟨D, c, e⟩
  subst e2
  have hl := RList.len h.parts.2.2.1
  have g0 := (Grows.refl w).alloc (.cells #[v0, v1, .slice A x.pins.length n0, v3, v4, v5, v6] 71)
  have H := hideIt (h.keep g0.keeps)
  have G := hideIt g0
  clear h g0
  go_enter Tryz.func143, Tryz.ntmps143
  go_wp2_with fail
  refine (output_any _ H.out).mono ?_
  rintro e w1 ⟨rfl, g1⟩
  have G1 := hideIt (G.out.trans g1)
  clear g1
  go_wp2_with (go_at_call 92; refine (within_any _ _ _ _).mono ?_; rintro e w' ⟨rfl, rfl⟩)
  go_ret
  exact ⟨rfl, G1.out⟩
theorem clock1_any (x : PinD) (c0 c1 c2 c3 : Value) (W : World) (hr : RPin W [c0, c1, c2, c3] x) :
    Calls Tryz.prog 163 #[.agg #[c0, c1, c2, c3]] W fun e W' => e = .returned (.bool x.clock) ∧ Grows W W' := by
  obtain ⟨rfl, rfl, rfl, rfl, -⟩ := hr.parts
  clear hr
  go_enter Tryz.func163, Tryz.ntmps163
  go_wp2
  go_ret
  exact ⟨rfl, (Grows.refl _).alloc _⟩
set_option maxHeartbeats 400000 in
theorem clock_any {v0 v1 v2 v3 v4 v5 v6 : Value} {x : CellD} (w : World) (h : RCell w [v0, v1, v2, v3, v4, v5, v6] x) :
    Calls Tryz.prog 142 #[.agg #[v0, v1, v2, v3, v4, v5, v6]] w fun e w' => e = .returned (.int .i64 (clkI x.pins)) ∧ Grows w w' := by
  obtain ⟨rfl, rfl, hp, -, -, rfl, rfl, -⟩ := h.parts
  obtain ⟨A, n0, rfl⟩ : ∃ (A : Option Addr) (n0 : Nat), v2 = .slice A x.pins.length n0 := by obtain ⟨D, c, e, -⟩ := RList.form hp; exact ⟨D, c, e⟩
  have g0 := (Grows.refl w).alloc (.cells #[.string x.name, .int .i64 x.kind, .slice A x.pins.length n0, v3, v4, .int .i64 x.leak, .int .i64 x.energy] 71)
  have H := hideIt (RPins.keep hp g0.keeps)
  have G := hideIt g0
  clear hp h g0
  go_enter Tryz.func142, Tryz.ntmps142
  go_wp2_with fail
  refine (indexFuncPin_any 163 _ (fun args W => enters_of Tryz.func163 (by kernel_rfl) rfl args W) (fun p => p.clock) _ H.out ?_).mono ?_
  · intro y c0 c1 c2 c3 W _ _ hr
    exact clock1_any y c0 c1 c2 c3 W hr
  rintro e w1 ⟨rfl, g1⟩
  have G1 := hideIt (G.out.trans g1)
  clear g1
  go_wp2
  go_ret
  exact ⟨rfl, G1.out⟩
theorem has1_any (k : Int) (x : ArcD) (c0 c1 c2 c3 c4 c5 : Value) (g : Nat) (W : World) (hr : RArc W [c0, c1, c2, c3, c4, c5] x) (hb : W.cell? ⟨g, 0, none⟩ = some (.int .i64 k)) :
    Calls Tryz.prog 146 #[.agg #[c0, c1, c2, c3, c4, c5], .pointer (some ⟨g, 0, none⟩)] W fun e W' => e = .returned (.bool (decide (x.kind = k))) ∧ Grows W W' := by
  obtain ⟨rfl, rfl, rfl, rfl, -⟩ := hr.parts
  have lb := cell_lt hb
  simp at lb
  clear hr
  have E := hideIt (show (x.kind == k) = decide (x.kind = k) by rw [Bool.eq_iff_iff]; simp)
  go_enter Tryz.func146, Tryz.ntmps146
  go_wp2
  go_ret
  exact ⟨ret_bool (by rw [← E.out]), (Grows.refl _).alloc _⟩
set_option maxHeartbeats 400000 in
theorem has_any {v0 v1 v2 v3 v4 v5 v6 : Value} {x : CellD} (k : Int) (w : World) (h : RCell w [v0, v1, v2, v3, v4, v5, v6] x) :
    Calls Tryz.prog 118 #[.agg #[v0, v1, v2, v3, v4, v5, v6], .int .i64 k] w fun e w' => e = .returned (.bool (hasB x.arcs k)) ∧ Grows w w' := by
  obtain ⟨rfl, rfl, -, ha, -, rfl, rfl, -⟩ := h.parts
  obtain ⟨A, n0, rfl⟩ : ∃ (A : Option Addr) (n0 : Nat), v3 = .slice A x.arcs.length n0 := by obtain ⟨D, c, e, -⟩ := RList.form ha; exact ⟨D, c, e⟩
  have g0 := ((Grows.refl w).alloc (.cells #[.string x.name, .int .i64 x.kind, v2, .slice A x.arcs.length n0, v4, .int .i64 x.leak, .int .i64 x.energy] 71)).alloc (.cells #[.int .i64 k] 2)
  have H := hideIt (RArcs.keep ha g0.keeps)
  have G := hideIt g0
  clear ha h g0
  go_enter Tryz.func118, Tryz.ntmps118
  go_wp2_with fail
  refine (containsFuncArc_any 146 _ (fun args W => enters_of Tryz.func146 (by kernel_rfl) rfl args W) (fun a => decide (a.kind = k)) _ H.out ?_).mono ?_
  · intro y c0 c1 c2 c3 c4 c5 W _ gw hr
    exact has1_any k y c0 c1 c2 c3 c4 c5 _ W hr (gw.keeps _ _ (by simp))
  rintro e w1 ⟨rfl, g1⟩
  have G1 := hideIt (G.out.trans g1)
  clear g1
  go_wp2
  go_ret
  exact ⟨ret_bool (by rfl), G1.out⟩
end Go.Proofs.YtocahjbmnkadjaaGreatDoor
