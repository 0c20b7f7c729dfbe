/-
  A drawn region in which two operations may come up: both ways.
-/
import Derived.Test.YtgglgghlndhfbaaDoorReg
namespace Go.Proofs.YtgglgghlndhfbaaDoor
open Go.RowKit
section
variable {P : Program} {l : List Oper} {Q : Exit → Act → World → Prop} {S : World → Prop}
theorem regCall2 (i j : Nat) {o p : Oper} {fuel : Nat} {listed : Array Bool} {a : Act} {w : World}
    (h : ∀ K' : Act → World → Prop, Shut (∀ a w, S w → (S w → wpAnyH P .any l.toArray Q S fuel (listed.setIfInBounds i true) a w) → K' a w) → Oper.wp P o a w K' Q)
    (h2 : ∀ K' : Act → World → Prop, Shut (∀ a w, S w → (S w → wpAnyH P .any l.toArray Q S fuel (listed.setIfInBounds j true) a w) → K' a w) → Oper.wp P p a w K' Q)
    (hi : l[i]? = some o := by rfl) (hj : l[j]? = some p := by rfl) (hr : Region.ready .any l.toArray listed = [i, j] := by kernel_rfl)
    (hw : Region.wanted o (yielded l.toArray a.tmps) = true := by rfl) (hw2 : Region.wanted p (yielded l.toArray a.tmps) = true := by rfl) : wpAnyH P .any l.toArray Q S (fuel + 1) listed a w := by
  refine wpAnyH_ready hr (by simp) (AllReadyH.cons (o := o) (by simpa using hi) (fun K hK => ?_) (AllReadyH.cons (o := p) (by simpa using hj) (fun K hK => ?_) AllReadyH.nil))
  · rw [if_pos hw]
    exact h K hK
  · rw [if_pos hw2]
    exact h2 K hK
theorem gk {a b : World} (h : Grows a b := by repeat (first | exact gg | refine Grows.drew ?_ | refine Grows.alloc ?_ _ | refine Grows.setCell ?_ (by simp <;> omega) _)) : Grows a b := h
theorem Grows.gt {a b c d : World} (_ : Grows a b) (g : Grows c d) (h : Grows a c := by repeat (first | exact gg | refine Grows.drew ?_ | refine Grows.alloc ?_ _ | refine Grows.setCell ?_ (by simp <;> omega) _)) : Grows a d := h.trans g
theorem regTk (i : Nat) {oi : Oper} {v : Value} {fuel : Nat} {listed : Array Bool} {a a' : Act} {w : World} (hS : S w)
    (h : wpAnyH P .any l.toArray Q S fuel (listed.setIfInBounds i true) a' w) (hi : l[i]? = some oi := by rfl)
    (hv : ∀ w, S w → (execOp a.eval oi).run P w = .ok (.value v) w := by intro w hw; (try dsimp only at hw); go_simp; (try with_reducible rfl))
    (ha : a.put oi.dst v = a' := by (try simp only [Act.put, List.setIfInBounds_toArray, List.set_cons_zero, List.set_cons_succ]); with_reducible rfl)
    (hs : Region.noSelect l.toArray = true := by kernel_rfl) (hf : Region.free .any l.toArray listed i = true := by kernel_rfl) (hr : (Region.ready .any l.toArray listed).contains i = true := by kernel_rfl)
    (hQ : ∀ c a w, Q (.panic c) (a.put oi.dst v) w → Q (.panic c) a w := by exact fun _ _ _ h => h) (hw : Region.wanted oi (yielded l.toArray a.tmps) = true := by rfl) : wpAnyH P .any l.toArray Q S (fuel + 1) listed a w := by
  subst ha
  exact regTake i hv hS h hi hs hf hr hQ hw
theorem regSk (i : Nat) {oi : Oper} {fuel : Nat} {listed : Array Bool} {a a' : Act} {w : World} (hS : S w)
    (h : wpAnyH P .any l.toArray Q S fuel (listed.setIfInBounds i true) a' w) (hi : l[i]? = some oi := by rfl)
    (ha : a.put oi.dst undef = a' := by (try simp only [Act.put, List.setIfInBounds_toArray, List.set_cons_zero, List.set_cons_succ]); with_reducible rfl)
    (hs : Region.noSelect l.toArray = true := by kernel_rfl) (hf : Region.free .any l.toArray listed i = true := by kernel_rfl) (hr : (Region.ready .any l.toArray listed).contains i = true := by kernel_rfl)
    (hQ : ∀ c a w, Q (.panic c) (a.put oi.dst undef) w → Q (.panic c) a w := by exact fun _ _ _ h => h) (hw : Region.wanted oi (yielded l.toArray a.tmps) = false := by rfl) : wpAnyH P .any l.toArray Q S (fuel + 1) listed a w := by
  subst ha
  exact regSkip i hS h hi hs hf hr hQ hw
end
end Go.Proofs.YtgglgghlndhfbaaDoor
