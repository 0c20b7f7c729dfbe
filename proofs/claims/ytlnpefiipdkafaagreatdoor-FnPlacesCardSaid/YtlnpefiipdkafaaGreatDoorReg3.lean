/-
  A drawn region in which three operations may come up: all ways.
-/
import Derived.Test.YtlnpefiipdkafaaGreatDoorGJ
namespace Go.Proofs.YtlnpefiipdkafaaGreatDoor
open Go.RowKit
section
variable {P : Program} {l : List Oper} {Q : Exit → Act → World → Prop} {S : World → Prop}
theorem regCall3 (i j k : Nat) {o p q : Oper} {fuel : Nat} {listed : Array Bool} {a : Act} {w : World}
    (h : ∀ K' : Act → World → Prop, Shut (∀ a w, S w → (S w → wpAnyH P .any l.toArray Q S fuel (listed.setIfInBounds i true) a w) → K' a w) → Oper.wp P o a w K' Q)
    (h2 : ∀ K' : Act → World → Prop, Shut (∀ a w, S w → (S w → wpAnyH P .any l.toArray Q S fuel (listed.setIfInBounds j true) a w) → K' a w) → Oper.wp P p a w K' Q)
    (h3 : ∀ K' : Act → World → Prop, Shut (∀ a w, S w → (S w → wpAnyH P .any l.toArray Q S fuel (listed.setIfInBounds k true) a w) → K' a w) → Oper.wp P q a w K' Q)
    (hi : l[i]? = some o := by rfl) (hj : l[j]? = some p := by rfl) (hk : l[k]? = some q := by rfl) (hr : Region.ready .any l.toArray listed = [i, j, k] := by kernel_rfl)
    (hw : Region.wanted o (yielded l.toArray a.tmps) = true := by rfl) (hw2 : Region.wanted p (yielded l.toArray a.tmps) = true := by rfl) (hw3 : Region.wanted q (yielded l.toArray a.tmps) = true := by rfl) : wpAnyH P .any l.toArray Q S (fuel + 1) listed a w := by
  refine wpAnyH_ready hr (by simp) (AllReadyH.cons (o := o) (by simpa using hi) (fun K hK => ?_) (AllReadyH.cons (o := p) (by simpa using hj) (fun K hK => ?_) (AllReadyH.cons (o := q) (by simpa using hk) (fun K hK => ?_) AllReadyH.nil)))
  · rw [if_pos hw]
    exact h K hK
  · rw [if_pos hw2]
    exact h2 K hK
  · rw [if_pos hw3]
    exact h3 K hK
end
end Go.Proofs.YtlnpefiipdkafaaGreatDoor
