/-
  The walk of FnExactFormatTime.
-/
import Derived.Test.YtgglgghlndhfbaaDoorFmt
namespace Go.Proofs.YtgglgghlndhfbaaDoor
open Go.RowKit
theorem walk_FnExactFormatTime {t : Int} (ht : (Lit.int .i64 t).wf = true) (w : World) (hw : TW w) :
    Calls Tryd.prog 3 #[.int .i64 t] w fun e w' => e = .returned (.bool true) ∧ Below w.heap.size w w' := by
  have H := hideIt hw
  clear hw
  have hb : -9223372036854775808 ≤ t := by have h := ht; simp only [Lit.wf, Bool.and_eq_true, decide_eq_true_eq] at h; exact h.1
  clear ht
  go_enter Tryd.func3, Tryd.ntmps3
  go_wp2_with fail
  refine (sFmt_any t _ hb).mono ?_
  rintro e u1 ⟨rfl, g1⟩
  go_wp2_with fail
  refine (iFmt_any t _ (H.out.keep g1)).mono ?_
  rintro e u2 ⟨rfl, g2⟩
  have G := hideIt (g1.trans g2)
  clear g1 g2
  go_wp2
  go_ret
  exact ⟨rfl, G.out.below⟩
end Go.Proofs.YtgglgghlndhfbaaDoor
