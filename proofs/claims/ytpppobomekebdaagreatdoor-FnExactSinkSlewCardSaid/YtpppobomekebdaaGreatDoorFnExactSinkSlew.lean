/-
  The law FnExactSinkSlew returns true for every input: the row and the tied card.
-/
import Derived.Test.YtpppobomekebdaaGreatDoorRows
import Derived.Test.YtpppobomekebdaaGreatDoorGA
import Derived.Test.YtpppobomekebdaaGreatDoorCards
import Derived.Test.YtpppobomekebdaaGreatDoorTie
import Derived.Test.YtpppobomekebdaaGreatDoorFacts
import Derived.Test.YtpppobomekebdaaGreatDoorFnExactSinkSlewL
import Derived.Test.YtpppobomekebdaaGreatDoorFnExactSinkSlewA
import Derived.Test.YtpppobomekebdaaGreatDoorFnExactSinkSlewB
import Derived.LaidMore
import Derived.Lay
import Derived.SevenTiedAt
import Derived.Stop.Joined
namespace Go.Proofs.YtpppobomekebdaaGreatDoor.fnExactSinkSlew
open Go.ChangeShapes Go.WideShapes Go.ChangeAt Go.RowKit
open Go.ChangeMaps (open_string)

set_option maxHeartbeats 64000000 in
set_option maxRecDepth 100000 in
theorem closed_ : joinedFacts Tryz.prog 7 Tryz.f7 Rows.fnExactSinkSlewSpec Rows.fnExactSinkSlewRow = true := by
  unfold joinedFacts
  simp only [Bool.and_eq_true]
  and_intros
  all_goals first
    | (with_reducible exact c_named) | (with_reducible exact c_unfollowed) | (with_reducible exact c_recurses) | (with_reducible exact c_inPlace)
    | (with_reducible exact p_laidout) | (with_reducible exact p_maps) | (with_reducible exact p_stops) | (with_reducible exact p_stopKnobs) | (with_reducible exact p_stopsHeard) | (with_reducible exact p_mayEnter)
    | (as_aux_lemma => kernel_rfl)
theorem row_holds : Rows.FnExactSinkSlewSaid :=
  OpenClaim.holds_of_wide 7 Tryz.f7 rfl rfl rfl rfl rfl rfl rfl ⟨rfl, rfl, rfl, rfl, rfl⟩ rfl rfl rfl rfl rfl c_fn Tryz.func7 closed_
    (of_decide_eq_true (by kernel_rfl)) (by unfold Func.isWrapper; first | (rw [if_pos (by decide +kernel)]; kernel_rfl) | (rw [if_neg (by decide +kernel)]; exact ⟨rfl, rfl⟩))
    (fun os started H enc _ => lifted os started H enc)
theorem proved : Rows.FnExactSinkSlewCardSaid :=
  Claim7.holds_tied_plain_at .later [] [.data, .pinned] true (true, "9727426b8b3609deb762bd7f9b7a6a5d2718ddeecefd72d68b7d867da1ec1be2") false row_holds (fun _ h => by cases h) (by kernel_rfl) (fun _ h => by cases h) fnExactSinkSlew_row_tie rfl ⟨rfl, rfl⟩ (by kernel_rfl) rfl
    (fun f fn hf hfn => by
      obtain rfl : f = 7 := Option.some.inj (c_fn.symm.trans hf) |>.symm
      obtain rfl : fn = Tryz.f7 := (Option.some.inj (Tryz.func7.symm.trans hfn)).symm
      exact ⟨c_looks, fun j t ht => by
        rw [Tryz.params7] at ht
        have hm : t ∈ [32, 2, 2, 2, 2] := by simpa using Array.mem_of_getElem? ht
        have hall : ([32, 2, 2, 2, 2].all fun u => !Tryz.prog.wantsStandIn u) = true := by kernel_rfl
        exact (show Tryz.prog.wantsStandIn t = false by simpa using List.all_eq_true.1 hall t hm)⟩)
    c_goes
end Go.Proofs.YtpppobomekebdaaGreatDoor.fnExactSinkSlew
