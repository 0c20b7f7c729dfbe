/-
  The law FnExactReadDesign returns true for every input: the row and the tied card.
-/
import Derived.Test.YtocahjbmnkadjaaGreatDoorRows
import Derived.Test.YtocahjbmnkadjaaGreatDoorGA
import Derived.Test.YtocahjbmnkadjaaGreatDoorCards
import Derived.Test.YtocahjbmnkadjaaGreatDoorTie
import Derived.Test.YtocahjbmnkadjaaGreatDoorFacts
import Derived.Test.YtocahjbmnkadjaaGreatDoorFnExactReadDesignL
import Derived.Test.YtocahjbmnkadjaaGreatDoorFnExactReadDesignA
import Derived.Test.YtocahjbmnkadjaaGreatDoorFnExactReadDesignB
import Derived.LaidMore
import Derived.Lay
import Derived.SevenTiedAt
import Derived.Stop.Joined
namespace Go.Proofs.YtocahjbmnkadjaaGreatDoor.fnExactReadDesign
open Go.ChangeShapes Go.WideShapes Go.ChangeAt Go.RowKit
open Go.ChangeMaps (open_string)

set_option maxHeartbeats 64000000 in
set_option maxRecDepth 100000 in
theorem closed_ : joinedFacts Tryz.prog 3 Tryz.f3 Rows.fnExactReadDesignSpec Rows.fnExactReadDesignRow = true := by
  unfold joinedFacts
  simp only [Bool.and_eq_true]
  and_intros
  all_goals first
    | (with_reducible exact c_named) | (with_reducible exact c_unfollowed) | (with_reducible exact c_recurses) | (with_reducible exact c_inPlace)
    | (with_reducible exact p_laidout) | (with_reducible exact p_maps) | (with_reducible exact p_stops) | (with_reducible exact p_stopKnobs) | (with_reducible exact p_stopsHeard) | (with_reducible exact p_mayEnter)
    | (as_aux_lemma => kernel_rfl)
theorem row_holds : Rows.FnExactReadDesignSaid :=
  OpenClaim.holds_of_wide 3 Tryz.f3 rfl rfl rfl rfl rfl rfl rfl ⟨rfl, rfl, rfl, rfl, rfl⟩ rfl rfl rfl rfl rfl c_fn Tryz.func3 closed_
    (of_decide_eq_true (by kernel_rfl)) (by unfold Func.isWrapper; first | (rw [if_pos (by decide +kernel)]; kernel_rfl) | (rw [if_neg (by decide +kernel)]; exact ⟨rfl, rfl⟩))
    (fun os started H enc _ => lifted os started H enc)
theorem proved : Rows.FnExactReadDesignCardSaid :=
  Claim7.holds_tied_plain_at .later [] [.data, .pinned] true (true, "6c4a0ddc798e767853e5df237e57610c47403a6cca9b6a155fb149c7bada1ed7") false row_holds (fun _ h => by cases h) (by kernel_rfl) (fun _ h => by cases h) fnExactReadDesign_row_tie rfl ⟨rfl, rfl⟩ (by kernel_rfl) rfl
    (fun f fn hf hfn => by
      obtain rfl : f = 3 := Option.some.inj (c_fn.symm.trans hf) |>.symm
      obtain rfl : fn = Tryz.f3 := (Option.some.inj (Tryz.func3.symm.trans hfn)).symm
      exact ⟨c_looks, fun j t ht => by
        rw [Tryz.params3] at ht
        have hm : t ∈ [24, 9] := by simpa using Array.mem_of_getElem? ht
        have hall : ([24, 9].all fun u => !Tryz.prog.wantsStandIn u) = true := by kernel_rfl
        exact (show Tryz.prog.wantsStandIn t = false by simpa using List.all_eq_true.1 hall t hm)⟩)
    c_goes
end Go.Proofs.YtocahjbmnkadjaaGreatDoor.fnExactReadDesign
