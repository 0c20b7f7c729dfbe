/-
  The law FnSinkTimes returns true for every input: the row and the tied card.
-/
import Derived.Test.YtlnpefiipdkafaaGreatDoorRows
import Derived.Test.YtlnpefiipdkafaaGreatDoorGA
import Derived.Test.YtlnpefiipdkafaaGreatDoorCards
import Derived.Test.YtlnpefiipdkafaaGreatDoorTie
import Derived.Test.YtlnpefiipdkafaaGreatDoorFacts
import Derived.Test.YtlnpefiipdkafaaGreatDoorFnSinkTimesL
import Derived.Test.YtlnpefiipdkafaaGreatDoorFnSinkTimesA
import Derived.Test.YtlnpefiipdkafaaGreatDoorFnSinkTimesB
import Derived.LaidMore
import Derived.Lay
import Derived.SevenTiedAt
import Derived.Stop.Joined
namespace Go.Proofs.YtlnpefiipdkafaaGreatDoor.fnSinkTimes
open Go.ChangeShapes Go.WideShapes Go.ChangeAt Go.RowKit
open Go.ChangeMaps (open_string)

set_option maxHeartbeats 64000000 in
set_option maxRecDepth 100000 in
theorem closed_ : joinedFacts Tryz.prog 6 Tryz.f6 Rows.fnSinkTimesSpec Rows.fnSinkTimesRow = true := by
  unfold joinedFacts
  simp only [Bool.and_eq_true]
  and_intros
  all_goals first
    | (with_reducible exact c_named) | (with_reducible exact c_unfollowed) | (with_reducible exact c_recurses) | (with_reducible exact c_inPlace)
    | (with_reducible exact p_laidout) | (with_reducible exact p_maps) | (with_reducible exact p_stops) | (with_reducible exact p_stopKnobs) | (with_reducible exact p_stopsHeard) | (with_reducible exact p_mayEnter)
    | (as_aux_lemma => kernel_rfl)
theorem row_holds : Rows.FnSinkTimesSaid :=
  OpenClaim.holds_of_wide 6 Tryz.f6 rfl rfl rfl rfl rfl rfl rfl ⟨rfl, rfl, rfl, rfl, rfl⟩ rfl rfl rfl rfl rfl c_fn Tryz.func6 closed_
    (of_decide_eq_true (by kernel_rfl)) (by unfold Func.isWrapper; first | (rw [if_pos (by decide +kernel)]; kernel_rfl) | (rw [if_neg (by decide +kernel)]; exact ⟨rfl, rfl⟩))
    (fun os started H enc _ => lifted os started H enc)
theorem proved : Rows.FnSinkTimesCardSaid :=
  Claim7.holds_tied_plain_at .later [] [.data, .pinned] true (true, "84acbc051562b466b857becd000631de7f16de62e2b475ef2cd53dcf6f7d9b63") false row_holds (fun _ h => by cases h) (by kernel_rfl) (fun _ h => by cases h) fnSinkTimes_row_tie rfl ⟨rfl, rfl⟩ (by kernel_rfl) rfl
    (fun f fn hf hfn => by
      obtain rfl : f = 6 := Option.some.inj (c_fn.symm.trans hf) |>.symm
      obtain rfl : fn = Tryz.f6 := (Option.some.inj (Tryz.func6.symm.trans hfn)).symm
      exact ⟨c_looks, fun j t ht => by
        rw [Tryz.params6] at ht
        have hm : t ∈ [22] := by simpa using Array.mem_of_getElem? ht
        have hall : ([22].all fun u => !Tryz.prog.wantsStandIn u) = true := by kernel_rfl
        exact (show Tryz.prog.wantsStandIn t = false by simpa using List.all_eq_true.1 hall t hm)⟩)
    c_goes
end Go.Proofs.YtlnpefiipdkafaaGreatDoor.fnSinkTimes
