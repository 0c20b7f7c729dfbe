/-
  Closed facts of the program.
-/
import Derived.Test.YtocahjbmnkadjaaGreatDoorRows
import Derived.Test.YtocahjbmnkadjaaGreatDoorGA
import Derived.LaidMore
import Derived.Lay
import Derived.SevenTiedAt
import Derived.Stop.Joined
namespace Go.Proofs.YtocahjbmnkadjaaGreatDoor
open Go.ChangeShapes Go.WideShapes Go.ChangeAt Go.RowKit
theorem p_laidout : laidOutB Tryz.prog = true := by kernel_rfl
theorem p_maps : mapsRowed Tryz.prog = true := by kernel_rfl
theorem p_stops : (Tryz.prog.stops == []) = true := by kernel_rfl
theorem p_stopKnobs : (Tryz.prog.stopKnobs == []) = true := by kernel_rfl
theorem p_stopsHeard : Tryz.prog.stopsHeard = true := by kernel_rfl
theorem p_mayEnter : Tryz.prog.mayEnter = true := by kernel_rfl
end Go.Proofs.YtocahjbmnkadjaaGreatDoor
