/-
  Closed facts of the law FnPlaces.
-/
import Derived.Test.YtlnpefiipdkafaaGreatDoorRows
import Derived.Test.YtlnpefiipdkafaaGreatDoorGA
import Derived.Test.YtlnpefiipdkafaaGreatDoorCards
import Derived.Test.YtlnpefiipdkafaaGreatDoorTie
import Derived.LaidMore
import Derived.Lay
import Derived.SevenTiedAt
import Derived.Stop.Joined
namespace Go.Proofs.YtlnpefiipdkafaaGreatDoor.fnPlaces
open Go.ChangeShapes Go.WideShapes Go.ChangeAt Go.RowKit
open Go.ChangeMaps (open_string)

theorem c_named : (Rows.fnPlacesRow.named == Tryz.prog.varsNamed 3) = true := by kernel_rfl
theorem c_unfollowed : (Rows.fnPlacesRow.unfollowed == Tryz.prog.unfollowed 3) = true := by kernel_rfl
theorem c_recurses : (Rows.fnPlacesRow.recurses == Tryz.prog.recurses 3) = true := by kernel_rfl
theorem c_inPlace : (Rows.fnPlacesRow.inPlace == Tryz.prog.inPlace 3) = true := by kernel_rfl
end Go.Proofs.YtlnpefiipdkafaaGreatDoor.fnPlaces
