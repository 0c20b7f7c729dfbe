/-
  Closed facts of the law FnSinkTimes.
-/
import Derived.Test.YtlnpefiipdkafaaGreatDoorRows
import Derived.Test.YtlnpefiipdkafaaGreatDoorGA
import Derived.Test.YtlnpefiipdkafaaGreatDoorCards
import Derived.Test.YtlnpefiipdkafaaGreatDoorTie
import Derived.LaidMore
import Derived.Lay
import Derived.SevenTiedAt
import Derived.Stop.Joined
namespace Go.Proofs.YtlnpefiipdkafaaGreatDoor.fnSinkTimes
open Go.ChangeShapes Go.WideShapes Go.ChangeAt Go.RowKit
open Go.ChangeMaps (open_string)

theorem c_named : (Rows.fnSinkTimesRow.named == Tryz.prog.varsNamed 6) = true := by kernel_rfl
theorem c_unfollowed : (Rows.fnSinkTimesRow.unfollowed == Tryz.prog.unfollowed 6) = true := by kernel_rfl
theorem c_recurses : (Rows.fnSinkTimesRow.recurses == Tryz.prog.recurses 6) = true := by kernel_rfl
theorem c_inPlace : (Rows.fnSinkTimesRow.inPlace == Tryz.prog.inPlace 6) = true := by kernel_rfl
end Go.Proofs.YtlnpefiipdkafaaGreatDoor.fnSinkTimes
