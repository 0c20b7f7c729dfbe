/-
  Closed facts of the law FnSinkCount.
-/
import Derived.Test.YtlnpefiipdkafaaGreatDoorRows
import Derived.Test.YtlnpefiipdkafaaGreatDoorGA
import Derived.Test.YtlnpefiipdkafaaGreatDoorCards
import Derived.Test.YtlnpefiipdkafaaGreatDoorTie
import Derived.LaidMore
import Derived.Lay
import Derived.SevenTiedAt
import Derived.Stop.Joined
namespace Go.Proofs.YtlnpefiipdkafaaGreatDoor.fnSinkCount
open Go.ChangeShapes Go.WideShapes Go.ChangeAt Go.RowKit
open Go.ChangeMaps (open_string)

theorem c_named : (Rows.fnSinkCountRow.named == Tryz.prog.varsNamed 4) = true := by kernel_rfl
theorem c_unfollowed : (Rows.fnSinkCountRow.unfollowed == Tryz.prog.unfollowed 4) = true := by kernel_rfl
theorem c_recurses : (Rows.fnSinkCountRow.recurses == Tryz.prog.recurses 4) = true := by kernel_rfl
theorem c_inPlace : (Rows.fnSinkCountRow.inPlace == Tryz.prog.inPlace 4) = true := by kernel_rfl
end Go.Proofs.YtlnpefiipdkafaaGreatDoor.fnSinkCount
