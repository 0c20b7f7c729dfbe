/-
  Closed facts of the law FnLoads.
-/
import Derived.Test.YtlnpefiipdkafaaGreatDoorRows
import Derived.Test.YtlnpefiipdkafaaGreatDoorGA
import Derived.Test.YtlnpefiipdkafaaGreatDoorCards
import Derived.Test.YtlnpefiipdkafaaGreatDoorTie
import Derived.LaidMore
import Derived.Lay
import Derived.SevenTiedAt
import Derived.Stop.Joined
namespace Go.Proofs.YtlnpefiipdkafaaGreatDoor.fnLoads
open Go.ChangeShapes Go.WideShapes Go.ChangeAt Go.RowKit
open Go.ChangeMaps (open_string)

theorem c_named : (Rows.fnLoadsRow.named == Tryz.prog.varsNamed 5) = true := by kernel_rfl
theorem c_unfollowed : (Rows.fnLoadsRow.unfollowed == Tryz.prog.unfollowed 5) = true := by kernel_rfl
theorem c_recurses : (Rows.fnLoadsRow.recurses == Tryz.prog.recurses 5) = true := by kernel_rfl
theorem c_inPlace : (Rows.fnLoadsRow.inPlace == Tryz.prog.inPlace 5) = true := by kernel_rfl
end Go.Proofs.YtlnpefiipdkafaaGreatDoor.fnLoads
