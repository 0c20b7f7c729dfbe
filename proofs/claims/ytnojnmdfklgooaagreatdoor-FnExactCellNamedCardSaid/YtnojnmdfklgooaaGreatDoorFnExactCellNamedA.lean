/-
  Closed facts of the law FnExactCellNamed.
-/
import Derived.Test.YtnojnmdfklgooaaGreatDoorRows
import Derived.Test.YtnojnmdfklgooaaGreatDoorGA
import Derived.Test.YtnojnmdfklgooaaGreatDoorCards
import Derived.Test.YtnojnmdfklgooaaGreatDoorTie
import Derived.LaidMore
import Derived.Lay
import Derived.SevenTiedAt
import Derived.Stop.Joined
namespace Go.Proofs.YtnojnmdfklgooaaGreatDoor.fnExactCellNamed
open Go.ChangeShapes Go.WideShapes Go.ChangeAt Go.RowKit
open Go.ChangeMaps (open_string)

theorem c_named : (Rows.fnExactCellNamedRow.named == Tryz.prog.varsNamed 4) = true := by kernel_rfl
theorem c_unfollowed : (Rows.fnExactCellNamedRow.unfollowed == Tryz.prog.unfollowed 4) = true := by kernel_rfl
theorem c_recurses : (Rows.fnExactCellNamedRow.recurses == Tryz.prog.recurses 4) = true := by kernel_rfl
theorem c_inPlace : (Rows.fnExactCellNamedRow.inPlace == Tryz.prog.inPlace 4) = true := by kernel_rfl
end Go.Proofs.YtnojnmdfklgooaaGreatDoor.fnExactCellNamed
