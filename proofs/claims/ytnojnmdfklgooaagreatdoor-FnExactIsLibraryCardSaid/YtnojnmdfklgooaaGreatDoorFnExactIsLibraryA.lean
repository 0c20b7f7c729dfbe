/-
  Closed facts of the law FnExactIsLibrary.
-/
import Derived.Test.YtnojnmdfklgooaaGreatDoorRows
import Derived.Test.YtnojnmdfklgooaaGreatDoorGA
import Derived.Test.YtnojnmdfklgooaaGreatDoorCards
import Derived.Test.YtnojnmdfklgooaaGreatDoorTie
import Derived.LaidMore
import Derived.Lay
import Derived.SevenTiedAt
import Derived.Stop.Joined
namespace Go.Proofs.YtnojnmdfklgooaaGreatDoor.fnExactIsLibrary
open Go.ChangeShapes Go.WideShapes Go.ChangeAt Go.RowKit
open Go.ChangeMaps (open_string)

theorem c_named : (Rows.fnExactIsLibraryRow.named == Tryz.prog.varsNamed 3) = true := by kernel_rfl
theorem c_unfollowed : (Rows.fnExactIsLibraryRow.unfollowed == Tryz.prog.unfollowed 3) = true := by kernel_rfl
theorem c_recurses : (Rows.fnExactIsLibraryRow.recurses == Tryz.prog.recurses 3) = true := by kernel_rfl
theorem c_inPlace : (Rows.fnExactIsLibraryRow.inPlace == Tryz.prog.inPlace 3) = true := by kernel_rfl
end Go.Proofs.YtnojnmdfklgooaaGreatDoor.fnExactIsLibrary
