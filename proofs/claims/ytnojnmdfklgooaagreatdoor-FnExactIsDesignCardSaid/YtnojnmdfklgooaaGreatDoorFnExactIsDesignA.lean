/-
  Closed facts of the law FnExactIsDesign.
-/
import Derived.Test.YtnojnmdfklgooaaGreatDoorRows
import Derived.Test.YtnojnmdfklgooaaGreatDoorGA
import Derived.Test.YtnojnmdfklgooaaGreatDoorCards
import Derived.Test.YtnojnmdfklgooaaGreatDoorTie
import Derived.LaidMore
import Derived.Lay
import Derived.SevenTiedAt
import Derived.Stop.Joined
namespace Go.Proofs.YtnojnmdfklgooaaGreatDoor.fnExactIsDesign
open Go.ChangeShapes Go.WideShapes Go.ChangeAt Go.RowKit
open Go.ChangeMaps (open_string)

theorem c_named : (Rows.fnExactIsDesignRow.named == Tryz.prog.varsNamed 6) = true := by kernel_rfl
theorem c_unfollowed : (Rows.fnExactIsDesignRow.unfollowed == Tryz.prog.unfollowed 6) = true := by kernel_rfl
theorem c_recurses : (Rows.fnExactIsDesignRow.recurses == Tryz.prog.recurses 6) = true := by kernel_rfl
theorem c_inPlace : (Rows.fnExactIsDesignRow.inPlace == Tryz.prog.inPlace 6) = true := by kernel_rfl
end Go.Proofs.YtnojnmdfklgooaaGreatDoor.fnExactIsDesign
