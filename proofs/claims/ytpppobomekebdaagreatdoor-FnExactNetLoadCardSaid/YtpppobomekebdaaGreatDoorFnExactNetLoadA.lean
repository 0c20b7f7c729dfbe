/-
  Closed facts of the law FnExactNetLoad.
-/
import Derived.Test.YtpppobomekebdaaGreatDoorRows
import Derived.Test.YtpppobomekebdaaGreatDoorGA
import Derived.Test.YtpppobomekebdaaGreatDoorCards
import Derived.Test.YtpppobomekebdaaGreatDoorTie
import Derived.LaidMore
import Derived.Lay
import Derived.SevenTiedAt
import Derived.Stop.Joined
namespace Go.Proofs.YtpppobomekebdaaGreatDoor.fnExactNetLoad
open Go.ChangeShapes Go.WideShapes Go.ChangeAt Go.RowKit
open Go.ChangeMaps (open_string)

theorem c_named : (Rows.fnExactNetLoadRow.named == Tryz.prog.varsNamed 4) = true := by kernel_rfl
theorem c_unfollowed : (Rows.fnExactNetLoadRow.unfollowed == Tryz.prog.unfollowed 4) = true := by kernel_rfl
theorem c_recurses : (Rows.fnExactNetLoadRow.recurses == Tryz.prog.recurses 4) = true := by kernel_rfl
theorem c_inPlace : (Rows.fnExactNetLoadRow.inPlace == Tryz.prog.inPlace 4) = true := by kernel_rfl
end Go.Proofs.YtpppobomekebdaaGreatDoor.fnExactNetLoad
