/-
  Closed facts of the law FnExactArcsTo.
-/
import Derived.Test.YtpppobomekebdaaGreatDoorRows
import Derived.Test.YtpppobomekebdaaGreatDoorGA
import Derived.Test.YtpppobomekebdaaGreatDoorCards
import Derived.Test.YtpppobomekebdaaGreatDoorTie
import Derived.LaidMore
import Derived.Lay
import Derived.SevenTiedAt
import Derived.Stop.Joined
namespace Go.Proofs.YtpppobomekebdaaGreatDoor.fnExactArcsTo
open Go.ChangeShapes Go.WideShapes Go.ChangeAt Go.RowKit
open Go.ChangeMaps (open_string)

theorem c_named : (Rows.fnExactArcsToRow.named == Tryz.prog.varsNamed 8) = true := by kernel_rfl
theorem c_unfollowed : (Rows.fnExactArcsToRow.unfollowed == Tryz.prog.unfollowed 8) = true := by kernel_rfl
theorem c_recurses : (Rows.fnExactArcsToRow.recurses == Tryz.prog.recurses 8) = true := by kernel_rfl
theorem c_inPlace : (Rows.fnExactArcsToRow.inPlace == Tryz.prog.inPlace 8) = true := by kernel_rfl
end Go.Proofs.YtpppobomekebdaaGreatDoor.fnExactArcsTo
