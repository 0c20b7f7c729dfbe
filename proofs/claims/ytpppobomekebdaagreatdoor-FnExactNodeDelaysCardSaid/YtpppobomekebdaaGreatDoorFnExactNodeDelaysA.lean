/-
  Closed facts of the law FnExactNodeDelays.
-/
import Derived.Test.YtpppobomekebdaaGreatDoorRows
import Derived.Test.YtpppobomekebdaaGreatDoorGA
import Derived.Test.YtpppobomekebdaaGreatDoorCards
import Derived.Test.YtpppobomekebdaaGreatDoorTie
import Derived.LaidMore
import Derived.Lay
import Derived.SevenTiedAt
import Derived.Stop.Joined
namespace Go.Proofs.YtpppobomekebdaaGreatDoor.fnExactNodeDelays
open Go.ChangeShapes Go.WideShapes Go.ChangeAt Go.RowKit
open Go.ChangeMaps (open_string)

theorem c_named : (Rows.fnExactNodeDelaysRow.named == Tryz.prog.varsNamed 6) = true := by kernel_rfl
theorem c_unfollowed : (Rows.fnExactNodeDelaysRow.unfollowed == Tryz.prog.unfollowed 6) = true := by kernel_rfl
theorem c_recurses : (Rows.fnExactNodeDelaysRow.recurses == Tryz.prog.recurses 6) = true := by kernel_rfl
theorem c_inPlace : (Rows.fnExactNodeDelaysRow.inPlace == Tryz.prog.inPlace 6) = true := by kernel_rfl
end Go.Proofs.YtpppobomekebdaaGreatDoor.fnExactNodeDelays
