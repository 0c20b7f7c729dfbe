/-
  Closed facts of the law FnExactNodeLoads.
-/
import Derived.Test.YtpppobomekebdaaGreatDoorRows
import Derived.Test.YtpppobomekebdaaGreatDoorGA
import Derived.Test.YtpppobomekebdaaGreatDoorCards
import Derived.Test.YtpppobomekebdaaGreatDoorTie
import Derived.LaidMore
import Derived.Lay
import Derived.SevenTiedAt
import Derived.Stop.Joined
namespace Go.Proofs.YtpppobomekebdaaGreatDoor.fnExactNodeLoads
open Go.ChangeShapes Go.WideShapes Go.ChangeAt Go.RowKit
open Go.ChangeMaps (open_string)

theorem c_named : (Rows.fnExactNodeLoadsRow.named == Tryz.prog.varsNamed 5) = true := by kernel_rfl
theorem c_unfollowed : (Rows.fnExactNodeLoadsRow.unfollowed == Tryz.prog.unfollowed 5) = true := by kernel_rfl
theorem c_recurses : (Rows.fnExactNodeLoadsRow.recurses == Tryz.prog.recurses 5) = true := by kernel_rfl
theorem c_inPlace : (Rows.fnExactNodeLoadsRow.inPlace == Tryz.prog.inPlace 5) = true := by kernel_rfl
end Go.Proofs.YtpppobomekebdaaGreatDoor.fnExactNodeLoads
