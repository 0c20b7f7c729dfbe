/-
  Closed facts of the law FnExactSinkSlew.
-/
import Derived.Test.YtpppobomekebdaaGreatDoorRows
import Derived.Test.YtpppobomekebdaaGreatDoorGA
import Derived.Test.YtpppobomekebdaaGreatDoorCards
import Derived.Test.YtpppobomekebdaaGreatDoorTie
import Derived.LaidMore
import Derived.Lay
import Derived.SevenTiedAt
import Derived.Stop.Joined
namespace Go.Proofs.YtpppobomekebdaaGreatDoor.fnExactSinkSlew
open Go.ChangeShapes Go.WideShapes Go.ChangeAt Go.RowKit
open Go.ChangeMaps (open_string)

theorem c_named : (Rows.fnExactSinkSlewRow.named == Tryz.prog.varsNamed 7) = true := by kernel_rfl
theorem c_unfollowed : (Rows.fnExactSinkSlewRow.unfollowed == Tryz.prog.unfollowed 7) = true := by kernel_rfl
theorem c_recurses : (Rows.fnExactSinkSlewRow.recurses == Tryz.prog.recurses 7) = true := by kernel_rfl
theorem c_inPlace : (Rows.fnExactSinkSlewRow.inPlace == Tryz.prog.inPlace 7) = true := by kernel_rfl
end Go.Proofs.YtpppobomekebdaaGreatDoor.fnExactSinkSlew
