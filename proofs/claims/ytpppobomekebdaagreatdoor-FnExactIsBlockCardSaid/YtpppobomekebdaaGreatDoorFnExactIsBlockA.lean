/-
  Closed facts of the law FnExactIsBlock.
-/
import Derived.Test.YtpppobomekebdaaGreatDoorRows
import Derived.Test.YtpppobomekebdaaGreatDoorGA
import Derived.Test.YtpppobomekebdaaGreatDoorCards
import Derived.Test.YtpppobomekebdaaGreatDoorTie
import Derived.LaidMore
import Derived.Lay
import Derived.SevenTiedAt
import Derived.Stop.Joined
namespace Go.Proofs.YtpppobomekebdaaGreatDoor.fnExactIsBlock
open Go.ChangeShapes Go.WideShapes Go.ChangeAt Go.RowKit
open Go.ChangeMaps (open_string)

theorem c_named : (Rows.fnExactIsBlockRow.named == Tryz.prog.varsNamed 3) = true := by kernel_rfl
theorem c_unfollowed : (Rows.fnExactIsBlockRow.unfollowed == Tryz.prog.unfollowed 3) = true := by kernel_rfl
theorem c_recurses : (Rows.fnExactIsBlockRow.recurses == Tryz.prog.recurses 3) = true := by kernel_rfl
theorem c_inPlace : (Rows.fnExactIsBlockRow.inPlace == Tryz.prog.inPlace 3) = true := by kernel_rfl
end Go.Proofs.YtpppobomekebdaaGreatDoor.fnExactIsBlock
