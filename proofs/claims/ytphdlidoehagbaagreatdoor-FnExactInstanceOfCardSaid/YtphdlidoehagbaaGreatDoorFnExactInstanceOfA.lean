/-
  Closed facts of the law FnExactInstanceOf.
-/
import Derived.Test.YtphdlidoehagbaaGreatDoorRows
import Derived.Test.YtphdlidoehagbaaGreatDoorGA
import Derived.Test.YtphdlidoehagbaaGreatDoorCards
import Derived.Test.YtphdlidoehagbaaGreatDoorTie
import Derived.LaidMore
import Derived.Lay
import Derived.SevenTiedAt
import Derived.Stop.Joined
namespace Go.Proofs.YtphdlidoehagbaaGreatDoor.fnExactInstanceOf
open Go.ChangeShapes Go.WideShapes Go.ChangeAt Go.RowKit
open Go.ChangeMaps (open_string)

theorem c_named : (Rows.fnExactInstanceOfRow.named == Tryz.prog.varsNamed 6) = true := by kernel_rfl
theorem c_unfollowed : (Rows.fnExactInstanceOfRow.unfollowed == Tryz.prog.unfollowed 6) = true := by kernel_rfl
theorem c_recurses : (Rows.fnExactInstanceOfRow.recurses == Tryz.prog.recurses 6) = true := by kernel_rfl
theorem c_inPlace : (Rows.fnExactInstanceOfRow.inPlace == Tryz.prog.inPlace 6) = true := by kernel_rfl
end Go.Proofs.YtphdlidoehagbaaGreatDoor.fnExactInstanceOf
