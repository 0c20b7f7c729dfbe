/-
  Closed facts of the law FnExactDriverOf.
-/
import Derived.Test.YtphdlidoehagbaaGreatDoorRows
import Derived.Test.YtphdlidoehagbaaGreatDoorGA
import Derived.Test.YtphdlidoehagbaaGreatDoorCards
import Derived.Test.YtphdlidoehagbaaGreatDoorTie
import Derived.LaidMore
import Derived.Lay
import Derived.SevenTiedAt
import Derived.Stop.Joined
namespace Go.Proofs.YtphdlidoehagbaaGreatDoor.fnExactDriverOf
open Go.ChangeShapes Go.WideShapes Go.ChangeAt Go.RowKit
open Go.ChangeMaps (open_string)

theorem c_named : (Rows.fnExactDriverOfRow.named == Tryz.prog.varsNamed 4) = true := by kernel_rfl
theorem c_unfollowed : (Rows.fnExactDriverOfRow.unfollowed == Tryz.prog.unfollowed 4) = true := by kernel_rfl
theorem c_recurses : (Rows.fnExactDriverOfRow.recurses == Tryz.prog.recurses 4) = true := by kernel_rfl
theorem c_inPlace : (Rows.fnExactDriverOfRow.inPlace == Tryz.prog.inPlace 4) = true := by kernel_rfl
end Go.Proofs.YtphdlidoehagbaaGreatDoor.fnExactDriverOf
