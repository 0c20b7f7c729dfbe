/-
  Closed facts of the law FnExactNetOfPlace.
-/
import Derived.Test.YtphdlidoehagbaaGreatDoorRows
import Derived.Test.YtphdlidoehagbaaGreatDoorGA
import Derived.Test.YtphdlidoehagbaaGreatDoorCards
import Derived.Test.YtphdlidoehagbaaGreatDoorTie
import Derived.LaidMore
import Derived.Lay
import Derived.SevenTiedAt
import Derived.Stop.Joined
namespace Go.Proofs.YtphdlidoehagbaaGreatDoor.fnExactNetOfPlace
open Go.ChangeShapes Go.WideShapes Go.ChangeAt Go.RowKit
open Go.ChangeMaps (open_string)

theorem c_named : (Rows.fnExactNetOfPlaceRow.named == Tryz.prog.varsNamed 7) = true := by kernel_rfl
theorem c_unfollowed : (Rows.fnExactNetOfPlaceRow.unfollowed == Tryz.prog.unfollowed 7) = true := by kernel_rfl
theorem c_recurses : (Rows.fnExactNetOfPlaceRow.recurses == Tryz.prog.recurses 7) = true := by kernel_rfl
theorem c_inPlace : (Rows.fnExactNetOfPlaceRow.inPlace == Tryz.prog.inPlace 7) = true := by kernel_rfl
end Go.Proofs.YtphdlidoehagbaaGreatDoor.fnExactNetOfPlace
