/-
  Closed facts of the law FnExactPlaceNamed.
-/
import Derived.Test.YtphdlidoehagbaaGreatDoorRows
import Derived.Test.YtphdlidoehagbaaGreatDoorGA
import Derived.Test.YtphdlidoehagbaaGreatDoorCards
import Derived.Test.YtphdlidoehagbaaGreatDoorTie
import Derived.LaidMore
import Derived.Lay
import Derived.SevenTiedAt
import Derived.Stop.Joined
namespace Go.Proofs.YtphdlidoehagbaaGreatDoor.fnExactPlaceNamed
open Go.ChangeShapes Go.WideShapes Go.ChangeAt Go.RowKit
open Go.ChangeMaps (open_string)

theorem c_named : (Rows.fnExactPlaceNamedRow.named == Tryz.prog.varsNamed 8) = true := by kernel_rfl
theorem c_unfollowed : (Rows.fnExactPlaceNamedRow.unfollowed == Tryz.prog.unfollowed 8) = true := by kernel_rfl
theorem c_recurses : (Rows.fnExactPlaceNamedRow.recurses == Tryz.prog.recurses 8) = true := by kernel_rfl
theorem c_inPlace : (Rows.fnExactPlaceNamedRow.inPlace == Tryz.prog.inPlace 8) = true := by kernel_rfl
end Go.Proofs.YtphdlidoehagbaaGreatDoor.fnExactPlaceNamed
