/-
  Closed facts of the law FnExactPlaceName.
-/
import Derived.Test.YtphdlidoehagbaaGreatDoorRows
import Derived.Test.YtphdlidoehagbaaGreatDoorGA
import Derived.Test.YtphdlidoehagbaaGreatDoorCards
import Derived.Test.YtphdlidoehagbaaGreatDoorTie
import Derived.LaidMore
import Derived.Lay
import Derived.SevenTiedAt
import Derived.Stop.Joined
namespace Go.Proofs.YtphdlidoehagbaaGreatDoor.fnExactPlaceName
open Go.ChangeShapes Go.WideShapes Go.ChangeAt Go.RowKit
open Go.ChangeMaps (open_string)

theorem c_named : (Rows.fnExactPlaceNameRow.named == Tryz.prog.varsNamed 10) = true := by kernel_rfl
theorem c_unfollowed : (Rows.fnExactPlaceNameRow.unfollowed == Tryz.prog.unfollowed 10) = true := by kernel_rfl
theorem c_recurses : (Rows.fnExactPlaceNameRow.recurses == Tryz.prog.recurses 10) = true := by kernel_rfl
theorem c_inPlace : (Rows.fnExactPlaceNameRow.inPlace == Tryz.prog.inPlace 10) = true := by kernel_rfl
end Go.Proofs.YtphdlidoehagbaaGreatDoor.fnExactPlaceName
