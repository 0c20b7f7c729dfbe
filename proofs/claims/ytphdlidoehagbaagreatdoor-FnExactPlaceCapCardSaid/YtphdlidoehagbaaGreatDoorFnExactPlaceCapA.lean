/-
  Closed facts of the law FnExactPlaceCap.
-/
import Derived.Test.YtphdlidoehagbaaGreatDoorRows
import Derived.Test.YtphdlidoehagbaaGreatDoorGA
import Derived.Test.YtphdlidoehagbaaGreatDoorCards
import Derived.Test.YtphdlidoehagbaaGreatDoorTie
import Derived.LaidMore
import Derived.Lay
import Derived.SevenTiedAt
import Derived.Stop.Joined
namespace Go.Proofs.YtphdlidoehagbaaGreatDoor.fnExactPlaceCap
open Go.ChangeShapes Go.WideShapes Go.ChangeAt Go.RowKit
open Go.ChangeMaps (open_string)

theorem c_named : (Rows.fnExactPlaceCapRow.named == Tryz.prog.varsNamed 9) = true := by kernel_rfl
theorem c_unfollowed : (Rows.fnExactPlaceCapRow.unfollowed == Tryz.prog.unfollowed 9) = true := by kernel_rfl
theorem c_recurses : (Rows.fnExactPlaceCapRow.recurses == Tryz.prog.recurses 9) = true := by kernel_rfl
theorem c_inPlace : (Rows.fnExactPlaceCapRow.inPlace == Tryz.prog.inPlace 9) = true := by kernel_rfl
end Go.Proofs.YtphdlidoehagbaaGreatDoor.fnExactPlaceCap
