/-
  Closed facts of the law FnExactPlaceOf.
-/
import Derived.Test.YtphdlidoehagbaaGreatDoorRows
import Derived.Test.YtphdlidoehagbaaGreatDoorGA
import Derived.Test.YtphdlidoehagbaaGreatDoorCards
import Derived.Test.YtphdlidoehagbaaGreatDoorTie
import Derived.LaidMore
import Derived.Lay
import Derived.SevenTiedAt
import Derived.Stop.Joined
namespace Go.Proofs.YtphdlidoehagbaaGreatDoor.fnExactPlaceOf
open Go.ChangeShapes Go.WideShapes Go.ChangeAt Go.RowKit
open Go.ChangeMaps (open_string)

theorem c_named : (Rows.fnExactPlaceOfRow.named == Tryz.prog.varsNamed 5) = true := by kernel_rfl
theorem c_unfollowed : (Rows.fnExactPlaceOfRow.unfollowed == Tryz.prog.unfollowed 5) = true := by kernel_rfl
theorem c_recurses : (Rows.fnExactPlaceOfRow.recurses == Tryz.prog.recurses 5) = true := by kernel_rfl
theorem c_inPlace : (Rows.fnExactPlaceOfRow.inPlace == Tryz.prog.inPlace 5) = true := by kernel_rfl
end Go.Proofs.YtphdlidoehagbaaGreatDoor.fnExactPlaceOf
