/-
  Closed facts of the law FnExactInstanceText.
-/
import Derived.Test.YtphdlidoehagbaaGreatDoorRows
import Derived.Test.YtphdlidoehagbaaGreatDoorGA
import Derived.Test.YtphdlidoehagbaaGreatDoorCards
import Derived.Test.YtphdlidoehagbaaGreatDoorTie
import Derived.LaidMore
import Derived.Lay
import Derived.SevenTiedAt
import Derived.Stop.Joined
namespace Go.Proofs.YtphdlidoehagbaaGreatDoor.fnExactInstanceText
open Go.ChangeShapes Go.WideShapes Go.ChangeAt Go.RowKit
open Go.ChangeMaps (open_string)

theorem c_named : (Rows.fnExactInstanceTextRow.named == Tryz.prog.varsNamed 11) = true := by kernel_rfl
theorem c_unfollowed : (Rows.fnExactInstanceTextRow.unfollowed == Tryz.prog.unfollowed 11) = true := by kernel_rfl
theorem c_recurses : (Rows.fnExactInstanceTextRow.recurses == Tryz.prog.recurses 11) = true := by kernel_rfl
theorem c_inPlace : (Rows.fnExactInstanceTextRow.inPlace == Tryz.prog.inPlace 11) = true := by kernel_rfl
end Go.Proofs.YtphdlidoehagbaaGreatDoor.fnExactInstanceText
