/-
  Closed facts of the law FnExactSinksOf.
-/
import Derived.Test.YtphdlidoehagbaaGreatDoorRows
import Derived.Test.YtphdlidoehagbaaGreatDoorGA
import Derived.Test.YtphdlidoehagbaaGreatDoorCards
import Derived.Test.YtphdlidoehagbaaGreatDoorTie
import Derived.LaidMore
import Derived.Lay
import Derived.SevenTiedAt
import Derived.Stop.Joined
namespace Go.Proofs.YtphdlidoehagbaaGreatDoor.fnExactSinksOf
open Go.ChangeShapes Go.WideShapes Go.ChangeAt Go.RowKit
open Go.ChangeMaps (open_string)

theorem c_named : (Rows.fnExactSinksOfRow.named == Tryz.prog.varsNamed 13) = true := by kernel_rfl
theorem c_unfollowed : (Rows.fnExactSinksOfRow.unfollowed == Tryz.prog.unfollowed 13) = true := by kernel_rfl
theorem c_recurses : (Rows.fnExactSinksOfRow.recurses == Tryz.prog.recurses 13) = true := by kernel_rfl
theorem c_inPlace : (Rows.fnExactSinksOfRow.inPlace == Tryz.prog.inPlace 13) = true := by kernel_rfl
end Go.Proofs.YtphdlidoehagbaaGreatDoor.fnExactSinksOf
