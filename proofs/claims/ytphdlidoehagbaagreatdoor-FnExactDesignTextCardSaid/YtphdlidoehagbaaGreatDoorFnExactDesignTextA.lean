/-
  Closed facts of the law FnExactDesignText.
-/
import Derived.Test.YtphdlidoehagbaaGreatDoorRows
import Derived.Test.YtphdlidoehagbaaGreatDoorGA
import Derived.Test.YtphdlidoehagbaaGreatDoorCards
import Derived.Test.YtphdlidoehagbaaGreatDoorTie
import Derived.LaidMore
import Derived.Lay
import Derived.SevenTiedAt
import Derived.Stop.Joined
namespace Go.Proofs.YtphdlidoehagbaaGreatDoor.fnExactDesignText
open Go.ChangeShapes Go.WideShapes Go.ChangeAt Go.RowKit
open Go.ChangeMaps (open_string)

theorem c_named : (Rows.fnExactDesignTextRow.named == Tryz.prog.varsNamed 12) = true := by kernel_rfl
theorem c_unfollowed : (Rows.fnExactDesignTextRow.unfollowed == Tryz.prog.unfollowed 12) = true := by kernel_rfl
theorem c_recurses : (Rows.fnExactDesignTextRow.recurses == Tryz.prog.recurses 12) = true := by kernel_rfl
theorem c_inPlace : (Rows.fnExactDesignTextRow.inPlace == Tryz.prog.inPlace 12) = true := by kernel_rfl
end Go.Proofs.YtphdlidoehagbaaGreatDoor.fnExactDesignText
