/-
  Closed facts of the card of FnExactDesignText.
-/
import Derived.Test.YtphdlidoehagbaaGreatDoorRows
import Derived.Test.YtphdlidoehagbaaGreatDoorGA
import Derived.Test.YtphdlidoehagbaaGreatDoorCards
import Derived.Test.YtphdlidoehagbaaGreatDoorTie
import Derived.LaidMore
import Derived.Lay
import Derived.SevenTiedAt
import Derived.Stop.Joined
namespace Go.Proofs.YtphdlidoehagbaaGreatDoor.fnExactDesignText
open Go.ChangeShapes Go.WideShapes Go.ChangeAt Go.RowKit
open Go.ChangeMaps (open_string)

theorem c_goes : false = Rows.fnExactDesignTextRow.goesBy Tryz.prog := by kernel_rfl
theorem c_looks : false = Tryz.prog.looks [] := by kernel_rfl
theorem c_fn : Tryz.prog.funcNamed "loop.example/g00861/laws.FnExactDesignText" = some 12 := by kernel_rfl
end Go.Proofs.YtphdlidoehagbaaGreatDoor.fnExactDesignText
