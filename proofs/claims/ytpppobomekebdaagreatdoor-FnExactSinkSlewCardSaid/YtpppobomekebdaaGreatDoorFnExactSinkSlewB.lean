/-
  Closed facts of the card of FnExactSinkSlew.
-/
import Derived.Test.YtpppobomekebdaaGreatDoorRows
import Derived.Test.YtpppobomekebdaaGreatDoorGA
import Derived.Test.YtpppobomekebdaaGreatDoorCards
import Derived.Test.YtpppobomekebdaaGreatDoorTie
import Derived.LaidMore
import Derived.Lay
import Derived.SevenTiedAt
import Derived.Stop.Joined
namespace Go.Proofs.YtpppobomekebdaaGreatDoor.fnExactSinkSlew
open Go.ChangeShapes Go.WideShapes Go.ChangeAt Go.RowKit
open Go.ChangeMaps (open_string)

theorem c_goes : false = Rows.fnExactSinkSlewRow.goesBy Tryz.prog := by kernel_rfl
theorem c_looks : false = Tryz.prog.looks [] := by kernel_rfl
theorem c_fn : Tryz.prog.funcNamed "loop.example/g00861/laws.FnExactSinkSlew" = some 7 := by kernel_rfl
end Go.Proofs.YtpppobomekebdaaGreatDoor.fnExactSinkSlew
