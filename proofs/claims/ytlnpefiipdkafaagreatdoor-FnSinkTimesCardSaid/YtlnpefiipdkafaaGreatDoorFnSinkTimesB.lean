/-
  Closed facts of the card of FnSinkTimes.
-/
import Derived.Test.YtlnpefiipdkafaaGreatDoorRows
import Derived.Test.YtlnpefiipdkafaaGreatDoorGA
import Derived.Test.YtlnpefiipdkafaaGreatDoorCards
import Derived.Test.YtlnpefiipdkafaaGreatDoorTie
import Derived.LaidMore
import Derived.Lay
import Derived.SevenTiedAt
import Derived.Stop.Joined
namespace Go.Proofs.YtlnpefiipdkafaaGreatDoor.fnSinkTimes
open Go.ChangeShapes Go.WideShapes Go.ChangeAt Go.RowKit
open Go.ChangeMaps (open_string)

theorem c_goes : false = Rows.fnSinkTimesRow.goesBy Tryz.prog := by kernel_rfl
theorem c_looks : false = Tryz.prog.looks [] := by kernel_rfl
theorem c_fn : Tryz.prog.funcNamed "loop.example/g00861/laws.FnSinkTimes" = some 6 := by kernel_rfl
end Go.Proofs.YtlnpefiipdkafaaGreatDoor.fnSinkTimes
