/-
  Closed facts of the card of FnExactIsDesign.
-/
import Derived.Test.YtnojnmdfklgooaaGreatDoorRows
import Derived.Test.YtnojnmdfklgooaaGreatDoorGA
import Derived.Test.YtnojnmdfklgooaaGreatDoorCards
import Derived.Test.YtnojnmdfklgooaaGreatDoorTie
import Derived.LaidMore
import Derived.Lay
import Derived.SevenTiedAt
import Derived.Stop.Joined
namespace Go.Proofs.YtnojnmdfklgooaaGreatDoor.fnExactIsDesign
open Go.ChangeShapes Go.WideShapes Go.ChangeAt Go.RowKit
open Go.ChangeMaps (open_string)

theorem c_goes : false = Rows.fnExactIsDesignRow.goesBy Tryz.prog := by kernel_rfl
theorem c_looks : false = Tryz.prog.looks [] := by kernel_rfl
theorem c_fn : Tryz.prog.funcNamed "loop.example/g00861/laws.FnExactIsDesign" = some 6 := by kernel_rfl
end Go.Proofs.YtnojnmdfklgooaaGreatDoor.fnExactIsDesign
