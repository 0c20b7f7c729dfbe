/-
  Closed facts of the card of FnExactReadDesign.
-/
import Derived.Test.YtocahjbmnkadjaaGreatDoorRows
import Derived.Test.YtocahjbmnkadjaaGreatDoorGA
import Derived.Test.YtocahjbmnkadjaaGreatDoorCards
import Derived.Test.YtocahjbmnkadjaaGreatDoorTie
import Derived.LaidMore
import Derived.Lay
import Derived.SevenTiedAt
import Derived.Stop.Joined
namespace Go.Proofs.YtocahjbmnkadjaaGreatDoor.fnExactReadDesign
open Go.ChangeShapes Go.WideShapes Go.ChangeAt Go.RowKit
open Go.ChangeMaps (open_string)

theorem c_goes : false = Rows.fnExactReadDesignRow.goesBy Tryz.prog := by kernel_rfl
theorem c_looks : false = Tryz.prog.looks [] := by kernel_rfl
theorem c_fn : Tryz.prog.funcNamed "loop.example/g00861/laws.FnExactReadDesign" = some 3 := by kernel_rfl
end Go.Proofs.YtocahjbmnkadjaaGreatDoor.fnExactReadDesign
