/-
  Closed facts of the law FnExactReadDesign.
-/
import Derived.Test.YtocahjbmnkadjaaGreatDoorRows
import Derived.Test.YtocahjbmnkadjaaGreatDoorGA
import Derived.Test.YtocahjbmnkadjaaGreatDoorCards
import Derived.Test.YtocahjbmnkadjaaGreatDoorTie
import Derived.LaidMore
import Derived.Lay
import Derived.SevenTiedAt
import Derived.Stop.Joined
namespace Go.Proofs.YtocahjbmnkadjaaGreatDoor.fnExactReadDesign
open Go.ChangeShapes Go.WideShapes Go.ChangeAt Go.RowKit
open Go.ChangeMaps (open_string)

theorem c_named : (Rows.fnExactReadDesignRow.named == Tryz.prog.varsNamed 3) = true := by kernel_rfl
theorem c_unfollowed : (Rows.fnExactReadDesignRow.unfollowed == Tryz.prog.unfollowed 3) = true := by kernel_rfl
theorem c_recurses : (Rows.fnExactReadDesignRow.recurses == Tryz.prog.recurses 3) = true := by kernel_rfl
theorem c_inPlace : (Rows.fnExactReadDesignRow.inPlace == Tryz.prog.inPlace 3) = true := by kernel_rfl
end Go.Proofs.YtocahjbmnkadjaaGreatDoor.fnExactReadDesign
