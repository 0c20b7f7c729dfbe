/-
  What a row's laid variables and its world's shape give.
-/
import Derived.Test.YtgglgghlndhfbaaDoorFmt
import Derived.HandedShaped
import Derived.Stop.LaidErr
import Derived.Lib.LaidTab
namespace Go.Proofs.YtgglgghlndhfbaaDoor
open Go.RowKit Go.ChangeShapes Go.WideShapes Go.ChangeAt
theorem gPow : Tryd.prog.globalNamed "internal/strconv.uint64pow10" = some 5 := by kernel_rfl
theorem tw_of {x y : String × DataW Unit} {r : List (String × DataW Unit)} {W : World} (h : laidMet Tryd.prog (x :: y :: ("internal/strconv.uint64pow10", Lib.tabData .u64 Lib.pow10Tab) :: r) W) : TW W :=
  Lib.tabIs_of_head (e := 95) (n := 20) gPow (t := 136) (by kernel_rfl) (by kernel_rfl) Tryd.underlying95 (by kernel_rfl) (by kernel_rfl) h.tail.tail
end Go.Proofs.YtgglgghlndhfbaaDoor
