/-
  The walk of FnExactParseTime.
-/
import Derived.Test.YtgglgghlndhfbaaDoorSParse
namespace Go.Proofs.YtgglgghlndhfbaaDoor
open Go.RowKit
set_option maxHeartbeats 1000000 in
theorem walk_FnExactParseTime {s : ByteArray} (hs : s.size ≤ maxLen) (w : World) (hw : TW w ∧ TE w) :
    Calls Tryd.prog 4 #[.string s] w fun e w' => e = .returned (.bool true) ∧ Below w.heap.size w w' := by
  have zs : (s.size : Int) ≤ 9223372036854775807 := by unfold maxLen at hs; omega
  have H := hideIt hw.1
  have HE := hideIt hw.2
  clear hw hs
  by_cases hz : s.size > 1048576
  · go_enter Tryd.func4, Tryd.ntmps4
    go_wp2
    go_ret
    exact ⟨rfl, Below.refl _ _⟩
  have hz2 : s.size ≤ 1048576 := by omega
  go_enter Tryd.func4, Tryd.ntmps4
  go_wp2_with fail
  refine (sParse_any s _ hz2).mono ?_
  rintro e u1 ⟨n, ok, rfl, hp, g1⟩
  go_wp2_with fail
  refine (iParse_any s _ hz2 (H.out.keep g1) (HE.out.keep g1)).mono ?_
  rintro e u2 ⟨n2, ok2, rfl, hp2, g2⟩
  obtain ⟨rfl, rfl⟩ := hp.uniq hp2
  have G := hideIt (g1.trans g2)
  clear g1 g2 hp hp2
  go_wp2
  all_goals go_ret
  all_goals exact ⟨rfl, G.out.below⟩
end Go.Proofs.YtgglgghlndhfbaaDoor
