/-
  Contracts of the small number functions: bounds, modes, division.
-/
import Derived.Test.YtcaklodecejkhaaDoorProg
import Derived.Test.YtcaklodecejkhaaDoorMath
import Derived.Test.YtcaklodecejkhaaDoorGrow
namespace Go.Proofs.YtcaklodecejkhaaDoor
open Go.RowKit

set_option maxHeartbeats 400000 in
theorem l01In_any (n lo hi : Int) (w : World) :
    Calls Tryd.prog 31 #[.int .i64 n, .int .i64 lo, .int .i64 hi] w fun e w' => e = .returned (.bool (inB n lo hi)) ∧ w = w' := by
  by_cases h1 : lo ≤ n <;> by_cases h2 : n ≤ hi <;> go_enter Tryd.func31, Tryd.ntmps31 <;> go_wp2 <;> go_ret <;> exact ⟨by simp [inB]; omega, rfl⟩

set_option maxHeartbeats 400000 in
theorem within_any (n lo hi : Int) (w : World) :
    Calls Tryd.prog 39 #[.int .i64 n, .int .i64 lo, .int .i64 hi] w fun e w' => e = .returned (.bool (inB n lo hi)) ∧ w = w' := by
  by_cases h1 : lo ≤ n <;> by_cases h2 : n ≤ hi <;> go_enter Tryd.func39, Tryd.ntmps39 <;> go_wp2 <;> go_ret <;> exact ⟨by simp [inB]; omega, rfl⟩

end Go.Proofs.YtcaklodecejkhaaDoor
