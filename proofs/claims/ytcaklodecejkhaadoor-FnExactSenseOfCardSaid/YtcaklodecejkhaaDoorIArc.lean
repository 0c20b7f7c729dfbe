/-
  Contract of the program's test of an arc.
-/
import Derived.Test.YtcaklodecejkhaaDoorIArcA
import Derived.Test.YtcaklodecejkhaaDoorIArcB
namespace Go.Proofs.YtcaklodecejkhaaDoor
open Go.RowKit
theorem isArc_any {v0 v1 v2 v3 v4 v5 v6 u0 u1 u2 u3 u4 u5 : Value} {x : CellD} {a : ArcD} (w : World) (h : RCell w [v0, v1, v2, v3, v4, v5, v6] x) (ha : RArc w [u0, u1, u2, u3, u4, u5] a) :
    Calls Tryd.prog 64 #[.agg #[v0, v1, v2, v3, v4, v5, v6], .agg #[u0, u1, u2, u3, u4, u5]] w fun e w' => e = .returned (.bool (iArcB x.pins a)) ∧ Grows w w' := by
  obtain ⟨rfl, rfl, rfl, rfl, hd, hs⟩ := ha.parts
  obtain ⟨kind, src, dst, sense, delay, slew⟩ := a
  obtain ⟨A, n0, rfl⟩ : ∃ (A : Option Addr) (n0 : Nat), v2 = .slice A x.pins.length n0 := by obtain ⟨D, c, e, -⟩ := RList.form h.parts.2.2.1; exact ⟨D, c, e⟩
  obtain ⟨D, nd, rfl⟩ : ∃ (D : Option Addr) (nd : Nat), u4 = .slice D delay.length nd := by obtain ⟨D, c, e, -⟩ := RList.form hd; exact ⟨D, c, e⟩
  obtain ⟨E, ne, rfl⟩ : ∃ (E : Option Addr) (ne : Nat), u5 = .slice E slew.length ne := by obtain ⟨D, c, e, -⟩ := RList.form hs; exact ⟨D, c, e⟩
  by_cases hk : kind = 4 ∨ kind = 5
  · exact isArc_chk w h hd hs hk
  · exact isArc_oth w h hd hs hk
end Go.Proofs.YtcaklodecejkhaaDoor
