/-
  What a valid cell is, in plain Lean.
-/
import Derived.Test.YtcaklodecejkhaaDoorSKinds
namespace Go.Proofs.YtcaklodecejkhaaDoor
open Go.RowKit

def sameArc (b a : ArcD) : Prop := b.kind = a.kind ∧ b.src = a.src ∧ b.dst = a.dst
def ArcsP (ps : List PinD) (ar : List ArcD) : Prop := ∀ (k : Nat) (a : ArcD), ar[k]? = some a → sArcB ps a = true ∧ ∀ (j : Nat) (b : ArcD), j < k → ar[j]? = some b → ¬ sameArc b a
def hasB (ar : List ArcD) (k : Int) : Bool := ar.any fun a => decide (a.kind = k)
theorem kN_has (ar : List ArcD) (k : Int) : ∃ n : Int, (kN ar k ar.length : Int) = n ∧ (hasB ar k = true → 0 < n) ∧ (hasB ar k = false → n = 0) := by
  refine ⟨_, rfl, fun h => ?_, fun h => ?_⟩
  · have := kN_pos.2 h
    omega
  · have : ¬ 0 < kN ar k ar.length := fun h2 => by
      have h3 := kN_pos.1 h2
      unfold hasB at h
      rw [h3] at h
      cases h
    omega
def kindB (x : CellD) : Bool :=
  if x.kind = 1 then decide (clkN x.pins x.pins.length = 0) && decide (x.truth.length = 2 ^ (x.pins.length - 1)) && x.truth.all (fun v => inB v 0 1)
  else if x.kind = 2 then decide (clkN x.pins x.pins.length = 1) && decide (x.truth.length = 0) && !hasB x.arcs 1 && (hasB x.arcs 2 != hasB x.arcs 3)
  else if x.kind = 3 then decide (clkN x.pins x.pins.length = 1) && decide (x.truth.length = 0) && hasB x.arcs 1 && hasB x.arcs 2 && !hasB x.arcs 3
  else false
structure CellP (x : CellD) : Prop where
  pins : PinsP x.pins
  name : nameB x.name = true
  arcs : ArcsP x.pins x.arcs
  few : x.arcs.length ≤ 8
  leak : inB x.leak 0 100000 = true
  energy : inB x.energy 0 100000 = true
  ofKind : kindB x = true
noncomputable def cellB (x : CellD) : Bool := pB (CellP x)
theorem sArcB_kind {ps : List PinD} {a : ArcD} (h : sArcB ps a = true) : 1 ≤ a.kind ∧ a.kind ≤ 5 := by
  unfold sArcB at h
  by_cases h1 : a.kind = 1
  · omega
  by_cases h2 : a.kind = 2 ∨ a.kind = 3
  · omega
  by_cases h3 : a.kind = 4 ∨ a.kind = 5
  · omega
  simp [h1, h2, h3] at h
end Go.Proofs.YtcaklodecejkhaaDoor
