/-
  The slew at a sink of a net of a block, in plain Lean.
-/
import Derived.Test.YtpppobomekebdaaGreatDoorGT
import Derived.Test.YtpppobomekebdaaGreatDoorRoot
namespace Go.Proofs.YtpppobomekebdaaGreatDoor
open Go.RowKit
def dlyV (cs : List CellD) (d : DesignD) (x : WireD) (n : Int) (s : Nat) : Int := (delaysL cs d x n).getD (x.sink.getD s 0).toNat 0
theorem delaysL_len {cs : List CellD} {d : DesignD} {x : WireD} {n : Int} (h : 1 ≤ x.cap.length) : (delaysL cs d x n).length = x.cap.length := by
  unfold delaysL
  rw [dlS_len]
  omega
theorem dlyV_bd {cs : List CellD} {d : DesignD} (hd : DesP cs d) {n : Int} {x : WireD} (h : WireOk x (sinksL d n).length) (s : Nat) : 0 ≤ dlyV cs d x n s ∧ dlyV cs d x n s ≤ 301000000 := by
  have hc := h.cap
  have h8 := h.n8
  exact delay_bd hd h (by omega) _
theorem isM_01 {m : Int} (h : isM m = true) : m = 0 ∨ m = 1 := by
  unfold isM at h
  simpa using h
def tests (x : WireD) (s sl m : Int) : Bool := inB s 0 ((x.sink.length : Int) - 1) && (inB sl 0 1000000 && isM m)
noncomputable def slewCode (cs : List CellD) (d : DesignD) (ws : List WireD) (n s sl m : Int) : Int :=
  if codeV cs d ws n = 0 then (match ws[n.toNat]? with | some x => if tests x s sl m = true then 0 else 2 | none => 2) else codeV cs d ws n
noncomputable def slewVal (cs : List CellD) (d : DesignD) (ws : List WireD) (n s sl m : Int) : Int :=
  if codeV cs d ws n = 0 then (match ws[n.toNat]? with | some x => if tests x s sl m = true then slewR sl (dlyV cs d x n s.toNat) m else 0 | none => 0) else 0
section
variable {cs : List CellD} {d : DesignD} {ws : List WireD} {n s sl m : Int} {k : Nat} {x : WireD}
theorem slew_no (h : ¬ codeV cs d ws n = 0) : slewVal cs d ws n s sl m = 0 ∧ slewCode cs d ws n s sl m = codeV cs d ws n := by
  unfold slewVal slewCode
  rw [if_neg h, if_neg h]
  exact ⟨rfl, rfl⟩
theorem slew_out (h : codeV cs d ws (k : Int) = 0) (hx : ws[k]? = some x) (ht : tests x s sl m = false) : slewVal cs d ws (k : Int) s sl m = 0 ∧ slewCode cs d ws (k : Int) s sl m = 2 := by
  unfold slewVal slewCode
  rw [if_pos h, if_pos h, Int.toNat_natCast, hx]
  simp [ht]
theorem slew_in (h : codeV cs d ws (k : Int) = 0) (hx : ws[k]? = some x) (ht : tests x s sl m = true) : slewVal cs d ws (k : Int) s sl m = slewR sl (dlyV cs d x (k : Int) s.toNat) m ∧ slewCode cs d ws (k : Int) s sl m = 0 := by
  unfold slewVal slewCode
  rw [if_pos h, if_pos h, Int.toNat_natCast, hx]
  simp [ht]
end
end Go.Proofs.YtpppobomekebdaaGreatDoor
