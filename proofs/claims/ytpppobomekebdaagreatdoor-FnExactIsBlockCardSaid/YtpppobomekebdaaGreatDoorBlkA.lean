/-
  Blocks as the walk meets them.
-/
import Derived.Test.YtpppobomekebdaaGreatDoorBlkM
import Derived.Test.YtpppobomekebdaaGreatDoorPlA
import Derived.Test.YtpppobomekebdaaGreatDoorGE
namespace Go.Proofs.YtpppobomekebdaaGreatDoor
open Go.RowKit
theorem wires_at {w : World} {A : Option Addr} {n : Nat} {ws : List WireD} (h : RWires w (.slice A ws.length n) ws) {i : Nat} {x : WireD} (hi : ws[i]? = some x) : ∃ (b off : Nat) (A0 A1 A2 A3 : Option Addr) (m0 m1 m2 m3 : Nat), A = some ⟨b, off, none⟩ ∧ w.cell? ⟨b, off + i * 4, none⟩ = some (.slice A0 x.parent.length m0) ∧ w.cell? ⟨b, off + i * 4 + 1, none⟩ = some (.slice A1 x.res.length m1) ∧ w.cell? ⟨b, off + i * 4 + 2, none⟩ = some (.slice A2 x.cap.length m2) ∧ w.cell? ⟨b, off + i * 4 + 3, none⟩ = some (.slice A3 x.sink.length m3) ∧ RWire w [.slice A0 x.parent.length m0, .slice A1 x.res.length m1, .slice A2 x.cap.length m2, .slice A3 x.sink.length m3] x := by
  obtain ⟨A', n', e, -, -, hx⟩ := RList.form h
  injection e with e1 e2
  subst e1
  obtain ⟨b, off, rfl, ds, hl1, hcs, hr⟩ := hx i x hi
  obtain ⟨d0, d1, d2, d3, rfl⟩ := list4 hl1
  obtain ⟨⟨A0, m0, rfl⟩, ⟨A1, m1, rfl⟩, ⟨A2, m2, rfl⟩, ⟨A3, m3, rfl⟩⟩ := hr.shape
  exact ⟨b, off, A0, A1, A2, A3, m0, m1, m2, m3, rfl, by simpa using hcs 0 _ rfl, by simpa [Nat.add_assoc] using hcs 1 _ rfl, by simpa [Nat.add_assoc] using hcs 2 _ rfl, by simpa [Nat.add_assoc] using hcs 3 _ rfl, hr⟩
theorem blkB_no {l : List CellD} {d : DesignD} {ws : List WireD} (h : ¬ BlkP l d ws) : blkB l d ws = false := pB_false h
noncomputable def codeV (l : List CellD) (d : DesignD) (ws : List WireD) (n : Int) : Int := if blkB l d ws = true then (if inB n 0 ((ws.length : Int) - 1) = true then 0 else 2) else 1
theorem codeV_0 {l : List CellD} {d : DesignD} {ws : List WireD} {n : Int} (h : codeV l d ws n = 0) : BlkP l d ws ∧ ∃ k : Nat, n = (k : Int) ∧ k < ws.length := by
  unfold codeV at h
  split at h
  · rename_i hb
    split at h
    · rename_i hi
      have := inB_true hi
      exact ⟨pB_iff.1 (show pB (BlkP l d ws) = true from hb), n.toNat, by omega, by omega⟩
    · omega
  · omega
theorem codeV_12 (l : List CellD) (d : DesignD) (ws : List WireD) (n : Int) : 0 ≤ codeV l d ws n ∧ codeV l d ws n ≤ 2 := by
  unfold codeV
  split
  · split <;> omega
  · omega
end Go.Proofs.YtpppobomekebdaaGreatDoor
