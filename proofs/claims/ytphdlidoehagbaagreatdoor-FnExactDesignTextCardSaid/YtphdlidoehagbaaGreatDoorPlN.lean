/-
  The name of a place, in plain Lean.
-/
import Derived.Test.YtphdlidoehagbaaGreatDoorPlF
namespace Go.Proofs.YtphdlidoehagbaaGreatDoor
open Go.RowKit
def nameOf (l : List CellD) (d : DesignD) (p : PlaceD) : ByteArray :=
  if p.inst < 0 then (match d.ports[p.pin.toNat]? with | some o => o.name | none => ⟨#[]⟩)
  else match pinAt l d p with | some (x, q) => x.name ++ ⟨#[47]⟩ ++ q.name | none => ⟨#[]⟩
noncomputable def nameV (l : List CellD) (d : DesignD) (n : Int) : ByteArray := if atB l d n = true then nameOf l d (atV l d n) else ⟨#[]⟩
noncomputable def namedV (l : List CellD) (d : DesignD) (s : ByteArray) : Int := if desB l d = true then idxF (fun p => decide (nameOf l d p = s)) (placesL d) else -1
theorem nameOf_pin {l : List CellD} {d : DesignD} {p : PlaceD} {x : InstD} {q : PinD} (h : 0 ≤ p.inst) (hp : pinAt l d p = some (x, q)) : nameOf l d p = x.name ++ ⟨#[47]⟩ ++ q.name := by
  unfold nameOf; rw [if_neg (by omega), hp]
theorem nameOf_port {l : List CellD} {d : DesignD} {p : PlaceD} {k : Nat} {o : PortD} (h : p.inst < 0) (hk : p.pin = (k : Int)) (ho : d.ports[k]? = some o) : nameOf l d p = o.name := by
  unfold nameOf; rw [if_pos h, hk, Int.toNat_natCast, ho]
theorem nameB_size {s : ByteArray} (h : nameB s = true) : 1 ≤ s.size ∧ s.size ≤ 8 := by
  have := nameL_inv h
  have e : s.data.toList.length = s.size := Array.length_toList
  omega
theorem inst_name {l : List CellD} {d : DesignD} (h : DesP l d) {i : Nat} {x : InstD} (hx : d.insts[i]? = some x) : nameB x.name = true :=
  h.iname.1 i _ (by rw [List.getElem?_map, hx]; rfl)
theorem pin_name {l : List CellD} {d : DesignD} (h : DesP l d) {i k : Nat} {c : CellD} {q : PinD} (hc : l[i]? = some c) (hq : c.pins[k]? = some q) : nameB q.name = true :=
  ((h.lib.1 i c hc).pins.2.1 k q hq).1
end Go.Proofs.YtphdlidoehagbaaGreatDoor
