/-
  The text of a design, in plain Lean.
-/
import Derived.Test.YtphdlidoehagbaaGreatDoorITextM
namespace Go.Proofs.YtphdlidoehagbaaGreatDoor
open Go.RowKit
def netW : ByteArray := ⟨#[110, 101, 116, 32]⟩
def portW : ByteArray := ⟨#[112, 111, 114, 116, 32]⟩
def inW : ByteArray := ⟨#[105, 110]⟩
def outW : ByteArray := ⟨#[111, 117, 116]⟩
def dirB (p : PortD) : ByteArray := if p.dir = 2 then outW else inW
def netsUp (d : DesignD) : Nat → ByteArray
  | 0 => ⟨#[]⟩
  | k + 1 => netsUp d k ++ netW ++ d.nets.getD k ⟨#[]⟩ ++ nlB
def zPort : PortD := ⟨⟨#[]⟩, 0, 0⟩
def zInst : InstD := ⟨⟨#[]⟩, 0, []⟩
def portsUp (d : DesignD) : Nat → ByteArray
  | 0 => netsUp d d.nets.length
  | k + 1 => portsUp d k ++ portW ++ (d.ports.getD k zPort).name ++ wB ++ dirB (d.ports.getD k zPort) ++ wB ++ netB d (d.ports.getD k zPort).net ++ nlB
def instsUp (l : List CellD) (d : DesignD) : Nat → ByteArray
  | 0 => portsUp d d.ports.length
  | k + 1 => instsUp l d k ++ lineB l d (d.insts.getD k zInst) ++ nlB
def textB (l : List CellD) (d : DesignD) : ByteArray := instsUp l d d.insts.length
noncomputable def textV (l : List CellD) (d : DesignD) : ByteArray := if desB l d = true then textB l d else ⟨#[]⟩
theorem getD_s {α : Type} {xs : List α} {k : Nat} {x z : α} (h : xs[k]? = some x) : xs.getD k z = x := by rw [List.getD_eq_getElem?_getD, h]; rfl
theorem netsUp_succ {d : DesignD} {k : Nat} {s : ByteArray} (h : d.nets[k]? = some s) : netsUp d (k + 1) = netsUp d k ++ netW ++ s ++ nlB := by
  show netsUp d k ++ netW ++ d.nets.getD k ⟨#[]⟩ ++ nlB = _
  rw [getD_s h]
theorem portsUp_succ {d : DesignD} {k m : Nat} {p : PortD} {s : ByteArray} (h : d.ports[k]? = some p) (hm : p.net = (m : Int)) (hs : d.nets[m]? = some s) : portsUp d (k + 1) = portsUp d k ++ portW ++ p.name ++ wB ++ dirB p ++ wB ++ s ++ nlB := by
  show portsUp d k ++ portW ++ (d.ports.getD k zPort).name ++ wB ++ dirB (d.ports.getD k zPort) ++ wB ++ netB d (d.ports.getD k zPort).net ++ nlB = _
  rw [getD_s h, hm, netB_at hs]
theorem instsUp_succ {l : List CellD} {d : DesignD} {k : Nat} {x : InstD} (h : d.insts[k]? = some x) : instsUp l d (k + 1) = instsUp l d k ++ lineB l d x ++ nlB := by
  show instsUp l d k ++ lineB l d (d.insts.getD k zInst) ++ nlB = _
  rw [getD_s h]
theorem net_size {l : List CellD} {d : DesignD} (h : DesP l d) {k : Nat} {s : ByteArray} (hs : d.nets[k]? = some s) : s.size ≤ 8 := (nameB_size (h.nname.1 k s hs)).2
theorem port_of {l : List CellD} {d : DesignD} (h : DesP l d) {k : Nat} {p : PortD} (hp : d.ports[k]? = some p) : p.name.size ≤ 8 ∧ ∃ (m : Nat) (s : ByteArray), p.net = (m : Int) ∧ d.nets[m]? = some s ∧ s.size ≤ 8 := by
  have ho := h.port k p hp
  have hb := inB_true (show inB p.net 0 ((d.nets.length : Int) - 1) = true from ho.net)
  obtain ⟨m, hm⟩ : ∃ m : Nat, p.net = (m : Int) := ⟨p.net.toNat, by omega⟩
  obtain ⟨s, hs⟩ : ∃ s, d.nets[m]? = some s := ⟨_, List.getElem?_eq_getElem (by omega)⟩
  exact ⟨(nameB_size (h.pname.1 k _ (by rw [List.getElem?_map, hp]; rfl))).2, m, s, hm, hs, net_size h hs⟩
theorem assoc_net (u s : ByteArray) : u ++ (netW ++ s ++ nlB) = u ++ netW ++ s ++ nlB := by
  apply ByteArray.ext; simp [ByteArray.data_append]
theorem assoc_in (u n s : ByteArray) : u ++ (portW ++ n ++ (⟨#[32, 105, 110, 32]⟩ : ByteArray) ++ s ++ nlB) = u ++ portW ++ n ++ wB ++ inW ++ wB ++ s ++ nlB := by
  apply ByteArray.ext; simp [ByteArray.data_append, wB, inW]
theorem assoc_out (u n s : ByteArray) : u ++ (portW ++ n ++ (⟨#[32, 111, 117, 116, 32]⟩ : ByteArray) ++ s ++ nlB) = u ++ portW ++ n ++ wB ++ outW ++ wB ++ s ++ nlB := by
  apply ByteArray.ext; simp [ByteArray.data_append, wB, outW]
theorem assoc_line (u s : ByteArray) : u ++ (s ++ nlB) = u ++ s ++ nlB := by
  apply ByteArray.ext; simp [ByteArray.data_append]
theorem dir_in {p : PortD} (h : ¬ p.dir = 2) : dirB p = inW := if_neg h
theorem dir_out {p : PortD} (h : p.dir = 2) : dirB p = outW := if_pos h
end Go.Proofs.YtphdlidoehagbaaGreatDoor
