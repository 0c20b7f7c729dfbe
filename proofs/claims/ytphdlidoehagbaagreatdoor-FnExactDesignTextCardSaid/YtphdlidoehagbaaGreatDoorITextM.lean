/-
  The line of an instance and the text of a design, in plain Lean.
-/
import Derived.Test.YtphdlidoehagbaaGreatDoorPlN
import Derived.Lib.Join
namespace Go.Proofs.YtphdlidoehagbaaGreatDoor
open Go.RowKit
theorem bz1 {a b c : Nat} (h1 : a ≤ b) (h2 : b + c ≤ 1000000) : ¬ 9223372036854775807 < a + c := by omega
/-- bytes of a text, put one behind the other -/
def wB : ByteArray := ⟨#[32]⟩
def nlB : ByteArray := ⟨#[10]⟩
def netB (d : DesignD) (n : Int) : ByteArray := d.nets.getD n.toNat ⟨#[]⟩
def instHead (x : InstD) (c : CellD) : ByteArray := (⟨#[105, 110, 115, 116, 32]⟩ : ByteArray) ++ x.name ++ wB ++ c.name
def instUp (d : DesignD) (x : InstD) (c : CellD) : Nat → ByteArray
  | 0 => instHead x c
  | k + 1 => instUp d x c k ++ wB ++ netB d (x.nets.getD k 0)
def lineB (l : List CellD) (d : DesignD) (x : InstD) : ByteArray := match l[x.cell.toNat]? with | some c => instUp d x c x.nets.length | none => ⟨#[]⟩
theorem bsize (l : List UInt8) : (⟨l.toArray⟩ : ByteArray).size = l.length := by simp [ByteArray.size]
structure InstT (l : List CellD) (d : DesignD) (x : InstD) (c : CellD) (n : Nat) : Prop where
  cell : x.cell = (n : Int)
  at_ : l[n]? = some c
  nm : x.name.size ≤ 8
  cn : c.name.size ≤ 8
  few : x.nets.length ≤ 5
  net : ∀ (k : Nat) (v : Int), x.nets[k]? = some v → ∃ (m : Nat) (s : ByteArray), v = (m : Int) ∧ d.nets[m]? = some s ∧ s.size ≤ 8
theorem instT_of {l : List CellD} {d : DesignD} (h : DesP l d) {i : Nat} {x : InstD} (hx : d.insts[i]? = some x) : ∃ (c : CellD) (n : Nat), InstT l d x c n := by
  have ho := h.inst i x hx
  have hb := inB_true ho.cell
  obtain ⟨n, hn⟩ : ∃ n : Nat, x.cell = (n : Int) := ⟨x.cell.toNat, by omega⟩
  obtain ⟨c, hc⟩ : ∃ c, l[n]? = some c := ⟨_, List.getElem?_eq_getElem (by omega)⟩
  refine ⟨c, n, hn, hc, (nameB_size (inst_name h hx)).2, (nameB_size (h.lib.1 n c hc).name).2, (DesP.last h.lib ho).2, fun k v hv => ?_⟩
  have hv2 := List.all_eq_true.1 ho.nets v (List.mem_of_getElem? hv)
  have hb2 := inB_true (show inB v 0 ((d.nets.length : Int) - 1) = true from hv2)
  obtain ⟨m, hm⟩ : ∃ m : Nat, v = (m : Int) := ⟨v.toNat, by omega⟩
  obtain ⟨s, hs⟩ : ∃ s, d.nets[m]? = some s := ⟨_, List.getElem?_eq_getElem (by omega)⟩
  exact ⟨m, s, hm, hs, (nameB_size (h.nname.1 m s hs)).2⟩
theorem instHead_size {l : List CellD} {d : DesignD} {x : InstD} {c : CellD} {n : Nat} (h : InstT l d x c n) : (instHead x c).size ≤ 22 := by
  unfold instHead wB
  have e1 : (⟨#[105, 110, 115, 116, 32]⟩ : ByteArray).size = 5 := rfl
  have e2 : (⟨#[32]⟩ : ByteArray).size = 1 := rfl
  have := h.nm
  have := h.cn
  rw [ByteArray.size_append, ByteArray.size_append, ByteArray.size_append]
  omega
theorem netB_at {d : DesignD} {m : Nat} {s : ByteArray} (h : d.nets[m]? = some s) : netB d (m : Int) = s := by
  unfold netB; rw [Int.toNat_natCast, List.getD_eq_getElem?_getD, h]; rfl
theorem instUp_succ {d : DesignD} {x : InstD} {c : CellD} {k m : Nat} {s : ByteArray} (hv : x.nets[k]? = some (m : Int)) (hs : d.nets[m]? = some s) : instUp d x c (k + 1) = instUp d x c k ++ wB ++ s := by
  show instUp d x c k ++ wB ++ netB d (x.nets.getD k 0) = _
  rw [List.getD_eq_getElem?_getD, hv]
  show _ ++ netB d (m : Int) = _
  rw [netB_at hs]
theorem instUp_size {l : List CellD} {d : DesignD} {x : InstD} {c : CellD} {n : Nat} (h : InstT l d x c n) : ∀ {k : Nat}, k ≤ x.nets.length → (instUp d x c k).size ≤ 22 + 9 * k
  | 0, _ => instHead_size h
  | k + 1, hk => by
    obtain ⟨v, hv⟩ : ∃ v, x.nets[k]? = some v := ⟨_, List.getElem?_eq_getElem (by omega)⟩
    obtain ⟨m, s, rfl, hs, hz⟩ := h.net k v hv
    have ih := instUp_size h (k := k) (by omega)
    have e2 : wB.size = 1 := rfl
    rw [instUp_succ hv hs, ByteArray.size_append, ByteArray.size_append]
    omega
theorem lineB_of {l : List CellD} {d : DesignD} {x : InstD} {c : CellD} {n : Nat} (h : InstT l d x c n) : lineB l d x = instUp d x c x.nets.length := by
  unfold lineB; rw [h.cell, Int.toNat_natCast, h.at_]
theorem lineB_size {l : List CellD} {d : DesignD} {x : InstD} {c : CellD} {n : Nat} (h : InstT l d x c n) : (lineB l d x).size ≤ 67 := by
  rw [lineB_of h]
  have := instUp_size h (Nat.le_refl _)
  have := h.few
  omega
/-- the words of an instance's line -/
def instW (d : DesignD) (x : InstD) (c : CellD) (k : Nat) : List ByteArray := [(⟨#[105, 110, 115, 116]⟩ : ByteArray), x.name, c.name] ++ (List.range k).map fun j => netB d (x.nets.getD j 0)
theorem instW_succ {d : DesignD} {x : InstD} {c : CellD} {k m : Nat} {s : ByteArray} (hv : x.nets[k]? = some (m : Int)) (hs : d.nets[m]? = some s) : instW d x c (k + 1) = instW d x c k ++ [s] := by
  unfold instW
  rw [List.range_succ, List.map_append, ← List.append_assoc]
  congr 1
  rw [List.map_singleton, List.getD_eq_getElem?_getD, hv]
  show [netB d (m : Int)] = _
  rw [netB_at hs]
theorem join_snoc (ws : List (List UInt8)) (w sep : List UInt8) (h : ws ≠ []) : Lib.join (ws ++ [w]) sep = Lib.join ws sep ++ sep ++ w := by
  unfold Lib.join
  induction ws with
  | nil => exact absurd rfl h
  | cons a r ih =>
    cases r with
    | nil => simp [List.intercalate, List.intersperse]
    | cons b r =>
      have := ih (by simp)
      simp only [List.intercalate, List.cons_append, List.intersperse_cons_cons, List.flatten_cons] at this ⊢
      rw [this]
      simp
theorem join_inst (d : DesignD) (x : InstD) (c : CellD) : ∀ k : Nat, (⟨(Lib.join ((instW d x c k).map (·.data.toList)) [32]).toArray⟩ : ByteArray) = instUp d x c k
  | 0 => by
    apply ByteArray.ext
    simp [instW, instUp, instHead, wB, Lib.join, List.intercalate, List.intersperse, ByteArray.data_append]
  | k + 1 => by
    have ih := join_inst d x c k
    have e : instW d x c (k + 1) = instW d x c k ++ [netB d (x.nets.getD k 0)] := by
      unfold instW
      rw [List.range_succ, List.map_append, ← List.append_assoc, List.map_singleton]
    rw [e, List.map_append, List.map_singleton, join_snoc _ _ _ (by simp [instW])]
    show _ = instUp d x c k ++ wB ++ netB d (x.nets.getD k 0)
    rw [← ih]
    apply ByteArray.ext
    simp [wB, ByteArray.data_append]
noncomputable def iTextV (l : List CellD) (d : DesignD) (n : Int) : ByteArray := if (desB l d && inB n 0 ((d.insts.length : Int) - 1)) = true then (match d.insts[n.toNat]? with | some x => lineB l d x | none => ⟨#[]⟩) else ⟨#[]⟩
end Go.Proofs.YtphdlidoehagbaaGreatDoor
