/-
  What the functions over a design's places answer, in plain Lean.
-/
import Derived.Test.YtocahjbmnkadjaaGreatDoorGM
import Derived.Test.YtocahjbmnkadjaaGreatDoorSParts
import Derived.Test.YtocahjbmnkadjaaGreatDoorGQ
import Derived.Lib.Join
import Derived.Test.YtocahjbmnkadjaaGreatDoorRC
namespace Go.Proofs.YtocahjbmnkadjaaGreatDoor
open Go.RowKit
def zPl : PlaceD := ⟨0, 0, 0, false⟩
def plV (p : PlaceD) : Value := .agg #[.int .i64 p.inst, .int .i64 p.pin, .int .i64 p.net, .bool p.drives]
noncomputable def atB (l : List CellD) (d : DesignD) (n : Int) : Bool := desB l d && inB n 0 (((placesL d).length : Int) - 1)
noncomputable def atV (l : List CellD) (d : DesignD) (n : Int) : PlaceD := if atB l d n = true then (placesL d).getD n.toNat zPl else zPl
theorem atB_no {l : List CellD} {d : DesignD} {n : Int} (h : desB l d = false) : atB l d n = false := by unfold atB; rw [h]; rfl
theorem atB_eq {l : List CellD} {d : DesignD} {n : Int} (h : desB l d = true) : atB l d n = inB n 0 (((placesL d).length : Int) - 1) := by unfold atB; rw [h]; rfl
theorem atV_no {l : List CellD} {d : DesignD} {n : Int} (h : atB l d n = false) : atV l d n = zPl := if_neg (by rw [h]; decide)
theorem atB_true {l : List CellD} {d : DesignD} {n : Int} (h : atB l d n = true) : DesP l d ∧ 0 ≤ n ∧ n.toNat < (placesL d).length ∧ (placesL d)[n.toNat]? = some (atV l d n) ∧ PlaceOk l d (atV l d n) := by
  have h0 := h
  unfold atB at h
  rw [Bool.and_eq_true] at h
  obtain ⟨h1, h2⟩ := h
  have hb := inB_true h2
  have hlt : n.toNat < (placesL d).length := by omega
  have e : (placesL d)[n.toNat]? = some (atV l d n) := by
    unfold atV
    rw [if_pos h0, List.getD_eq_getElem?_getD, List.getElem?_eq_getElem hlt]; rfl
  have hp : DesP l d := pB_iff.1 h1
  exact ⟨hp, hb.1, hlt, e, place_ok hp (List.mem_of_getElem? e)⟩
noncomputable def countV (l : List CellD) (d : DesignD) : Int := if desB l d = true then ((placesL d).length : Int) else -1
def isAt (i q : Int) (p : PlaceD) : Bool := decide (p.inst = i) && decide (p.pin = q)
def drvAt (n : Int) (p : PlaceD) : Bool := decide (p.net = n) && p.drives
def snkAt (n : Int) (p : PlaceD) : Bool := decide (p.net = n) && !p.drives
noncomputable def findV (l : List CellD) (d : DesignD) (i q : Int) : Int := if desB l d = true then idxF (isAt i q) (placesL d) else -1
noncomputable def drvV (l : List CellD) (d : DesignD) (n : Int) : Int := if desB l d = true then idxF (drvAt n) (placesL d) else -1
theorem drv_out {l : List CellD} {d : DesignD} {n : Int} (h : DesP l d) (hn : netIn d n = false) : idxF (drvAt n) (placesL d) = -1 :=
  idxF_miss fun j y _ hy => by
    have hk := (place_ok h (List.mem_of_getElem? hy)).net
    by_cases e : y.net = n
    · rw [e, hn] at hk; cases hk
    · unfold drvAt; simp [e]
noncomputable def instV (l : List CellD) (d : DesignD) (n : Int) : Int := if atB l d n = true then (atV l d n).inst else -1
noncomputable def pinV (l : List CellD) (d : DesignD) (n : Int) : Int := if atB l d n = true then (atV l d n).pin else -1
noncomputable def netV (l : List CellD) (d : DesignD) (n : Int) : Int := if atB l d n = true then (atV l d n).net else -1
/-- the cell's pin of a place at an instance -/
def pinAt (l : List CellD) (d : DesignD) (p : PlaceD) : Option (InstD × PinD) :=
  match d.insts[p.inst.toNat]? with
  | some x => match l[x.cell.toNat]? with
    | some c => match c.pins[p.pin.toNat]? with
      | some q => some (x, q)
      | none => none
    | none => none
  | none => none
def capOf (l : List CellD) (d : DesignD) (p : PlaceD) : Int := if p.inst < 0 then 0 else match pinAt l d p with | some (_, q) => q.cap | none => 0
noncomputable def capV (l : List CellD) (d : DesignD) (n : Int) : Int := if atB l d n = true then capOf l d (atV l d n) else -1
theorem pinAt_of {l : List CellD} {d : DesignD} {p : PlaceD} {i k : Nat} {x : InstD} {c : CellD} {q : PinD} (hi : p.inst = (i : Int)) (hk : p.pin = (k : Int)) (hx : d.insts[i]? = some x) (hc : l[x.cell.toNat]? = some c) (hq : c.pins[k]? = some q) : pinAt l d p = some (x, q) := by
  unfold pinAt
  rw [hi, hk, Int.toNat_natCast, Int.toNat_natCast, hx]
  simp only [hc, hq]
theorem capOf_pin {l : List CellD} {d : DesignD} {p : PlaceD} {x : InstD} {q : PinD} (h : 0 ≤ p.inst) (hp : pinAt l d p = some (x, q)) : capOf l d p = q.cap := by
  unfold capOf; rw [if_neg (by omega), hp]
theorem capOf_port {l : List CellD} {d : DesignD} {p : PlaceD} (h : p.inst < 0) : capOf l d p = 0 := if_pos h
/-- the sinks of a net: the numbers of its places that do not drive it -/
def snkL (n : Int) (ps : List PlaceD) (k : Nat) : List Int := (List.range k).filterMap fun (i : Nat) => match ps[i]? with | some p => if snkAt n p = true then some (i : Int) else none | none => none
theorem snkL_succ {n : Int} {ps : List PlaceD} {k : Nat} {p : PlaceD} (h : ps[k]? = some p) : snkL n ps (k + 1) = snkL n ps k ++ (if snkAt n p = true then [(k : Int)] else []) := by
  unfold snkL
  rw [List.range_succ, List.filterMap_append]
  congr 1
  by_cases e : snkAt n p = true <;> simp [h, e]
theorem snkL_len (n : Int) (ps : List PlaceD) (k : Nat) : (snkL n ps k).length ≤ k := by
  unfold snkL
  have := List.length_filterMap_le (fun (i : Nat) => match ps[i]? with | some p => if snkAt n p = true then some (i : Int) else none | none => none) (List.range k)
  simpa using this
def sinksL (d : DesignD) (n : Int) : List Int := snkL n (placesL d) (placesL d).length
theorem snk_out {l : List CellD} {d : DesignD} {n : Int} (h : DesP l d) (hn : netIn d n = false) : sinksL d n = [] := by
  unfold sinksL snkL
  rw [List.filterMap_eq_nil_iff]
  intro i _
  cases hp : (placesL d)[i]? with
  | none => rfl
  | some p =>
    have hk := (place_ok h (List.mem_of_getElem? hp)).net
    have e : snkAt n p = false := by
      by_cases e : p.net = n
      · rw [e, hn] at hk; cases hk
      · unfold snkAt; simp [e]
    simp [e]
noncomputable def sinksV (l : List CellD) (d : DesignD) (n : Int) : List Int := if desB l d = true then sinksL d n else []
end Go.Proofs.YtocahjbmnkadjaaGreatDoor
/-
  Places and pins as the walk meets them.
-/
namespace Go.Proofs.YtocahjbmnkadjaaGreatDoor
open Go.RowKit
theorem ret_two {a b c d : Int} (h : a = b) (k : c = d) : Ending.returned (.tuple #[.int .i64 a, .int .i64 c]) = .returned (.tuple #[.int .i64 b, .int .i64 d]) := by rw [h, k]
theorem ret_str {a b : ByteArray} (h : a = b) : Ending.returned (.string a) = .returned (.string b) := by rw [h]
theorem place_at {w : World} {A : Option Addr} {n : Nat} {xs : List PlaceD} (h : RPlaces w (.slice A xs.length n) xs) {i : Nat} {x : PlaceD} (hi : xs[i]? = some x) : ∃ b off : Nat, A = some ⟨b, off, none⟩ ∧ w.cell? ⟨b, off + i * 4, none⟩ = some (.int .i64 x.inst) ∧ w.cell? ⟨b, off + i * 4 + 1, none⟩ = some (.int .i64 x.pin) ∧ w.cell? ⟨b, off + i * 4 + 2, none⟩ = some (.int .i64 x.net) ∧ w.cell? ⟨b, off + i * 4 + 3, none⟩ = some (.bool x.drives) := by
  obtain ⟨A', n', e, -, -, hx⟩ := RList.form h
  injection e with e1 e2
  subst e1
  obtain ⟨b, off, rfl, ds, hl1, hcs, hr⟩ := hx i x hi
  unfold RPlace at hr
  subst hr
  exact ⟨b, off, rfl, by simpa using hcs 0 _ rfl, by simpa [Nat.add_assoc] using hcs 1 _ rfl, by simpa [Nat.add_assoc] using hcs 2 _ rfl, by simpa [Nat.add_assoc] using hcs 3 _ rfl⟩
theorem pin_at {w : World} {A : Option Addr} {n : Nat} {xs : List PinD} (h : RPins w (.slice A xs.length n) xs) {i : Nat} {x : PinD} (hi : xs[i]? = some x) : ∃ b off : Nat, A = some ⟨b, off, none⟩ ∧ w.cell? ⟨b, off + i * 4, none⟩ = some (.string x.name) ∧ w.cell? ⟨b, off + i * 4 + 1, none⟩ = some (.int .i64 x.dir) ∧ w.cell? ⟨b, off + i * 4 + 2, none⟩ = some (.int .i64 x.cap) ∧ x.name.size ≤ maxLen := by
  obtain ⟨A', n', e, -, -, hx⟩ := RList.form h
  injection e with e1 e2
  subst e1
  obtain ⟨b, off, rfl, ds, hl1, hcs, hr⟩ := hx i x hi
  obtain ⟨d0, d1, d2, d3, rfl⟩ := list4 hl1
  obtain ⟨rfl, rfl, rfl, rfl, hz⟩ := hr.parts
  exact ⟨b, off, rfl, by simpa using hcs 0 _ rfl, by simpa [Nat.add_assoc] using hcs 1 _ rfl, by simpa [Nat.add_assoc] using hcs 2 _ rfl, hz⟩
end Go.Proofs.YtocahjbmnkadjaaGreatDoor
/-
  The name of a place, in plain Lean.
-/
namespace Go.Proofs.YtocahjbmnkadjaaGreatDoor
open Go.RowKit
def nameOf (l : List CellD) (d : DesignD) (p : PlaceD) : ByteArray :=
  if p.inst < 0 then (match d.ports[p.pin.toNat]? with | some o => o.name | none => ⟨#[]⟩)
  else match pinAt l d p with | some (x, q) => x.name ++ ⟨#[47]⟩ ++ q.name | none => ⟨#[]⟩
noncomputable def nameV (l : List CellD) (d : DesignD) (n : Int) : ByteArray := if atB l d n = true then nameOf l d (atV l d n) else ⟨#[]⟩
noncomputable def namedV (l : List CellD) (d : DesignD) (s : ByteArray) : Int := if desB l d = true then idxF (fun p => decide (nameOf l d p = s)) (placesL d) else -1
theorem nameOf_pin {l : List CellD} {d : DesignD} {p : PlaceD} {x : InstD} {q : PinD} (h : 0 ≤ p.inst) (hp : pinAt l d p = some (x, q)) : nameOf l d p = x.name ++ ⟨#[47]⟩ ++ q.name := by
  unfold nameOf; rw [if_neg (by omega), hp]
theorem nameOf_port {l : List CellD} {d : DesignD} {p : PlaceD} {k : Nat} {o : PortD} (h : p.inst < 0) (hk : p.pin = (k : Int)) (ho : d.ports[k]? = some o) : nameOf l d p = o.name := by
  unfold nameOf; rw [if_pos h, hk, Int.toNat_natCast, ho]
theorem nameB_size {s : ByteArray} (h : nameB s = true) : 1 ≤ s.size ∧ s.size ≤ 8 := by
  have := nameL_inv h
  have e : s.data.toList.length = s.size := Array.length_toList
  omega
theorem inst_name {l : List CellD} {d : DesignD} (h : DesP l d) {i : Nat} {x : InstD} (hx : d.insts[i]? = some x) : nameB x.name = true :=
  h.iname.1 i _ (by rw [List.getElem?_map, hx]; rfl)
theorem pin_name {l : List CellD} {d : DesignD} (h : DesP l d) {i k : Nat} {c : CellD} {q : PinD} (hc : l[i]? = some c) (hq : c.pins[k]? = some q) : nameB q.name = true :=
  ((h.lib.1 i c hc).pins.2.1 k q hq).1
end Go.Proofs.YtocahjbmnkadjaaGreatDoor
/-
  The line of an instance and the text of a design, in plain Lean.
-/
namespace Go.Proofs.YtocahjbmnkadjaaGreatDoor
open Go.RowKit
theorem bz1 {a b c : Nat} (h1 : a ≤ b) (h2 : b + c ≤ 1000000) : ¬ 9223372036854775807 < a + c := by omega
/-- bytes of a text, put one behind the other -/
def wB : ByteArray := ⟨#[32]⟩
def nlB : ByteArray := ⟨#[10]⟩
def netB (d : DesignD) (n : Int) : ByteArray := d.nets.getD n.toNat ⟨#[]⟩
def instHead (x : InstD) (c : CellD) : ByteArray := (⟨#[105, 110, 115, 116, 32]⟩ : ByteArray) ++ x.name ++ wB ++ c.name
def instUp (d : DesignD) (x : InstD) (c : CellD) : Nat → ByteArray
  | 0 => instHead x c
  | k + 1 => instUp d x c k ++ wB ++ netB d (x.nets.getD k 0)
def lineB (l : List CellD) (d : DesignD) (x : InstD) : ByteArray := match l[x.cell.toNat]? with | some c => instUp d x c x.nets.length | none => ⟨#[]⟩
theorem bsize (l : List UInt8) : (⟨l.toArray⟩ : ByteArray).size = l.length := by simp [ByteArray.size]
structure InstT (l : List CellD) (d : DesignD) (x : InstD) (c : CellD) (n : Nat) : Prop where
  cell : x.cell = (n : Int)
  at_ : l[n]? = some c
  nm : x.name.size ≤ 8
  cn : c.name.size ≤ 8
  few : x.nets.length ≤ 5
  net : ∀ (k : Nat) (v : Int), x.nets[k]? = some v → ∃ (m : Nat) (s : ByteArray), v = (m : Int) ∧ d.nets[m]? = some s ∧ s.size ≤ 8
theorem instT_of {l : List CellD} {d : DesignD} (h : DesP l d) {i : Nat} {x : InstD} (hx : d.insts[i]? = some x) : ∃ (c : CellD) (n : Nat), InstT l d x c n := by
  have ho := h.inst i x hx
  have hb := inB_true ho.cell
  obtain ⟨n, hn⟩ : ∃ n : Nat, x.cell = (n : Int) := ⟨x.cell.toNat, by omega⟩
  obtain ⟨c, hc⟩ : ∃ c, l[n]? = some c := ⟨_, List.getElem?_eq_getElem (by omega)⟩
  refine ⟨c, n, hn, hc, (nameB_size (inst_name h hx)).2, (nameB_size (h.lib.1 n c hc).name).2, (DesP.last h.lib ho).2, fun k v hv => ?_⟩
  have hv2 := List.all_eq_true.1 ho.nets v (List.mem_of_getElem? hv)
  have hb2 := inB_true (show inB v 0 ((d.nets.length : Int) - 1) = true from hv2)
  obtain ⟨m, hm⟩ : ∃ m : Nat, v = (m : Int) := ⟨v.toNat, by omega⟩
  obtain ⟨s, hs⟩ : ∃ s, d.nets[m]? = some s := ⟨_, List.getElem?_eq_getElem (by omega)⟩
  exact ⟨m, s, hm, hs, (nameB_size (h.nname.1 m s hs)).2⟩
theorem instHead_size {l : List CellD} {d : DesignD} {x : InstD} {c : CellD} {n : Nat} (h : InstT l d x c n) : (instHead x c).size ≤ 22 := by
  unfold instHead wB
  have e1 : (⟨#[105, 110, 115, 116, 32]⟩ : ByteArray).size = 5 := rfl
  have e2 : (⟨#[32]⟩ : ByteArray).size = 1 := rfl
  have := h.nm
  have := h.cn
  rw [ByteArray.size_append, ByteArray.size_append, ByteArray.size_append]
  omega
theorem netB_at {d : DesignD} {m : Nat} {s : ByteArray} (h : d.nets[m]? = some s) : netB d (m : Int) = s := by
  unfold netB; rw [Int.toNat_natCast, List.getD_eq_getElem?_getD, h]; rfl
theorem instUp_succ {d : DesignD} {x : InstD} {c : CellD} {k m : Nat} {s : ByteArray} (hv : x.nets[k]? = some (m : Int)) (hs : d.nets[m]? = some s) : instUp d x c (k + 1) = instUp d x c k ++ wB ++ s := by
  show instUp d x c k ++ wB ++ netB d (x.nets.getD k 0) = _
  rw [List.getD_eq_getElem?_getD, hv]
  show _ ++ netB d (m : Int) = _
  rw [netB_at hs]
theorem instUp_size {l : List CellD} {d : DesignD} {x : InstD} {c : CellD} {n : Nat} (h : InstT l d x c n) : ∀ {k : Nat}, k ≤ x.nets.length → (instUp d x c k).size ≤ 22 + 9 * k
  | 0, _ => instHead_size h
  | k + 1, hk => by
    obtain ⟨v, hv⟩ : ∃ v, x.nets[k]? = some v := ⟨_, List.getElem?_eq_getElem (by omega)⟩
    obtain ⟨m, s, rfl, hs, hz⟩ := h.net k v hv
    have ih := instUp_size h (k := k) (by omega)
    have e2 : wB.size = 1 := rfl
    rw [instUp_succ hv hs, ByteArray.size_append, ByteArray.size_append]
    omega
theorem lineB_of {l : List CellD} {d : DesignD} {x : InstD} {c : CellD} {n : Nat} (h : InstT l d x c n) : lineB l d x = instUp d x c x.nets.length := by
  unfold lineB; rw [h.cell, Int.toNat_natCast, h.at_]
theorem lineB_size {l : List CellD} {d : DesignD} {x : InstD} {c : CellD} {n : Nat} (h : InstT l d x c n) : (lineB l d x).size ≤ 67 := by
  rw [lineB_of h]
  have := instUp_size h (Nat.le_refl _)
  have := h.few
  omega
/-- the words of an instance's line -/
def instW (d : DesignD) (x : InstD) (c : CellD) (k : Nat) : List ByteArray := [(⟨#[105, 110, 115, 116]⟩ : ByteArray), x.name, c.name] ++ (List.range k).map fun j => netB d (x.nets.getD j 0)
theorem instW_succ {d : DesignD} {x : InstD} {c : CellD} {k m : Nat} {s : ByteArray} (hv : x.nets[k]? = some (m : Int)) (hs : d.nets[m]? = some s) : instW d x c (k + 1) = instW d x c k ++ [s] := by
  unfold instW
  rw [List.range_succ, List.map_append, ← List.append_assoc]
  congr 1
  rw [List.map_singleton, List.getD_eq_getElem?_getD, hv]
  show [netB d (m : Int)] = _
  rw [netB_at hs]
theorem join_snoc (ws : List (List UInt8)) (w sep : List UInt8) (h : ws ≠ []) : Lib.join (ws ++ [w]) sep = Lib.join ws sep ++ sep ++ w := by
  unfold Lib.join
  induction ws with
  | nil => exact absurd rfl h
  | cons a r ih =>
    cases r with
    | nil => simp [List.intercalate, List.intersperse]
    | cons b r =>
      have := ih (by simp)
      simp only [List.intercalate, List.cons_append, List.intersperse_cons_cons, List.flatten_cons] at this ⊢
      rw [this]
      simp
theorem join_inst (d : DesignD) (x : InstD) (c : CellD) : ∀ k : Nat, (⟨(Lib.join ((instW d x c k).map (·.data.toList)) [32]).toArray⟩ : ByteArray) = instUp d x c k
  | 0 => by
    apply ByteArray.ext
    simp [instW, instUp, instHead, wB, Lib.join, List.intercalate, List.intersperse, ByteArray.data_append]
  | k + 1 => by
    have ih := join_inst d x c k
    have e : instW d x c (k + 1) = instW d x c k ++ [netB d (x.nets.getD k 0)] := by
      unfold instW
      rw [List.range_succ, List.map_append, ← List.append_assoc, List.map_singleton]
    rw [e, List.map_append, List.map_singleton, join_snoc _ _ _ (by simp [instW])]
    show _ = instUp d x c k ++ wB ++ netB d (x.nets.getD k 0)
    rw [← ih]
    apply ByteArray.ext
    simp [wB, ByteArray.data_append]
noncomputable def iTextV (l : List CellD) (d : DesignD) (n : Int) : ByteArray := if (desB l d && inB n 0 ((d.insts.length : Int) - 1)) = true then (match d.insts[n.toNat]? with | some x => lineB l d x | none => ⟨#[]⟩) else ⟨#[]⟩
end Go.Proofs.YtocahjbmnkadjaaGreatDoor
/-
  The text of a design, in plain Lean.
-/
namespace Go.Proofs.YtocahjbmnkadjaaGreatDoor
open Go.RowKit
def netW : ByteArray := ⟨#[110, 101, 116, 32]⟩
def portW : ByteArray := ⟨#[112, 111, 114, 116, 32]⟩
def inW : ByteArray := ⟨#[105, 110]⟩
def outW : ByteArray := ⟨#[111, 117, 116]⟩
def dirB (p : PortD) : ByteArray := if p.dir = 2 then outW else inW
def netsUp (d : DesignD) : Nat → ByteArray
  | 0 => ⟨#[]⟩
  | k + 1 => netsUp d k ++ netW ++ d.nets.getD k ⟨#[]⟩ ++ nlB
def zPort : PortD := ⟨⟨#[]⟩, 0, 0⟩
def zInst : InstD := ⟨⟨#[]⟩, 0, []⟩
def portsUp (d : DesignD) : Nat → ByteArray
  | 0 => netsUp d d.nets.length
  | k + 1 => portsUp d k ++ portW ++ (d.ports.getD k zPort).name ++ wB ++ dirB (d.ports.getD k zPort) ++ wB ++ netB d (d.ports.getD k zPort).net ++ nlB
def instsUp (l : List CellD) (d : DesignD) : Nat → ByteArray
  | 0 => portsUp d d.ports.length
  | k + 1 => instsUp l d k ++ lineB l d (d.insts.getD k zInst) ++ nlB
def textB (l : List CellD) (d : DesignD) : ByteArray := instsUp l d d.insts.length
noncomputable def textV (l : List CellD) (d : DesignD) : ByteArray := if desB l d = true then textB l d else ⟨#[]⟩
theorem getD_s {α : Type} {xs : List α} {k : Nat} {x z : α} (h : xs[k]? = some x) : xs.getD k z = x := by rw [List.getD_eq_getElem?_getD, h]; rfl
theorem netsUp_succ {d : DesignD} {k : Nat} {s : ByteArray} (h : d.nets[k]? = some s) : netsUp d (k + 1) = netsUp d k ++ netW ++ s ++ nlB := by
  show netsUp d k ++ netW ++ d.nets.getD k ⟨#[]⟩ ++ nlB = _
  rw [getD_s h]
theorem portsUp_succ {d : DesignD} {k m : Nat} {p : PortD} {s : ByteArray} (h : d.ports[k]? = some p) (hm : p.net = (m : Int)) (hs : d.nets[m]? = some s) : portsUp d (k + 1) = portsUp d k ++ portW ++ p.name ++ wB ++ dirB p ++ wB ++ s ++ nlB := by
  show portsUp d k ++ portW ++ (d.ports.getD k zPort).name ++ wB ++ dirB (d.ports.getD k zPort) ++ wB ++ netB d (d.ports.getD k zPort).net ++ nlB = _
  rw [getD_s h, hm, netB_at hs]
theorem instsUp_succ {l : List CellD} {d : DesignD} {k : Nat} {x : InstD} (h : d.insts[k]? = some x) : instsUp l d (k + 1) = instsUp l d k ++ lineB l d x ++ nlB := by
  show instsUp l d k ++ lineB l d (d.insts.getD k zInst) ++ nlB = _
  rw [getD_s h]
theorem net_size {l : List CellD} {d : DesignD} (h : DesP l d) {k : Nat} {s : ByteArray} (hs : d.nets[k]? = some s) : s.size ≤ 8 := (nameB_size (h.nname.1 k s hs)).2
theorem port_of {l : List CellD} {d : DesignD} (h : DesP l d) {k : Nat} {p : PortD} (hp : d.ports[k]? = some p) : p.name.size ≤ 8 ∧ ∃ (m : Nat) (s : ByteArray), p.net = (m : Int) ∧ d.nets[m]? = some s ∧ s.size ≤ 8 := by
  have ho := h.port k p hp
  have hb := inB_true (show inB p.net 0 ((d.nets.length : Int) - 1) = true from ho.net)
  obtain ⟨m, hm⟩ : ∃ m : Nat, p.net = (m : Int) := ⟨p.net.toNat, by omega⟩
  obtain ⟨s, hs⟩ : ∃ s, d.nets[m]? = some s := ⟨_, List.getElem?_eq_getElem (by omega)⟩
  exact ⟨(nameB_size (h.pname.1 k _ (by rw [List.getElem?_map, hp]; rfl))).2, m, s, hm, hs, net_size h hs⟩
theorem assoc_net (u s : ByteArray) : u ++ (netW ++ s ++ nlB) = u ++ netW ++ s ++ nlB := by
  apply ByteArray.ext; simp [ByteArray.data_append]
theorem assoc_in (u n s : ByteArray) : u ++ (portW ++ n ++ (⟨#[32, 105, 110, 32]⟩ : ByteArray) ++ s ++ nlB) = u ++ portW ++ n ++ wB ++ inW ++ wB ++ s ++ nlB := by
  apply ByteArray.ext; simp [ByteArray.data_append, wB, inW]
theorem assoc_out (u n s : ByteArray) : u ++ (portW ++ n ++ (⟨#[32, 111, 117, 116, 32]⟩ : ByteArray) ++ s ++ nlB) = u ++ portW ++ n ++ wB ++ outW ++ wB ++ s ++ nlB := by
  apply ByteArray.ext; simp [ByteArray.data_append, wB, outW]
theorem assoc_line (u s : ByteArray) : u ++ (s ++ nlB) = u ++ s ++ nlB := by
  apply ByteArray.ext; simp [ByteArray.data_append]
theorem dir_in {p : PortD} (h : ¬ p.dir = 2) : dirB p = inW := if_neg h
theorem dir_out {p : PortD} (h : p.dir = 2) : dirB p = outW := if_pos h
end Go.Proofs.YtocahjbmnkadjaaGreatDoor
/-
  What both readers of designs answer.
-/
namespace Go.Proofs.YtocahjbmnkadjaaGreatDoor
open Go.RowKit
/-- what both readers answer -/
noncomputable def okD (cs : List CellD) (s : ByteArray) : Bool := desB cs (upD cs (piecesB 10 s)) && decide (textB cs (upD cs (piecesB 10 s)) = s)
noncomputable def codeR (cs : List CellD) (s : ByteArray) : Int := if libB cs = false then 1 else if 6000 < s.size then 3 else if okD cs s = true then 0 else 6
noncomputable def readD (cs : List CellD) (s : ByteArray) : DesignD := if codeR cs s = 0 then upD cs (piecesB 10 s) else noD
theorem readD_bad {cs : List CellD} {s : ByteArray} (h : codeR cs s ≠ 0) : readD cs s = noD := if_neg h
theorem codeR_lib {cs : List CellD} {s : ByteArray} (h : libB cs = false) : codeR cs s = 1 := if_pos h
theorem codeR_long {cs : List CellD} {s : ByteArray} (h : libB cs = true) (h2 : 6000 < s.size) : codeR cs s = 3 := by
  unfold codeR
  rw [if_neg (by rw [h]; decide), if_pos h2]
theorem codeR_read {cs : List CellD} {s : ByteArray} (h : libB cs = true) (h2 : s.size ≤ 6000) : codeR cs s = if okD cs s = true then 0 else 6 := by
  unfold codeR
  rw [if_neg (by rw [h]; decide), if_neg (by omega)]
/-- what is answered is of few parts -/
theorem readD_small (cs : List CellD) (s : ByteArray) : (readD cs s).insts.length ≤ 14 ∧ (readD cs s).nets.length ≤ 30 ∧ (readD cs s).ports.length ≤ 8 ∧ ∀ x ∈ (readD cs s).insts, x.nets.length ≤ 5 := by
  by_cases h : codeR cs s = 0
  · have e : readD cs s = upD cs (piecesB 10 s) := if_pos h
    rw [e]
    have hd : desB cs (upD cs (piecesB 10 s)) = true := by
      unfold codeR at h
      split at h
      · cases h
      · split at h
        · cases h
        · split at h
          · rename_i hk
            unfold okD at hk
            rw [Bool.and_eq_true] at hk
            exact hk.1
          · cases h
    have hp : DesP cs (upD cs (piecesB 10 s)) := pB_iff.1 hd
    refine ⟨hp.ni, hp.nn, hp.np, fun x hx => ?_⟩
    obtain ⟨i, hi⟩ := List.getElem?_of_mem hx
    exact (DesP.last hp.lib (hp.inst i x hi)).2
  · rw [readD_bad h]
    exact ⟨Nat.zero_le _, Nat.zero_le _, Nat.zero_le _, fun _ h => (by cases h)⟩
end Go.Proofs.YtocahjbmnkadjaaGreatDoor
