/-
  The data of the program in Lean, and what it means that a value reads as such a datum in a world.
-/
import Derived.Test.YtgglgghlndhfbaaDoorGrow
namespace Go.Proofs.YtgglgghlndhfbaaDoor
open Go.RowKit

structure TableD where
  slews : List Int
  loads : List Int
  values : List Int
structure PinD where
  name : ByteArray
  dir : Int
  cap : Int
  clock : Bool
structure ArcD where
  kind : Int
  src : Int
  dst : Int
  sense : Int
  delay : List TableD
  slew : List TableD
structure CellD where
  name : ByteArray
  kind : Int
  pins : List PinD
  arcs : List ArcD
  truth : List Int
  leak : Int
  energy : Int
structure InstD where
  name : ByteArray
  cell : Int
  nets : List Int
structure PortD where
  name : ByteArray
  dir : Int
  net : Int
structure DesignD where
  insts : List InstD
  nets : List ByteArray
  ports : List PortD
structure WireD where
  parent : List Int
  res : List Int
  cap : List Int
  sink : List Int
structure BlockD where
  lib : List CellD
  design : DesignD
  wires : List WireD

/-- every known cell is known still -/
def Keeps (w w' : World) : Prop := ∀ (a : Addr) (v : Value), w.cell? a = some v → w'.cell? a = some v
theorem Keeps.refl (w : World) : Keeps w w := fun _ _ h => h
theorem Keeps.trans {a b c : World} (h : Keeps a b) (k : Keeps b c) : Keeps a c := fun p v hv => k p v (h p v hv)
theorem cell_lt {w : World} {a : Addr} {v : Value} (h : w.cell? a = some v) : a.block < w.heap.size := by
  rcases Nat.lt_or_ge a.block w.heap.size with hlt | hge
  · exact hlt
  · simp [World.cell?, Array.getElem?_eq_none hge] at h
theorem Grows.keeps {w w' : World} (h : Grows w w') : Keeps w w' := fun a v hv => by
  have hb := Below.block h a.block (cell_lt hv)
  rw [← hv]
  simp only [World.cell?, hb]

/-- A slice that reads as a list: each element lies in sz cells. -/
def RList {α : Type} (sz : Nat) (R : World → List Value → α → Prop) (w : World) (v : Value) (xs : List α) : Prop :=
  ∃ (A : Option Addr) (c : Nat), v = .slice A xs.length c ∧ xs.length ≤ c ∧ c ≤ maxLen ∧
    (xs = [] ∨ ∃ b off : Nat, A = some ⟨b, off, none⟩ ∧ ∀ (i : Nat) (x : α), xs[i]? = some x →
      ∃ cs : List Value, cs.length = sz ∧ (∀ (j : Nat) (u : Value), cs[j]? = some u → w.cell? ⟨b, off + (i * sz + j), none⟩ = some u) ∧ R w cs x)

section
variable {α : Type} {sz : Nat} {R : World → List Value → α → Prop} {w w' : World} {v : Value} {xs : List α}
theorem RList.keep (h : RList sz R w v xs) (k : Keeps w w') (hR : ∀ cs x, R w cs x → R w' cs x) : RList sz R w' v xs := by
  obtain ⟨A, c, hv, h1, h2, h3⟩ := h
  refine ⟨A, c, hv, h1, h2, h3.imp id ?_⟩
  rintro ⟨b, off, hA, hc⟩
  refine ⟨b, off, hA, fun i x hx => ?_⟩
  obtain ⟨cs, hl, hcs, hr⟩ := hc i x hx
  exact ⟨cs, hl, fun j u hu => k _ _ (hcs j u hu), hR _ _ hr⟩
theorem RList.len (h : RList sz R w v xs) : (xs.length : Int) ≤ 9223372036854775807 := by
  obtain ⟨A, c, hv, h1, h2, h3⟩ := h
  unfold maxLen at h2
  omega
theorem RList.form (h : RList sz R w v xs) : ∃ (A : Option Addr) (c : Nat), v = .slice A xs.length c ∧ xs.length ≤ c ∧ c ≤ maxLen ∧
    ∀ (i : Nat) (x : α), xs[i]? = some x → ∃ b off : Nat, A = some ⟨b, off, none⟩ ∧ ∃ cs : List Value, cs.length = sz ∧ (∀ (j : Nat) (u : Value), cs[j]? = some u → w.cell? ⟨b, off + (i * sz + j), none⟩ = some u) ∧ R w cs x := by
  obtain ⟨A, c, hv, h1, h2, h3⟩ := h
  refine ⟨A, c, hv, h1, h2, fun i x hx => ?_⟩
  rcases h3 with rfl | ⟨b, off, hA, hc⟩
  · simp at hx
  · exact ⟨b, off, hA, hc i x hx⟩
end

def RI (_ : World) (cs : List Value) (x : Int) : Prop := cs = [.int .i64 x]
def RS (_ : World) (cs : List Value) (s : ByteArray) : Prop := cs = [.string s] ∧ s.size ≤ maxLen
def RInts : World → Value → List Int → Prop := RList 1 RI
def RStrs : World → Value → List ByteArray → Prop := RList 1 RS
def RTable (w : World) (cs : List Value) (t : TableD) : Prop := ∃ a b c : Value, cs = [a, b, c] ∧ RInts w a t.slews ∧ RInts w b t.loads ∧ RInts w c t.values
def RTables : World → Value → List TableD → Prop := RList 3 RTable
def RPin (_ : World) (cs : List Value) (p : PinD) : Prop := cs = [.string p.name, .int .i64 p.dir, .int .i64 p.cap, .bool p.clock] ∧ p.name.size ≤ maxLen
def RPins : World → Value → List PinD → Prop := RList 4 RPin
def RArc (w : World) (cs : List Value) (a : ArcD) : Prop :=
  ∃ d s : Value, cs = [.int .i64 a.kind, .int .i64 a.src, .int .i64 a.dst, .int .i64 a.sense, d, s] ∧ RTables w d a.delay ∧ RTables w s a.slew
def RArcs : World → Value → List ArcD → Prop := RList 6 RArc
def RCell (w : World) (cs : List Value) (c : CellD) : Prop :=
  ∃ p a t : Value, cs = [.string c.name, .int .i64 c.kind, p, a, t, .int .i64 c.leak, .int .i64 c.energy] ∧ c.name.size ≤ maxLen ∧ RPins w p c.pins ∧ RArcs w a c.arcs ∧ RInts w t c.truth
def RCells : World → Value → List CellD → Prop := RList 7 RCell
def RInst (w : World) (cs : List Value) (x : InstD) : Prop := ∃ n : Value, cs = [.string x.name, .int .i64 x.cell, n] ∧ x.name.size ≤ maxLen ∧ RInts w n x.nets
def RInsts : World → Value → List InstD → Prop := RList 3 RInst
def RPort (_ : World) (cs : List Value) (p : PortD) : Prop := cs = [.string p.name, .int .i64 p.dir, .int .i64 p.net] ∧ p.name.size ≤ maxLen
def RPorts : World → Value → List PortD → Prop := RList 3 RPort
def RDesign (w : World) (cs : List Value) (d : DesignD) : Prop := ∃ x n p : Value, cs = [x, n, p] ∧ RInsts w x d.insts ∧ RStrs w n d.nets ∧ RPorts w p d.ports
def RWire (w : World) (cs : List Value) (x : WireD) : Prop := ∃ a b c d : Value, cs = [a, b, c, d] ∧ RInts w a x.parent ∧ RInts w b x.res ∧ RInts w c x.cap ∧ RInts w d x.sink
def RWires : World → Value → List WireD → Prop := RList 4 RWire
def RBlock (w : World) (cs : List Value) (x : BlockD) : Prop := ∃ l i n p ws : Value, cs = [l, i, n, p, ws] ∧ RCells w l x.lib ∧ RDesign w [i, n, p] x.design ∧ RWires w ws x.wires

section
variable {w w' : World} {v : Value} {cs : List Value}
theorem RI.keep {x : Int} (h : RI w cs x) (_ : Keeps w w') : RI w' cs x := h
theorem RS.keep {x : ByteArray} (h : RS w cs x) (_ : Keeps w w') : RS w' cs x := h
theorem RInts.keep {xs : List Int} (h : RInts w v xs) (k : Keeps w w') : RInts w' v xs := RList.keep h k fun _ _ h => h
theorem RStrs.keep {xs : List ByteArray} (h : RStrs w v xs) (k : Keeps w w') : RStrs w' v xs := RList.keep h k fun _ _ h => h
theorem RTable.keep {t : TableD} (h : RTable w cs t) (k : Keeps w w') : RTable w' cs t := by
  obtain ⟨a, b, c, e, h1, h2, h3⟩ := h
  exact ⟨a, b, c, e, h1.keep k, h2.keep k, h3.keep k⟩
theorem RTables.keep {xs : List TableD} (h : RTables w v xs) (k : Keeps w w') : RTables w' v xs := RList.keep h k fun _ _ h => h.keep k
theorem RPin.keep {p : PinD} (h : RPin w cs p) (_ : Keeps w w') : RPin w' cs p := h
theorem RPins.keep {xs : List PinD} (h : RPins w v xs) (k : Keeps w w') : RPins w' v xs := RList.keep h k fun _ _ h => h
theorem RArc.keep {a : ArcD} (h : RArc w cs a) (k : Keeps w w') : RArc w' cs a := by
  obtain ⟨d, s, e, h1, h2⟩ := h
  exact ⟨d, s, e, h1.keep k, h2.keep k⟩
theorem RArcs.keep {xs : List ArcD} (h : RArcs w v xs) (k : Keeps w w') : RArcs w' v xs := RList.keep h k fun _ _ h => h.keep k
theorem RCell.keep {c : CellD} (h : RCell w cs c) (k : Keeps w w') : RCell w' cs c := by
  obtain ⟨p, a, t, e, h0, h1, h2, h3⟩ := h
  exact ⟨p, a, t, e, h0, h1.keep k, h2.keep k, h3.keep k⟩
theorem RCells.keep {xs : List CellD} (h : RCells w v xs) (k : Keeps w w') : RCells w' v xs := RList.keep h k fun _ _ h => h.keep k
theorem RInst.keep {x : InstD} (h : RInst w cs x) (k : Keeps w w') : RInst w' cs x := by
  obtain ⟨n, e, h0, h1⟩ := h
  exact ⟨n, e, h0, h1.keep k⟩
theorem RInsts.keep {xs : List InstD} (h : RInsts w v xs) (k : Keeps w w') : RInsts w' v xs := RList.keep h k fun _ _ h => h.keep k
theorem RPort.keep {p : PortD} (h : RPort w cs p) (_ : Keeps w w') : RPort w' cs p := h
theorem RPorts.keep {xs : List PortD} (h : RPorts w v xs) (k : Keeps w w') : RPorts w' v xs := RList.keep h k fun _ _ h => h
theorem RDesign.keep {d : DesignD} (h : RDesign w cs d) (k : Keeps w w') : RDesign w' cs d := by
  obtain ⟨x, n, p, e, h1, h2, h3⟩ := h
  exact ⟨x, n, p, e, h1.keep k, h2.keep k, h3.keep k⟩
theorem RWire.keep {x : WireD} (h : RWire w cs x) (k : Keeps w w') : RWire w' cs x := by
  obtain ⟨a, b, c, d, e, h1, h2, h3, h4⟩ := h
  exact ⟨a, b, c, d, e, h1.keep k, h2.keep k, h3.keep k, h4.keep k⟩
theorem RWires.keep {xs : List WireD} (h : RWires w v xs) (k : Keeps w w') : RWires w' v xs := RList.keep h k fun _ _ h => h.keep k
theorem RBlock.keep {x : BlockD} (h : RBlock w cs x) (k : Keeps w w') : RBlock w' cs x := by
  obtain ⟨l, i, n, p, ws, e, h1, h2, h3⟩ := h
  exact ⟨l, i, n, p, ws, e, h1.keep k, h2.keep k, h3.keep k⟩
end
end Go.Proofs.YtgglgghlndhfbaaDoor
