/-
  'Grows w w'': behind w's own blocks there are at most new ones; what was there is as it was.
-/
import Derived.WalkKit
import Derived.WalkSpells
import Derived.WalkLawsBesides
import Derived.BigQuiet
import Derived.Deep.QuietTactic
import Derived.Deep.RegionHeld3
import Derived.Deep.DrawnRows
import Derived.Deep.DeepCutAuto
import Derived.Handy
import Derived.ProofKit
import Derived.OpenShut
import Derived.Test.YtocahjbmnkadjaaGreatDoorProg
import Derived.Shelf.Abstract
namespace Go.Proofs.YtocahjbmnkadjaaGreatDoor
open Go.RowKit

theorem hideIt {p : Prop} (h : p) : Hid p := h
def Grows (w w' : World) : Prop := Below w.heap.size w w'
theorem Grows.below {w w' : World} (h : Grows w w') : Below w.heap.size w w' := h
theorem Grows.refl (w : World) : Grows w w := Below.refl _ _
theorem Grows.size {w w' : World} (h : Grows w w') : w.heap.size ≤ w'.heap.size := Below.size h
theorem Grows.trans {a b c : World} (h : Grows a b) (k : Grows b c) : Grows a c := Below.trans h (Below.mono k h.size)
theorem Grows.alloc {a w : World} (h : Grows a w) (o : Obj) : Grows a (w.alloc o) := Below.alloc h h.size o
theorem Grows.drew {a w : World} (h : Grows a w) : Grows a w.drew := Below.drew h
theorem Grows.drewN {a w : World} (h : Grows a w) (n : Nat) : Grows a (w.drewN n) := ⟨h.os, h.tape, h.output, h.size, h.block⟩
theorem Grows.setCell {a w : World} (h : Grows a w) {p : Addr} (hp : a.heap.size ≤ p.block) (u : Value) : Grows a (w.setCell p u) := Below.setCell h hp u
theorem Grows.grown {a w w' : World} {row : Option Nat} (h : Grows a w) (hg : w.grownBy w' row) (hr : ∀ k, row = some k → a.heap.size ≤ k) : Grows a w' := Below.grown h hg h.size hr
/-- old cells and old marks, as two rules for the walk -/
theorem Grows.cells {W w1 : World} (hb : Grows W w1) : (∀ b o, b < W.heap.size → w1.cell? ⟨b, o, none⟩ = W.cell? ⟨b, o, none⟩) ∧ (∀ b o, b < W.heap.size → w1.frozen? ⟨b, o, none⟩ = W.frozen? ⟨b, o, none⟩) :=
  ⟨fun b o h => Below.cell (p := ⟨b, o, none⟩) hb h, fun b o h => Below.frozen (p := ⟨b, o, none⟩) hb h⟩
theorem Grows.blk {W w1 : World} (hb : Grows W w1) {g : Nat} {o : Obj} (h : W.heap[g]? = some o) (hlt : g < W.heap.size) : w1.heap[g]? = some o := (Below.block hb g hlt).trans h

theorem ret_int {k : IntKind} {a b : Int} (h : a = b) : Ending.returned (.int k a) = .returned (.int k b) := by rw [h]
theorem ret_bool {a b : Bool} (h : a = b) : Ending.returned (.bool a) = .returned (.bool b) := by rw [h]
end Go.Proofs.YtocahjbmnkadjaaGreatDoor
/-
  The data of the program in Lean, and what it means that a value reads as such a datum in a world.
-/
namespace Go.Proofs.YtocahjbmnkadjaaGreatDoor
open Go.RowKit

structure TableD where
  slews : List Int
  loads : List Int
  values : List Int
structure PinD where
  name : ByteArray
  dir : Int
  cap : Int
  clock : Bool
structure ArcD where
  kind : Int
  src : Int
  dst : Int
  sense : Int
  delay : List TableD
  slew : List TableD
structure CellD where
  name : ByteArray
  kind : Int
  pins : List PinD
  arcs : List ArcD
  truth : List Int
  leak : Int
  energy : Int
structure InstD where
  name : ByteArray
  cell : Int
  nets : List Int
structure PortD where
  name : ByteArray
  dir : Int
  net : Int
structure DesignD where
  insts : List InstD
  nets : List ByteArray
  ports : List PortD
structure WireD where
  parent : List Int
  res : List Int
  cap : List Int
  sink : List Int
structure BlockD where
  lib : List CellD
  design : DesignD
  wires : List WireD

/-- every known cell is known still -/
def Keeps (w w' : World) : Prop := ∀ (a : Addr) (v : Value), w.cell? a = some v → w'.cell? a = some v
theorem Keeps.refl (w : World) : Keeps w w := fun _ _ h => h
theorem Keeps.trans {a b c : World} (h : Keeps a b) (k : Keeps b c) : Keeps a c := fun p v hv => k p v (h p v hv)
theorem cell_lt {w : World} {a : Addr} {v : Value} (h : w.cell? a = some v) : a.block < w.heap.size := by
  rcases Nat.lt_or_ge a.block w.heap.size with hlt | hge
  · exact hlt
  · simp [World.cell?, Array.getElem?_eq_none hge] at h
theorem Grows.keeps {w w' : World} (h : Grows w w') : Keeps w w' := fun a v hv => by
  have hb := Below.block h a.block (cell_lt hv)
  rw [← hv]
  simp only [World.cell?, hb]

/-- A slice that reads as a list: each element lies in sz cells. -/
def RList {α : Type} (sz : Nat) (R : World → List Value → α → Prop) (w : World) (v : Value) (xs : List α) : Prop :=
  ∃ (A : Option Addr) (c : Nat), v = .slice A xs.length c ∧ xs.length ≤ c ∧ c ≤ maxLen ∧
    (xs = [] ∨ ∃ b off : Nat, A = some ⟨b, off, none⟩ ∧ ∀ (i : Nat) (x : α), xs[i]? = some x →
      ∃ cs : List Value, cs.length = sz ∧ (∀ (j : Nat) (u : Value), cs[j]? = some u → w.cell? ⟨b, off + (i * sz + j), none⟩ = some u) ∧ R w cs x)

section
variable {α : Type} {sz : Nat} {R : World → List Value → α → Prop} {w w' : World} {v : Value} {xs : List α}
theorem RList.keep (h : RList sz R w v xs) (k : Keeps w w') (hR : ∀ cs x, R w cs x → R w' cs x) : RList sz R w' v xs := by
  obtain ⟨A, c, hv, h1, h2, h3⟩ := h
  refine ⟨A, c, hv, h1, h2, h3.imp id ?_⟩
  rintro ⟨b, off, hA, hc⟩
  refine ⟨b, off, hA, fun i x hx => ?_⟩
  obtain ⟨cs, hl, hcs, hr⟩ := hc i x hx
  exact ⟨cs, hl, fun j u hu => k _ _ (hcs j u hu), hR _ _ hr⟩
theorem RList.len (h : RList sz R w v xs) : (xs.length : Int) ≤ 9223372036854775807 := by
  obtain ⟨A, c, hv, h1, h2, h3⟩ := h
  unfold maxLen at h2
  omega
theorem RList.form (h : RList sz R w v xs) : ∃ (A : Option Addr) (c : Nat), v = .slice A xs.length c ∧ xs.length ≤ c ∧ c ≤ maxLen ∧
    ∀ (i : Nat) (x : α), xs[i]? = some x → ∃ b off : Nat, A = some ⟨b, off, none⟩ ∧ ∃ cs : List Value, cs.length = sz ∧ (∀ (j : Nat) (u : Value), cs[j]? = some u → w.cell? ⟨b, off + (i * sz + j), none⟩ = some u) ∧ R w cs x := by
  obtain ⟨A, c, hv, h1, h2, h3⟩ := h
  refine ⟨A, c, hv, h1, h2, fun i x hx => ?_⟩
  rcases h3 with rfl | ⟨b, off, hA, hc⟩
  · simp at hx
  · exact ⟨b, off, hA, hc i x hx⟩
end

def RI (_ : World) (cs : List Value) (x : Int) : Prop := cs = [.int .i64 x]
def RS (_ : World) (cs : List Value) (s : ByteArray) : Prop := cs = [.string s] ∧ s.size ≤ maxLen
def RInts : World → Value → List Int → Prop := RList 1 RI
def RStrs : World → Value → List ByteArray → Prop := RList 1 RS
def RTable (w : World) (cs : List Value) (t : TableD) : Prop := ∃ a b c : Value, cs = [a, b, c] ∧ RInts w a t.slews ∧ RInts w b t.loads ∧ RInts w c t.values
def RTables : World → Value → List TableD → Prop := RList 3 RTable
def RPin (_ : World) (cs : List Value) (p : PinD) : Prop := cs = [.string p.name, .int .i64 p.dir, .int .i64 p.cap, .bool p.clock] ∧ p.name.size ≤ maxLen
def RPins : World → Value → List PinD → Prop := RList 4 RPin
def RArc (w : World) (cs : List Value) (a : ArcD) : Prop :=
  ∃ d s : Value, cs = [.int .i64 a.kind, .int .i64 a.src, .int .i64 a.dst, .int .i64 a.sense, d, s] ∧ RTables w d a.delay ∧ RTables w s a.slew
def RArcs : World → Value → List ArcD → Prop := RList 6 RArc
def RCell (w : World) (cs : List Value) (c : CellD) : Prop :=
  ∃ p a t : Value, cs = [.string c.name, .int .i64 c.kind, p, a, t, .int .i64 c.leak, .int .i64 c.energy] ∧ c.name.size ≤ maxLen ∧ RPins w p c.pins ∧ RArcs w a c.arcs ∧ RInts w t c.truth
def RCells : World → Value → List CellD → Prop := RList 7 RCell
def RInst (w : World) (cs : List Value) (x : InstD) : Prop := ∃ n : Value, cs = [.string x.name, .int .i64 x.cell, n] ∧ x.name.size ≤ maxLen ∧ RInts w n x.nets
def RInsts : World → Value → List InstD → Prop := RList 3 RInst
def RPort (_ : World) (cs : List Value) (p : PortD) : Prop := cs = [.string p.name, .int .i64 p.dir, .int .i64 p.net] ∧ p.name.size ≤ maxLen
def RPorts : World → Value → List PortD → Prop := RList 3 RPort
def RDesign (w : World) (cs : List Value) (d : DesignD) : Prop := ∃ x n p : Value, cs = [x, n, p] ∧ RInsts w x d.insts ∧ RStrs w n d.nets ∧ RPorts w p d.ports
def RWire (w : World) (cs : List Value) (x : WireD) : Prop := ∃ a b c d : Value, cs = [a, b, c, d] ∧ RInts w a x.parent ∧ RInts w b x.res ∧ RInts w c x.cap ∧ RInts w d x.sink
def RWires : World → Value → List WireD → Prop := RList 4 RWire
def RBlock (w : World) (cs : List Value) (x : BlockD) : Prop := ∃ l i n p ws : Value, cs = [l, i, n, p, ws] ∧ RCells w l x.lib ∧ RDesign w [i, n, p] x.design ∧ RWires w ws x.wires

section
variable {w w' : World} {v : Value} {cs : List Value}
theorem RI.keep {x : Int} (h : RI w cs x) (_ : Keeps w w') : RI w' cs x := h
theorem RS.keep {x : ByteArray} (h : RS w cs x) (_ : Keeps w w') : RS w' cs x := h
theorem RInts.keep {xs : List Int} (h : RInts w v xs) (k : Keeps w w') : RInts w' v xs := RList.keep h k fun _ _ h => h
theorem RStrs.keep {xs : List ByteArray} (h : RStrs w v xs) (k : Keeps w w') : RStrs w' v xs := RList.keep h k fun _ _ h => h
theorem RTable.keep {t : TableD} (h : RTable w cs t) (k : Keeps w w') : RTable w' cs t := by
  obtain ⟨a, b, c, e, h1, h2, h3⟩ := h
  exact ⟨a, b, c, e, h1.keep k, h2.keep k, h3.keep k⟩
theorem RTables.keep {xs : List TableD} (h : RTables w v xs) (k : Keeps w w') : RTables w' v xs := RList.keep h k fun _ _ h => h.keep k
theorem RPin.keep {p : PinD} (h : RPin w cs p) (_ : Keeps w w') : RPin w' cs p := h
theorem RPins.keep {xs : List PinD} (h : RPins w v xs) (k : Keeps w w') : RPins w' v xs := RList.keep h k fun _ _ h => h
theorem RArc.keep {a : ArcD} (h : RArc w cs a) (k : Keeps w w') : RArc w' cs a := by
  obtain ⟨d, s, e, h1, h2⟩ := h
  exact ⟨d, s, e, h1.keep k, h2.keep k⟩
theorem RArcs.keep {xs : List ArcD} (h : RArcs w v xs) (k : Keeps w w') : RArcs w' v xs := RList.keep h k fun _ _ h => h.keep k
theorem RCell.keep {c : CellD} (h : RCell w cs c) (k : Keeps w w') : RCell w' cs c := by
  obtain ⟨p, a, t, e, h0, h1, h2, h3⟩ := h
  exact ⟨p, a, t, e, h0, h1.keep k, h2.keep k, h3.keep k⟩
theorem RCells.keep {xs : List CellD} (h : RCells w v xs) (k : Keeps w w') : RCells w' v xs := RList.keep h k fun _ _ h => h.keep k
theorem RInst.keep {x : InstD} (h : RInst w cs x) (k : Keeps w w') : RInst w' cs x := by
  obtain ⟨n, e, h0, h1⟩ := h
  exact ⟨n, e, h0, h1.keep k⟩
theorem RInsts.keep {xs : List InstD} (h : RInsts w v xs) (k : Keeps w w') : RInsts w' v xs := RList.keep h k fun _ _ h => h.keep k
theorem RPort.keep {p : PortD} (h : RPort w cs p) (_ : Keeps w w') : RPort w' cs p := h
theorem RPorts.keep {xs : List PortD} (h : RPorts w v xs) (k : Keeps w w') : RPorts w' v xs := RList.keep h k fun _ _ h => h
theorem RDesign.keep {d : DesignD} (h : RDesign w cs d) (k : Keeps w w') : RDesign w' cs d := by
  obtain ⟨x, n, p, e, h1, h2, h3⟩ := h
  exact ⟨x, n, p, e, h1.keep k, h2.keep k, h3.keep k⟩
theorem RWire.keep {x : WireD} (h : RWire w cs x) (k : Keeps w w') : RWire w' cs x := by
  obtain ⟨a, b, c, d, e, h1, h2, h3, h4⟩ := h
  exact ⟨a, b, c, d, e, h1.keep k, h2.keep k, h3.keep k, h4.keep k⟩
theorem RWires.keep {xs : List WireD} (h : RWires w v xs) (k : Keeps w w') : RWires w' v xs := RList.keep h k fun _ _ h => h.keep k
theorem RBlock.keep {x : BlockD} (h : RBlock w cs x) (k : Keeps w w') : RBlock w' cs x := by
  obtain ⟨l, i, n, p, ws, e, h1, h2, h3⟩ := h
  exact ⟨l, i, n, p, ws, e, h1.keep k, h2.keep k, h3.keep k⟩
end
end Go.Proofs.YtocahjbmnkadjaaGreatDoor
/-
  Plain facts on numbers: bounds, and the quotient rounded by a mode.
-/
namespace Go.Proofs.YtocahjbmnkadjaaGreatDoor

/-- low ≤ n ≤ high, kept shut. -/
def inB (n lo hi : Int) : Bool := decide (lo ≤ n ∧ n ≤ hi)
theorem inB_true {n lo hi : Int} (h : inB n lo hi = true) : lo ≤ n ∧ n ≤ hi := by simpa [inB] using h
theorem inB_false {n lo hi : Int} (h : inB n lo hi = false) : n < lo ∨ hi < n := by
  have : ¬ (lo ≤ n ∧ n ≤ hi) := by simpa [inB] using h
  omega
theorem inB_mk {n lo hi : Int} (h : lo ≤ n) (h2 : n ≤ hi) : inB n lo hi = true := by simp [inB, h, h2]

def isM (m : Int) : Bool := decide (m = 0 ∨ m = 1)
theorem isM_true {m : Int} (h : isM m = true) : m = 0 ∨ m = 1 := by simpa [isM] using h
theorem isM_false {m : Int} (h : isM m = false) : m ≠ 0 ∧ m ≠ 1 := by
  have : ¬ (m = 0 ∨ m = 1) := by simpa [isM] using h
  omega

/-- the quotient as both texts reckon it: toward zero, then moved by the mode -/
def rdv (a b m : Int) : Int :=
  if a.tmod b < 0 ∧ m = 0 then a.tdiv b - 1 else if 0 < a.tmod b ∧ m = 1 then a.tdiv b + 1 else a.tdiv b

theorem tdiv_bd {a b : Int} (hb : 1 ≤ b) : (0 ≤ a → 0 ≤ a.tdiv b ∧ a.tdiv b ≤ a) ∧ (a ≤ 0 → a ≤ a.tdiv b ∧ a.tdiv b ≤ 0) := by
  have h1 : ∀ x : Int, 0 ≤ x → 0 ≤ x.tdiv b ∧ x.tdiv b ≤ x := fun x hx => by
    have e : x.tdiv b = x / b := Int.tdiv_eq_ediv_of_nonneg hx
    rw [e]
    exact ⟨Int.ediv_nonneg hx (by omega), Int.ediv_le_self b hx⟩
  refine ⟨h1 a, fun ha => ?_⟩
  have h2 := h1 (-a) (by omega)
  rw [Int.neg_tdiv] at h2
  omega
theorem tmod_bd {a b : Int} (hb : 1 ≤ b) : (0 ≤ a → 0 ≤ a.tmod b ∧ a.tmod b < b) ∧ (a ≤ 0 → -b < a.tmod b ∧ a.tmod b ≤ 0) := by
  have h1 : ∀ x : Int, 0 ≤ x → 0 ≤ x.tmod b ∧ x.tmod b < b := fun x hx =>
    ⟨Int.tmod_nonneg b hx, Int.tmod_lt_of_pos x (by omega)⟩
  refine ⟨h1 a, fun ha => ?_⟩
  have h2 := h1 (-a) (by omega)
  rw [Int.neg_tmod] at h2
  omega
theorem tdiv_add (a b : Int) : b * a.tdiv b + a.tmod b = a := Int.mul_tdiv_add_tmod a b

theorem rdv_bd {a b m : Int} (hb : 1 ≤ b) : (0 ≤ a → 0 ≤ rdv a b m ∧ rdv a b m ≤ a + 1) ∧ (a ≤ 0 → a - 1 ≤ rdv a b m ∧ rdv a b m ≤ 0) := by
  have h1 := @tdiv_bd a b hb
  have h2 := @tmod_bd a b hb
  unfold rdv
  constructor <;> intro h <;> split
  · have := h2.1 h; have := h1.1 h; omega
  · split <;> (have := h1.1 h; omega)
  · have := h1.2 h; omega
  · split
    · have := h2.2 h; omega
    · have := h1.2 h; omega
end Go.Proofs.YtocahjbmnkadjaaGreatDoor
/-
  From a walk that ends in 'true' with old memory untouched to the statement's post: one lemma for every law.
-/
namespace Go.Proofs.YtocahjbmnkadjaaGreatDoor
open Go.ChangeShapes Go.WideShapes Go.ChangeAt Go.RowKit

/-- Arguments that were read before the call read behind it as they did. -/
theorem trodAll_kept {H : Type} {enc : TypeId × Value → H} {P : Program} (hl : laidOutB P = true) {W W' : World} (hb : Below W.heap.size W W') :
    ∀ (ts : List TypeId) (vs : List Value) (ds : List (DataW H)) (ps : List MemPlace), (ts.all fun t => P.readableRec t && decide (t < P.types.size)) = true →
      (∀ x ∈ ps, x.block < W.heap.size) → DataW.TrodAll enc P W 0 (fun _ => true) true ts vs ds ps →
      DataW.TrodAll enc P W' 0 (fun b => decide (b < W.heap.size)) true ts vs ds ps
  | [], vs, ds, ps, _, _, h => by
    obtain ⟨rfl, rfl, rfl⟩ := trodAll_nil h
    exact trodAll_mk0
  | t :: ts, vs, ds, ps, hts, hlt, h => by
    obtain ⟨v, vs', d, ds', p, q, rfl, rfl, rfl, h0, h1⟩ := trodAll_cons h
    simp only [List.all_cons, Bool.and_eq_true, decide_eq_true_eq] at hts
    exact trodAll_cons_mk (Below.trod hl hts.1.1 hts.1.2 h0 hb fun x hx => hlt x (List.mem_append_left _ hx))
      (trodAll_kept hl hb ts vs' ds' q (by simpa using hts.2) (fun x hx => hlt x (List.mem_append_right _ hx)) h1)

/-- The law's post. -/
theorem law_post {H : Type} {enc : TypeId × Value → H} {P : Program} {f : Func} {s : ChangeSpec} {W W' : World} {args : Array Value} {ds gs : List (DataW H)} {before : List MemPlace}
    (hW : DataW.Whole enc P f.params.toList s.vars false W args.toList ds gs before) (hv : s.vars = [])
    (hs : (s.fn H ds).results = [.lit (.bool true)] ∧ (s.fn H ds).args = ds ∧ (s.fn H ds).vars = [])
    {tb : TypeId} (hr : f.resultTypes = #[tb]) (htb : P.underlying tb = some .bool) (hl : laidOutB P = true)
    (hts : (f.params.toList.all fun t => P.readableRec t && decide (t < P.types.size)) = true) (hb : Below W.heap.size W W') :
    s.post enc P f false true false false W args (.bool true) W' := by
  have hW' := hW
  have hlt := hW.lt
  obtain ⟨p, q, hA, hV, rfl, hfz, _⟩ := hW
  rw [hv] at hV
  have hg : gs = [] ∧ q = [] := by
    cases gs with
    | nil => exact ⟨rfl, hV⟩
    | cons g gs => cases hV
  obtain ⟨rfl, rfl⟩ := hg
  obtain ⟨h1, h2, h3⟩ := hs
  refine ⟨ds, [], p ++ [], [], p, [], hW', ?_, ?_, ?_, World.keptBut_mono (fun x hx => hx.elim) (hb.frame (fun _ => False)), fun h => by cases h⟩
  · rw [List.append_nil, h1, hr]
    exact trodAll_cons_mk (p := []) (shut_bool htb true) trodAll_mk0
  · rw [List.append_nil, h2]
    exact trodAll_kept hl hb _ _ _ _ hts (fun x hx => hlt x (by simpa using hx)) hA
  · rw [List.append_nil, h3, hv]
    rfl
end Go.Proofs.YtocahjbmnkadjaaGreatDoor
/-
  Contracts of the small number functions: bounds, modes, division.
-/
namespace Go.Proofs.YtocahjbmnkadjaaGreatDoor
open Go.RowKit

set_option maxHeartbeats 400000 in
theorem l01In_any (n lo hi : Int) (w : World) :
    Calls Tryz.prog 60 #[.int .i64 n, .int .i64 lo, .int .i64 hi] w fun e w' => e = .returned (.bool (inB n lo hi)) ∧ w = w' := by
  by_cases h1 : lo ≤ n <;> by_cases h2 : n ≤ hi <;> go_enter Tryz.func60, Tryz.ntmps60 <;> go_wp2 <;> go_ret <;> exact ⟨by simp [inB]; omega, rfl⟩

set_option maxHeartbeats 400000 in
theorem within_any (n lo hi : Int) (w : World) :
    Calls Tryz.prog 92 #[.int .i64 n, .int .i64 lo, .int .i64 hi] w fun e w' => e = .returned (.bool (inB n lo hi)) ∧ w = w' := by
  by_cases h1 : lo ≤ n <;> by_cases h2 : n ≤ hi <;> go_enter Tryz.func92, Tryz.ntmps92 <;> go_wp2 <;> go_ret <;> exact ⟨by simp [inB]; omega, rfl⟩

end Go.Proofs.YtocahjbmnkadjaaGreatDoor
/-
  Contracts of the functions on slices of integers: size, copy, equality.
-/
namespace Go.Proofs.YtocahjbmnkadjaaGreatDoor
open Go.RowKit

/-- a block that is known whole -/
def Blk (w : World) (g : Nat) (t : TypeId) (cs : Array Value) : Prop := w.heap[g]? = some (.cells cs t (0, 0))
section
variable {w w' : World} {g : Nat} {t : TypeId} {cs : Array Value}
theorem Blk.lt (h : Blk w g t cs) : g < w.heap.size := by
  rcases Nat.lt_or_ge g w.heap.size with hlt | hge
  · exact hlt
  · unfold Blk at h; rw [Array.getElem?_eq_none hge] at h; cases h
theorem Blk.cell (h : Blk w g t cs) (i : Nat) : w.cell? ⟨g, i, none⟩ = cs[i]? := by
  unfold Blk at h; simp [World.cell?, h]
theorem Blk.frozen (h : Blk w g t cs) (i : Nat) : w.frozen? ⟨g, i, none⟩ = false := by
  unfold Blk at h
  simp [World.frozen?, h]
theorem Blk.new (w : World) (t : TypeId) (cs : Array Value) : Blk (w.alloc (.cells cs t)) w.heap.size t cs := by
  exact heap_alloc_new w _
theorem Blk.grows (h : Blk w g t cs) (hg : Grows w w') : Blk w' g t cs := (Below.block hg g h.lt).trans h
theorem Blk.far (h : Blk w g t cs) {p : Addr} (hp : g ≠ p.block) (u : Value) : Blk (w.setCell p u) g t cs := (Below.heap_setCell w p u g hp).trans h
theorem Blk.set_ (h : Blk w g t cs) (i : Nat) (u : Value) : Blk (w.setCell ⟨g, i, none⟩ u) g t (cs.setIfInBounds i u) := by
  unfold Blk at h ⊢
  simp [World.setCell, Array.getElem?_modify, h]
end

/-- A fresh slice of integers, alone in the first block behind w. -/
def NewInts (w w' : World) (v : Value) (xs : List Int) : Prop :=
  ∃ cs : Array Value, v = .slice (some ⟨w.heap.size, 0, none⟩) xs.length xs.length ∧ Blk w' w.heap.size 2 cs ∧ cs.size = xs.length ∧
    (∀ (i : Nat) (x : Int), xs[i]? = some x → cs[i]? = some (.int .i64 x)) ∧ Grows w w'
theorem NewInts.grows {w w' : World} {v : Value} {xs : List Int} (h : NewInts w w' v xs) : Grows w w' := by
  obtain ⟨_, _, _, _, _, h⟩ := h
  exact h
theorem NewInts.reads {w w' : World} {v : Value} {xs : List Int} (h : NewInts w w' v xs) (hl : xs.length ≤ maxLen) : RInts w' v xs := by
  obtain ⟨cs, hv, hb, hs, hc, hg⟩ := h
  refine ⟨_, _, hv, Nat.le_refl _, hl, .inr ⟨_, _, rfl, fun i x hx => ⟨[.int .i64 x], rfl, fun j u hu => ?_, rfl⟩⟩⟩
  match j, hu with
  | 0, hu =>
    simp at hu
    subst hu
    rw [hb.cell]
    simpa using hc i x hx

theorem info_i64 : (Tryz.prog.info? 2).map (fun i => (i.zero, i.size, i.bytes)) = some (some (.int .i64 0), 1, 8) := by kernel_rfl

/-- what is left of a budget, -1 if it is used up -/
def subL (left : Int) (n : Nat) : Int := if left - n < 0 then -1 else left - n

set_option maxHeartbeats 400000 in
theorem szInts_any {v : Value} {xs : List Int} (left : Int) (w : World) (h : RInts w v xs) (h1 : 0 ≤ left) (h2 : left ≤ 1048576) :
    Calls Tryz.prog 57 #[v, .int .i64 left] w fun e w' => e = .returned (.int .i64 (subL left xs.length)) ∧ w = w' := by
  have hl := h.len
  obtain ⟨A, c, rfl, hle, hc, hx⟩ := h
  clear hx
  by_cases hlt : left - xs.length < 0
  · have E : Hid (subL left xs.length = -1) := by unfold Hid subL; rw [if_pos hlt]
    go_enter Tryz.func57, Tryz.ntmps57
    go_wp2
    go_ret
    exact ⟨ret_int E.out.symm, rfl⟩
  · have E : Hid (subL left xs.length = left - xs.length) := by unfold Hid subL; rw [if_neg hlt]
    go_enter Tryz.func57, Tryz.ntmps57
    go_wp2
    go_ret
    exact ⟨ret_int E.out.symm, rfl⟩
/-- the copy's state behind k rounds -/
def CopyTo (w wr : World) (xs : List Int) (k : Nat) : Prop :=
  ∃ cs : Array Value, Blk wr w.heap.size 2 cs ∧ cs.size = xs.length ∧ (∀ (i : Nat) (x : Int), i < k → xs[i]? = some x → cs[i]? = some (.int .i64 x)) ∧ Grows w wr
theorem CopyTo.step {w wr : World} {xs : List Int} {k : Nat} {x : Int} (h : CopyTo w wr xs k) (hx : xs[k]? = some x) : CopyTo w (wr.setCell ⟨w.heap.size, k, none⟩ (.int .i64 x)) xs (k + 1) := by
  obtain ⟨cs, hb, hs, hc, hg⟩ := h
  have hk : k < xs.length := by
    rcases Nat.lt_or_ge k xs.length with h | h
    · exact h
    · rw [List.getElem?_eq_none h] at hx; cases hx
  refine ⟨_, hb.set_ k _, by simpa using hs, fun i y hi hy => ?_, hg.setCell (Nat.le_refl _) _⟩
  rw [Array.getElem?_setIfInBounds]
  by_cases e : k = i
  · subst e
    rw [if_pos rfl, if_pos (by omega)]
    rw [hx] at hy
    injection hy with hy
    rw [hy]
  · rw [if_neg e]
    exact hc i y (by omega) hy
set_option maxHeartbeats 1000000 in
theorem toInts_any {v : Value} {xs : List Int} (w : World) (h : RInts w v xs) (hn : xs.length ≤ 1048576) :
    Calls Tryz.prog 65 #[v] w fun e w' => ∃ v', e = .returned v' ∧ NewInts w w' v' xs := by
  obtain ⟨i0, hi, hz0, hz1, hz2⟩ := info_parts info_i64
  have hmk : ∀ u : World, (Instr.makeSlice 64 (.int .i64 (xs.length : Int)) (.int .i64 (xs.length : Int))).run Tryz.prog u =
      .ok (.slice (some ⟨u.heap.size, 0, none⟩) xs.length xs.length) (u.alloc (.cells (madeCells #[.int .i64 0] xs.length) 2)) := fun u => by
    have h := run_make (P := Tryz.prog) u 64 2 i0 (.int .i64 0) Tryz.underlying64 hi hz0 .i64 .i64 (xs.length : Int) (xs.length : Int) (by omega) (Int.le_refl _) (by rw [hz2]; omega) (by omega)
    simpa [hz1, Value.cells] using h
  obtain ⟨A, c, rfl, hle, hc, hx⟩ := h.form
  have HX := hideIt hx
  clear hx hi hz0 hz1 hz2 h
  go_enter Tryz.func65, Tryz.ntmps65
  go_wp2
  go_loopw [4] (fun i wr => ∃ k : Nat, k ≤ xs.length ∧ i = .int .i64 k ∧ CopyTo w wr xs k) (fun i _ => xs.length - (intOf i).toNat)
  case atStart => exact ⟨0, Nat.zero_le _, rfl, _, Blk.new _ _ _, by simp [madeCells], fun i x hi => absurd hi (by omega), (Grows.refl _).alloc _⟩
  case round =>
    obtain ⟨k, hk, rfl, hco⟩ := hrel
    by_cases hlt : k < xs.length
    · obtain ⟨x, hx⟩ : ∃ x, xs[k]? = some x := ⟨_, List.getElem?_eq_getElem hlt⟩
      obtain ⟨b, off, rfl, cs, hl1, hcs, hr⟩ := HX.out k x hx
      unfold RI at hr
      subst hr
      have hst := hideIt (hco.step hx)
      obtain ⟨ds, hb, hsz, -, hg⟩ := hco
      have hs : wr.cell? ⟨b, off + k, none⟩ = some (.int .i64 x) := by simpa using hg.keeps _ _ (hcs 0 _ rfl)
      obtain ⟨old, hd⟩ : ∃ old, wr.cell? ⟨w.heap.size, k, none⟩ = some old := ⟨_, by rw [hb.cell]; exact Array.getElem?_eq_getElem (by omega)⟩
      have hf : wr.frozen? ⟨w.heap.size, k, none⟩ = false := hb.frozen k
      clear hcs hl1 hx hb hsz hmk
      go_wp2
      go_roundw
      case rel => exact ⟨k + 1, by omega, by go_num, hst.out⟩
      case measure => simp [intOf]; omega
    · have hk2 : k = xs.length := by omega
      subst hk2
      have H := hideIt hco
      clear hco hmk
      go_wp2
      go_ret
      obtain ⟨cs, hb, hsz, hcs, hg⟩ := H.out
      exact ⟨_, rfl, cs, rfl, hb, hsz, fun i x hx => hcs i x (List.getElem?_eq_some_iff.1 hx).1 hx, hg⟩
theorem eq_of_getElem? {α : Type} {xs ys : List α} (hl : xs.length = ys.length) (h : ∀ i, i < xs.length → xs[i]? = ys[i]?) : xs = ys := by
  apply List.ext_getElem? 
  intro i
  rcases Nat.lt_or_ge i xs.length with hi | hi
  · exact h i hi
  · rw [List.getElem?_eq_none hi, List.getElem?_eq_none (by omega)]
set_option maxHeartbeats 1000000 in
theorem eqInts_any {v1 v2 : Value} {xs ys : List Int} (w : World) (h1 : RInts w v1 xs) (h2 : RInts w v2 ys) :
    Calls Tryz.prog 80 #[v1, v2] w fun e w' => e = .returned (.bool (decide (xs = ys))) ∧ Grows w w' := by
  have l1 := h1.len
  have l2 := h2.len
  obtain ⟨A, c, rfl, hle, hc, hx⟩ := h1.form
  obtain ⟨A2, c2, rfl, hle2, hc2, hy⟩ := h2.form
  have HX := hideIt hx
  have HY := hideIt hy
  clear hx hy h1 h2 hle hle2 hc hc2
  by_cases hl : xs.length = ys.length
  · have HL := hideIt hl
    have hb : ((xs.length : Int) != (ys.length : Int)) = false := by rw [hl]; simp
    clear hl
    go_enter Tryz.func80, Tryz.ntmps80
    go_wp2
    go_loopw [5] (fun i wr => ∃ k : Nat, k ≤ xs.length ∧ i = .int .i64 k ∧ Hid (∀ j, j < k → xs[j]? = ys[j]?) ∧ Grows w wr) (fun i _ => xs.length - (intOf i).toNat)
    case atStart => exact ⟨0, Nat.zero_le _, rfl, fun i hi => absurd hi (by omega), Grows.refl _⟩
    case round =>
      obtain ⟨k, hk, rfl, hco, hg⟩ := hrel
      by_cases hlt : k < xs.length
      · have hlt2 : k < ys.length := by have := HL.out; omega
        obtain ⟨x, hx⟩ : ∃ x, xs[k]? = some x := ⟨_, List.getElem?_eq_getElem hlt⟩
        obtain ⟨y, hy⟩ : ∃ y, ys[k]? = some y := ⟨_, List.getElem?_eq_getElem hlt2⟩
        obtain ⟨b, off, rfl, cs, hl1, hcs, hr⟩ := HX.out k x hx
        obtain ⟨b2, off2, rfl, cs2, hl2, hcs2, hr2⟩ := HY.out k y hy
        unfold RI at hr hr2
        subst hr hr2
        have hs : wr.cell? ⟨b, off + k, none⟩ = some (.int .i64 x) := by simpa using hg.keeps _ _ (hcs 0 _ rfl)
        have hs2 : wr.cell? ⟨b2, off2 + k, none⟩ = some (.int .i64 y) := by simpa using hg.keeps _ _ (hcs2 0 _ rfl)
        have X1 := hideIt hx
        have Y1 := hideIt hy
        clear hcs hcs2 hl1 hl2 hx hy
        cases hxy : (x != y)
        · have XY := hideIt hxy
          go_wp2
          go_quiet (fail)
          go_wp2
          go_roundw
          case rel => exact ⟨k + 1, by omega, by go_num, fun j hj => by
            by_cases e : j = k
            · subst e; rw [X1.out, Y1.out]; have := XY.out; simpa using this
            · exact hco.out j (by omega), by first | exact hg.drewN _ | exact (hg.drewN _).drewN _⟩
          case measure => simp [intOf]; omega
        · have XY := hideIt hxy
          go_wp2
          go_quiet (fail)
          go_wp2
          go_ret
          refine ⟨ret_bool ?_, by first | exact hg.drewN _ | exact (hg.drewN _).drewN _⟩
          symm
          rw [decide_eq_false_iff_not]
          intro e
          subst e
          have h1 := X1.out.symm.trans Y1.out
          injection h1 with h1
          have := XY.out
          simp [h1] at this
      · have hk2 : k = xs.length := by omega
        subst hk2
        go_wp2
        go_ret
        exact ⟨ret_bool (by symm; rw [decide_eq_true_iff]; exact eq_of_getElem? HL.out hco.out), hg⟩
  · have hb : ((xs.length : Int) != (ys.length : Int)) = true := by simp; omega
    have HL := hideIt hl
    clear hl
    go_enter Tryz.func80, Tryz.ntmps80
    go_wp2
    go_ret
    exact ⟨ret_bool (by symm; rw [decide_eq_false_iff_not]; intro e; subst e; exact HL.out rfl), Grows.refl _⟩
end Go.Proofs.YtocahjbmnkadjaaGreatDoor
/-
  slices.IndexFunc and slices.ContainsFunc over a slice that reads as a list, for whatever predicate the function value decides.
-/
namespace Go.Proofs.YtocahjbmnkadjaaGreatDoor
open Go.RowKit

/-- the first place at which p holds, -1 if there is none -/
def idxF {α : Type} (p : α → Bool) (xs : List α) : Int := match xs.findIdx? p with | some i => (i : Int) | none => -1
theorem idxF_hit {α : Type} {p : α → Bool} {xs : List α} {k : Nat} {x : α} (hx : xs[k]? = some x) (hp : p x = true) (hb : ∀ (j : Nat) (y : α), j < k → xs[j]? = some y → p y = false) : idxF p xs = (k : Int) := by
  have hk : k < xs.length := (List.getElem?_eq_some_iff.1 hx).1
  have h : xs.findIdx? p = some k := by
    rw [List.findIdx?_eq_some_iff_getElem]
    refine ⟨hk, ?_, fun j hj => ?_⟩
    · rw [List.getElem?_eq_getElem hk] at hx
      injection hx with hx
      rw [hx]; exact hp
    · simpa using hb j _ hj (List.getElem?_eq_getElem (by omega))
  simp [idxF, h]
theorem idxF_miss {α : Type} {p : α → Bool} {xs : List α} (hb : ∀ (j : Nat) (y : α), j < xs.length → xs[j]? = some y → p y = false) : idxF p xs = -1 := by
  have h : xs.findIdx? p = none := by
    rw [List.findIdx?_eq_none_iff]
    intro x hx
    obtain ⟨j, hj, e⟩ := List.getElem_of_mem hx
    exact hb j x hj (by rw [List.getElem?_eq_getElem hj, e])
  simp [idxF, h]
theorem idxF_any {α : Type} (p : α → Bool) (xs : List α) : decide (0 ≤ idxF p xs) = xs.any p := by
  unfold idxF
  cases h : xs.findIdx? p with
  | none =>
    rw [List.findIdx?_eq_none_iff] at h
    have : xs.any p = false := by rw [List.any_eq_false]; intro x hx; simp [h x hx]
    simp [this]
  | some i =>
    rw [List.findIdx?_eq_some_iff_getElem] at h
    obtain ⟨hi, hp, _⟩ := h
    have : xs.any p = true := List.any_eq_true.2 ⟨_, List.getElem_mem hi, hp⟩
    simp [this]

theorem list1 {cs : List Value} (h : cs.length = 1) : ∃ c0 : Value, cs = [c0] := by
  match cs, h with
  | [c0], _ => exact ⟨c0, rfl⟩
theorem list3 {cs : List Value} (h : cs.length = 3) : ∃ c0 c1 c2 : Value, cs = [c0, c1, c2] := by
  match cs, h with
  | [c0, c1, c2], _ => exact ⟨c0, c1, c2, rfl⟩
theorem list4 {cs : List Value} (h : cs.length = 4) : ∃ c0 c1 c2 c3 : Value, cs = [c0, c1, c2, c3] := by
  match cs, h with
  | [c0, c1, c2, c3], _ => exact ⟨c0, c1, c2, c3, rfl⟩
theorem list6 {cs : List Value} (h : cs.length = 6) : ∃ c0 c1 c2 c3 c4 c5 : Value, cs = [c0, c1, c2, c3, c4, c5] := by
  match cs, h with
  | [c0, c1, c2, c3, c4, c5], _ => exact ⟨c0, c1, c2, c3, c4, c5, rfl⟩
theorem list7 {cs : List Value} (h : cs.length = 7) : ∃ c0 c1 c2 c3 c4 c5 c6 : Value, cs = [c0, c1, c2, c3, c4, c5, c6] := by
  match cs, h with
  | [c0, c1, c2, c3, c4, c5, c6], _ => exact ⟨c0, c1, c2, c3, c4, c5, c6, rfl⟩
/-- the function value decides p on the list's elements, in every later world -/
def PredI64 (g : Nat) (lb : Array Value) (p : Int → Bool) (xs : List Int) (w : World) : Prop :=
  ∀ (x : Int) (c0 : Value) (W : World), x ∈ xs → Grows w W → RI W [c0] x → Calls Tryz.prog g (#[c0] ++ lb) W fun e W' => e = .returned (.bool (p x)) ∧ Grows W W'
set_option maxHeartbeats 2000000 in
theorem indexFuncI64_any {v : Value} {xs : List Int} (g : Nat) (lb : Array Value) (eg : ∀ (args : Array Value) (w : World), (callFunc g args).run Tryz.prog w = .ok (.enter g args) w) (p : Int → Bool) (w : World)
    (h : RList 1 RI w v xs) (hp : PredI64 g lb p xs w) :
    Calls Tryz.prog 125 #[v, .func (.func g) #[] lb] w fun e w' => e = .returned (.int .i64 (idxF p xs)) ∧ Grows w w' := by
  have hl := h.len
  obtain ⟨A, c, rfl, hle, hc, hx⟩ := h.form
  have HX := hideIt hx
  have HP := hideIt hp
  clear hx hp h hle hc
  go_enter Tryz.func125, Tryz.ntmps125
  go_wp2
  go_loopw [5, 8] (fun _ i wr => ∃ k : Nat, k ≤ xs.length ∧ i = .int .i64 k ∧ Hid (∀ (j : Nat) (y : Int), j < k → xs[j]? = some y → p y = false) ∧ Grows w wr) (fun _ i _ => xs.length - (intOf i).toNat)
  case atStart => exact ⟨0, Nat.zero_le _, rfl, fun i y hi => absurd hi (by omega), Grows.refl _⟩
  case round =>
    obtain ⟨k, hk, rfl, hco, hg⟩ := hrel
    by_cases hlt : k < xs.length
    · obtain ⟨x, hx⟩ : ∃ x, xs[k]? = some x := ⟨_, List.getElem?_eq_getElem hlt⟩
      obtain ⟨b, off, rfl, cs, hl1, hcs, hr⟩ := HX.out k x hx
      obtain ⟨c0, rfl⟩ := list1 hl1
      have hcall := fun W (gw : Grows wr W) (hr' : RI W [c0] x) => HP.out x c0 W (List.mem_of_getElem? hx) (hg.trans gw) hr'
      have HR : Hid (RI wr [c0] x) := by have h := hr; exact h
      have hs0 : wr.cell? ⟨b, off + k, none⟩ = some c0 := by simpa using hg.keeps _ _ (hcs 0 _ rfl)
      have X1 := hideIt hx
      clear hcs hl1 hx hr
      have HC := hideIt hcall
      clear hcall
      cases hq : p x with
      | true =>
        have HQ := hideIt hq
        go_wp2_with (go_at_fn g; refine (HC.out _ (by repeat (first | exact Grows.refl _ | refine Grows.drew ?_)) HR.out).mono ?_; rintro e w' ⟨rfl, g2⟩; rw [HQ.out])
        go_ret
        exact ⟨ret_int (idxF_hit X1.out HQ.out hco.out).symm, hg.trans (by assumption)⟩
      | false =>
        have HQ := hideIt hq
        go_wp2_with (go_at_fn g; refine (HC.out _ (by repeat (first | exact Grows.refl _ | refine Grows.drew ?_)) HR.out).mono ?_; rintro e w' ⟨rfl, g2⟩; rw [HQ.out])
        go_roundw
        case rel => exact ⟨k + 1, by omega, by go_num, fun j y hj hy => by
          by_cases e : j = k
          · subst e; rw [X1.out] at hy; injection hy with hy; rw [← hy]; exact HQ.out
          · exact hco.out j y (by omega) hy, hg.trans (by assumption)⟩
        case measure => simp [intOf]; omega
    · have hk2 : k = xs.length := by omega
      subst hk2
      go_wp2
      go_ret
      exact ⟨ret_int (idxF_miss hco.out).symm, hg⟩
set_option maxHeartbeats 1000000 in
theorem containsFuncI64_any {v : Value} {xs : List Int} (g : Nat) (lb : Array Value) (eg : ∀ (args : Array Value) (w : World), (callFunc g args).run Tryz.prog w = .ok (.enter g args) w) (p : Int → Bool) (w : World)
    (h : RList 1 RI w v xs) (hp : PredI64 g lb p xs w) :
    Calls Tryz.prog 101 #[v, .func (.func g) #[] lb] w fun e w' => e = .returned (.bool (xs.any p)) ∧ Grows w w' := by
  have E := hideIt (idxF_any p xs)
  have HC := hideIt (indexFuncI64_any g lb eg p w h hp)
  clear h hp
  go_enter Tryz.func101, Tryz.ntmps101
  go_wp2_with (go_at_call 125; refine HC.out.mono ?_; rintro e w' ⟨rfl, g2⟩)
  go_ret
  exact ⟨ret_bool E.out, by assumption⟩
/-- the function value decides p on the list's elements, in every later world -/
def PredTable (g : Nat) (lb : Array Value) (p : TableD → Bool) (xs : List TableD) (w : World) : Prop :=
  ∀ (x : TableD) (c0 c1 c2 : Value) (W : World), x ∈ xs → Grows w W → RTable W [c0, c1, c2] x → Calls Tryz.prog g (#[.agg #[c0, c1, c2]] ++ lb) W fun e W' => e = .returned (.bool (p x)) ∧ Grows W W'
set_option maxHeartbeats 2000000 in
theorem indexFuncTable_any {v : Value} {xs : List TableD} (g : Nat) (lb : Array Value) (eg : ∀ (args : Array Value) (w : World), (callFunc g args).run Tryz.prog w = .ok (.enter g args) w) (p : TableD → Bool) (w : World)
    (h : RList 3 RTable w v xs) (hp : PredTable g lb p xs w) :
    Calls Tryz.prog 172 #[v, .func (.func g) #[] lb] w fun e w' => e = .returned (.int .i64 (idxF p xs)) ∧ Grows w w' := by
  have hl := h.len
  obtain ⟨A, c, rfl, hle, hc, hx⟩ := h.form
  have HX := hideIt hx
  have HP := hideIt hp
  clear hx hp h hle hc
  go_enter Tryz.func172, Tryz.ntmps172
  go_wp2
  go_loopw [5, 8] (fun _ i wr => ∃ k : Nat, k ≤ xs.length ∧ i = .int .i64 k ∧ Hid (∀ (j : Nat) (y : TableD), j < k → xs[j]? = some y → p y = false) ∧ Grows w wr) (fun _ i _ => xs.length - (intOf i).toNat)
  case atStart => exact ⟨0, Nat.zero_le _, rfl, fun i y hi => absurd hi (by omega), Grows.refl _⟩
  case round =>
    obtain ⟨k, hk, rfl, hco, hg⟩ := hrel
    by_cases hlt : k < xs.length
    · obtain ⟨x, hx⟩ : ∃ x, xs[k]? = some x := ⟨_, List.getElem?_eq_getElem hlt⟩
      obtain ⟨b, off, rfl, cs, hl1, hcs, hr⟩ := HX.out k x hx
      obtain ⟨c0, c1, c2, rfl⟩ := list3 hl1
      have hcall := fun W (gw : Grows wr W) (hr' : RTable W [c0, c1, c2] x) => HP.out x c0 c1 c2 W (List.mem_of_getElem? hx) (hg.trans gw) hr'
      have HR : Hid (RTable wr [c0, c1, c2] x) := by have h := hr; exact h.keep hg.keeps
      have hs0 : wr.cell? ⟨b, off + k * 3, none⟩ = some c0 := by simpa [Nat.add_assoc] using hg.keeps _ _ (hcs 0 _ rfl)
      have hs1 : wr.cell? ⟨b, off + k * 3 + 1, none⟩ = some c1 := by simpa [Nat.add_assoc] using hg.keeps _ _ (hcs 1 _ rfl)
      have hs2 : wr.cell? ⟨b, off + k * 3 + 2, none⟩ = some c2 := by simpa [Nat.add_assoc] using hg.keeps _ _ (hcs 2 _ rfl)
      have X1 := hideIt hx
      clear hcs hl1 hx hr
      have HC := hideIt hcall
      clear hcall
      cases hq : p x with
      | true =>
        have HQ := hideIt hq
        go_wp2_with (go_at_fn g; refine (HC.out _ (by repeat (first | exact Grows.refl _ | refine Grows.drew ?_)) HR.out).mono ?_; rintro e w' ⟨rfl, g2⟩; rw [HQ.out])
        go_ret
        exact ⟨ret_int (idxF_hit X1.out HQ.out hco.out).symm, hg.trans (by assumption)⟩
      | false =>
        have HQ := hideIt hq
        go_wp2_with (go_at_fn g; refine (HC.out _ (by repeat (first | exact Grows.refl _ | refine Grows.drew ?_)) HR.out).mono ?_; rintro e w' ⟨rfl, g2⟩; rw [HQ.out])
        go_roundw
        case rel => exact ⟨k + 1, by omega, by go_num, fun j y hj hy => by
          by_cases e : j = k
          · subst e; rw [X1.out] at hy; injection hy with hy; rw [← hy]; exact HQ.out
          · exact hco.out j y (by omega) hy, hg.trans (by assumption)⟩
        case measure => simp [intOf]; omega
    · have hk2 : k = xs.length := by omega
      subst hk2
      go_wp2
      go_ret
      exact ⟨ret_int (idxF_miss hco.out).symm, hg⟩
set_option maxHeartbeats 1000000 in
theorem containsFuncTable_any {v : Value} {xs : List TableD} (g : Nat) (lb : Array Value) (eg : ∀ (args : Array Value) (w : World), (callFunc g args).run Tryz.prog w = .ok (.enter g args) w) (p : TableD → Bool) (w : World)
    (h : RList 3 RTable w v xs) (hp : PredTable g lb p xs w) :
    Calls Tryz.prog 158 #[v, .func (.func g) #[] lb] w fun e w' => e = .returned (.bool (xs.any p)) ∧ Grows w w' := by
  have E := hideIt (idxF_any p xs)
  have HC := hideIt (indexFuncTable_any g lb eg p w h hp)
  clear h hp
  go_enter Tryz.func158, Tryz.ntmps158
  go_wp2_with (go_at_call 172; refine HC.out.mono ?_; rintro e w' ⟨rfl, g2⟩)
  go_ret
  exact ⟨ret_bool E.out, by assumption⟩
/-- the function value decides p on the list's elements, in every later world -/
def PredPin (g : Nat) (lb : Array Value) (p : PinD → Bool) (xs : List PinD) (w : World) : Prop :=
  ∀ (x : PinD) (c0 c1 c2 c3 : Value) (W : World), x ∈ xs → Grows w W → RPin W [c0, c1, c2, c3] x → Calls Tryz.prog g (#[.agg #[c0, c1, c2, c3]] ++ lb) W fun e W' => e = .returned (.bool (p x)) ∧ Grows W W'
set_option maxHeartbeats 2000000 in
theorem indexFuncPin_any {v : Value} {xs : List PinD} (g : Nat) (lb : Array Value) (eg : ∀ (args : Array Value) (w : World), (callFunc g args).run Tryz.prog w = .ok (.enter g args) w) (p : PinD → Bool) (w : World)
    (h : RList 4 RPin w v xs) (hp : PredPin g lb p xs w) :
    Calls Tryz.prog 162 #[v, .func (.func g) #[] lb] w fun e w' => e = .returned (.int .i64 (idxF p xs)) ∧ Grows w w' := by
  have hl := h.len
  obtain ⟨A, c, rfl, hle, hc, hx⟩ := h.form
  have HX := hideIt hx
  have HP := hideIt hp
  clear hx hp h hle hc
  go_enter Tryz.func162, Tryz.ntmps162
  go_wp2
  go_loopw [5, 8] (fun _ i wr => ∃ k : Nat, k ≤ xs.length ∧ i = .int .i64 k ∧ Hid (∀ (j : Nat) (y : PinD), j < k → xs[j]? = some y → p y = false) ∧ Grows w wr) (fun _ i _ => xs.length - (intOf i).toNat)
  case atStart => exact ⟨0, Nat.zero_le _, rfl, fun i y hi => absurd hi (by omega), Grows.refl _⟩
  case round =>
    obtain ⟨k, hk, rfl, hco, hg⟩ := hrel
    by_cases hlt : k < xs.length
    · obtain ⟨x, hx⟩ : ∃ x, xs[k]? = some x := ⟨_, List.getElem?_eq_getElem hlt⟩
      obtain ⟨b, off, rfl, cs, hl1, hcs, hr⟩ := HX.out k x hx
      obtain ⟨c0, c1, c2, c3, rfl⟩ := list4 hl1
      have hcall := fun W (gw : Grows wr W) (hr' : RPin W [c0, c1, c2, c3] x) => HP.out x c0 c1 c2 c3 W (List.mem_of_getElem? hx) (hg.trans gw) hr'
      have HR : Hid (RPin wr [c0, c1, c2, c3] x) := by have h := hr; exact h
      have hs0 : wr.cell? ⟨b, off + k * 4, none⟩ = some c0 := by simpa [Nat.add_assoc] using hg.keeps _ _ (hcs 0 _ rfl)
      have hs1 : wr.cell? ⟨b, off + k * 4 + 1, none⟩ = some c1 := by simpa [Nat.add_assoc] using hg.keeps _ _ (hcs 1 _ rfl)
      have hs2 : wr.cell? ⟨b, off + k * 4 + 2, none⟩ = some c2 := by simpa [Nat.add_assoc] using hg.keeps _ _ (hcs 2 _ rfl)
      have hs3 : wr.cell? ⟨b, off + k * 4 + 3, none⟩ = some c3 := by simpa [Nat.add_assoc] using hg.keeps _ _ (hcs 3 _ rfl)
      have X1 := hideIt hx
      clear hcs hl1 hx hr
      have HC := hideIt hcall
      clear hcall
      cases hq : p x with
      | true =>
        have HQ := hideIt hq
        go_wp2_with (go_at_fn g; refine (HC.out _ (by repeat (first | exact Grows.refl _ | refine Grows.drew ?_)) HR.out).mono ?_; rintro e w' ⟨rfl, g2⟩; rw [HQ.out])
        go_ret
        exact ⟨ret_int (idxF_hit X1.out HQ.out hco.out).symm, hg.trans (by assumption)⟩
      | false =>
        have HQ := hideIt hq
        go_wp2_with (go_at_fn g; refine (HC.out _ (by repeat (first | exact Grows.refl _ | refine Grows.drew ?_)) HR.out).mono ?_; rintro e w' ⟨rfl, g2⟩; rw [HQ.out])
        go_roundw
        case rel => exact ⟨k + 1, by omega, by go_num, fun j y hj hy => by
          by_cases e : j = k
          · subst e; rw [X1.out] at hy; injection hy with hy; rw [← hy]; exact HQ.out
          · exact hco.out j y (by omega) hy, hg.trans (by assumption)⟩
        case measure => simp [intOf]; omega
    · have hk2 : k = xs.length := by omega
      subst hk2
      go_wp2
      go_ret
      exact ⟨ret_int (idxF_miss hco.out).symm, hg⟩
/-- the function value decides p on the list's elements, in every later world -/
def PredArc (g : Nat) (lb : Array Value) (p : ArcD → Bool) (xs : List ArcD) (w : World) : Prop :=
  ∀ (x : ArcD) (c0 c1 c2 c3 c4 c5 : Value) (W : World), x ∈ xs → Grows w W → RArc W [c0, c1, c2, c3, c4, c5] x → Calls Tryz.prog g (#[.agg #[c0, c1, c2, c3, c4, c5]] ++ lb) W fun e W' => e = .returned (.bool (p x)) ∧ Grows W W'
set_option maxHeartbeats 2000000 in
theorem indexFuncArc_any {v : Value} {xs : List ArcD} (g : Nat) (lb : Array Value) (eg : ∀ (args : Array Value) (w : World), (callFunc g args).run Tryz.prog w = .ok (.enter g args) w) (p : ArcD → Bool) (w : World)
    (h : RList 6 RArc w v xs) (hp : PredArc g lb p xs w) :
    Calls Tryz.prog 144 #[v, .func (.func g) #[] lb] w fun e w' => e = .returned (.int .i64 (idxF p xs)) ∧ Grows w w' := by
  have hl := h.len
  obtain ⟨A, c, rfl, hle, hc, hx⟩ := h.form
  have HX := hideIt hx
  have HP := hideIt hp
  clear hx hp h hle hc
  go_enter Tryz.func144, Tryz.ntmps144
  go_wp2
  go_loopw [5, 8] (fun _ i wr => ∃ k : Nat, k ≤ xs.length ∧ i = .int .i64 k ∧ Hid (∀ (j : Nat) (y : ArcD), j < k → xs[j]? = some y → p y = false) ∧ Grows w wr) (fun _ i _ => xs.length - (intOf i).toNat)
  case atStart => exact ⟨0, Nat.zero_le _, rfl, fun i y hi => absurd hi (by omega), Grows.refl _⟩
  case round =>
    obtain ⟨k, hk, rfl, hco, hg⟩ := hrel
    by_cases hlt : k < xs.length
    · obtain ⟨x, hx⟩ : ∃ x, xs[k]? = some x := ⟨_, List.getElem?_eq_getElem hlt⟩
      obtain ⟨b, off, rfl, cs, hl1, hcs, hr⟩ := HX.out k x hx
      obtain ⟨c0, c1, c2, c3, c4, c5, rfl⟩ := list6 hl1
      have hcall := fun W (gw : Grows wr W) (hr' : RArc W [c0, c1, c2, c3, c4, c5] x) => HP.out x c0 c1 c2 c3 c4 c5 W (List.mem_of_getElem? hx) (hg.trans gw) hr'
      have HR : Hid (RArc wr [c0, c1, c2, c3, c4, c5] x) := by have h := hr; exact h.keep hg.keeps
      have hs0 : wr.cell? ⟨b, off + k * 6, none⟩ = some c0 := by simpa [Nat.add_assoc] using hg.keeps _ _ (hcs 0 _ rfl)
      have hs1 : wr.cell? ⟨b, off + k * 6 + 1, none⟩ = some c1 := by simpa [Nat.add_assoc] using hg.keeps _ _ (hcs 1 _ rfl)
      have hs2 : wr.cell? ⟨b, off + k * 6 + 2, none⟩ = some c2 := by simpa [Nat.add_assoc] using hg.keeps _ _ (hcs 2 _ rfl)
      have hs3 : wr.cell? ⟨b, off + k * 6 + 3, none⟩ = some c3 := by simpa [Nat.add_assoc] using hg.keeps _ _ (hcs 3 _ rfl)
      have hs4 : wr.cell? ⟨b, off + k * 6 + 4, none⟩ = some c4 := by simpa [Nat.add_assoc] using hg.keeps _ _ (hcs 4 _ rfl)
      have hs5 : wr.cell? ⟨b, off + k * 6 + 5, none⟩ = some c5 := by simpa [Nat.add_assoc] using hg.keeps _ _ (hcs 5 _ rfl)
      have X1 := hideIt hx
      clear hcs hl1 hx hr
      have HC := hideIt hcall
      clear hcall
      cases hq : p x with
      | true =>
        have HQ := hideIt hq
        go_wp2_with (go_at_fn g; refine (HC.out _ (by repeat (first | exact Grows.refl _ | refine Grows.drew ?_)) HR.out).mono ?_; rintro e w' ⟨rfl, g2⟩; rw [HQ.out])
        go_ret
        exact ⟨ret_int (idxF_hit X1.out HQ.out hco.out).symm, hg.trans (by assumption)⟩
      | false =>
        have HQ := hideIt hq
        go_wp2_with (go_at_fn g; refine (HC.out _ (by repeat (first | exact Grows.refl _ | refine Grows.drew ?_)) HR.out).mono ?_; rintro e w' ⟨rfl, g2⟩; rw [HQ.out])
        go_roundw
        case rel => exact ⟨k + 1, by omega, by go_num, fun j y hj hy => by
          by_cases e : j = k
          · subst e; rw [X1.out] at hy; injection hy with hy; rw [← hy]; exact HQ.out
          · exact hco.out j y (by omega) hy, hg.trans (by assumption)⟩
        case measure => simp [intOf]; omega
    · have hk2 : k = xs.length := by omega
      subst hk2
      go_wp2
      go_ret
      exact ⟨ret_int (idxF_miss hco.out).symm, hg⟩
set_option maxHeartbeats 1000000 in
theorem containsFuncArc_any {v : Value} {xs : List ArcD} (g : Nat) (lb : Array Value) (eg : ∀ (args : Array Value) (w : World), (callFunc g args).run Tryz.prog w = .ok (.enter g args) w) (p : ArcD → Bool) (w : World)
    (h : RList 6 RArc w v xs) (hp : PredArc g lb p xs w) :
    Calls Tryz.prog 114 #[v, .func (.func g) #[] lb] w fun e w' => e = .returned (.bool (xs.any p)) ∧ Grows w w' := by
  have E := hideIt (idxF_any p xs)
  have HC := hideIt (indexFuncArc_any g lb eg p w h hp)
  clear h hp
  go_enter Tryz.func114, Tryz.ntmps114
  go_wp2_with (go_at_call 144; refine HC.out.mono ?_; rintro e w' ⟨rfl, g2⟩)
  go_ret
  exact ⟨ret_bool E.out, by assumption⟩
/-- the function value decides p on the list's elements, in every later world -/
def PredCell (g : Nat) (lb : Array Value) (p : CellD → Bool) (xs : List CellD) (w : World) : Prop :=
  ∀ (x : CellD) (c0 c1 c2 c3 c4 c5 c6 : Value) (W : World), x ∈ xs → Grows w W → RCell W [c0, c1, c2, c3, c4, c5, c6] x → Calls Tryz.prog g (#[.agg #[c0, c1, c2, c3, c4, c5, c6]] ++ lb) W fun e W' => e = .returned (.bool (p x)) ∧ Grows W W'
set_option maxHeartbeats 2000000 in
theorem indexFuncCell_any {v : Value} {xs : List CellD} (g : Nat) (lb : Array Value) (eg : ∀ (args : Array Value) (w : World), (callFunc g args).run Tryz.prog w = .ok (.enter g args) w) (p : CellD → Bool) (w : World)
    (h : RList 7 RCell w v xs) (hp : PredCell g lb p xs w) :
    Calls Tryz.prog 123 #[v, .func (.func g) #[] lb] w fun e w' => e = .returned (.int .i64 (idxF p xs)) ∧ Grows w w' := by
  have hl := h.len
  obtain ⟨A, c, rfl, hle, hc, hx⟩ := h.form
  have HX := hideIt hx
  have HP := hideIt hp
  clear hx hp h hle hc
  go_enter Tryz.func123, Tryz.ntmps123
  go_wp2
  go_loopw [5, 8] (fun _ i wr => ∃ k : Nat, k ≤ xs.length ∧ i = .int .i64 k ∧ Hid (∀ (j : Nat) (y : CellD), j < k → xs[j]? = some y → p y = false) ∧ Grows w wr) (fun _ i _ => xs.length - (intOf i).toNat)
  case atStart => exact ⟨0, Nat.zero_le _, rfl, fun i y hi => absurd hi (by omega), Grows.refl _⟩
  case round =>
    obtain ⟨k, hk, rfl, hco, hg⟩ := hrel
    by_cases hlt : k < xs.length
    · obtain ⟨x, hx⟩ : ∃ x, xs[k]? = some x := ⟨_, List.getElem?_eq_getElem hlt⟩
      obtain ⟨b, off, rfl, cs, hl1, hcs, hr⟩ := HX.out k x hx
      obtain ⟨c0, c1, c2, c3, c4, c5, c6, rfl⟩ := list7 hl1
      have hcall := fun W (gw : Grows wr W) (hr' : RCell W [c0, c1, c2, c3, c4, c5, c6] x) => HP.out x c0 c1 c2 c3 c4 c5 c6 W (List.mem_of_getElem? hx) (hg.trans gw) hr'
      have HR : Hid (RCell wr [c0, c1, c2, c3, c4, c5, c6] x) := by have h := hr; exact h.keep hg.keeps
      have hs0 : wr.cell? ⟨b, off + k * 7, none⟩ = some c0 := by simpa [Nat.add_assoc] using hg.keeps _ _ (hcs 0 _ rfl)
      have hs1 : wr.cell? ⟨b, off + k * 7 + 1, none⟩ = some c1 := by simpa [Nat.add_assoc] using hg.keeps _ _ (hcs 1 _ rfl)
      have hs2 : wr.cell? ⟨b, off + k * 7 + 2, none⟩ = some c2 := by simpa [Nat.add_assoc] using hg.keeps _ _ (hcs 2 _ rfl)
      have hs3 : wr.cell? ⟨b, off + k * 7 + 3, none⟩ = some c3 := by simpa [Nat.add_assoc] using hg.keeps _ _ (hcs 3 _ rfl)
      have hs4 : wr.cell? ⟨b, off + k * 7 + 4, none⟩ = some c4 := by simpa [Nat.add_assoc] using hg.keeps _ _ (hcs 4 _ rfl)
      have hs5 : wr.cell? ⟨b, off + k * 7 + 5, none⟩ = some c5 := by simpa [Nat.add_assoc] using hg.keeps _ _ (hcs 5 _ rfl)
      have hs6 : wr.cell? ⟨b, off + k * 7 + 6, none⟩ = some c6 := by simpa [Nat.add_assoc] using hg.keeps _ _ (hcs 6 _ rfl)
      have X1 := hideIt hx
      clear hcs hl1 hx hr
      have HC := hideIt hcall
      clear hcall
      cases hq : p x with
      | true =>
        have HQ := hideIt hq
        go_wp2_with (go_at_fn g; refine (HC.out _ (by repeat (first | exact Grows.refl _ | refine Grows.drew ?_)) HR.out).mono ?_; rintro e w' ⟨rfl, g2⟩; rw [HQ.out])
        go_ret
        exact ⟨ret_int (idxF_hit X1.out HQ.out hco.out).symm, hg.trans (by assumption)⟩
      | false =>
        have HQ := hideIt hq
        go_wp2_with (go_at_fn g; refine (HC.out _ (by repeat (first | exact Grows.refl _ | refine Grows.drew ?_)) HR.out).mono ?_; rintro e w' ⟨rfl, g2⟩; rw [HQ.out])
        go_roundw
        case rel => exact ⟨k + 1, by omega, by go_num, fun j y hj hy => by
          by_cases e : j = k
          · subst e; rw [X1.out] at hy; injection hy with hy; rw [← hy]; exact HQ.out
          · exact hco.out j y (by omega) hy, hg.trans (by assumption)⟩
        case measure => simp [intOf]; omega
    · have hk2 : k = xs.length := by omega
      subst hk2
      go_wp2
      go_ret
      exact ⟨ret_int (idxF_miss hco.out).symm, hg⟩
end Go.Proofs.YtocahjbmnkadjaaGreatDoor
/-
  A value that reads as a datum and whose memory is all its own: the blocks that it lies in are listed, each known whole.
-/
namespace Go.Proofs.YtocahjbmnkadjaaGreatDoor
open Go.RowKit

/-- blocks of one's own, from lo on, below hi -/
def Own (lo hi : Nat) (bs : List Nat) : Prop := bs.Nodup ∧ ∀ g ∈ bs, lo ≤ g ∧ g < hi
theorem Own.nil {lo hi : Nat} : Own lo hi [] := ⟨List.nodup_nil, fun _ h => by cases h⟩
theorem Own.one {lo hi g : Nat} (h : lo ≤ g) (h2 : g < hi) : Own lo hi [g] := ⟨by simp, fun x hx => by simp at hx; omega⟩
theorem Own.mono {lo hi lo' hi' : Nat} {bs : List Nat} (h : Own lo hi bs) (h1 : lo' ≤ lo) (h2 : hi ≤ hi') : Own lo' hi' bs := ⟨h.1, fun g hg => by have := h.2 g hg; omega⟩
theorem Own.append {lo m hi : Nat} {bs cs : List Nat} (h : Own lo m bs) (k : Own m hi cs) (h1 : lo ≤ m) (h2 : m ≤ hi) : Own lo hi (bs ++ cs) := by
  refine ⟨List.nodup_append.2 ⟨h.1, k.1, fun a ha b hb e => ?_⟩, fun g hg => ?_⟩
  · have := h.2 a ha; have := k.2 b hb; omega
  · rcases List.mem_append.1 hg with hg | hg
    · have := h.2 g hg; omega
    · have := k.2 g hg; omega

/-- these blocks are as they were -/
def SameOn (bs : List Nat) (w w' : World) : Prop := ∀ g ∈ bs, w'.heap[g]? = w.heap[g]?
theorem SameOn.refl (bs : List Nat) (w : World) : SameOn bs w w := fun _ _ => rfl
theorem SameOn.trans {bs : List Nat} {a b c : World} (h : SameOn bs a b) (k : SameOn bs b c) : SameOn bs a c := fun g hg => (k g hg).trans (h g hg)
theorem SameOn.set {bs : List Nat} {w w' : World} (h : SameOn bs w w') {p : Addr} (hp : ∀ g ∈ bs, g ≠ p.block) (u : Value) : SameOn bs w (w'.setCell p u) :=
  fun g hg => (Below.heap_setCell _ _ _ _ (hp g hg)).trans (h g hg)
theorem SameOn.grows {bs : List Nat} {w w' w'' : World} (h : SameOn bs w w') (hb : ∀ g ∈ bs, g < w'.heap.size) (k : Grows w' w'') : SameOn bs w w'' :=
  fun g hg => (Below.block k g (hb g hg)).trans (h g hg)
theorem SameOn.sub {bs cs : List Nat} {w w' : World} (h : SameOn bs w w') (hs : ∀ g ∈ cs, g ∈ bs) : SameOn cs w w' := fun g hg => h g (hs g hg)

/-- a slice of elements of sz cells each, in a block of its own of element type t -/
def OList {α : Type} (sz : Nat) (t : TypeId) (O : World → List Value → α → List Nat → Prop) (w : World) (v : Value) (xs : List α) (bs : List Nat) : Prop :=
  (v = .slice none 0 0 ∧ xs = [] ∧ bs = []) ∨
  ∃ (g c : Nat) (cs : Array Value) (bss : List (List Nat)), v = .slice (some ⟨g, 0, none⟩) xs.length c ∧ xs.length ≤ c ∧ c ≤ maxLen ∧ Blk w g t cs ∧ bss.length = xs.length ∧ bs = g :: bss.flatten ∧
    ∀ (i : Nat) (x : α), xs[i]? = some x → ∃ (es : List Value) (b : List Nat), es.length = sz ∧ (∀ (j : Nat) (u : Value), es[j]? = some u → cs[i * sz + j]? = some u) ∧ bss[i]? = some b ∧ O w es x b

section
variable {α : Type} {sz : Nat} {t : TypeId} {O : World → List Value → α → List Nat → Prop} {R : World → List Value → α → Prop} {w w' : World} {v : Value} {xs : List α} {bs : List Nat}
theorem OList.reads (h : OList sz t O w v xs bs) (hR : ∀ cs x b, O w cs x b → R w cs x) : RList sz R w v xs := by
  rcases h with ⟨rfl, rfl, rfl⟩ | ⟨g, c, cs, bss, rfl, h1, h2, hb, hl, rfl, hc⟩
  · exact ⟨_, _, rfl, Nat.le_refl _, by unfold maxLen; omega, .inl rfl⟩
  · refine ⟨_, _, rfl, h1, h2, .inr ⟨_, _, rfl, fun i x hx => ?_⟩⟩
    obtain ⟨es, b, hes, hcs, _, ho⟩ := hc i x hx
    exact ⟨es, hes, fun j u hu => by rw [hb.cell, Nat.zero_add]; exact hcs j u hu, hR _ _ _ ho⟩
theorem OList.same (h : OList sz t O w v xs bs) (hg : SameOn bs w w') (hO : ∀ cs x b, O w cs x b → SameOn b w w' → O w' cs x b) : OList sz t O w' v xs bs := by
  rcases h with h | ⟨g, c, cs, bss, hv, h1, h2, hb, hl, hbs, hc⟩
  · exact .inl h
  · subst hbs
    refine .inr ⟨g, c, cs, bss, hv, h1, h2, (hg g (List.mem_cons_self ..)).trans hb, hl, rfl, fun i x hx => ?_⟩
    obtain ⟨es, b, hes, hcs, hbi, ho⟩ := hc i x hx
    exact ⟨es, b, hes, hcs, hbi, hO _ _ _ ho (hg.sub fun q hq => List.mem_cons_of_mem _ (List.mem_flatten.2 ⟨b, List.mem_of_getElem? hbi, hq⟩))⟩
theorem OList.lt (h : OList sz t O w v xs bs) (hO : ∀ cs x b, O w cs x b → ∀ g ∈ b, g < w.heap.size) : ∀ g ∈ bs, g < w.heap.size := by
  rcases h with ⟨_, _, rfl⟩ | ⟨g, c, cs, bss, hv, h1, h2, hb, hl, rfl, hc⟩
  · intro g hg; cases hg
  · intro q hq
    rcases List.mem_cons.1 hq with rfl | hq
    · exact hb.lt
    · obtain ⟨b, hb, hq⟩ := List.mem_flatten.1 hq
      obtain ⟨i, hi⟩ := List.getElem?_of_mem hb
      have hlt : i < xs.length := by have := (List.getElem?_eq_some_iff.1 hi).1; omega
      obtain ⟨es, b', _, _, hbi, ho⟩ := hc i _ (List.getElem?_eq_getElem hlt)
      rw [hi] at hbi
      injection hbi with hbi
      subst hbi
      exact hO _ _ _ ho q hq
end

def OI (_ : World) (cs : List Value) (x : Int) (b : List Nat) : Prop := cs = [.int .i64 x] ∧ b = []
def OInts : World → Value → List Int → List Nat → Prop := OList 1 2 OI
theorem OInts.reads {w : World} {v : Value} {xs : List Int} {bs : List Nat} (h : OInts w v xs bs) : RInts w v xs := OList.reads h fun _ _ _ h => h.1
theorem OInts.same {w w' : World} {v : Value} {xs : List Int} {bs : List Nat} (h : OInts w v xs bs) (g : SameOn bs w w') : OInts w' v xs bs := OList.same h g fun _ _ _ h _ => h
theorem OInts.lt {w : World} {v : Value} {xs : List Int} {bs : List Nat} (h : OInts w v xs bs) : ∀ g ∈ bs, g < w.heap.size := OList.lt h fun _ _ _ h g hg => by rw [h.2] at hg; cases hg
theorem NewInts.own {w w' : World} {v : Value} {xs : List Int} (h : NewInts w w' v xs) (hl : xs.length ≤ maxLen) : OInts w' v xs [w.heap.size] ∧ Own w.heap.size w'.heap.size [w.heap.size] ∧ Grows w w' := by
  obtain ⟨cs, hv, hb, hs, hc, hg⟩ := h
  refine ⟨.inr ⟨_, _, cs, List.replicate xs.length [], hv, Nat.le_refl _, hl, hb, by simp, ?_, fun i x hx => ?_⟩, Own.one (Nat.le_refl _) hb.lt, hg⟩
  · congr 1
    symm
    rw [List.flatten_eq_nil_iff]
    intro l hl
    exact (List.mem_replicate.1 hl).2
  · have hi : i < xs.length := (List.getElem?_eq_some_iff.1 hx).1
    refine ⟨[.int .i64 x], [], rfl, fun j u hu => ?_, by rw [List.getElem?_replicate, if_pos hi], rfl, rfl⟩
    match j, hu with
    | 0, hu =>
      simp at hu
      subst hu
      simpa using hc i x hx
def OTable (w : World) (cs : List Value) (t : TableD) (bs : List Nat) : Prop :=
  ∃ (a b c : Value) (b1 b2 b3 : List Nat), cs = [a, b, c] ∧ OInts w a t.slews b1 ∧ OInts w b t.loads b2 ∧ OInts w c t.values b3 ∧ bs = b1 ++ b2 ++ b3
theorem OTable.reads {w : World} {cs : List Value} {t : TableD} {bs : List Nat} (h : OTable w cs t bs) : RTable w cs t := by
  obtain ⟨a, b, c, _, _, _, e, h1, h2, h3, _⟩ := h
  exact ⟨a, b, c, e, h1.reads, h2.reads, h3.reads⟩
theorem OTable.same {w w' : World} {cs : List Value} {t : TableD} {bs : List Nat} (h : OTable w cs t bs) (g : SameOn bs w w') : OTable w' cs t bs := by
  obtain ⟨a, b, c, b1, b2, b3, e, h1, h2, h3, rfl⟩ := h
  exact ⟨a, b, c, b1, b2, b3, e, h1.same (g.sub (by simp +contextual)), h2.same (g.sub (by simp +contextual)), h3.same (g.sub (by simp +contextual)), rfl⟩
theorem OTable.lt {w : World} {cs : List Value} {t : TableD} {bs : List Nat} (h : OTable w cs t bs) : ∀ g ∈ bs, g < w.heap.size := by
  obtain ⟨a, b, c, b1, b2, b3, e, h1, h2, h3, rfl⟩ := h
  intro g hg
  simp only [List.mem_append] at hg
  rcases hg with (hg | hg) | hg
  · exact h1.lt g hg
  · exact h2.lt g hg
  · exact h3.lt g hg

/-- so small that a copy of it is soon made -/
def SmL {α : Type} (xs : List α) : Prop := xs.length ≤ 1048576
def SmTable (t : TableD) : Prop := SmL t.slews ∧ SmL t.loads ∧ SmL t.values
/-- what a budget's count says -/
def SzPost (S : Prop) (w : World) (e : Ending) (w' : World) : Prop := ∃ r : Int, e = .returned (.int .i64 r) ∧ -1 ≤ r ∧ r ≤ 1048576 ∧ (0 ≤ r → S) ∧ Grows w w'
theorem subL_pos {left : Int} {n : Nat} (h : 0 ≤ subL left n) : (n : Int) ≤ left := by
  unfold subL at h
  split at h <;> omega
theorem subL_le {left : Int} {n : Nat} (h0 : 0 ≤ left) : -1 ≤ subL left n ∧ subL left n ≤ left := by
  unfold subL
  split <;> omega

/-- .. and that what was counted comes off the budget -/
def SzPostW (S : Prop) (wt : Nat) (left : Int) (w : World) (e : Ending) (w' : World) : Prop := ∃ r : Int, e = .returned (.int .i64 r) ∧ -1 ≤ r ∧ r ≤ 1048576 ∧ (0 ≤ r → S ∧ (wt : Int) + r ≤ left) ∧ Grows w w'
theorem SzPostW.post {S : Prop} {wt : Nat} {left : Int} {w w' : World} {e : Ending} (h : SzPostW S wt left w e w') : SzPost S w e w' := by
  obtain ⟨r, he, h1, h2, h3, g⟩ := h
  exact ⟨r, he, h1, h2, fun h => (h3 h).1, g⟩
theorem subL_eq {left : Int} {n : Nat} (h : 0 ≤ subL left n) : (n : Int) + subL left n ≤ left := by
  unfold subL at h ⊢
  split at h
  · omega
  · rename_i h2
    rw [if_neg h2]
    omega
theorem szInts_q {v : Value} {xs : List Int} (left : Int) (w : World) (h : RInts w v xs) (h1 : 0 ≤ left) (h2 : left ≤ 1048576) :
    Calls Tryz.prog 57 #[v, .int .i64 left] w fun e w' => ∃ r : Int, e = .returned (.int .i64 r) ∧ -1 ≤ r ∧ r ≤ 1048576 ∧ (0 ≤ r → SmL xs ∧ (xs.length : Int) + r ≤ left) ∧ w = w' :=
  (szInts_any left w h h1 h2).mono fun e w' ⟨he, hw⟩ => by
    have := subL_le (n := xs.length) h1
    exact ⟨_, he, by omega, by omega, fun h => ⟨by have := subL_pos h; unfold SmL; omega, subL_eq h⟩, hw⟩
theorem szInts_p {v : Value} {xs : List Int} (left : Int) (w : World) (h : RInts w v xs) (h1 : 0 ≤ left) (h2 : left ≤ 1048576) :
    Calls Tryz.prog 57 #[v, .int .i64 left] w fun e w' => ∃ r : Int, e = .returned (.int .i64 r) ∧ -1 ≤ r ∧ r ≤ 1048576 ∧ (0 ≤ r → SmL xs) ∧ w = w' :=
  (szInts_any left w h h1 h2).mono fun e w' ⟨he, hw⟩ => by
    have := subL_le (n := xs.length) h1
    exact ⟨_, he, by omega, by omega, fun h => by have := subL_pos h; unfold SmL; omega, hw⟩
def wtTable (t : TableD) : Nat := t.slews.length + t.loads.length + t.values.length
/-- what the elements of a list weigh, each with one for itself -/
def wtL {α : Type} (f : α → Nat) (xs : List α) : Nat := xs.length + (xs.map f).sum
theorem sum_take_succ {α : Type} {f : α → Nat} {xs : List α} {k : Nat} {x : α} (h : xs[k]? = some x) : ((xs.take (k + 1)).map f).sum = ((xs.take k).map f).sum + f x := by
  rw [List.take_add_one, h, List.map_append, List.sum_append]
  simp
theorem sum_take_le {α : Type} (f : α → Nat) (xs : List α) (k : Nat) : ((xs.take k).map f).sum ≤ (xs.map f).sum := by
  have h : (xs.map f).sum = ((xs.take k).map f).sum + ((xs.drop k).map f).sum := by rw [← List.sum_append, ← List.map_append, List.take_append_drop]
  omega
set_option maxHeartbeats 1000000 in
theorem szTable_w {a b c : Value} {t : TableD} (left : Int) (w : World) (h : RTable w [a, b, c] t) (h1 : 0 ≤ left) (h2 : left ≤ 1048576) :
    Calls Tryz.prog 130 #[.agg #[a, b, c], .int .i64 left] w (SzPostW (SmTable t) (wtTable t) left w) := by
  obtain ⟨a', b', c', he, ha, hb, hc⟩ := h
  injection he with e1 he
  injection he with e2 he
  injection he with e3 he
  subst e1 e2 e3
  clear he
  have g0 := (Grows.refl w).alloc (.cells #[a, b, c] 176)
  have HA := hideIt (ha.keep g0.keeps)
  have HB := hideIt (hb.keep g0.keeps)
  have HC := hideIt (hc.keep g0.keeps)
  have G0 := hideIt g0
  clear g0 ha hb hc
  go_enter Tryz.func130, Tryz.ntmps130
  go_wp2_with fail
  refine (szInts_q _ _ HA.out h1 h2).mono ?_
  rintro e w1 ⟨r1, rfl, p1, p2, p3, rfl⟩
  have P3 := hideIt p3
  clear p3
  by_cases n1 : r1 < 0
  · go_wp2
    go_ret
    exact ⟨-1, rfl, by omega, by omega, fun h => by omega, G0.out⟩
  go_wp2_with fail
  refine (szInts_q _ _ HB.out (by omega) (by omega)).mono ?_
  rintro e w1 ⟨r2, rfl, q1, q2, q3, rfl⟩
  have Q3 := hideIt q3
  clear q3
  by_cases n2 : r2 < 0
  · go_wp2
    go_ret
    exact ⟨-1, rfl, by omega, by omega, fun h => by omega, G0.out⟩
  go_wp2_with fail
  refine (szInts_q _ _ HC.out (by omega) (by omega)).mono ?_
  rintro e w1 ⟨r3, rfl, s1, s2, s3, rfl⟩
  have S3 := hideIt s3
  clear s3
  by_cases n3 : r3 < 0
  · go_wp2
    go_ret
    exact ⟨-1, rfl, by omega, by omega, fun h => by omega, G0.out⟩
  · go_wp2
    go_ret
    exact ⟨r3, rfl, by omega, by omega, fun _ => ⟨⟨(P3.out (by omega)).1, (Q3.out (by omega)).1, (S3.out (by omega)).1⟩, by have h1 := (P3.out (by omega)).2; have h2 := (Q3.out (by omega)).2; have h3 := (S3.out (by omega)).2; unfold wtTable; omega⟩, G0.out⟩
theorem szTable_any {a b c : Value} {t : TableD} (left : Int) (w : World) (h : RTable w [a, b, c] t) (h1 : 0 ≤ left) (h2 : left ≤ 1048576) :
    Calls Tryz.prog 130 #[.agg #[a, b, c], .int .i64 left] w (SzPost (SmTable t) w) := (szTable_w left w h h1 h2).mono fun _ _ h => h.post
theorem toInts_o {v : Value} {xs : List Int} (w : World) (h : RInts w v xs) (hn : SmL xs) :
    Calls Tryz.prog 65 #[v] w fun e w' => ∃ (A : Option Addr) (c : Nat) (bs : List Nat), e = .returned (.slice A xs.length c) ∧ OInts w' (.slice A xs.length c) xs bs ∧ Own w.heap.size w'.heap.size bs ∧ Grows w w' :=
  (toInts_any w h hn).mono fun e w' ⟨v', he, hn'⟩ => by
    have hv : v' = .slice (some ⟨w.heap.size, 0, none⟩) xs.length xs.length := hn'.choose_spec.1
    subst hv
    exact ⟨_, _, _, he, hn'.own (by unfold SmL at hn; unfold maxLen; omega)⟩
theorem eqInts_same {v1 v2 : Value} {xs : List Int} (w : World) (h1 : RInts w v1 xs) (h2 : RInts w v2 xs) :
    Calls Tryz.prog 80 #[v1, v2] w fun e w' => e = .returned (.bool true) ∧ Grows w w' :=
  (eqInts_any w h1 h2).mono fun e w' ⟨he, hg⟩ => ⟨by rw [he]; exact ret_bool (by simp), hg⟩
set_option maxHeartbeats 1000000 in
theorem toTable_any {a b c : Value} {t : TableD} (w : World) (h : RTable w [a, b, c] t) (hs : SmTable t) :
    Calls Tryz.prog 132 #[.agg #[a, b, c]] w fun e w' => ∃ (x y z : Value) (bs : List Nat), e = .returned (.agg #[x, y, z]) ∧ OTable w' [x, y, z] t bs ∧ Own w.heap.size w'.heap.size bs ∧ Grows w w' := by
  obtain ⟨a', b', c', he, ha, hb, hc⟩ := h
  injection he with e1 he
  injection he with e2 he
  injection he with e3 he
  subst e1 e2 e3
  clear he
  obtain ⟨s1, s2, s3⟩ := hs
  have H0 := hideIt ha
  have H1 := hideIt hb
  have H2 := hideIt hc
  have M0 := hideIt s1
  have M1 := hideIt s2
  have M2 := hideIt s3
  clear ha hb hc s1 s2 s3
  have g0 : Grows w (((w.alloc (.cells #[a, b, c] 176)).alloc (.cells #[.slice none 0 0, .slice none 0 0, .slice none 0 0] 149)).alloc (.cells #[.slice none 0 0, .slice none 0 0, .slice none 0 0] 149)) := (((Grows.refl w).alloc _).alloc _).alloc _
  have s0 : Blk (((w.alloc (.cells #[a, b, c] 176)).alloc (.cells #[.slice none 0 0, .slice none 0 0, .slice none 0 0] 149)).alloc (.cells #[.slice none 0 0, .slice none 0 0, .slice none 0 0] 149)) (w.heap.size) 176 #[a, b, c] := ((Blk.new w _ _).grows ((Grows.refl _).alloc _)).grows ((Grows.refl _).alloc _)
  have r0 : Blk (((w.alloc (.cells #[a, b, c] 176)).alloc (.cells #[.slice none 0 0, .slice none 0 0, .slice none 0 0] 149)).alloc (.cells #[.slice none 0 0, .slice none 0 0, .slice none 0 0] 149)) (w.heap.size + 1) 149 #[.slice none 0 0, .slice none 0 0, .slice none 0 0] := by have := (Blk.new (w.alloc (.cells #[a, b, c] 176)) 149 #[.slice none 0 0, .slice none 0 0, .slice none 0 0]).grows ((Grows.refl _).alloc (.cells #[.slice none 0 0, .slice none 0 0, .slice none 0 0] 149)); simpa using this
  have b0 : Blk (((w.alloc (.cells #[a, b, c] 176)).alloc (.cells #[.slice none 0 0, .slice none 0 0, .slice none 0 0] 149)).alloc (.cells #[.slice none 0 0, .slice none 0 0, .slice none 0 0] 149)) (w.heap.size + 1 + 1) 149 #[.slice none 0 0, .slice none 0 0, .slice none 0 0] := by have := Blk.new ((w.alloc (.cells #[a, b, c] 176)).alloc (.cells #[.slice none 0 0, .slice none 0 0, .slice none 0 0] 149)) 149 #[.slice none 0 0, .slice none 0 0, .slice none 0 0]; simpa using this
  have G0 := hideIt g0
  have S0 := hideIt s0
  have R0 := hideIt r0
  have B0 := hideIt b0
  clear g0 s0 r0 b0
  go_enter Tryz.func132, Tryz.ntmps132
  go_wp2_with fail
  refine (toInts_o _ (H0.out.keep G0.out.keeps) M0.out).mono ?_
  rintro e u0 ⟨A0, c0, y0, rfl, o0, n0, g0⟩
  have s1 := S0.out.grows g0
  have ks0_0 : u0.cell? ⟨w.heap.size, 0, none⟩ = some (a) := s1.cell 0
  have ks0_1 : u0.cell? ⟨w.heap.size, 1, none⟩ = some (b) := s1.cell 1
  have ks0_2 : u0.cell? ⟨w.heap.size, 2, none⟩ = some (c) := s1.cell 2
  have fs0 := s1.frozen
  have r1 := R0.out.grows g0
  have kr0_0 : u0.cell? ⟨w.heap.size + 1, 0, none⟩ = some (.slice none 0 0) := r1.cell 0
  have kr0_1 : u0.cell? ⟨w.heap.size + 1, 1, none⟩ = some (.slice none 0 0) := r1.cell 1
  have kr0_2 : u0.cell? ⟨w.heap.size + 1, 2, none⟩ = some (.slice none 0 0) := r1.cell 2
  have fr0 := r1.frozen
  have b1 := B0.out.grows g0
  have kb0_0 : u0.cell? ⟨w.heap.size + 1 + 1, 0, none⟩ = some (.slice none 0 0) := b1.cell 0
  have kb0_1 : u0.cell? ⟨w.heap.size + 1 + 1, 1, none⟩ = some (.slice none 0 0) := b1.cell 1
  have kb0_2 : u0.cell? ⟨w.heap.size + 1 + 1, 2, none⟩ = some (.slice none 0 0) := b1.cell 2
  have fb0 := b1.frozen
  have z0 := b1.lt
  have v0 : w.heap.size + 1 + 1 + 1 ≤ u0.heap.size := by have := g0.size; simpa using this
  have G1 := hideIt ((G0.out.trans g0).setCell (p := ⟨w.heap.size + 1 + 1, 0, none⟩) (by simp <;> omega) (.slice A0 t.slews.length c0))
  have S1 := hideIt (s1.far (p := ⟨w.heap.size + 1 + 1, 0, none⟩) (by simp <;> omega) (.slice A0 t.slews.length c0))
  have R1 := hideIt (r1.far (p := ⟨w.heap.size + 1 + 1, 0, none⟩) (by simp <;> omega) (.slice A0 t.slews.length c0))
  have B1 := hideIt (b1.set_ 0 (.slice A0 t.slews.length c0))
  have O0 := hideIt o0
  have N0 := hideIt n0
  have Q0 := hideIt g0
  clear s1 r1 b1 o0 n0 g0
  go_wp2_with fail
  clear ks0_0 kr0_0 kb0_0 ks0_1 kr0_1 kb0_1 ks0_2 kr0_2 kb0_2 fs0 fr0 fb0
  refine (toInts_o _ (H1.out.keep G1.out.keeps) M1.out).mono ?_
  rintro e u1 ⟨A1, c1, y1, rfl, o1, n1, g1⟩
  have s2 := S1.out.grows g1
  have ks1_0 : u1.cell? ⟨w.heap.size, 0, none⟩ = some (a) := s2.cell 0
  have ks1_1 : u1.cell? ⟨w.heap.size, 1, none⟩ = some (b) := s2.cell 1
  have ks1_2 : u1.cell? ⟨w.heap.size, 2, none⟩ = some (c) := s2.cell 2
  have fs1 := s2.frozen
  have r2 := R1.out.grows g1
  have kr1_0 : u1.cell? ⟨w.heap.size + 1, 0, none⟩ = some (.slice none 0 0) := r2.cell 0
  have kr1_1 : u1.cell? ⟨w.heap.size + 1, 1, none⟩ = some (.slice none 0 0) := r2.cell 1
  have kr1_2 : u1.cell? ⟨w.heap.size + 1, 2, none⟩ = some (.slice none 0 0) := r2.cell 2
  have fr1 := r2.frozen
  have b2 := B1.out.grows g1
  have kb1_0 : u1.cell? ⟨w.heap.size + 1 + 1, 0, none⟩ = some (.slice A0 t.slews.length c0) := b2.cell 0
  have kb1_1 : u1.cell? ⟨w.heap.size + 1 + 1, 1, none⟩ = some (.slice none 0 0) := b2.cell 1
  have kb1_2 : u1.cell? ⟨w.heap.size + 1 + 1, 2, none⟩ = some (.slice none 0 0) := b2.cell 2
  have fb1 := b2.frozen
  have z1 := b2.lt
  have v1 : u0.heap.size ≤ u1.heap.size := by have := g1.size; simpa using this
  have G2 := hideIt ((G1.out.trans g1).setCell (p := ⟨w.heap.size + 1 + 1, 1, none⟩) (by simp <;> omega) (.slice A1 t.loads.length c1))
  have S2 := hideIt (s2.far (p := ⟨w.heap.size + 1 + 1, 1, none⟩) (by simp <;> omega) (.slice A1 t.loads.length c1))
  have R2 := hideIt (r2.far (p := ⟨w.heap.size + 1 + 1, 1, none⟩) (by simp <;> omega) (.slice A1 t.loads.length c1))
  have B2 := hideIt (b2.set_ 1 (.slice A1 t.loads.length c1))
  have O1 := hideIt o1
  have N1 := hideIt n1
  have Q1 := hideIt g1
  clear s2 r2 b2 o1 n1 g1
  go_wp2_with fail
  clear ks1_0 kr1_0 kb1_0 ks1_1 kr1_1 kb1_1 ks1_2 kr1_2 kb1_2 fs1 fr1 fb1
  refine (toInts_o _ (H2.out.keep G2.out.keeps) M2.out).mono ?_
  rintro e u2 ⟨A2, c2, y2, rfl, o2, n2, g2⟩
  have s3 := S2.out.grows g2
  have ks2_0 : u2.cell? ⟨w.heap.size, 0, none⟩ = some (a) := s3.cell 0
  have ks2_1 : u2.cell? ⟨w.heap.size, 1, none⟩ = some (b) := s3.cell 1
  have ks2_2 : u2.cell? ⟨w.heap.size, 2, none⟩ = some (c) := s3.cell 2
  have fs2 := s3.frozen
  have r3 := R2.out.grows g2
  have kr2_0 : u2.cell? ⟨w.heap.size + 1, 0, none⟩ = some (.slice none 0 0) := r3.cell 0
  have kr2_1 : u2.cell? ⟨w.heap.size + 1, 1, none⟩ = some (.slice none 0 0) := r3.cell 1
  have kr2_2 : u2.cell? ⟨w.heap.size + 1, 2, none⟩ = some (.slice none 0 0) := r3.cell 2
  have fr2 := r3.frozen
  have b3 := B2.out.grows g2
  have kb2_0 : u2.cell? ⟨w.heap.size + 1 + 1, 0, none⟩ = some (.slice A0 t.slews.length c0) := b3.cell 0
  have kb2_1 : u2.cell? ⟨w.heap.size + 1 + 1, 1, none⟩ = some (.slice A1 t.loads.length c1) := b3.cell 1
  have kb2_2 : u2.cell? ⟨w.heap.size + 1 + 1, 2, none⟩ = some (.slice none 0 0) := b3.cell 2
  have fb2 := b3.frozen
  have z2 := b3.lt
  have v2 : u1.heap.size ≤ u2.heap.size := by have := g2.size; simpa using this
  have G3 := hideIt ((G2.out.trans g2).setCell (p := ⟨w.heap.size + 1 + 1, 2, none⟩) (by simp <;> omega) (.slice A2 t.values.length c2))
  have S3 := hideIt (s3.far (p := ⟨w.heap.size + 1 + 1, 2, none⟩) (by simp <;> omega) (.slice A2 t.values.length c2))
  have R3 := hideIt (r3.far (p := ⟨w.heap.size + 1 + 1, 2, none⟩) (by simp <;> omega) (.slice A2 t.values.length c2))
  have B3 := hideIt (b3.set_ 2 (.slice A2 t.values.length c2))
  have O2 := hideIt o2
  have N2 := hideIt n2
  have Q2 := hideIt g2
  clear s3 r3 b3 o2 n2 g2
  go_wp2
  refine bodyPost_ret (by simp [*, results, Tryz.results132, go_sem]; try rfl) rfl ?_
  exact ⟨_, _, _, _, rfl, ⟨_, _, _, _, _, _, rfl, O0.out.same (((((((((SameOn.refl y0 u0).set (p := ⟨w.heap.size + 1 + 1, 0, none⟩) (fun g hg => by have := (N0.out.2 g hg).1; simp at this ⊢; omega) (.slice A0 t.slews.length c0)).grows (fun g hg => by have := (N0.out.2 g hg).2; simp; omega) Q1.out).set (p := ⟨w.heap.size + 1 + 1, 1, none⟩) (fun g hg => by have := (N0.out.2 g hg).1; simp at this ⊢; omega) (.slice A1 t.loads.length c1)).grows (fun g hg => by have := (N0.out.2 g hg).2; simp; omega) Q2.out).set (p := ⟨w.heap.size + 1 + 1, 2, none⟩) (fun g hg => by have := (N0.out.2 g hg).1; simp at this ⊢; omega) (.slice A2 t.values.length c2)).set (p := ⟨w.heap.size + 1, 0, none⟩) (fun g hg => by have := (N0.out.2 g hg).1; simp at this ⊢; omega) (.slice A0 t.slews.length c0)).set (p := ⟨w.heap.size + 1, 1, none⟩) (fun g hg => by have := (N0.out.2 g hg).1; simp at this ⊢; omega) (.slice A1 t.loads.length c1)).set (p := ⟨w.heap.size + 1, 2, none⟩) (fun g hg => by have := (N0.out.2 g hg).1; simp at this ⊢; omega) (.slice A2 t.values.length c2)), O1.out.same (((((((SameOn.refl y1 u1).set (p := ⟨w.heap.size + 1 + 1, 1, none⟩) (fun g hg => by have := (N1.out.2 g hg).1; simp at this ⊢; omega) (.slice A1 t.loads.length c1)).grows (fun g hg => by have := (N1.out.2 g hg).2; simp; omega) Q2.out).set (p := ⟨w.heap.size + 1 + 1, 2, none⟩) (fun g hg => by have := (N1.out.2 g hg).1; simp at this ⊢; omega) (.slice A2 t.values.length c2)).set (p := ⟨w.heap.size + 1, 0, none⟩) (fun g hg => by have := (N1.out.2 g hg).1; simp at this ⊢; omega) (.slice A0 t.slews.length c0)).set (p := ⟨w.heap.size + 1, 1, none⟩) (fun g hg => by have := (N1.out.2 g hg).1; simp at this ⊢; omega) (.slice A1 t.loads.length c1)).set (p := ⟨w.heap.size + 1, 2, none⟩) (fun g hg => by have := (N1.out.2 g hg).1; simp at this ⊢; omega) (.slice A2 t.values.length c2)), O2.out.same (((((SameOn.refl y2 u2).set (p := ⟨w.heap.size + 1 + 1, 2, none⟩) (fun g hg => by have := (N2.out.2 g hg).1; simp at this ⊢; omega) (.slice A2 t.values.length c2)).set (p := ⟨w.heap.size + 1, 0, none⟩) (fun g hg => by have := (N2.out.2 g hg).1; simp at this ⊢; omega) (.slice A0 t.slews.length c0)).set (p := ⟨w.heap.size + 1, 1, none⟩) (fun g hg => by have := (N2.out.2 g hg).1; simp at this ⊢; omega) (.slice A1 t.loads.length c1)).set (p := ⟨w.heap.size + 1, 2, none⟩) (fun g hg => by have := (N2.out.2 g hg).1; simp at this ⊢; omega) (.slice A2 t.values.length c2)), rfl⟩, ((Own.append (Own.append (N0.out.mono (lo' := w.heap.size) (hi' := u0.heap.size) (by simp <;> omega) (Nat.le_refl _)) (N1.out.mono (lo' := u0.heap.size) (hi' := u1.heap.size) (by simp <;> omega) (Nat.le_refl _)) (by omega) (by omega)) (N2.out.mono (lo' := u1.heap.size) (hi' := u2.heap.size) (by simp <;> omega) (Nat.le_refl _)) (by omega) (by omega))).mono (Nat.le_refl _) (by simp), (((G3.out.setCell (p := ⟨w.heap.size + 1, 0, none⟩) (by simp <;> omega) (.slice A0 t.slews.length c0)).setCell (p := ⟨w.heap.size + 1, 1, none⟩) (by simp <;> omega) (.slice A1 t.loads.length c1)).setCell (p := ⟨w.heap.size + 1, 2, none⟩) (by simp <;> omega) (.slice A2 t.values.length c2))⟩
end Go.Proofs.YtocahjbmnkadjaaGreatDoor
/-
  Contracts of IsTable, the reference's and the program's, and of what they call.
-/
namespace Go.Proofs.YtocahjbmnkadjaaGreatDoor
open Go.RowKit

theorem quietL {P : Program} {f : FuncId} {args : Array Value} {w : World} {n : Nat} {v : Value}
    (h : Calls P f args (w.drewN n) fun e w' => e = .returned v ∧ w.drewN n = w') : Calls P f args (w.drewN n) fun e w'' => e = .returned v ∧ ∃ m, w'' = w.drewN m :=
  h.mono fun _ _ ⟨he, hm⟩ => ⟨he, n, hm.symm⟩

def wiB (xs : List Int) (lo hi : Int) : Bool := xs.all fun x => inB x lo hi
/-- strictly increasing -/
def incB (xs : List Int) : Bool := (List.range (xs.length - 1)).all fun j => decide (xs.getD j 0 < xs.getD (j + 1) 0)
theorem incB_at {xs : List Int} {j : Nat} {x y : Int} (h : incB xs = true) (hx : xs[j]? = some x) (hy : xs[j + 1]? = some y) : x < y := by
  have hj : j + 1 < xs.length := (List.getElem?_eq_some_iff.1 hy).1
  have := (List.all_eq_true.1 h) j (List.mem_range.2 (by omega))
  simpa [List.getD, hx, hy] using this
theorem incB_mk {xs : List Int} (h : ∀ (j : Nat) (x y : Int), xs[j]? = some x → xs[j + 1]? = some y → x < y) : incB xs = true := by
  refine List.all_eq_true.2 fun j hj => ?_
  have hj' : j + 1 < xs.length := by have := List.mem_range.1 hj; omega
  have h1 : xs[j]? = some xs[j] := List.getElem?_eq_getElem (by omega)
  have h2 : xs[j + 1]? = some xs[j + 1] := List.getElem?_eq_getElem hj'
  have := h j _ _ h1 h2
  simpa [List.getD, h1, h2] using this
theorem incB_no {xs : List Int} {j : Nat} {x y : Int} (hx : xs[j]? = some x) (hy : xs[j + 1]? = some y) (h : y ≤ x) : incB xs = false := by
  cases hb : incB xs with
  | false => rfl
  | true => have := incB_at hb hx hy; omega
theorem wiB_no {xs : List Int} {lo hi : Int} {j : Nat} {x : Int} (hx : xs[j]? = some x) (h : inB x lo hi = false) : wiB xs lo hi = false := by
  unfold wiB
  rw [List.all_eq_false]
  exact ⟨x, List.mem_of_getElem? hx, by simp [h]⟩
theorem wiB_mk {xs : List Int} {lo hi : Int} (h : ∀ (j : Nat) (x : Int), xs[j]? = some x → inB x lo hi = true) : wiB xs lo hi = true := by
  refine List.all_eq_true.2 fun x hx => ?_
  obtain ⟨j, hj⟩ := List.getElem?_of_mem hx
  exact h j x hj
theorem wiB_at {xs : List Int} {lo hi : Int} {j : Nat} {x : Int} (h : wiB xs lo hi = true) (hx : xs[j]? = some x) : lo ≤ x ∧ x ≤ hi :=
  inB_true ((List.all_eq_true.1 h) x (List.mem_of_getElem? hx))
theorem wiB_any (xs : List Int) (lo hi : Int) : (!(xs.any fun x => !inB x lo hi)) = wiB xs lo hi := by
  unfold wiB
  induction xs with
  | nil => rfl
  | cons a r ih => simp only [List.any_cons, List.all_cons, Bool.not_or, Bool.not_not, ih]
def axB (xs : List Int) : Bool := inB xs.length 1 4 && wiB xs 0 100000 && incB xs
def tabB (t : TableD) : Bool := axB t.slews && axB t.loads && decide (t.values.length = t.slews.length * t.loads.length) && wiB t.values (-1000000) 1000000

theorem axB_len {xs : List Int} (h : axB xs = true) : 1 ≤ xs.length ∧ xs.length ≤ 4 := by
  simp only [axB, Bool.and_eq_true] at h
  have := inB_true h.1.1
  omega
theorem RTable.open_ {w : World} {a b c : Value} {t : TableD} (h : RTable w [a, b, c] t) : RInts w a t.slews ∧ RInts w b t.loads ∧ RInts w c t.values := by
  obtain ⟨a', b', c', he, ha, hb, hc⟩ := h
  injection he with e1 he
  injection he with e2 he
  injection he with e3 he
  subst e1 e2 e3
  clear he
  exact ⟨ha, hb, hc⟩
theorem RInts.shape {w : World} {v : Value} {xs : List Int} (h : RInts w v xs) : ∃ (A : Option Addr) (n : Nat), v = .slice A xs.length n := by
  obtain ⟨A, c, hv, _⟩ := h
  exact ⟨A, c, hv⟩
theorem RTable.shape {w : World} {a b c : Value} {t : TableD} (h : RTable w [a, b, c] t) :
    (∃ (A : Option Addr) (n : Nat), a = .slice A t.slews.length n) ∧ (∃ (A : Option Addr) (n : Nat), b = .slice A t.loads.length n) ∧ (∃ (A : Option Addr) (n : Nat), c = .slice A t.values.length n) :=
  ⟨h.open_.1.shape, h.open_.2.1.shape, h.open_.2.2.shape⟩
theorem tabB_parts {t : TableD} (h : tabB t = true) : axB t.slews = true ∧ axB t.loads = true ∧ t.values.length = t.slews.length * t.loads.length ∧ wiB t.values (-1000000) 1000000 = true := by
  simp only [tabB, Bool.and_eq_true, decide_eq_true_eq] at h
  exact ⟨h.1.1.1, h.1.1.2, h.1.2, h.2⟩
set_option maxHeartbeats 400000 in
theorem areWithin1_any (x lo hi : Int) (b1 b2 : Nat) (W : World) (h1 : W.cell? ⟨b1, 0, none⟩ = some (.int .i64 lo)) (h2 : W.cell? ⟨b2, 0, none⟩ = some (.int .i64 hi)) :
    Calls Tryz.prog 145 #[.int .i64 x, .pointer (some ⟨b1, 0, none⟩), .pointer (some ⟨b2, 0, none⟩)] W fun e W' => e = .returned (.bool (!inB x lo hi)) ∧ Grows W W' := by
  go_enter Tryz.func145, Tryz.ntmps145
  go_wp2_with (go_at_call 92; refine (within_any _ _ _ _).mono ?_; rintro e w' ⟨rfl, rfl⟩)
  go_ret
  exact ⟨rfl, Grows.refl _⟩
set_option maxHeartbeats 400000 in
theorem areWithin_any {v : Value} {xs : List Int} (lo hi : Int) (w : World) (h : RInts w v xs) :
    Calls Tryz.prog 117 #[v, .int .i64 lo, .int .i64 hi] w fun e w' => e = .returned (.bool (wiB xs lo hi)) ∧ Grows w w' := by
  have E := hideIt (wiB_any xs lo hi)
  have H := hideIt h
  clear h
  go_enter Tryz.func117, Tryz.ntmps117
  go_wp2_with fail
  have g0 : Grows w ((w.alloc (.cells #[.int .i64 lo] 2)).alloc (.cells #[.int .i64 hi] 2)) := ((Grows.refl _).alloc _).alloc _
  refine (containsFuncI64_any 145 _ (fun args W => enters_of Tryz.func145 (by kernel_rfl) rfl args W) (fun x => !inB x lo hi) _ (H.out.keep g0.keeps) ?_).mono ?_
  · intro x c0 W _ gw hr
    unfold RI at hr
    injection hr with hr
    subst hr
    exact areWithin1_any _ _ _ _ _ W (gw.keeps _ _ (by simp)) (gw.keeps _ _ (by simp))
  rintro e w1 ⟨rfl, g1⟩
  go_wp2
  go_ret
  exact ⟨ret_bool E.out, g0.trans g1⟩
set_option maxHeartbeats 400000 in
theorem lengthI64_any {v : Value} {xs : List Int} (w : World) (h : RInts w v xs) :
    Calls Tryz.prog 176 #[v] w fun e w' => e = .returned (.int .i64 (xs.length : Int)) ∧ w = w' := by
  have hl := h.len
  obtain ⟨A, c, rfl, hle, hc, hx⟩ := h.form
  clear hx h hle hc
  go_enter Tryz.func176, Tryz.ntmps176
  go_wp2
  go_ret
  exact ⟨rfl, rfl⟩
set_option maxHeartbeats 1000000 in
theorem isInc_any {v : Value} {xs : List Int} (w : World) (h : RInts w v xs) :
    Calls Tryz.prog 177 #[v] w fun e w' => e = .returned (.bool (incB xs)) ∧ Grows w w' := by
  have hl := h.len
  obtain ⟨A, c, rfl, hle, hc, hx⟩ := h.form
  have HX := hideIt hx
  clear hx h
  go_enter Tryz.func177, Tryz.ntmps177
  go_wp2
  go_loopw [3] (fun i wr => ∃ k : Nat, (k = 0 ∨ k < xs.length) ∧ i = .int .i64 ((k : Int) + 1) ∧ Hid (∀ (j : Nat) (x y : Int), j < k → xs[j]? = some x → xs[j + 1]? = some y → x < y) ∧ Grows w wr) (fun i _ => xs.length + 1 - (intOf i).toNat)
  case atStart => exact ⟨0, .inl rfl, rfl, fun i x y hi => absurd hi (by omega), Grows.refl _⟩
  case round =>
    obtain ⟨k, hk, rfl, hco, hg⟩ := hrel
    by_cases hlt : k + 1 < xs.length
    · obtain ⟨x, hx⟩ : ∃ x, xs[k]? = some x := ⟨_, List.getElem?_eq_getElem (by omega)⟩
      obtain ⟨y, hy⟩ : ∃ y, xs[k + 1]? = some y := ⟨_, List.getElem?_eq_getElem hlt⟩
      obtain ⟨b, off, rfl, cs, hl1, hcs, hr⟩ := HX.out k x hx
      obtain ⟨b', off', he, cs2, hl2, hcs2, hr2⟩ := HX.out (k + 1) y hy
      injection he with he
      injection he with he1 he2
      subst he1 he2
      unfold RI at hr hr2
      subst hr hr2
      have hs : wr.cell? ⟨b, off + k, none⟩ = some (.int .i64 x) := by simpa using hg.keeps _ _ (hcs 0 _ rfl)
      have hs2 : wr.cell? ⟨b, off + (k + 1), none⟩ = some (.int .i64 y) := by simpa using hg.keeps _ _ (hcs2 0 _ rfl)
      have X1 := hideIt hx
      have Y1 := hideIt hy
      clear hcs hcs2 hl1 hl2 hx hy hk
      by_cases hxy : y ≤ x
      · have XY := hideIt hxy
        go_wp2
        go_quiet (fail)
        go_wp2
        go_ret
        exact ⟨ret_bool (incB_no X1.out Y1.out XY.out).symm, by first | exact hg.drewN _ | exact (hg.drewN _).drewN _⟩
      · have hxy' : x < y := by omega
        have XY := hideIt hxy'
        go_wp2
        go_quiet (fail)
        go_wp2
        go_roundw
        case rel => exact ⟨k + 1, by omega, by go_num, fun j x' y' hj hx' hy' => by
          by_cases e : j = k
          · subst e
            rw [X1.out] at hx'
            rw [Y1.out] at hy'
            injection hx' with hx'
            injection hy' with hy'
            rw [← hx', ← hy']
            exact XY.out
          · exact hco.out j x' y' (by omega) hx' hy', by first | exact hg.drewN _ | exact (hg.drewN _).drewN _⟩
        case measure => simp [intOf]; omega
    · have HK := hideIt hk
      clear hk
      go_wp2
      go_ret
      exact ⟨ret_bool (incB_mk fun j x y hx hy => hco.out j x y (by have := (List.getElem?_eq_some_iff.1 hy).1; omega) hx hy).symm, hg⟩
set_option maxHeartbeats 1000000 in
theorem isAxis_any {v : Value} {xs : List Int} (w : World) (h : RInts w v xs) :
    Calls Tryz.prog 173 #[v] w fun e w' => e = .returned (.bool (axB xs)) ∧ Grows w w' := by
  have E : Hid (axB xs = (inB xs.length 1 4 && wiB xs 0 100000 && incB xs)) := rfl
  have H := hideIt h
  clear h
  cases h1 : inB xs.length 1 4
  · go_enter Tryz.func173, Tryz.ntmps173
    go_wp2_with (first | (go_at_call 176; refine (lengthI64_any _ H.out).mono ?_; rintro e w' ⟨rfl, rfl⟩) | (go_at_call 92; refine (within_any _ _ _ _).mono ?_; rintro e w' ⟨rfl, rfl⟩; rw [h1]))
    go_ret
    exact ⟨ret_bool (by rw [E.out, h1]; rfl), Grows.refl _⟩
  · cases h2 : wiB xs 0 100000
    · go_enter Tryz.func173, Tryz.ntmps173
      go_wp2_with (first | (go_at_call 176; refine (lengthI64_any _ H.out).mono ?_; rintro e w' ⟨rfl, rfl⟩) | (go_at_call 92; refine (within_any _ _ _ _).mono ?_; rintro e w' ⟨rfl, rfl⟩; rw [h1]) | (go_at_call 117; refine (areWithin_any _ _ _ H.out).mono ?_; rintro e w1 ⟨rfl, g1⟩; rw [h2]))
      go_ret
      exact ⟨ret_bool (by rw [E.out, h1, h2]; rfl), by assumption⟩
    · go_enter Tryz.func173, Tryz.ntmps173
      go_wp2_with (first | (go_at_call 176; refine (lengthI64_any _ H.out).mono ?_; rintro e w' ⟨rfl, rfl⟩) | (go_at_call 92; refine (within_any _ _ _ _).mono ?_; rintro e w' ⟨rfl, rfl⟩; rw [h1]))
      refine (areWithin_any _ _ _ H.out).mono ?_
      rintro e w1 ⟨rfl, g1⟩
      rw [h2]
      go_wp2_with (go_at_call 177; refine (isInc_any _ (H.out.keep g1.keeps)).mono ?_; rintro e w2 ⟨rfl, g2⟩)
      go_ret
      exact ⟨ret_bool (by rw [E.out, h1, h2]; rfl), g1.trans (by assumption)⟩
theorem prod_bd {a b : Nat} (ha : a ≤ 4) (hb : b ≤ 4) : 0 ≤ (a : Int) * b ∧ (a : Int) * b ≤ 16 := by
  have h := Nat.mul_le_mul ha hb
  refine ⟨by rw [← Int.natCast_mul]; omega, by rw [← Int.natCast_mul]; omega⟩
set_option maxHeartbeats 2000000 in
theorem iIsTable_any {a b c : Value} {t : TableD} (w : World) (h : RTable w [a, b, c] t) :
    Calls Tryz.prog 160 #[.agg #[a, b, c]] w fun e w' => e = .returned (.bool (tabB t)) ∧ Grows w w' := by
  have E : Hid (tabB t = (axB t.slews && axB t.loads && decide (t.values.length = t.slews.length * t.loads.length) && wiB t.values (-1000000) 1000000)) := rfl
  obtain ⟨a', b', c', he, ha, hb, hc⟩ := h
  injection he with e1 he
  injection he with e2 he
  injection he with e3 he
  subst e1 e2 e3
  clear he
  have g0 := (Grows.refl w).alloc (.cells #[a, b, c] 149)
  have HA := hideIt (ha.keep g0.keeps)
  have HB := hideIt (hb.keep g0.keeps)
  have HC := hideIt (hc.keep g0.keeps)
  have G0 := hideIt g0
  clear g0
  cases h1 : axB t.slews
  · clear ha hb hc
    go_enter Tryz.func160, Tryz.ntmps160
    go_wp2_with (go_at_call 173; refine (isAxis_any _ HA.out).mono ?_; rintro e w1 ⟨rfl, g1⟩; rw [h1])
    go_ret
    exact ⟨ret_bool (by rw [E.out, h1]; rfl), G0.out.trans (by assumption)⟩
  cases h2 : axB t.loads
  · clear ha hb hc
    go_enter Tryz.func160, Tryz.ntmps160
    go_wp2_with fail
    refine (isAxis_any _ HA.out).mono ?_
    rintro e w1 ⟨rfl, g1⟩
    rw [h1]
    obtain ⟨c1, f1⟩ := g1.cells
    have z1 : w.heap.size < w1.heap.size := by have := g1.size; simp at this; omega
    go_wp2_with (go_at_call 173; refine (isAxis_any _ (HB.out.keep g1.keeps)).mono ?_; rintro e w2 ⟨rfl, g2⟩; rw [h2])
    go_ret
    exact ⟨ret_bool (by rw [E.out, h1, h2]; rfl), (G0.out.trans g1).trans (by assumption)⟩
  have l1 := axB_len h1
  have l2 := axB_len h2
  have l3 := hc.len
  obtain ⟨A1, n1, rfl, -, -, -⟩ := ha.form
  obtain ⟨A2, n2, rfl, -, -, -⟩ := hb.form
  obtain ⟨A3, n3, rfl, -, -, -⟩ := hc.form
  clear ha hb hc
  obtain ⟨pb1, pb2⟩ := prod_bd l1.2 l2.2
  by_cases h3 : t.values.length = t.slews.length * t.loads.length
  · have hb3 : ((t.values.length : Int) == (t.slews.length : Int) * (t.loads.length : Int)) = true := by rw [beq_iff_eq, h3]; simp
    have H3 := hideIt h3
    clear h3
    go_enter Tryz.func160, Tryz.ntmps160
    go_wp2_with fail
    refine (isAxis_any _ HA.out).mono ?_
    rintro e w1 ⟨rfl, g1⟩
    rw [h1]
    obtain ⟨c1, f1⟩ := g1.cells
    have z1 : w.heap.size < w1.heap.size := by have := g1.size; simp at this; omega
    go_wp2_with fail
    refine (isAxis_any _ (HB.out.keep g1.keeps)).mono ?_
    rintro e w2 ⟨rfl, g2⟩
    rw [h2]
    obtain ⟨c2, f2⟩ := g2.cells
    have z2 : w.heap.size < w2.heap.size := by have := g2.size; omega
    go_wp2_with (go_at_call 117; refine (areWithin_any _ _ _ ((HC.out.keep g1.keeps).keep g2.keeps)).mono ?_; rintro e w3 ⟨rfl, g3⟩)
    go_ret
    exact ⟨ret_bool (by rw [E.out, h1, h2, decide_eq_true H3.out]; rfl), ((G0.out.trans g1).trans g2).trans (by assumption)⟩
  · have hb3 : ((t.values.length : Int) == (t.slews.length : Int) * (t.loads.length : Int)) = false := by
      rw [beq_eq_false_iff_ne]; intro he; apply h3; rw [← Int.natCast_mul] at he; omega
    have H3 := hideIt h3
    clear h3
    go_enter Tryz.func160, Tryz.ntmps160
    go_wp2_with fail
    refine (isAxis_any _ HA.out).mono ?_
    rintro e w1 ⟨rfl, g1⟩
    rw [h1]
    obtain ⟨c1, f1⟩ := g1.cells
    have z1 : w.heap.size < w1.heap.size := by have := g1.size; simp at this; omega
    go_wp2_with fail
    refine (isAxis_any _ (HB.out.keep g1.keeps)).mono ?_
    rintro e w2 ⟨rfl, g2⟩
    rw [h2]
    obtain ⟨c2, f2⟩ := g2.cells
    have z2 : w.heap.size < w2.heap.size := by have := g2.size; omega
    go_wp2_with fail
    go_ret
    exact ⟨ret_bool (by rw [E.out, h1, h2, decide_eq_false H3.out]; rfl), (G0.out.trans g1).trans g2⟩
set_option maxHeartbeats 1000000 in
theorem eqTable_same {a b c a2 b2 c2 : Value} {t : TableD} (w : World) (h : RTable w [a, b, c] t) (h2 : RTable w [a2, b2, c2] t) :
    Calls Tryz.prog 153 #[.agg #[a, b, c], .agg #[a2, b2, c2]] w fun e w' => e = .returned (.bool true) ∧ Grows w w' := by
  obtain ⟨ha, hb, hc⟩ := h.open_
  obtain ⟨ka, kb, kc⟩ := h2.open_
  have H0 := hideIt ha
  have H1 := hideIt hb
  have H2 := hideIt hc
  have M0 := hideIt ka
  have M1 := hideIt kb
  have M2 := hideIt kc
  clear ha hb hc ka kb kc h h2
  have g0 : Grows w ((w.alloc (.cells #[a, b, c] 149)).alloc (.cells #[a2, b2, c2] 149)) := ((Grows.refl w).alloc _).alloc _
  have s0 : Blk ((w.alloc (.cells #[a, b, c] 149)).alloc (.cells #[a2, b2, c2] 149)) (w.heap.size) 149 #[a, b, c] := (Blk.new w _ _).grows ((Grows.refl _).alloc _)
  have r0 : Blk ((w.alloc (.cells #[a, b, c] 149)).alloc (.cells #[a2, b2, c2] 149)) (w.heap.size + 1) 149 #[a2, b2, c2] := by have := Blk.new (w.alloc (.cells #[a, b, c] 149)) 149 #[a2, b2, c2]; simpa using this
  have G0 := hideIt g0
  have S0 := hideIt s0
  have R0 := hideIt r0
  clear g0 s0 r0
  go_enter Tryz.func153, Tryz.ntmps153
  go_wp2_with fail
  refine (eqInts_same _ (H0.out.keep G0.out.keeps) (M0.out.keep G0.out.keeps)).mono ?_
  rintro e u0 ⟨rfl, g0⟩
  have s1 := S0.out.grows g0
  have ks0_0 : u0.cell? ⟨w.heap.size, 0, none⟩ = some (a) := s1.cell 0
  have ks0_1 : u0.cell? ⟨w.heap.size, 1, none⟩ = some (b) := s1.cell 1
  have ks0_2 : u0.cell? ⟨w.heap.size, 2, none⟩ = some (c) := s1.cell 2
  have r1 := R0.out.grows g0
  have kr0_0 : u0.cell? ⟨w.heap.size + 1, 0, none⟩ = some (a2) := r1.cell 0
  have kr0_1 : u0.cell? ⟨w.heap.size + 1, 1, none⟩ = some (b2) := r1.cell 1
  have kr0_2 : u0.cell? ⟨w.heap.size + 1, 2, none⟩ = some (c2) := r1.cell 2
  have G1 := hideIt (G0.out.trans g0)
  have S1 := hideIt s1
  have R1 := hideIt r1
  clear s1 r1 g0
  go_wp2_with fail
  clear ks0_0 kr0_0 ks0_1 kr0_1 ks0_2 kr0_2
  refine (eqInts_same _ (H1.out.keep G1.out.keeps) (M1.out.keep G1.out.keeps)).mono ?_
  rintro e u1 ⟨rfl, g1⟩
  have s2 := S1.out.grows g1
  have ks1_0 : u1.cell? ⟨w.heap.size, 0, none⟩ = some (a) := s2.cell 0
  have ks1_1 : u1.cell? ⟨w.heap.size, 1, none⟩ = some (b) := s2.cell 1
  have ks1_2 : u1.cell? ⟨w.heap.size, 2, none⟩ = some (c) := s2.cell 2
  have r2 := R1.out.grows g1
  have kr1_0 : u1.cell? ⟨w.heap.size + 1, 0, none⟩ = some (a2) := r2.cell 0
  have kr1_1 : u1.cell? ⟨w.heap.size + 1, 1, none⟩ = some (b2) := r2.cell 1
  have kr1_2 : u1.cell? ⟨w.heap.size + 1, 2, none⟩ = some (c2) := r2.cell 2
  have G2 := hideIt (G1.out.trans g1)
  have S2 := hideIt s2
  have R2 := hideIt r2
  clear s2 r2 g1
  go_wp2_with fail
  clear ks1_0 kr1_0 ks1_1 kr1_1 ks1_2 kr1_2
  refine (eqInts_same _ (H2.out.keep G2.out.keeps) (M2.out.keep G2.out.keeps)).mono ?_
  rintro e u2 ⟨rfl, g2⟩
  have s3 := S2.out.grows g2
  have ks2_0 : u2.cell? ⟨w.heap.size, 0, none⟩ = some (a) := s3.cell 0
  have ks2_1 : u2.cell? ⟨w.heap.size, 1, none⟩ = some (b) := s3.cell 1
  have ks2_2 : u2.cell? ⟨w.heap.size, 2, none⟩ = some (c) := s3.cell 2
  have r3 := R2.out.grows g2
  have kr2_0 : u2.cell? ⟨w.heap.size + 1, 0, none⟩ = some (a2) := r3.cell 0
  have kr2_1 : u2.cell? ⟨w.heap.size + 1, 1, none⟩ = some (b2) := r3.cell 1
  have kr2_2 : u2.cell? ⟨w.heap.size + 1, 2, none⟩ = some (c2) := r3.cell 2
  have G3 := hideIt (G2.out.trans g2)
  have S3 := hideIt s3
  have R3 := hideIt r3
  clear s3 r3 g2
  go_wp2
  go_ret
  exact ⟨rfl, G3.out⟩
set_option maxHeartbeats 2000000 in
theorem l02Axis_any {v : Value} {xs : List Int} (w : World) (h : RInts w v xs) :
    Calls Tryz.prog 154 #[v] w fun e w' => e = .returned (.bool (axB xs)) ∧ Grows w w' := by
  have E : Hid (axB xs = (inB xs.length 1 4 && wiB xs 0 100000 && incB xs)) := rfl
  have hl := h.len
  obtain ⟨A, c, rfl, hle, hc, hx⟩ := h.form
  have HX := hideIt hx
  clear hx h hle hc
  go_enter Tryz.func154, Tryz.ntmps154
  go_wp2
  go_loopw [3] (fun i wr => ∃ k : Nat, k ≤ xs.length ∧ i = .int .i64 (k : Int) ∧ Hid ((∀ (j : Nat) (x : Int), j < k → xs[j]? = some x → inB x 0 100000 = true) ∧ ∀ (j : Nat) (x y : Int), j + 1 < k → xs[j]? = some x → xs[j + 1]? = some y → x < y) ∧ Grows w wr) (fun i _ => xs.length - (intOf i).toNat)
  case atStart => exact ⟨0, Nat.zero_le _, rfl, ⟨fun i x hi => absurd hi (by omega), fun i x y hi => absurd hi (by omega)⟩, Grows.refl _⟩
  case round =>
    obtain ⟨k, hk, rfl, hco, hg⟩ := hrel
    by_cases hlt : k < xs.length
    · obtain ⟨x, hx⟩ : ∃ x, xs[k]? = some x := ⟨_, List.getElem?_eq_getElem (by omega)⟩
      obtain ⟨b, off, rfl, cs, hl1, hcs, hr⟩ := HX.out k x hx
      unfold RI at hr
      subst hr
      have hs : wr.cell? ⟨b, off + k, none⟩ = some (.int .i64 x) := by simpa using hg.keeps _ _ (hcs 0 _ rfl)
      have X1 := hideIt hx
      clear hcs hl1 hx
      cases hin : inB x 0 100000
      · have HI := hideIt hin
        go_wp2
        go_quiet ((go_at_call 60; first | exact quietL (HI.out ▸ l01In_any _ _ _ _)))
        go_wp2
        go_ret
        exact ⟨ret_bool (by rw [E.out, wiB_no X1.out HI.out]; simp), by first | exact hg.drewN _ | exact (hg.drewN _).drewN _⟩
      · have HI := hideIt hin
        rcases k with _ | m
        · simp only [Nat.add_zero] at hs
          go_wp2
          go_quiet ((go_at_call 60; first | exact quietL (HI.out ▸ l01In_any _ _ _ _)))
          go_wp2
          go_roundw
          case rel => exact ⟨1, by omega, by go_num, ⟨fun j x' hj hx' => by
            obtain rfl : j = 0 := by omega
            rw [X1.out] at hx'; injection hx' with hx'; rw [← hx']; exact HI.out, fun j x y hj => absurd hj (by omega)⟩, by first | exact hg.drewN _ | exact (hg.drewN _).drewN _⟩
          case measure => simp [intOf]; omega
        · obtain ⟨y, hy⟩ : ∃ y, xs[m]? = some y := ⟨_, List.getElem?_eq_getElem (by omega)⟩
          obtain ⟨b', off', he, cs2, hl2, hcs2, hr2⟩ := HX.out m y hy
          injection he with he
          injection he with he1 he2
          subst he1 he2
          unfold RI at hr2
          subst hr2
          have hs2 : wr.cell? ⟨b, off + m, none⟩ = some (.int .i64 y) := by simpa using hg.keeps _ _ (hcs2 0 _ rfl)
          have Y1 := hideIt hy
          clear hcs2 hl2 hy
          by_cases hxy : x ≤ y
          · have XY := hideIt hxy
            go_wp2
            go_quiet ((go_at_call 60; first | exact quietL (HI.out ▸ l01In_any _ _ _ _)))
            go_wp2
            go_ret
            exact ⟨ret_bool (by rw [E.out, incB_no Y1.out X1.out XY.out]; simp), by first | exact hg.drewN _ | exact (hg.drewN _).drewN _⟩
          · have hxy' : y < x := by omega
            have XY := hideIt hxy'
            go_wp2
            go_quiet ((go_at_call 60; first | exact quietL (HI.out ▸ l01In_any _ _ _ _)))
            go_wp2
            go_roundw
            case rel => exact ⟨m + 1 + 1, by omega, by go_num, ⟨fun j x' hj hx' => by
              by_cases e : j = m + 1
              · subst e; rw [X1.out] at hx'; injection hx' with hx'; rw [← hx']; exact HI.out
              · exact hco.out.1 j x' (by omega) hx', fun j x' y' hj hx' hy' => by
              by_cases e : j = m
              · subst e
                rw [Y1.out] at hx'
                rw [X1.out] at hy'
                injection hx' with hx'
                injection hy' with hy'
                rw [← hx', ← hy']
                exact XY.out
              · exact hco.out.2 j x' y' (by omega) hx' hy'⟩, by first | exact hg.drewN _ | exact (hg.drewN _).drewN _⟩
            case measure => simp [intOf]; omega
    · have hk2 : k = xs.length := by omega
      subst hk2
      have E2 : Hid (axB xs = inB xs.length 1 4) := by
        show axB xs = inB xs.length 1 4
        rw [E.out, wiB_mk fun j x hx => hco.out.1 j x (List.getElem?_eq_some_iff.1 hx).1 hx, incB_mk fun j x y hx hy => hco.out.2 j x y (List.getElem?_eq_some_iff.1 hy).1 hx hy]
        simp
      by_cases hn1 : 1 ≤ xs.length <;> by_cases hn2 : xs.length ≤ 4
      all_goals go_wp2
      all_goals go_ret
      all_goals exact ⟨ret_bool (by rw [E2.out]; simp [inB]; omega), hg⟩
set_option maxHeartbeats 2000000 in
theorem sIsTable_any {a b c : Value} {t : TableD} (w : World) (h : RTable w [a, b, c] t) :
    Calls Tryz.prog 131 #[.agg #[a, b, c]] w fun e w' => e = .returned (.bool (tabB t)) ∧ Grows w w' := by
  have E : Hid (tabB t = (axB t.slews && axB t.loads && decide (t.values.length = t.slews.length * t.loads.length) && wiB t.values (-1000000) 1000000)) := rfl
  obtain ⟨ha, hb, hc⟩ := h.open_
  have g0 := (Grows.refl w).alloc (.cells #[a, b, c] 149)
  have HA := hideIt (ha.keep g0.keeps)
  have HB := hideIt (hb.keep g0.keeps)
  have HC := hideIt (hc.keep g0.keeps)
  have G0 := hideIt g0
  clear g0 h
  cases h1 : axB t.slews
  · clear ha hb hc
    go_enter Tryz.func131, Tryz.ntmps131
    go_wp2_with (go_at_call 154; refine (l02Axis_any _ HA.out).mono ?_; rintro e w1 ⟨rfl, g1⟩; rw [h1])
    go_ret
    exact ⟨ret_bool (by rw [E.out, h1]; rfl), G0.out.trans (by assumption)⟩
  cases h2 : axB t.loads
  · clear ha hb hc
    go_enter Tryz.func131, Tryz.ntmps131
    go_wp2_with fail
    refine (l02Axis_any _ HA.out).mono ?_
    rintro e w1 ⟨rfl, g1⟩
    rw [h1]
    obtain ⟨c1, f1⟩ := g1.cells
    have z1 : w.heap.size < w1.heap.size := by have := g1.size; simp at this; omega
    go_wp2_with (go_at_call 154; refine (l02Axis_any _ (HB.out.keep g1.keeps)).mono ?_; rintro e w2 ⟨rfl, g2⟩; rw [h2])
    go_ret
    exact ⟨ret_bool (by rw [E.out, h1, h2]; rfl), (G0.out.trans g1).trans (by assumption)⟩
  have l1 := axB_len h1
  have l2 := axB_len h2
  have l3 := hc.len
  obtain ⟨A1, n1, rfl, -, -, -⟩ := ha.form
  obtain ⟨A2, n2, rfl, -, -, -⟩ := hb.form
  obtain ⟨A3, n3, rfl, -, -, hx⟩ := hc.form
  have HX := hideIt hx
  clear ha hb hc hx
  obtain ⟨pb1, pb2⟩ := prod_bd l1.2 l2.2
  by_cases h3 : t.values.length = t.slews.length * t.loads.length
  · have hb3 : ((t.values.length : Int) != (t.slews.length : Int) * (t.loads.length : Int)) = false := by simp [h3]
    have H3 := hideIt h3
    clear h3
    go_enter Tryz.func131, Tryz.ntmps131
    go_wp2_with fail
    refine (l02Axis_any _ HA.out).mono ?_
    rintro e w1 ⟨rfl, g1⟩
    rw [h1]
    obtain ⟨c1, f1⟩ := g1.cells
    have z1 : w.heap.size < w1.heap.size := by have := g1.size; simp at this; omega
    go_wp2_with fail
    refine (l02Axis_any _ (HB.out.keep g1.keeps)).mono ?_
    rintro e w2 ⟨rfl, g2⟩
    rw [h2]
    have gw : Grows w w2 := (G0.out.trans g1).trans g2
    have k2 : w2.cell? ⟨w.heap.size, 2, none⟩ = some (.slice A3 t.values.length n3) := (g2.cells.1 _ _ z1).trans ((c1 _ _ (by simp)).trans (by simp))
    have k1 : w2.cell? ⟨w.heap.size, 1, none⟩ = some (.slice A2 t.loads.length n2) := (g2.cells.1 _ _ z1).trans ((c1 _ _ (by simp)).trans (by simp))
    have k0 : w2.cell? ⟨w.heap.size, 0, none⟩ = some (.slice A1 t.slews.length n1) := (g2.cells.1 _ _ z1).trans ((c1 _ _ (by simp)).trans (by simp))
    have GW := hideIt gw
    clear c1 f1 g1 g2 gw z1
    go_wp2_with fail
    go_loopw [3] (fun i wr => ∃ k : Nat, k ≤ t.values.length ∧ i = .int .i64 (k : Int) ∧ Hid (∀ (j : Nat) (x : Int), j < k → t.values[j]? = some x → inB x (-1000000) 1000000 = true) ∧ wr = w2) (fun i _ => t.values.length - (intOf i).toNat)
    case atStart => exact ⟨0, Nat.zero_le _, rfl, fun i x hi => absurd hi (by omega), rfl⟩
    case round =>
      obtain ⟨k, hk, rfl, hco, rfl⟩ := hrel
      by_cases hlt : k < t.values.length
      · obtain ⟨x, hx⟩ : ∃ x, t.values[k]? = some x := ⟨_, List.getElem?_eq_getElem (by omega)⟩
        obtain ⟨b, off, rfl, cs, hl1, hcs, hr⟩ := HX.out k x hx
        unfold RI at hr
        subst hr
        have hs : wr.cell? ⟨b, off + k, none⟩ = some (.int .i64 x) := by simpa using GW.out.keeps _ _ (hcs 0 _ rfl)
        have X1 := hideIt hx
        clear hcs hl1 hx
        cases hin : inB x (-1000000) 1000000
        · have HI := hideIt hin
          go_wp2_with (go_at_call 60; refine (l01In_any _ _ _ _).mono ?_; rintro e w3 ⟨rfl, rfl⟩; rw [HI.out])
          go_ret
          exact ⟨ret_bool (by rw [E.out, wiB_no X1.out HI.out]; simp), GW.out⟩
        · have HI := hideIt hin
          go_wp2_with (go_at_call 60; refine (l01In_any _ _ _ _).mono ?_; rintro e w3 ⟨rfl, rfl⟩; rw [HI.out])
          go_roundw
          case rel => exact ⟨k + 1, by omega, by go_num, fun j x' hj hx' => by
            by_cases e : j = k
            · subst e; rw [X1.out] at hx'; injection hx' with hx'; rw [← hx']; exact HI.out
            · exact hco.out j x' (by omega) hx', by trivial⟩
          case measure => simp [intOf]; omega
      · have hk2 : k = t.values.length := by omega
        subst hk2
        go_wp2
        go_ret
        exact ⟨ret_bool (by rw [E.out, h1, h2, decide_eq_true H3.out, wiB_mk fun j x hx => hco.out j x (List.getElem?_eq_some_iff.1 hx).1 hx]; rfl), GW.out⟩
  · have hb3 : ((t.values.length : Int) != (t.slews.length : Int) * (t.loads.length : Int)) = true := by
      rw [bne_iff_ne]; intro he; apply h3; rw [← Int.natCast_mul] at he; omega
    have H3 := hideIt h3
    clear h3
    go_enter Tryz.func131, Tryz.ntmps131
    go_wp2_with fail
    refine (l02Axis_any _ HA.out).mono ?_
    rintro e w1 ⟨rfl, g1⟩
    rw [h1]
    obtain ⟨c1, f1⟩ := g1.cells
    have z1 : w.heap.size < w1.heap.size := by have := g1.size; simp at this; omega
    go_wp2_with fail
    refine (l02Axis_any _ (HB.out.keep g1.keeps)).mono ?_
    rintro e w2 ⟨rfl, g2⟩
    rw [h2]
    obtain ⟨c2, f2⟩ := g2.cells
    have z2 : w.heap.size < w2.heap.size := by have := g2.size; omega
    go_wp2_with fail
    go_ret
    exact ⟨ret_bool (by rw [E.out, h1, h2, decide_eq_false H3.out]; rfl), (G0.out.trans g1).trans g2⟩
end Go.Proofs.YtocahjbmnkadjaaGreatDoor
