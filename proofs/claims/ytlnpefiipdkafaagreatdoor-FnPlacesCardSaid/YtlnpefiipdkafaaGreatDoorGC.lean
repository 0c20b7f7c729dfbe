/-
  A struct and the slices of it: owned, small, its budget, copy and equality.
-/
import Derived.Test.YtlnpefiipdkafaaGreatDoorGB
import Derived.Test.YtlnpefiipdkafaaGreatDoorGA
namespace Go.Proofs.YtlnpefiipdkafaaGreatDoor
open Go.RowKit

def OPin (_ : World) (cs : List Value) (x : PinD) (bs : List Nat) : Prop :=
  cs = [.string x.name, .int .i64 x.dir, .int .i64 x.cap, .bool x.clock] ∧ x.name.size ≤ maxLen ∧ bs = []
theorem OPin.reads {w : World} {cs : List Value} {x : PinD} {bs : List Nat} (h : OPin w cs x bs) : RPin w cs x := by
  obtain ⟨e, z0, _⟩ := h
  exact ⟨e, z0⟩
theorem OPin.same {w w' : World} {cs : List Value} {x : PinD} {bs : List Nat} (h : OPin w cs x bs) (_ : SameOn bs w w') : OPin w' cs x bs := by
  exact h
theorem OPin.lt {w : World} {cs : List Value} {x : PinD} {bs : List Nat} (h : OPin w cs x bs) : ∀ g ∈ bs, g < w.heap.size := by
  obtain ⟨e, z0, rfl⟩ := h
  intro g hg
  cases hg
def SmPin (x : PinD) : Prop := x.name.size ≤ 1048576
theorem RPin.parts {w : World} {vv0 vv1 vv2 vv3 : Value} {x : PinD} (h : RPin w [vv0, vv1, vv2, vv3] x) : (vv0 = .string x.name) ∧ (vv1 = .int .i64 x.dir) ∧ (vv2 = .int .i64 x.cap) ∧ (vv3 = .bool x.clock) ∧ x.name.size ≤ maxLen := by
  obtain ⟨he, z0⟩ := h
  injection he with e0 he
  injection he with e1 he
  injection he with e2 he
  injection he with e3 he
  exact ⟨e0, e1, e2, e3, z0⟩
theorem OPin.shape {w : World} {vv0 vv1 vv2 vv3 : Value} {x : PinD} {bs : List Nat} (h : OPin w [vv0, vv1, vv2, vv3] x bs) : vv0 = .string x.name ∧ vv1 = .int .i64 x.dir ∧ vv2 = .int .i64 x.cap ∧ vv3 = .bool x.clock := by
  obtain ⟨e0, e1, e2, e3, -⟩ := h.reads.parts
  exact ⟨e0, e1, e2, e3⟩
def wtPin (_ : PinD) : Nat := 0
def OPins : World → Value → List PinD → List Nat → Prop := OList 4 125 OPin
def SmPins (xs : List PinD) : Prop := SmL xs ∧ ∀ x ∈ xs, SmPin x
def wtPins (xs : List PinD) : Nat := wtL wtPin xs
theorem OPins.reads {w : World} {v : Value} {xs : List PinD} {bs : List Nat} (h : OPins w v xs bs) : RPins w v xs := OList.reads h fun _ _ _ h => h.reads
theorem OPins.same {w w' : World} {v : Value} {xs : List PinD} {bs : List Nat} (h : OPins w v xs bs) (g : SameOn bs w w') : OPins w' v xs bs := OList.same h g fun _ _ _ h g => h.same g
theorem OPins.lt {w : World} {v : Value} {xs : List PinD} {bs : List Nat} (h : OPins w v xs bs) : ∀ g ∈ bs, g < w.heap.size := OList.lt h fun _ _ _ h => h.lt
theorem info_Pin : (Tryz.prog.info? 125).map (fun i => (i.zero, i.size)) = some (some (.agg #[.string .empty, .int .i64 0, .int .i64 0, .bool false]), 4) := by kernel_rfl
theorem bytes_Pin : ∀ i, Tryz.prog.info? 125 = some i → i.bytes ≤ 256 := by
  intro i hi
  have h : (Tryz.prog.info? 125).map (fun i => decide (i.bytes ≤ 256)) = some true := by kernel_rfl
  rw [hi] at h
  simpa using h
end Go.Proofs.YtlnpefiipdkafaaGreatDoor
/-
  A struct and the slices of it: owned, small, its budget, copy and equality.
-/
namespace Go.Proofs.YtlnpefiipdkafaaGreatDoor
open Go.RowKit

theorem OTable.shape {w : World} {a b c : Value} {t : TableD} {bs : List Nat} (h : OTable w [a, b, c] t bs) : (∃ (A : Option Addr) (n : Nat), a = .slice A t.slews.length n) ∧ (∃ (A : Option Addr) (n : Nat), b = .slice A t.loads.length n) ∧ (∃ (A : Option Addr) (n : Nat), c = .slice A t.values.length n) := h.reads.shape
def OTables : World → Value → List TableD → List Nat → Prop := OList 3 136 OTable
def SmTables (xs : List TableD) : Prop := SmL xs ∧ ∀ x ∈ xs, SmTable x
def wtTables (xs : List TableD) : Nat := wtL wtTable xs
theorem OTables.reads {w : World} {v : Value} {xs : List TableD} {bs : List Nat} (h : OTables w v xs bs) : RTables w v xs := OList.reads h fun _ _ _ h => h.reads
theorem OTables.same {w w' : World} {v : Value} {xs : List TableD} {bs : List Nat} (h : OTables w v xs bs) (g : SameOn bs w w') : OTables w' v xs bs := OList.same h g fun _ _ _ h g => h.same g
theorem OTables.lt {w : World} {v : Value} {xs : List TableD} {bs : List Nat} (h : OTables w v xs bs) : ∀ g ∈ bs, g < w.heap.size := OList.lt h fun _ _ _ h => h.lt
theorem info_Table : (Tryz.prog.info? 136).map (fun i => (i.zero, i.size)) = some (some (.agg #[.slice none 0 0, .slice none 0 0, .slice none 0 0]), 3) := by kernel_rfl
theorem bytes_Table : ∀ i, Tryz.prog.info? 136 = some i → i.bytes ≤ 256 := by
  intro i hi
  have h : (Tryz.prog.info? 136).map (fun i => decide (i.bytes ≤ 256)) = some true := by kernel_rfl
  rw [hi] at h
  simpa using h
end Go.Proofs.YtlnpefiipdkafaaGreatDoor
/-
  A struct and the slices of it: owned, small, its budget, copy and equality.
-/
namespace Go.Proofs.YtlnpefiipdkafaaGreatDoor
open Go.RowKit

def OArc (w : World) (cs : List Value) (x : ArcD) (bs : List Nat) : Prop :=
  ∃ (vv4 vv5 : Value) (b4 b5 : List Nat), cs = [.int .i64 x.kind, .int .i64 x.src, .int .i64 x.dst, .int .i64 x.sense, vv4, vv5] ∧ OTables w vv4 x.delay b4 ∧ OTables w vv5 x.slew b5 ∧ bs = b4 ++ b5
theorem OArc.reads {w : World} {cs : List Value} {x : ArcD} {bs : List Nat} (h : OArc w cs x bs) : RArc w cs x := by
  obtain ⟨vv4, vv5, b4, b5, e, h4, h5, _⟩ := h
  exact ⟨vv4, vv5, e, h4.reads, h5.reads⟩
theorem OArc.same {w w' : World} {cs : List Value} {x : ArcD} {bs : List Nat} (h : OArc w cs x bs) (g : SameOn bs w w') : OArc w' cs x bs := by
  obtain ⟨vv4, vv5, b4, b5, e, h4, h5, rfl⟩ := h
  exact ⟨vv4, vv5, _, _, e, h4.same (g.sub (by simp +contextual)), h5.same (g.sub (by simp +contextual)), rfl⟩
theorem OArc.lt {w : World} {cs : List Value} {x : ArcD} {bs : List Nat} (h : OArc w cs x bs) : ∀ g ∈ bs, g < w.heap.size := by
  obtain ⟨vv4, vv5, b4, b5, e, h4, h5, rfl⟩ := h
  intro g hg
  simp only [List.mem_append] at hg
  rcases hg with (hg | hg)
  · exact h4.lt g hg
  · exact h5.lt g hg
def SmArc (x : ArcD) : Prop := SmTables x.delay ∧ SmTables x.slew
theorem RArc.parts {w : World} {vv0 vv1 vv2 vv3 vv4 vv5 : Value} {x : ArcD} (h : RArc w [vv0, vv1, vv2, vv3, vv4, vv5] x) : (vv0 = .int .i64 x.kind) ∧ (vv1 = .int .i64 x.src) ∧ (vv2 = .int .i64 x.dst) ∧ (vv3 = .int .i64 x.sense) ∧ RTables w vv4 x.delay ∧ RTables w vv5 x.slew := by
  obtain ⟨vv4', vv5', he, h4, h5⟩ := h
  injection he with e0 he
  injection he with e1 he
  injection he with e2 he
  injection he with e3 he
  injection he with e4 he
  injection he with e5 he
  subst e4 e5
  exact ⟨e0, e1, e2, e3, h4, h5⟩
theorem OArc.shape {w : World} {vv0 vv1 vv2 vv3 vv4 vv5 : Value} {x : ArcD} {bs : List Nat} (h : OArc w [vv0, vv1, vv2, vv3, vv4, vv5] x bs) : vv0 = .int .i64 x.kind ∧ vv1 = .int .i64 x.src ∧ vv2 = .int .i64 x.dst ∧ vv3 = .int .i64 x.sense ∧ (∃ (A : Option Addr) (n : Nat), vv4 = .slice A x.delay.length n) ∧ (∃ (A : Option Addr) (n : Nat), vv5 = .slice A x.slew.length n) := by
  obtain ⟨e0, e1, e2, e3, e4, e5⟩ := h.reads.parts
  exact ⟨e0, e1, e2, e3, (by obtain ⟨A, c, h, -⟩ := RList.form e4; exact ⟨A, c, h⟩), (by obtain ⟨A, c, h, -⟩ := RList.form e5; exact ⟨A, c, h⟩)⟩
def wtArc (x : ArcD) : Nat := wtTables x.delay + wtTables x.slew
def OArcs : World → Value → List ArcD → List Nat → Prop := OList 6 134 OArc
def SmArcs (xs : List ArcD) : Prop := SmL xs ∧ ∀ x ∈ xs, SmArc x
def wtArcs (xs : List ArcD) : Nat := wtL wtArc xs
theorem OArcs.reads {w : World} {v : Value} {xs : List ArcD} {bs : List Nat} (h : OArcs w v xs bs) : RArcs w v xs := OList.reads h fun _ _ _ h => h.reads
theorem OArcs.same {w w' : World} {v : Value} {xs : List ArcD} {bs : List Nat} (h : OArcs w v xs bs) (g : SameOn bs w w') : OArcs w' v xs bs := OList.same h g fun _ _ _ h g => h.same g
theorem OArcs.lt {w : World} {v : Value} {xs : List ArcD} {bs : List Nat} (h : OArcs w v xs bs) : ∀ g ∈ bs, g < w.heap.size := OList.lt h fun _ _ _ h => h.lt
theorem info_Arc : (Tryz.prog.info? 134).map (fun i => (i.zero, i.size)) = some (some (.agg #[.int .i64 0, .int .i64 0, .int .i64 0, .int .i64 0, .slice none 0 0, .slice none 0 0]), 6) := by kernel_rfl
theorem bytes_Arc : ∀ i, Tryz.prog.info? 134 = some i → i.bytes ≤ 256 := by
  intro i hi
  have h : (Tryz.prog.info? 134).map (fun i => decide (i.bytes ≤ 256)) = some true := by kernel_rfl
  rw [hi] at h
  simpa using h
end Go.Proofs.YtlnpefiipdkafaaGreatDoor
/-
  A struct and the slices of it: owned, small, its budget, copy and equality.
-/
namespace Go.Proofs.YtlnpefiipdkafaaGreatDoor
open Go.RowKit

def OCell (w : World) (cs : List Value) (x : CellD) (bs : List Nat) : Prop :=
  ∃ (vv2 vv3 vv4 : Value) (b2 b3 b4 : List Nat), cs = [.string x.name, .int .i64 x.kind, vv2, vv3, vv4, .int .i64 x.leak, .int .i64 x.energy] ∧ x.name.size ≤ maxLen ∧ OPins w vv2 x.pins b2 ∧ OArcs w vv3 x.arcs b3 ∧ OInts w vv4 x.truth b4 ∧ bs = b2 ++ b3 ++ b4
theorem OCell.reads {w : World} {cs : List Value} {x : CellD} {bs : List Nat} (h : OCell w cs x bs) : RCell w cs x := by
  obtain ⟨vv2, vv3, vv4, b2, b3, b4, e, z0, h2, h3, h4, _⟩ := h
  exact ⟨vv2, vv3, vv4, e, z0, h2.reads, h3.reads, h4.reads⟩
theorem OCell.same {w w' : World} {cs : List Value} {x : CellD} {bs : List Nat} (h : OCell w cs x bs) (g : SameOn bs w w') : OCell w' cs x bs := by
  obtain ⟨vv2, vv3, vv4, b2, b3, b4, e, z0, h2, h3, h4, rfl⟩ := h
  exact ⟨vv2, vv3, vv4, _, _, _, e, z0, h2.same (g.sub (by simp +contextual)), h3.same (g.sub (by simp +contextual)), h4.same (g.sub (by simp +contextual)), rfl⟩
theorem OCell.lt {w : World} {cs : List Value} {x : CellD} {bs : List Nat} (h : OCell w cs x bs) : ∀ g ∈ bs, g < w.heap.size := by
  obtain ⟨vv2, vv3, vv4, b2, b3, b4, e, z0, h2, h3, h4, rfl⟩ := h
  intro g hg
  simp only [List.mem_append] at hg
  rcases hg with ((hg | hg) | hg)
  · exact h2.lt g hg
  · exact h3.lt g hg
  · exact h4.lt g hg
def SmCell (x : CellD) : Prop := x.name.size ≤ 1048576 ∧ SmPins x.pins ∧ SmArcs x.arcs ∧ SmL x.truth
theorem RCell.parts {w : World} {vv0 vv1 vv2 vv3 vv4 vv5 vv6 : Value} {x : CellD} (h : RCell w [vv0, vv1, vv2, vv3, vv4, vv5, vv6] x) : (vv0 = .string x.name) ∧ (vv1 = .int .i64 x.kind) ∧ RPins w vv2 x.pins ∧ RArcs w vv3 x.arcs ∧ RInts w vv4 x.truth ∧ (vv5 = .int .i64 x.leak) ∧ (vv6 = .int .i64 x.energy) ∧ x.name.size ≤ maxLen := by
  obtain ⟨vv2', vv3', vv4', he, z0, h2, h3, h4⟩ := h
  injection he with e0 he
  injection he with e1 he
  injection he with e2 he
  injection he with e3 he
  injection he with e4 he
  injection he with e5 he
  injection he with e6 he
  subst e2 e3 e4
  exact ⟨e0, e1, h2, h3, h4, e5, e6, z0⟩
theorem OCell.shape {w : World} {vv0 vv1 vv2 vv3 vv4 vv5 vv6 : Value} {x : CellD} {bs : List Nat} (h : OCell w [vv0, vv1, vv2, vv3, vv4, vv5, vv6] x bs) : vv0 = .string x.name ∧ vv1 = .int .i64 x.kind ∧ (∃ (A : Option Addr) (n : Nat), vv2 = .slice A x.pins.length n) ∧ (∃ (A : Option Addr) (n : Nat), vv3 = .slice A x.arcs.length n) ∧ (∃ (A : Option Addr) (n : Nat), vv4 = .slice A x.truth.length n) ∧ vv5 = .int .i64 x.leak ∧ vv6 = .int .i64 x.energy := by
  obtain ⟨e0, e1, e2, e3, e4, e5, e6, -⟩ := h.reads.parts
  exact ⟨e0, e1, (by obtain ⟨A, c, h, -⟩ := RList.form e2; exact ⟨A, c, h⟩), (by obtain ⟨A, c, h, -⟩ := RList.form e3; exact ⟨A, c, h⟩), (by obtain ⟨A, c, h, -⟩ := RList.form e4; exact ⟨A, c, h⟩), e5, e6⟩
def wtCell (x : CellD) : Nat := wtPins x.pins + wtArcs x.arcs + List.length x.truth
def OCells : World → Value → List CellD → List Nat → Prop := OList 7 112 OCell
def SmCells (xs : List CellD) : Prop := SmL xs ∧ ∀ x ∈ xs, SmCell x
def wtCells (xs : List CellD) : Nat := wtL wtCell xs
theorem OCells.reads {w : World} {v : Value} {xs : List CellD} {bs : List Nat} (h : OCells w v xs bs) : RCells w v xs := OList.reads h fun _ _ _ h => h.reads
theorem OCells.same {w w' : World} {v : Value} {xs : List CellD} {bs : List Nat} (h : OCells w v xs bs) (g : SameOn bs w w') : OCells w' v xs bs := OList.same h g fun _ _ _ h g => h.same g
theorem OCells.lt {w : World} {v : Value} {xs : List CellD} {bs : List Nat} (h : OCells w v xs bs) : ∀ g ∈ bs, g < w.heap.size := OList.lt h fun _ _ _ h => h.lt
theorem info_Cell : (Tryz.prog.info? 112).map (fun i => (i.zero, i.size)) = some (some (.agg #[.string .empty, .int .i64 0, .slice none 0 0, .slice none 0 0, .slice none 0 0, .int .i64 0, .int .i64 0]), 7) := by kernel_rfl
theorem bytes_Cell : ∀ i, Tryz.prog.info? 112 = some i → i.bytes ≤ 256 := by
  intro i hi
  have h : (Tryz.prog.info? 112).map (fun i => decide (i.bytes ≤ 256)) = some true := by kernel_rfl
  rw [hi] at h
  simpa using h
end Go.Proofs.YtlnpefiipdkafaaGreatDoor
/-
  A struct and the slices of it: owned, small, its budget, copy and equality.
-/
namespace Go.Proofs.YtlnpefiipdkafaaGreatDoor
open Go.RowKit

structure LibD where
  cells : List CellD
def RLib (w : World) (cs : List Value) (x : LibD) : Prop := ∃ v : Value, cs = [v] ∧ RCells w v x.cells
theorem RLib.keep {w w' : World} {cs : List Value} {x : LibD} (h : RLib w cs x) (k : Keeps w w') : RLib w' cs x := by
  obtain ⟨v, e, h⟩ := h
  exact ⟨v, e, h.keep k⟩
theorem RLib.mk {w : World} {v : Value} {xs : List CellD} (h : RCells w v xs) : RLib w [v] ⟨xs⟩ := ⟨v, rfl, h⟩
def OLib (w : World) (cs : List Value) (x : LibD) (bs : List Nat) : Prop :=
  ∃ (vv0 : Value) (b0 : List Nat), cs = [vv0] ∧ OCells w vv0 x.cells b0 ∧ bs = b0
theorem OLib.reads {w : World} {cs : List Value} {x : LibD} {bs : List Nat} (h : OLib w cs x bs) : RLib w cs x := by
  obtain ⟨vv0, b0, e, h0, _⟩ := h
  exact ⟨vv0, e, h0.reads⟩
theorem OLib.same {w w' : World} {cs : List Value} {x : LibD} {bs : List Nat} (h : OLib w cs x bs) (g : SameOn bs w w') : OLib w' cs x bs := by
  obtain ⟨vv0, b0, e, h0, rfl⟩ := h
  exact ⟨vv0, _, e, h0.same (g.sub (by simp +contextual)), rfl⟩
theorem OLib.lt {w : World} {cs : List Value} {x : LibD} {bs : List Nat} (h : OLib w cs x bs) : ∀ g ∈ bs, g < w.heap.size := by
  obtain ⟨vv0, b0, e, h0, rfl⟩ := h
  intro g hg
  exact h0.lt g hg
def SmLib (x : LibD) : Prop := SmCells x.cells
theorem RLib.parts {w : World} {vv0 : Value} {x : LibD} (h : RLib w [vv0] x) : RCells w vv0 x.cells := by
  obtain ⟨vv0', he, h0⟩ := h
  injection he with e0 he
  subst e0
  exact h0
theorem OLib.shape {w : World} {vv0 : Value} {x : LibD} {bs : List Nat} (h : OLib w [vv0] x bs) : (∃ (A : Option Addr) (n : Nat), vv0 = .slice A x.cells.length n) := by
  have e0 := h.reads.parts
  exact (by obtain ⟨A, c, h, -⟩ := RList.form e0; exact ⟨A, c, h⟩)
def wtLib (x : LibD) : Nat := wtCells x.cells
end Go.Proofs.YtlnpefiipdkafaaGreatDoor
