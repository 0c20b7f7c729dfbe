/-
  Slices of strings: owned, small, budget, copy, equality.
-/
import Derived.Test.YtlnpefiipdkafaaGreatDoorGB
namespace Go.Proofs.YtlnpefiipdkafaaGreatDoor
open Go.RowKit
def OS (_ : World) (cs : List Value) (x : ByteArray) (b : List Nat) : Prop := cs = [.string x] ∧ x.size ≤ maxLen ∧ b = []
def OStrs : World → Value → List ByteArray → List Nat → Prop := OList 1 9 OS
def SmStr (s : ByteArray) : Prop := s.size ≤ 1048576
def SmStrs (xs : List ByteArray) : Prop := SmL xs ∧ ∀ x ∈ xs, SmStr x
theorem OStrs.reads {w : World} {v : Value} {xs : List ByteArray} {bs : List Nat} (h : OStrs w v xs bs) : RStrs w v xs := OList.reads h fun _ _ _ h => ⟨h.1, h.2.1⟩
theorem OStrs.same {w w' : World} {v : Value} {xs : List ByteArray} {bs : List Nat} (h : OStrs w v xs bs) (g : SameOn bs w w') : OStrs w' v xs bs := OList.same h g fun _ _ _ h _ => h
theorem OStrs.lt {w : World} {v : Value} {xs : List ByteArray} {bs : List Nat} (h : OStrs w v xs bs) : ∀ g ∈ bs, g < w.heap.size := OList.lt h fun _ _ _ h g hg => by rw [h.2.2] at hg; cases hg
end Go.Proofs.YtlnpefiipdkafaaGreatDoor
/-
  A struct and the slices of it: owned, small, its budget, copy and equality.
-/
namespace Go.Proofs.YtlnpefiipdkafaaGreatDoor
open Go.RowKit

def OPort (_ : World) (cs : List Value) (x : PortD) (bs : List Nat) : Prop :=
  cs = [.string x.name, .int .i64 x.dir, .int .i64 x.net] ∧ x.name.size ≤ maxLen ∧ bs = []
theorem OPort.reads {w : World} {cs : List Value} {x : PortD} {bs : List Nat} (h : OPort w cs x bs) : RPort w cs x := by
  obtain ⟨e, z0, _⟩ := h
  exact ⟨e, z0⟩
theorem OPort.same {w w' : World} {cs : List Value} {x : PortD} {bs : List Nat} (h : OPort w cs x bs) (_ : SameOn bs w w') : OPort w' cs x bs := by
  exact h
theorem OPort.lt {w : World} {cs : List Value} {x : PortD} {bs : List Nat} (h : OPort w cs x bs) : ∀ g ∈ bs, g < w.heap.size := by
  obtain ⟨e, z0, rfl⟩ := h
  intro g hg
  cases hg
def SmPort (x : PortD) : Prop := x.name.size ≤ 1048576
theorem RPort.parts {w : World} {vv0 vv1 vv2 : Value} {x : PortD} (h : RPort w [vv0, vv1, vv2] x) : (vv0 = .string x.name) ∧ (vv1 = .int .i64 x.dir) ∧ (vv2 = .int .i64 x.net) ∧ x.name.size ≤ maxLen := by
  obtain ⟨he, z0⟩ := h
  injection he with e0 he
  injection he with e1 he
  injection he with e2 he
  exact ⟨e0, e1, e2, z0⟩
theorem OPort.shape {w : World} {vv0 vv1 vv2 : Value} {x : PortD} {bs : List Nat} (h : OPort w [vv0, vv1, vv2] x bs) : vv0 = .string x.name ∧ vv1 = .int .i64 x.dir ∧ vv2 = .int .i64 x.net := by
  obtain ⟨e0, e1, e2, -⟩ := h.reads.parts
  exact ⟨e0, e1, e2⟩
def wtPort (_ : PortD) : Nat := 0
def OPorts : World → Value → List PortD → List Nat → Prop := OList 3 74 OPort
def SmPorts (xs : List PortD) : Prop := SmL xs ∧ ∀ x ∈ xs, SmPort x
def wtPorts (xs : List PortD) : Nat := wtL wtPort xs
theorem OPorts.reads {w : World} {v : Value} {xs : List PortD} {bs : List Nat} (h : OPorts w v xs bs) : RPorts w v xs := OList.reads h fun _ _ _ h => h.reads
theorem OPorts.same {w w' : World} {v : Value} {xs : List PortD} {bs : List Nat} (h : OPorts w v xs bs) (g : SameOn bs w w') : OPorts w' v xs bs := OList.same h g fun _ _ _ h g => h.same g
theorem OPorts.lt {w : World} {v : Value} {xs : List PortD} {bs : List Nat} (h : OPorts w v xs bs) : ∀ g ∈ bs, g < w.heap.size := OList.lt h fun _ _ _ h => h.lt
theorem info_Port : (Tryz.prog.info? 74).map (fun i => (i.zero, i.size)) = some (some (.agg #[.string .empty, .int .i64 0, .int .i64 0]), 3) := by kernel_rfl
theorem bytes_Port : ∀ i, Tryz.prog.info? 74 = some i → i.bytes ≤ 256 := by
  intro i hi
  have h : (Tryz.prog.info? 74).map (fun i => decide (i.bytes ≤ 256)) = some true := by kernel_rfl
  rw [hi] at h
  simpa using h
end Go.Proofs.YtlnpefiipdkafaaGreatDoor
/-
  A struct and the slices of it: owned, small, its budget, copy and equality.
-/
namespace Go.Proofs.YtlnpefiipdkafaaGreatDoor
open Go.RowKit

def OInst (w : World) (cs : List Value) (x : InstD) (bs : List Nat) : Prop :=
  ∃ (vv2 : Value) (b2 : List Nat), cs = [.string x.name, .int .i64 x.cell, vv2] ∧ x.name.size ≤ maxLen ∧ OInts w vv2 x.nets b2 ∧ bs = b2
theorem OInst.reads {w : World} {cs : List Value} {x : InstD} {bs : List Nat} (h : OInst w cs x bs) : RInst w cs x := by
  obtain ⟨vv2, b2, e, z0, h2, _⟩ := h
  exact ⟨vv2, e, z0, h2.reads⟩
theorem OInst.same {w w' : World} {cs : List Value} {x : InstD} {bs : List Nat} (h : OInst w cs x bs) (g : SameOn bs w w') : OInst w' cs x bs := by
  obtain ⟨vv2, b2, e, z0, h2, rfl⟩ := h
  exact ⟨vv2, _, e, z0, h2.same (g.sub (by simp +contextual)), rfl⟩
theorem OInst.lt {w : World} {cs : List Value} {x : InstD} {bs : List Nat} (h : OInst w cs x bs) : ∀ g ∈ bs, g < w.heap.size := by
  obtain ⟨vv2, b2, e, z0, h2, rfl⟩ := h
  intro g hg
  exact h2.lt g hg
def SmInst (x : InstD) : Prop := x.name.size ≤ 1048576 ∧ SmL x.nets
theorem RInst.parts {w : World} {vv0 vv1 vv2 : Value} {x : InstD} (h : RInst w [vv0, vv1, vv2] x) : (vv0 = .string x.name) ∧ (vv1 = .int .i64 x.cell) ∧ RInts w vv2 x.nets ∧ x.name.size ≤ maxLen := by
  obtain ⟨vv2', he, z0, h2⟩ := h
  injection he with e0 he
  injection he with e1 he
  injection he with e2 he
  subst e2
  exact ⟨e0, e1, h2, z0⟩
theorem OInst.shape {w : World} {vv0 vv1 vv2 : Value} {x : InstD} {bs : List Nat} (h : OInst w [vv0, vv1, vv2] x bs) : vv0 = .string x.name ∧ vv1 = .int .i64 x.cell ∧ (∃ (A : Option Addr) (n : Nat), vv2 = .slice A x.nets.length n) := by
  obtain ⟨e0, e1, e2, -⟩ := h.reads.parts
  exact ⟨e0, e1, (by obtain ⟨A, c, h, -⟩ := RList.form e2; exact ⟨A, c, h⟩)⟩
def wtInst (x : InstD) : Nat := List.length x.nets
def OInsts : World → Value → List InstD → List Nat → Prop := OList 3 72 OInst
def SmInsts (xs : List InstD) : Prop := SmL xs ∧ ∀ x ∈ xs, SmInst x
def wtInsts (xs : List InstD) : Nat := wtL wtInst xs
theorem OInsts.reads {w : World} {v : Value} {xs : List InstD} {bs : List Nat} (h : OInsts w v xs bs) : RInsts w v xs := OList.reads h fun _ _ _ h => h.reads
theorem OInsts.same {w w' : World} {v : Value} {xs : List InstD} {bs : List Nat} (h : OInsts w v xs bs) (g : SameOn bs w w') : OInsts w' v xs bs := OList.same h g fun _ _ _ h g => h.same g
theorem OInsts.lt {w : World} {v : Value} {xs : List InstD} {bs : List Nat} (h : OInsts w v xs bs) : ∀ g ∈ bs, g < w.heap.size := OList.lt h fun _ _ _ h => h.lt
theorem info_Inst : (Tryz.prog.info? 72).map (fun i => (i.zero, i.size)) = some (some (.agg #[.string .empty, .int .i64 0, .slice none 0 0]), 3) := by kernel_rfl
theorem bytes_Inst : ∀ i, Tryz.prog.info? 72 = some i → i.bytes ≤ 256 := by
  intro i hi
  have h : (Tryz.prog.info? 72).map (fun i => decide (i.bytes ≤ 256)) = some true := by kernel_rfl
  rw [hi] at h
  simpa using h
end Go.Proofs.YtlnpefiipdkafaaGreatDoor
/-
  A struct and the slices of it: owned, small, its budget, copy and equality.
-/
namespace Go.Proofs.YtlnpefiipdkafaaGreatDoor
open Go.RowKit

def ODesign (w : World) (cs : List Value) (x : DesignD) (bs : List Nat) : Prop :=
  ∃ (vv0 vv1 vv2 : Value) (b0 b1 b2 : List Nat), cs = [vv0, vv1, vv2] ∧ OInsts w vv0 x.insts b0 ∧ OStrs w vv1 x.nets b1 ∧ OPorts w vv2 x.ports b2 ∧ bs = b0 ++ b1 ++ b2
theorem ODesign.reads {w : World} {cs : List Value} {x : DesignD} {bs : List Nat} (h : ODesign w cs x bs) : RDesign w cs x := by
  obtain ⟨vv0, vv1, vv2, b0, b1, b2, e, h0, h1, h2, _⟩ := h
  exact ⟨vv0, vv1, vv2, e, h0.reads, h1.reads, h2.reads⟩
theorem ODesign.same {w w' : World} {cs : List Value} {x : DesignD} {bs : List Nat} (h : ODesign w cs x bs) (g : SameOn bs w w') : ODesign w' cs x bs := by
  obtain ⟨vv0, vv1, vv2, b0, b1, b2, e, h0, h1, h2, rfl⟩ := h
  exact ⟨vv0, vv1, vv2, _, _, _, e, h0.same (g.sub (by simp +contextual)), h1.same (g.sub (by simp +contextual)), h2.same (g.sub (by simp +contextual)), rfl⟩
theorem ODesign.lt {w : World} {cs : List Value} {x : DesignD} {bs : List Nat} (h : ODesign w cs x bs) : ∀ g ∈ bs, g < w.heap.size := by
  obtain ⟨vv0, vv1, vv2, b0, b1, b2, e, h0, h1, h2, rfl⟩ := h
  intro g hg
  simp only [List.mem_append] at hg
  rcases hg with ((hg | hg) | hg)
  · exact h0.lt g hg
  · exact h1.lt g hg
  · exact h2.lt g hg
def SmDesign (x : DesignD) : Prop := SmInsts x.insts ∧ SmStrs x.nets ∧ SmPorts x.ports
theorem RDesign.parts {w : World} {vv0 vv1 vv2 : Value} {x : DesignD} (h : RDesign w [vv0, vv1, vv2] x) : RInsts w vv0 x.insts ∧ RStrs w vv1 x.nets ∧ RPorts w vv2 x.ports := by
  obtain ⟨vv0', vv1', vv2', he, h0, h1, h2⟩ := h
  injection he with e0 he
  injection he with e1 he
  injection he with e2 he
  subst e0 e1 e2
  exact ⟨h0, h1, h2⟩
theorem ODesign.shape {w : World} {vv0 vv1 vv2 : Value} {x : DesignD} {bs : List Nat} (h : ODesign w [vv0, vv1, vv2] x bs) : (∃ (A : Option Addr) (n : Nat), vv0 = .slice A x.insts.length n) ∧ (∃ (A : Option Addr) (n : Nat), vv1 = .slice A x.nets.length n) ∧ (∃ (A : Option Addr) (n : Nat), vv2 = .slice A x.ports.length n) := by
  obtain ⟨e0, e1, e2⟩ := h.reads.parts
  exact ⟨(by obtain ⟨A, c, h, -⟩ := RList.form e0; exact ⟨A, c, h⟩), (by obtain ⟨A, c, h, -⟩ := RList.form e1; exact ⟨A, c, h⟩), (by obtain ⟨A, c, h, -⟩ := RList.form e2; exact ⟨A, c, h⟩)⟩
def wtDesign (x : DesignD) : Nat := wtInsts x.insts + List.length x.nets + wtPorts x.ports
end Go.Proofs.YtlnpefiipdkafaaGreatDoor
