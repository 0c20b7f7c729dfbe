/-
  Slices of strings: owned, small, budget, copy, equality.
-/
import Derived.Test.YtocahjbmnkadjaaGreatDoorGB
namespace Go.Proofs.YtocahjbmnkadjaaGreatDoor
open Go.RowKit
def OS (_ : World) (cs : List Value) (x : ByteArray) (b : List Nat) : Prop := cs = [.string x] ∧ x.size ≤ maxLen ∧ b = []
def OStrs : World → Value → List ByteArray → List Nat → Prop := OList 1 9 OS
def SmStr (s : ByteArray) : Prop := s.size ≤ 1048576
def SmStrs (xs : List ByteArray) : Prop := SmL xs ∧ ∀ x ∈ xs, SmStr x
theorem OStrs.reads {w : World} {v : Value} {xs : List ByteArray} {bs : List Nat} (h : OStrs w v xs bs) : RStrs w v xs := OList.reads h fun _ _ _ h => ⟨h.1, h.2.1⟩
theorem OStrs.same {w w' : World} {v : Value} {xs : List ByteArray} {bs : List Nat} (h : OStrs w v xs bs) (g : SameOn bs w w') : OStrs w' v xs bs := OList.same h g fun _ _ _ h _ => h
theorem OStrs.lt {w : World} {v : Value} {xs : List ByteArray} {bs : List Nat} (h : OStrs w v xs bs) : ∀ g ∈ bs, g < w.heap.size := OList.lt h fun _ _ _ h g hg => by rw [h.2.2] at hg; cases hg
set_option maxHeartbeats 1000000 in
theorem eqStrs_same {v1 v2 : Value} {xs : List ByteArray} (w : World) (h1 : RStrs w v1 xs) (h2 : RStrs w v2 xs) :
    Calls Tryz.prog 22 #[v1, v2] w fun e w' => e = .returned (.bool true) ∧ Grows w w' := by
  have l1 := h1.len
  obtain ⟨A, c, rfl, hle, hc, hx⟩ := h1.form
  obtain ⟨A2, c2, rfl, hle2, hc2, hy⟩ := h2.form
  have HX := hideIt hx
  have HY := hideIt hy
  have hb : ((xs.length : Int) != (xs.length : Int)) = false := by simp
  clear hx hy h1 h2 hle hle2 hc hc2
  go_enter Tryz.func22, Tryz.ntmps22
  go_wp2
  go_loopw [5] (fun i wr => ∃ k : Nat, k ≤ xs.length ∧ i = .int .i64 k ∧ Grows w wr) (fun i _ => xs.length - (intOf i).toNat)
  case atStart => exact ⟨0, Nat.zero_le _, rfl, Grows.refl _⟩
  case round =>
    obtain ⟨k, hk, rfl, hg⟩ := hrel
    by_cases hlt : k < xs.length
    · obtain ⟨x, hx⟩ : ∃ x, xs[k]? = some x := ⟨_, List.getElem?_eq_getElem hlt⟩
      obtain ⟨b, off, rfl, cs, hl1, hcs, hr, -⟩ := HX.out k x hx
      obtain ⟨b2, off2, rfl, cs2, hl2, hcs2, hr2, -⟩ := HY.out k x hx
      subst hr hr2
      have hs : wr.cell? ⟨b, off + k, none⟩ = some (.string x) := by simpa using hg.keeps _ _ (hcs 0 _ rfl)
      have hs2 : wr.cell? ⟨b2, off2 + k, none⟩ = some (.string x) := by simpa using hg.keeps _ _ (hcs2 0 _ rfl)
      clear hcs hcs2 hl1 hl2 hx
      go_wp2
      go_quiet (fail)
      go_wp2
      go_roundw
      case rel => exact ⟨k + 1, by omega, by go_num, by first | exact hg.drewN _ | exact (hg.drewN _).drewN _⟩
      case measure => simp [intOf]; omega
    · have hk2 : k = xs.length := by omega
      subst hk2
      go_wp2
      go_ret
      exact ⟨rfl, hg⟩
end Go.Proofs.YtocahjbmnkadjaaGreatDoor
/-
  A struct and the slices of it: owned, small, its budget, copy and equality.
-/
namespace Go.Proofs.YtocahjbmnkadjaaGreatDoor
open Go.RowKit

def OPort (_ : World) (cs : List Value) (x : PortD) (bs : List Nat) : Prop :=
  cs = [.string x.name, .int .i64 x.dir, .int .i64 x.net] ∧ x.name.size ≤ maxLen ∧ bs = []
theorem OPort.reads {w : World} {cs : List Value} {x : PortD} {bs : List Nat} (h : OPort w cs x bs) : RPort w cs x := by
  obtain ⟨e, z0, _⟩ := h
  exact ⟨e, z0⟩
theorem OPort.same {w w' : World} {cs : List Value} {x : PortD} {bs : List Nat} (h : OPort w cs x bs) (_ : SameOn bs w w') : OPort w' cs x bs := by
  exact h
theorem OPort.lt {w : World} {cs : List Value} {x : PortD} {bs : List Nat} (h : OPort w cs x bs) : ∀ g ∈ bs, g < w.heap.size := by
  obtain ⟨e, z0, rfl⟩ := h
  intro g hg
  cases hg
def SmPort (x : PortD) : Prop := x.name.size ≤ 1048576
theorem RPort.parts {w : World} {vv0 vv1 vv2 : Value} {x : PortD} (h : RPort w [vv0, vv1, vv2] x) : (vv0 = .string x.name) ∧ (vv1 = .int .i64 x.dir) ∧ (vv2 = .int .i64 x.net) ∧ x.name.size ≤ maxLen := by
  obtain ⟨he, z0⟩ := h
  injection he with e0 he
  injection he with e1 he
  injection he with e2 he
  exact ⟨e0, e1, e2, z0⟩
theorem OPort.shape {w : World} {vv0 vv1 vv2 : Value} {x : PortD} {bs : List Nat} (h : OPort w [vv0, vv1, vv2] x bs) : vv0 = .string x.name ∧ vv1 = .int .i64 x.dir ∧ vv2 = .int .i64 x.net := by
  obtain ⟨e0, e1, e2, -⟩ := h.reads.parts
  exact ⟨e0, e1, e2⟩
def wtPort (_ : PortD) : Nat := 0
set_option maxHeartbeats 1000000 in
theorem eqPort_same {vv0 vv1 vv2 uu0 uu1 uu2 : Value} {x : PortD} (w : World) (h : RPort w [vv0, vv1, vv2] x) (h2 : RPort w [uu0, uu1, uu2] x) :
    Calls Tryz.prog 48 #[.agg #[vv0, vv1, vv2], .agg #[uu0, uu1, uu2]] w fun e w' => e = .returned (.bool true) ∧ Grows w w' := by
  obtain ⟨rfl, rfl, rfl, kz0⟩ := h.parts
  obtain ⟨rfl, rfl, rfl, mz0⟩ := h2.parts
  clear kz0 mz0
  have g0 : Grows w ((w.alloc (.cells #[.string x.name, .int .i64 x.dir, .int .i64 x.net] 75)).alloc (.cells #[.string x.name, .int .i64 x.dir, .int .i64 x.net] 75)) := ((Grows.refl w).alloc _).alloc _
  have s0 : Blk ((w.alloc (.cells #[.string x.name, .int .i64 x.dir, .int .i64 x.net] 75)).alloc (.cells #[.string x.name, .int .i64 x.dir, .int .i64 x.net] 75)) (w.heap.size) 75 #[.string x.name, .int .i64 x.dir, .int .i64 x.net] := (Blk.new w _ _).grows ((Grows.refl _).alloc _)
  have r0 : Blk ((w.alloc (.cells #[.string x.name, .int .i64 x.dir, .int .i64 x.net] 75)).alloc (.cells #[.string x.name, .int .i64 x.dir, .int .i64 x.net] 75)) (w.heap.size + 1) 75 #[.string x.name, .int .i64 x.dir, .int .i64 x.net] := by have := Blk.new (w.alloc (.cells #[.string x.name, .int .i64 x.dir, .int .i64 x.net] 75)) 75 #[.string x.name, .int .i64 x.dir, .int .i64 x.net]; simpa using this
  have G0 := hideIt g0
  have S0 := hideIt s0
  have R0 := hideIt r0
  clear g0 s0 r0
  go_enter Tryz.func48, Tryz.ntmps48
  go_wp2
  go_ret
  exact ⟨rfl, G0.out⟩
def OPorts : World → Value → List PortD → List Nat → Prop := OList 3 75 OPort
def SmPorts (xs : List PortD) : Prop := SmL xs ∧ ∀ x ∈ xs, SmPort x
def wtPorts (xs : List PortD) : Nat := wtL wtPort xs
theorem OPorts.reads {w : World} {v : Value} {xs : List PortD} {bs : List Nat} (h : OPorts w v xs bs) : RPorts w v xs := OList.reads h fun _ _ _ h => h.reads
theorem OPorts.same {w w' : World} {v : Value} {xs : List PortD} {bs : List Nat} (h : OPorts w v xs bs) (g : SameOn bs w w') : OPorts w' v xs bs := OList.same h g fun _ _ _ h g => h.same g
theorem OPorts.lt {w : World} {v : Value} {xs : List PortD} {bs : List Nat} (h : OPorts w v xs bs) : ∀ g ∈ bs, g < w.heap.size := OList.lt h fun _ _ _ h => h.lt
theorem info_Port : (Tryz.prog.info? 75).map (fun i => (i.zero, i.size)) = some (some (.agg #[.string .empty, .int .i64 0, .int .i64 0]), 3) := by kernel_rfl
theorem bytes_Port : ∀ i, Tryz.prog.info? 75 = some i → i.bytes ≤ 256 := by
  intro i hi
  have h : (Tryz.prog.info? 75).map (fun i => decide (i.bytes ≤ 256)) = some true := by kernel_rfl
  rw [hi] at h
  simpa using h
set_option maxHeartbeats 4000000 in
theorem eqPorts_same {v1 v2 : Value} {xs : List PortD} (w : World) (h1 : RPorts w v1 xs) (h2 : RPorts w v2 xs) :
    Calls Tryz.prog 23 #[v1, v2] w fun e w' => e = .returned (.bool true) ∧ Grows w w' := by
  have l1 := h1.len
  obtain ⟨A, c, rfl, hle, hc, hx⟩ := h1.form
  obtain ⟨A2, c2, rfl, hle2, hc2, hy⟩ := h2.form
  have HX := hideIt hx
  have HY := hideIt hy
  have hb : ((xs.length : Int) != (xs.length : Int)) = false := by simp
  clear hx hy h1 h2 hle hle2 hc hc2
  go_enter Tryz.func23, Tryz.ntmps23
  go_wp2
  go_loopw [5] (fun i wr => ∃ k : Nat, k ≤ xs.length ∧ i = .int .i64 k ∧ Grows w wr) (fun i _ => xs.length - (intOf i).toNat)
  case atStart => exact ⟨0, Nat.zero_le _, rfl, Grows.refl _⟩
  case round =>
    obtain ⟨k, hk, rfl, hg⟩ := hrel
    by_cases hlt : k < xs.length
    · obtain ⟨x, hx⟩ : ∃ x, xs[k]? = some x := ⟨_, List.getElem?_eq_getElem hlt⟩
      obtain ⟨b, off, rfl, cs, hl1, hcs, hr⟩ := HX.out k x hx
      obtain ⟨b2, off2, rfl, cs2, hl2, hcs2, hr2⟩ := HY.out k x hx
      obtain ⟨c0, c1, c2, rfl⟩ := list3 hl1
      obtain ⟨d0, d1, d2, rfl⟩ := list3 hl2
      have HR : Hid (RPort wr [c0, c1, c2] x) := hideIt (hr.keep hg.keeps)
      have HR2 : Hid (RPort wr [d0, d1, d2] x) := hideIt (hr2.keep hg.keeps)
      have zc0 : wr.cell? ⟨b, off + k * 3, none⟩ = some c0 := by simpa [Nat.add_assoc] using hg.keeps _ _ (hcs 0 _ rfl)
      have zc1 : wr.cell? ⟨b, off + k * 3 + 1, none⟩ = some c1 := by simpa [Nat.add_assoc] using hg.keeps _ _ (hcs 1 _ rfl)
      have zc2 : wr.cell? ⟨b, off + k * 3 + 2, none⟩ = some c2 := by simpa [Nat.add_assoc] using hg.keeps _ _ (hcs 2 _ rfl)
      have zd0 : wr.cell? ⟨b2, off2 + k * 3, none⟩ = some d0 := by simpa [Nat.add_assoc] using hg.keeps _ _ (hcs2 0 _ rfl)
      have zd1 : wr.cell? ⟨b2, off2 + k * 3 + 1, none⟩ = some d1 := by simpa [Nat.add_assoc] using hg.keeps _ _ (hcs2 1 _ rfl)
      have zd2 : wr.cell? ⟨b2, off2 + k * 3 + 2, none⟩ = some d2 := by simpa [Nat.add_assoc] using hg.keeps _ _ (hcs2 2 _ rfl)
      have K0 : ∀ w', Grows wr w' → w'.cell? ⟨b, off + k * 3, none⟩ = some c0 ∧ w'.cell? ⟨b, off + k * 3 + 1, none⟩ = some c1 ∧ w'.cell? ⟨b, off + k * 3 + 2, none⟩ = some c2 ∧ w'.cell? ⟨b2, off2 + k * 3, none⟩ = some d0 ∧ w'.cell? ⟨b2, off2 + k * 3 + 1, none⟩ = some d1 ∧ w'.cell? ⟨b2, off2 + k * 3 + 2, none⟩ = some d2 ∧ Grows wr w' := fun w' G => ⟨G.keeps _ _ zc0, G.keeps _ _ zc1, G.keeps _ _ zc2, G.keeps _ _ zd0, G.keeps _ _ zd1, G.keeps _ _ zd2, G⟩
      have HK := hideIt K0
      have HG := hideIt hg
      have gg : Grows wr wr := Grows.refl _
      clear K0 hcs hcs2 hl1 hl2 hr hr2 hx hg
      go_wp2_with fail
      go_region_held3 (fun w' => w'.cell? ⟨b, off + k * 3, none⟩ = some c0 ∧ w'.cell? ⟨b, off + k * 3 + 1, none⟩ = some c1 ∧ w'.cell? ⟨b, off + k * 3 + 2, none⟩ = some c2 ∧ w'.cell? ⟨b2, off2 + k * 3, none⟩ = some d0 ∧ w'.cell? ⟨b2, off2 + k * 3 + 1, none⟩ = some d1 ∧ w'.cell? ⟨b2, off2 + k * 3 + 2, none⟩ = some d2 ∧ Grows wr w')
        ((refine HK.out _ ?_; (repeat (first | exact gg | refine Grows.drew ?_ | refine Grows.alloc ?_ _ | refine Grows.setCell ?_ (by simp <;> omega) _))))
        (first | (go_at_call 48; refine (eqPort_same _ (HR.out.keep (Grows.keeps (by (repeat (first | exact gg | refine Grows.drew ?_))))) (HR2.out.keep (Grows.keeps (by (repeat (first | exact gg | refine Grows.drew ?_)))))).mono ?_; rintro e wx ⟨rfl, g⟩; replace gg : Grows wr wx := Grows.trans (by (repeat (first | exact gg | refine Grows.drew ?_))) g))
      all_goals go_split_ands
      all_goals go_wp2
      all_goals go_roundw
      all_goals first
        | (case rel => exact ⟨k + 1, by omega, by go_num, HG.out.trans (by repeat (first | exact gg | refine Grows.drew ?_))⟩)
        | (simp [intOf]; omega)
    · have hk2 : k = xs.length := by omega
      subst hk2
      go_wp2
      go_ret
      exact ⟨rfl, hg⟩
end Go.Proofs.YtocahjbmnkadjaaGreatDoor
/-
  A struct and the slices of it: owned, small, its budget, copy and equality.
-/
namespace Go.Proofs.YtocahjbmnkadjaaGreatDoor
open Go.RowKit

def OInst (w : World) (cs : List Value) (x : InstD) (bs : List Nat) : Prop :=
  ∃ (vv2 : Value) (b2 : List Nat), cs = [.string x.name, .int .i64 x.cell, vv2] ∧ x.name.size ≤ maxLen ∧ OInts w vv2 x.nets b2 ∧ bs = b2
theorem OInst.reads {w : World} {cs : List Value} {x : InstD} {bs : List Nat} (h : OInst w cs x bs) : RInst w cs x := by
  obtain ⟨vv2, b2, e, z0, h2, _⟩ := h
  exact ⟨vv2, e, z0, h2.reads⟩
theorem OInst.same {w w' : World} {cs : List Value} {x : InstD} {bs : List Nat} (h : OInst w cs x bs) (g : SameOn bs w w') : OInst w' cs x bs := by
  obtain ⟨vv2, b2, e, z0, h2, rfl⟩ := h
  exact ⟨vv2, _, e, z0, h2.same (g.sub (by simp +contextual)), rfl⟩
theorem OInst.lt {w : World} {cs : List Value} {x : InstD} {bs : List Nat} (h : OInst w cs x bs) : ∀ g ∈ bs, g < w.heap.size := by
  obtain ⟨vv2, b2, e, z0, h2, rfl⟩ := h
  intro g hg
  exact h2.lt g hg
def SmInst (x : InstD) : Prop := x.name.size ≤ 1048576 ∧ SmL x.nets
theorem RInst.parts {w : World} {vv0 vv1 vv2 : Value} {x : InstD} (h : RInst w [vv0, vv1, vv2] x) : (vv0 = .string x.name) ∧ (vv1 = .int .i64 x.cell) ∧ RInts w vv2 x.nets ∧ x.name.size ≤ maxLen := by
  obtain ⟨vv2', he, z0, h2⟩ := h
  injection he with e0 he
  injection he with e1 he
  injection he with e2 he
  subst e2
  exact ⟨e0, e1, h2, z0⟩
theorem OInst.shape {w : World} {vv0 vv1 vv2 : Value} {x : InstD} {bs : List Nat} (h : OInst w [vv0, vv1, vv2] x bs) : vv0 = .string x.name ∧ vv1 = .int .i64 x.cell ∧ (∃ (A : Option Addr) (n : Nat), vv2 = .slice A x.nets.length n) := by
  obtain ⟨e0, e1, e2, -⟩ := h.reads.parts
  exact ⟨e0, e1, (by obtain ⟨A, c, h, -⟩ := RList.form e2; exact ⟨A, c, h⟩)⟩
def wtInst (x : InstD) : Nat := List.length x.nets
set_option maxHeartbeats 1000000 in
theorem eqInst_same {vv0 vv1 vv2 uu0 uu1 uu2 : Value} {x : InstD} (w : World) (h : RInst w [vv0, vv1, vv2] x) (h2 : RInst w [uu0, uu1, uu2] x) :
    Calls Tryz.prog 47 #[.agg #[vv0, vv1, vv2], .agg #[uu0, uu1, uu2]] w fun e w' => e = .returned (.bool true) ∧ Grows w w' := by
  obtain ⟨rfl, rfl, k2, kz0⟩ := h.parts
  obtain ⟨rfl, rfl, m2, mz0⟩ := h2.parts
  have H0 := hideIt k2
  have M0 := hideIt m2
  clear k2 m2
  clear kz0 mz0
  have g0 : Grows w ((w.alloc (.cells #[.string x.name, .int .i64 x.cell, vv2] 77)).alloc (.cells #[.string x.name, .int .i64 x.cell, uu2] 77)) := ((Grows.refl w).alloc _).alloc _
  have s0 : Blk ((w.alloc (.cells #[.string x.name, .int .i64 x.cell, vv2] 77)).alloc (.cells #[.string x.name, .int .i64 x.cell, uu2] 77)) (w.heap.size) 77 #[.string x.name, .int .i64 x.cell, vv2] := (Blk.new w _ _).grows ((Grows.refl _).alloc _)
  have r0 : Blk ((w.alloc (.cells #[.string x.name, .int .i64 x.cell, vv2] 77)).alloc (.cells #[.string x.name, .int .i64 x.cell, uu2] 77)) (w.heap.size + 1) 77 #[.string x.name, .int .i64 x.cell, uu2] := by have := Blk.new (w.alloc (.cells #[.string x.name, .int .i64 x.cell, vv2] 77)) 77 #[.string x.name, .int .i64 x.cell, uu2]; simpa using this
  have G0 := hideIt g0
  have S0 := hideIt s0
  have R0 := hideIt r0
  clear g0 s0 r0
  go_enter Tryz.func47, Tryz.ntmps47
  go_wp2_with fail
  refine (eqInts_same _ (H0.out.keep G0.out.keeps) (M0.out.keep G0.out.keeps)).mono ?_
  rintro e u0 ⟨rfl, g0⟩
  have s1 := S0.out.grows g0
  have ks0_0 : u0.cell? ⟨w.heap.size, 0, none⟩ = some (.string x.name) := s1.cell 0
  have ks0_1 : u0.cell? ⟨w.heap.size, 1, none⟩ = some (.int .i64 x.cell) := s1.cell 1
  have ks0_2 : u0.cell? ⟨w.heap.size, 2, none⟩ = some (vv2) := s1.cell 2
  have r1 := R0.out.grows g0
  have kr0_0 : u0.cell? ⟨w.heap.size + 1, 0, none⟩ = some (.string x.name) := r1.cell 0
  have kr0_1 : u0.cell? ⟨w.heap.size + 1, 1, none⟩ = some (.int .i64 x.cell) := r1.cell 1
  have kr0_2 : u0.cell? ⟨w.heap.size + 1, 2, none⟩ = some (uu2) := r1.cell 2
  have G1 := hideIt (G0.out.trans g0)
  have S1 := hideIt s1
  have R1 := hideIt r1
  clear s1 r1 g0
  go_wp2
  go_ret
  exact ⟨rfl, G1.out⟩
def OInsts : World → Value → List InstD → List Nat → Prop := OList 3 77 OInst
def SmInsts (xs : List InstD) : Prop := SmL xs ∧ ∀ x ∈ xs, SmInst x
def wtInsts (xs : List InstD) : Nat := wtL wtInst xs
theorem OInsts.reads {w : World} {v : Value} {xs : List InstD} {bs : List Nat} (h : OInsts w v xs bs) : RInsts w v xs := OList.reads h fun _ _ _ h => h.reads
theorem OInsts.same {w w' : World} {v : Value} {xs : List InstD} {bs : List Nat} (h : OInsts w v xs bs) (g : SameOn bs w w') : OInsts w' v xs bs := OList.same h g fun _ _ _ h g => h.same g
theorem OInsts.lt {w : World} {v : Value} {xs : List InstD} {bs : List Nat} (h : OInsts w v xs bs) : ∀ g ∈ bs, g < w.heap.size := OList.lt h fun _ _ _ h => h.lt
theorem info_Inst : (Tryz.prog.info? 77).map (fun i => (i.zero, i.size)) = some (some (.agg #[.string .empty, .int .i64 0, .slice none 0 0]), 3) := by kernel_rfl
theorem bytes_Inst : ∀ i, Tryz.prog.info? 77 = some i → i.bytes ≤ 256 := by
  intro i hi
  have h : (Tryz.prog.info? 77).map (fun i => decide (i.bytes ≤ 256)) = some true := by kernel_rfl
  rw [hi] at h
  simpa using h
set_option maxHeartbeats 4000000 in
theorem eqInsts_same {v1 v2 : Value} {xs : List InstD} (w : World) (h1 : RInsts w v1 xs) (h2 : RInsts w v2 xs) :
    Calls Tryz.prog 21 #[v1, v2] w fun e w' => e = .returned (.bool true) ∧ Grows w w' := by
  have l1 := h1.len
  obtain ⟨A, c, rfl, hle, hc, hx⟩ := h1.form
  obtain ⟨A2, c2, rfl, hle2, hc2, hy⟩ := h2.form
  have HX := hideIt hx
  have HY := hideIt hy
  have hb : ((xs.length : Int) != (xs.length : Int)) = false := by simp
  clear hx hy h1 h2 hle hle2 hc hc2
  go_enter Tryz.func21, Tryz.ntmps21
  go_wp2
  go_loopw [5] (fun i wr => ∃ k : Nat, k ≤ xs.length ∧ i = .int .i64 k ∧ Grows w wr) (fun i _ => xs.length - (intOf i).toNat)
  case atStart => exact ⟨0, Nat.zero_le _, rfl, Grows.refl _⟩
  case round =>
    obtain ⟨k, hk, rfl, hg⟩ := hrel
    by_cases hlt : k < xs.length
    · obtain ⟨x, hx⟩ : ∃ x, xs[k]? = some x := ⟨_, List.getElem?_eq_getElem hlt⟩
      obtain ⟨b, off, rfl, cs, hl1, hcs, hr⟩ := HX.out k x hx
      obtain ⟨b2, off2, rfl, cs2, hl2, hcs2, hr2⟩ := HY.out k x hx
      obtain ⟨c0, c1, c2, rfl⟩ := list3 hl1
      obtain ⟨d0, d1, d2, rfl⟩ := list3 hl2
      have HR : Hid (RInst wr [c0, c1, c2] x) := hideIt (hr.keep hg.keeps)
      have HR2 : Hid (RInst wr [d0, d1, d2] x) := hideIt (hr2.keep hg.keeps)
      have zc0 : wr.cell? ⟨b, off + k * 3, none⟩ = some c0 := by simpa [Nat.add_assoc] using hg.keeps _ _ (hcs 0 _ rfl)
      have zc1 : wr.cell? ⟨b, off + k * 3 + 1, none⟩ = some c1 := by simpa [Nat.add_assoc] using hg.keeps _ _ (hcs 1 _ rfl)
      have zc2 : wr.cell? ⟨b, off + k * 3 + 2, none⟩ = some c2 := by simpa [Nat.add_assoc] using hg.keeps _ _ (hcs 2 _ rfl)
      have zd0 : wr.cell? ⟨b2, off2 + k * 3, none⟩ = some d0 := by simpa [Nat.add_assoc] using hg.keeps _ _ (hcs2 0 _ rfl)
      have zd1 : wr.cell? ⟨b2, off2 + k * 3 + 1, none⟩ = some d1 := by simpa [Nat.add_assoc] using hg.keeps _ _ (hcs2 1 _ rfl)
      have zd2 : wr.cell? ⟨b2, off2 + k * 3 + 2, none⟩ = some d2 := by simpa [Nat.add_assoc] using hg.keeps _ _ (hcs2 2 _ rfl)
      have K0 : ∀ w', Grows wr w' → w'.cell? ⟨b, off + k * 3, none⟩ = some c0 ∧ w'.cell? ⟨b, off + k * 3 + 1, none⟩ = some c1 ∧ w'.cell? ⟨b, off + k * 3 + 2, none⟩ = some c2 ∧ w'.cell? ⟨b2, off2 + k * 3, none⟩ = some d0 ∧ w'.cell? ⟨b2, off2 + k * 3 + 1, none⟩ = some d1 ∧ w'.cell? ⟨b2, off2 + k * 3 + 2, none⟩ = some d2 ∧ Grows wr w' := fun w' G => ⟨G.keeps _ _ zc0, G.keeps _ _ zc1, G.keeps _ _ zc2, G.keeps _ _ zd0, G.keeps _ _ zd1, G.keeps _ _ zd2, G⟩
      have HK := hideIt K0
      have HG := hideIt hg
      have gg : Grows wr wr := Grows.refl _
      clear K0 hcs hcs2 hl1 hl2 hr hr2 hx hg
      go_wp2_with fail
      go_region_held3 (fun w' => w'.cell? ⟨b, off + k * 3, none⟩ = some c0 ∧ w'.cell? ⟨b, off + k * 3 + 1, none⟩ = some c1 ∧ w'.cell? ⟨b, off + k * 3 + 2, none⟩ = some c2 ∧ w'.cell? ⟨b2, off2 + k * 3, none⟩ = some d0 ∧ w'.cell? ⟨b2, off2 + k * 3 + 1, none⟩ = some d1 ∧ w'.cell? ⟨b2, off2 + k * 3 + 2, none⟩ = some d2 ∧ Grows wr w')
        ((refine HK.out _ ?_; (repeat (first | exact gg | refine Grows.drew ?_ | refine Grows.alloc ?_ _ | refine Grows.setCell ?_ (by simp <;> omega) _))))
        (first | (go_at_call 47; refine (eqInst_same _ (HR.out.keep (Grows.keeps (by (repeat (first | exact gg | refine Grows.drew ?_))))) (HR2.out.keep (Grows.keeps (by (repeat (first | exact gg | refine Grows.drew ?_)))))).mono ?_; rintro e wx ⟨rfl, g⟩; replace gg : Grows wr wx := Grows.trans (by (repeat (first | exact gg | refine Grows.drew ?_))) g))
      all_goals go_split_ands
      all_goals go_wp2
      all_goals go_roundw
      all_goals first
        | (case rel => exact ⟨k + 1, by omega, by go_num, HG.out.trans (by repeat (first | exact gg | refine Grows.drew ?_))⟩)
        | (simp [intOf]; omega)
    · have hk2 : k = xs.length := by omega
      subst hk2
      go_wp2
      go_ret
      exact ⟨rfl, hg⟩
end Go.Proofs.YtocahjbmnkadjaaGreatDoor
/-
  A struct and the slices of it: owned, small, its budget, copy and equality.
-/
namespace Go.Proofs.YtocahjbmnkadjaaGreatDoor
open Go.RowKit

def ODesign (w : World) (cs : List Value) (x : DesignD) (bs : List Nat) : Prop :=
  ∃ (vv0 vv1 vv2 : Value) (b0 b1 b2 : List Nat), cs = [vv0, vv1, vv2] ∧ OInsts w vv0 x.insts b0 ∧ OStrs w vv1 x.nets b1 ∧ OPorts w vv2 x.ports b2 ∧ bs = b0 ++ b1 ++ b2
theorem ODesign.reads {w : World} {cs : List Value} {x : DesignD} {bs : List Nat} (h : ODesign w cs x bs) : RDesign w cs x := by
  obtain ⟨vv0, vv1, vv2, b0, b1, b2, e, h0, h1, h2, _⟩ := h
  exact ⟨vv0, vv1, vv2, e, h0.reads, h1.reads, h2.reads⟩
theorem ODesign.same {w w' : World} {cs : List Value} {x : DesignD} {bs : List Nat} (h : ODesign w cs x bs) (g : SameOn bs w w') : ODesign w' cs x bs := by
  obtain ⟨vv0, vv1, vv2, b0, b1, b2, e, h0, h1, h2, rfl⟩ := h
  exact ⟨vv0, vv1, vv2, _, _, _, e, h0.same (g.sub (by simp +contextual)), h1.same (g.sub (by simp +contextual)), h2.same (g.sub (by simp +contextual)), rfl⟩
theorem ODesign.lt {w : World} {cs : List Value} {x : DesignD} {bs : List Nat} (h : ODesign w cs x bs) : ∀ g ∈ bs, g < w.heap.size := by
  obtain ⟨vv0, vv1, vv2, b0, b1, b2, e, h0, h1, h2, rfl⟩ := h
  intro g hg
  simp only [List.mem_append] at hg
  rcases hg with ((hg | hg) | hg)
  · exact h0.lt g hg
  · exact h1.lt g hg
  · exact h2.lt g hg
def SmDesign (x : DesignD) : Prop := SmInsts x.insts ∧ SmStrs x.nets ∧ SmPorts x.ports
theorem RDesign.parts {w : World} {vv0 vv1 vv2 : Value} {x : DesignD} (h : RDesign w [vv0, vv1, vv2] x) : RInsts w vv0 x.insts ∧ RStrs w vv1 x.nets ∧ RPorts w vv2 x.ports := by
  obtain ⟨vv0', vv1', vv2', he, h0, h1, h2⟩ := h
  injection he with e0 he
  injection he with e1 he
  injection he with e2 he
  subst e0 e1 e2
  exact ⟨h0, h1, h2⟩
theorem ODesign.shape {w : World} {vv0 vv1 vv2 : Value} {x : DesignD} {bs : List Nat} (h : ODesign w [vv0, vv1, vv2] x bs) : (∃ (A : Option Addr) (n : Nat), vv0 = .slice A x.insts.length n) ∧ (∃ (A : Option Addr) (n : Nat), vv1 = .slice A x.nets.length n) ∧ (∃ (A : Option Addr) (n : Nat), vv2 = .slice A x.ports.length n) := by
  obtain ⟨e0, e1, e2⟩ := h.reads.parts
  exact ⟨(by obtain ⟨A, c, h, -⟩ := RList.form e0; exact ⟨A, c, h⟩), (by obtain ⟨A, c, h, -⟩ := RList.form e1; exact ⟨A, c, h⟩), (by obtain ⟨A, c, h, -⟩ := RList.form e2; exact ⟨A, c, h⟩)⟩
def wtDesign (x : DesignD) : Nat := wtInsts x.insts + List.length x.nets + wtPorts x.ports
set_option maxHeartbeats 1000000 in
theorem eqDesign_same {vv0 vv1 vv2 uu0 uu1 uu2 : Value} {x : DesignD} (w : World) (h : RDesign w [vv0, vv1, vv2] x) (h2 : RDesign w [uu0, uu1, uu2] x) :
    Calls Tryz.prog 8 #[.agg #[vv0, vv1, vv2], .agg #[uu0, uu1, uu2]] w fun e w' => e = .returned (.bool true) ∧ Grows w w' := by
  obtain ⟨k0, k1, k2⟩ := h.parts
  obtain ⟨m0, m1, m2⟩ := h2.parts
  have H0 := hideIt k0
  have M0 := hideIt m0
  have H1 := hideIt k1
  have M1 := hideIt m1
  have H2 := hideIt k2
  have M2 := hideIt m2
  clear k0 m0 k1 m1 k2 m2
  have g0 : Grows w ((w.alloc (.cells #[vv0, vv1, vv2] 30)).alloc (.cells #[uu0, uu1, uu2] 30)) := ((Grows.refl w).alloc _).alloc _
  have s0 : Blk ((w.alloc (.cells #[vv0, vv1, vv2] 30)).alloc (.cells #[uu0, uu1, uu2] 30)) (w.heap.size) 30 #[vv0, vv1, vv2] := (Blk.new w _ _).grows ((Grows.refl _).alloc _)
  have r0 : Blk ((w.alloc (.cells #[vv0, vv1, vv2] 30)).alloc (.cells #[uu0, uu1, uu2] 30)) (w.heap.size + 1) 30 #[uu0, uu1, uu2] := by have := Blk.new (w.alloc (.cells #[vv0, vv1, vv2] 30)) 30 #[uu0, uu1, uu2]; simpa using this
  have G0 := hideIt g0
  have S0 := hideIt s0
  have R0 := hideIt r0
  clear g0 s0 r0
  go_enter Tryz.func8, Tryz.ntmps8
  go_wp2_with fail
  refine (eqInsts_same _ (H0.out.keep G0.out.keeps) (M0.out.keep G0.out.keeps)).mono ?_
  rintro e u0 ⟨rfl, g0⟩
  have s1 := S0.out.grows g0
  have ks0_0 : u0.cell? ⟨w.heap.size, 0, none⟩ = some (vv0) := s1.cell 0
  have ks0_1 : u0.cell? ⟨w.heap.size, 1, none⟩ = some (vv1) := s1.cell 1
  have ks0_2 : u0.cell? ⟨w.heap.size, 2, none⟩ = some (vv2) := s1.cell 2
  have r1 := R0.out.grows g0
  have kr0_0 : u0.cell? ⟨w.heap.size + 1, 0, none⟩ = some (uu0) := r1.cell 0
  have kr0_1 : u0.cell? ⟨w.heap.size + 1, 1, none⟩ = some (uu1) := r1.cell 1
  have kr0_2 : u0.cell? ⟨w.heap.size + 1, 2, none⟩ = some (uu2) := r1.cell 2
  have G1 := hideIt (G0.out.trans g0)
  have S1 := hideIt s1
  have R1 := hideIt r1
  clear s1 r1 g0
  go_wp2_with fail
  clear ks0_0 kr0_0 ks0_1 kr0_1 ks0_2 kr0_2
  refine (eqStrs_same _ (H1.out.keep G1.out.keeps) (M1.out.keep G1.out.keeps)).mono ?_
  rintro e u1 ⟨rfl, g1⟩
  have s2 := S1.out.grows g1
  have ks1_0 : u1.cell? ⟨w.heap.size, 0, none⟩ = some (vv0) := s2.cell 0
  have ks1_1 : u1.cell? ⟨w.heap.size, 1, none⟩ = some (vv1) := s2.cell 1
  have ks1_2 : u1.cell? ⟨w.heap.size, 2, none⟩ = some (vv2) := s2.cell 2
  have r2 := R1.out.grows g1
  have kr1_0 : u1.cell? ⟨w.heap.size + 1, 0, none⟩ = some (uu0) := r2.cell 0
  have kr1_1 : u1.cell? ⟨w.heap.size + 1, 1, none⟩ = some (uu1) := r2.cell 1
  have kr1_2 : u1.cell? ⟨w.heap.size + 1, 2, none⟩ = some (uu2) := r2.cell 2
  have G2 := hideIt (G1.out.trans g1)
  have S2 := hideIt s2
  have R2 := hideIt r2
  clear s2 r2 g1
  go_wp2_with fail
  clear ks1_0 kr1_0 ks1_1 kr1_1 ks1_2 kr1_2
  refine (eqPorts_same _ (H2.out.keep G2.out.keeps) (M2.out.keep G2.out.keeps)).mono ?_
  rintro e u2 ⟨rfl, g2⟩
  have s3 := S2.out.grows g2
  have ks2_0 : u2.cell? ⟨w.heap.size, 0, none⟩ = some (vv0) := s3.cell 0
  have ks2_1 : u2.cell? ⟨w.heap.size, 1, none⟩ = some (vv1) := s3.cell 1
  have ks2_2 : u2.cell? ⟨w.heap.size, 2, none⟩ = some (vv2) := s3.cell 2
  have r3 := R2.out.grows g2
  have kr2_0 : u2.cell? ⟨w.heap.size + 1, 0, none⟩ = some (uu0) := r3.cell 0
  have kr2_1 : u2.cell? ⟨w.heap.size + 1, 1, none⟩ = some (uu1) := r3.cell 1
  have kr2_2 : u2.cell? ⟨w.heap.size + 1, 2, none⟩ = some (uu2) := r3.cell 2
  have G3 := hideIt (G2.out.trans g2)
  have S3 := hideIt s3
  have R3 := hideIt r3
  clear s3 r3 g2
  go_wp2
  go_ret
  exact ⟨rfl, G3.out⟩
end Go.Proofs.YtocahjbmnkadjaaGreatDoor
