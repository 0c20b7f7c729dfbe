/-
  Contracts of LumpedWire, the reference's and the program's.
-/
import Derived.Test.YtgohjokehkgbpaaWire
import Derived.Test.YtgohjokehkgbpaaConst
namespace Go.Proofs.Ytgohjokehkgbpaa
open Go.RowKit

def lumpW (s l : Int) : WireD := if inB s 0 100 = true ∧ inB l 0 500 = true then ⟨[-1], [0], [l], List.replicate s.toNat 0⟩ else ⟨[], [], [], []⟩
def lumpC (s l : Int) : Int := if inB s 0 100 = true ∧ inB l 0 500 = true then 0 else 2
/-- a wire and a code are handed back, the wire in memory of its own -/
def RetWire (x : WireD) (code : Int) (w : World) (e : Ending) (w' : World) : Prop :=
  ∃ (A0 : Option Addr) (n0 : Nat) (A1 : Option Addr) (n1 : Nat) (A2 : Option Addr) (n2 : Nat) (A3 : Option Addr) (n3 : Nat) (bs : List Nat),
    e = .returned (.tuple #[.agg #[.slice A0 x.parent.length n0, .slice A1 x.res.length n1, .slice A2 x.cap.length n2, .slice A3 x.sink.length n3], .int .i64 code]) ∧
    OWire w' [.slice A0 x.parent.length n0, .slice A1 x.res.length n1, .slice A2 x.cap.length n2, .slice A3 x.sink.length n3] x bs ∧ Own w.heap.size w'.heap.size bs ∧ Grows w w'
theorem OInts.zeros {w : World} {g n : Nat} (h : Blk w g 2 (madeCells #[.int .i64 0] n)) (hn : n ≤ maxLen) : OInts w (.slice (some ⟨g, 0, none⟩) (List.replicate n (0 : Int)).length n) (List.replicate n 0) [g] := by
  refine .inr ⟨g, n, _, List.replicate n [], rfl, by simp, hn, h, by simp, ?_, fun i y hy => ?_⟩
  · congr 1
    symm
    rw [List.flatten_eq_nil_iff]
    intro l hl
    exact (List.mem_replicate.1 hl).2
  · have hi : i < n := by have := (List.getElem?_eq_some_iff.1 hy).1; simpa using this
    rw [List.getElem?_replicate, if_pos hi] at hy
    injection hy with hy
    subst hy
    refine ⟨[.int .i64 0], [], rfl, fun j u hu => ?_, by rw [List.getElem?_replicate, if_pos hi], rfl, rfl⟩
    match j, hu with
    | 0, hu =>
      simp at hu
      subst hu
      rw [← Array.getElem?_toList, toList_madeCells_one, List.getElem?_replicate, if_pos (by omega)]
theorem build4 (W : World) (x y z : Int) (n : Nat) (hn : n ≤ 100) :
    OWire ((((W.alloc (.cells #[.int .i64 x] 2)).alloc (.cells #[.int .i64 y] 2)).alloc (.cells #[.int .i64 z] 2)).alloc (.cells (madeCells #[.int .i64 0] n) 2))
      [.slice (some ⟨W.heap.size, 0, none⟩) 1 1, .slice (some ⟨W.heap.size + 1, 0, none⟩) 1 1, .slice (some ⟨W.heap.size + 1 + 1, 0, none⟩) 1 1, .slice (some ⟨W.heap.size + 1 + 1 + 1, 0, none⟩) (List.replicate n (0 : Int)).length n] ⟨[x], [y], [z], List.replicate n 0⟩
      [W.heap.size, W.heap.size + 1, W.heap.size + 1 + 1, W.heap.size + 1 + 1 + 1] ∧
    Own W.heap.size ((((W.alloc (.cells #[.int .i64 x] 2)).alloc (.cells #[.int .i64 y] 2)).alloc (.cells #[.int .i64 z] 2)).alloc (.cells (madeCells #[.int .i64 0] n) 2)).heap.size
      [W.heap.size, W.heap.size + 1, W.heap.size + 1 + 1, W.heap.size + 1 + 1 + 1] ∧
    Grows W ((((W.alloc (.cells #[.int .i64 x] 2)).alloc (.cells #[.int .i64 y] 2)).alloc (.cells #[.int .i64 z] 2)).alloc (.cells (madeCells #[.int .i64 0] n) 2)) := by
  have h1 := (Blk.new W 2 #[.int .i64 x]).grows ((((Grows.refl _).alloc (.cells #[.int .i64 y] 2)).alloc (.cells #[.int .i64 z] 2)).alloc (.cells (madeCells #[.int .i64 0] n) 2))
  have h2 := (Blk.new (W.alloc (.cells #[.int .i64 x] 2)) 2 #[.int .i64 y]).grows (((Grows.refl _).alloc (.cells #[.int .i64 z] 2)).alloc (.cells (madeCells #[.int .i64 0] n) 2))
  have h3 := (Blk.new ((W.alloc (.cells #[.int .i64 x] 2)).alloc (.cells #[.int .i64 y] 2)) 2 #[.int .i64 z]).grows ((Grows.refl _).alloc (.cells (madeCells #[.int .i64 0] n) 2))
  have h4 := Blk.new (((W.alloc (.cells #[.int .i64 x] 2)).alloc (.cells #[.int .i64 y] 2)).alloc (.cells #[.int .i64 z] 2)) 2 (madeCells #[.int .i64 0] n)
  simp only [World.size_alloc] at h2 h3 h4
  refine ⟨⟨_, _, _, _, [W.heap.size], [W.heap.size + 1], [W.heap.size + 1 + 1], [W.heap.size + 1 + 1 + 1], rfl, OInts.one h1, OInts.one h2, OInts.one h3, OInts.zeros h4 (by unfold maxLen; omega), rfl⟩, ⟨by simp <;> omega, fun g hg => ?_⟩, ((((Grows.refl _).alloc _).alloc _).alloc _).alloc _⟩
  simp only [List.mem_cons, List.not_mem_nil, or_false] at hg
  simp
  omega
theorem make_i64 (n : Nat) (hn : n ≤ 1048576) (u : World) : (Instr.makeSlice 22 (.int .i64 (n : Int)) (.int .i64 (n : Int))).run Try.prog u =
    .ok (.slice (some ⟨u.heap.size, 0, none⟩) n n) (u.alloc (.cells (madeCells #[.int .i64 0] n) 2)) := by
  obtain ⟨i0, hi, hz0, hz1, hz2⟩ := info_parts info_i64
  have h := run_make (P := Try.prog) u 22 2 i0 (.int .i64 0) Try.underlying22 hi hz0 .i64 .i64 (n : Int) (n : Int) (by omega) (Int.le_refl _) (by rw [hz2]; omega) (by omega)
  simpa [hz1, Value.cells] using h
theorem lump_no {s l : Int} (h : inB s 0 100 = false ∨ inB l 0 500 = false) : lumpW s l = ⟨[], [], [], []⟩ ∧ lumpC s l = 2 := by
  have : ¬ (inB s 0 100 = true ∧ inB l 0 500 = true) := by rintro ⟨h1, h2⟩; rcases h with h | h <;> simp_all
  exact ⟨if_neg this, if_neg this⟩
theorem lump_yes {n : Nat} {l : Int} (h : inB (n : Int) 0 100 = true) (h2 : inB l 0 500 = true) : lumpW n l = ⟨[-1], [0], [l], List.replicate n 0⟩ ∧ lumpC n l = 0 := by
  refine ⟨(if_pos ⟨h, h2⟩).trans (by simp), if_pos ⟨h, h2⟩⟩
theorem empty_wire (w : World) : OWire w [.slice none 0 0, .slice none 0 0, .slice none 0 0, .slice none 0 0] ⟨[], [], [], []⟩ [] := ⟨_, _, _, _, [], [], [], [], rfl, OInts.nil, OInts.nil, OInts.nil, OInts.nil, rfl⟩

set_option maxHeartbeats 2000000 in
theorem iLump_any (s l : Int) (w : World) : Calls Try.prog 27 #[.int .i64 s, .int .i64 l] w (RetWire (lumpW s l) (lumpC s l) w) := by
  cases h1 : inB s 0 100
  · have E := hideIt (lump_no (l := l) (.inl h1))
    go_enter Try.func27, Try.ntmps27
    go_wp2_with (go_at_call 59; refine (within_any _ _ _ _).mono ?_; rintro e w' ⟨rfl, rfl⟩; rw [h1])
    refine bodyPost_ret (by simp [*, results, Try.results27, go_sem]; try rfl) rfl ?_
    rw [E.out.1, E.out.2]
    exact ⟨_, _, _, _, _, _, _, _, [], rfl, empty_wire _, Own.nil, (Grows.refl _).alloc _⟩
  cases h2 : inB l 0 500
  · have E := hideIt (lump_no (s := s) (.inr h2))
    go_enter Try.func27, Try.ntmps27
    go_wp2_with (go_at_call 59; refine (within_any _ _ _ _).mono ?_; rintro e w' ⟨rfl, rfl⟩; first | rw [h1] | rw [h2])
    refine bodyPost_ret (by simp [*, results, Try.results27, go_sem]; try rfl) rfl ?_
    rw [E.out.1, E.out.2]
    exact ⟨_, _, _, _, _, _, _, _, [], rfl, empty_wire _, Own.nil, (Grows.refl _).alloc _⟩
  · have hb := inB_true h1
    obtain ⟨n, rfl⟩ := Int.eq_ofNat_of_zero_le hb.1
    have hn : n ≤ 100 := by omega
    have E := hideIt (lump_yes h1 h2)
    have hmk := make_i64 n (by omega)
    clear hb
    go_enter Try.func27, Try.ntmps27
    go_wp2_with (go_at_call 59; refine (within_any _ _ _ _).mono ?_; rintro e w' ⟨rfl, rfl⟩; first | rw [h1] | rw [h2])
    clear hmk
    refine bodyPost_ret (by simp [*, results, Try.results27, go_sem]; try rfl) rfl ?_
    rw [E.out.1, E.out.2]
    have h := build4 (w.alloc (.cells #[.slice (some ⟨w.heap.size + 1, 0, none⟩) 1 1, .slice (some ⟨w.heap.size + 1 + 1, 0, none⟩) 1 1, .slice (some ⟨w.heap.size + 1 + 1 + 1, 0, none⟩) 1 1, .slice (some ⟨w.heap.size + 1 + 1 + 1 + 1, 0, none⟩) n n] 42)) (-1) 0 l n hn
    simp only [World.size_alloc] at h
    exact ⟨_, _, _, _, _, _, _, _, _, by simp, h.1, h.2.1.mono (by omega) (by simp), ((Grows.refl _).alloc _).trans h.2.2⟩
set_option maxHeartbeats 2000000 in
theorem l07Lumped_any (n : Nat) (l : Int) (hn : n ≤ 100) (w : World) : Calls Try.prog 66 #[.int .i64 (n : Int), .int .i64 l] w fun e w' => ∃ g : Nat,
    e = .returned (.agg #[.slice (some ⟨g, 0, none⟩) 1 1, .slice (some ⟨g + 1, 0, none⟩) 1 1, .slice (some ⟨g + 1 + 1, 0, none⟩) 1 1, .slice (some ⟨g + 1 + 1 + 1, 0, none⟩) n n]) ∧
    OWire w' [.slice (some ⟨g, 0, none⟩) 1 1, .slice (some ⟨g + 1, 0, none⟩) 1 1, .slice (some ⟨g + 1 + 1, 0, none⟩) 1 1, .slice (some ⟨g + 1 + 1 + 1, 0, none⟩) (List.replicate n (0 : Int)).length n] ⟨[-1], [0], [l], List.replicate n 0⟩ [g, g + 1, g + 1 + 1, g + 1 + 1 + 1] ∧
    Own w.heap.size w'.heap.size [g, g + 1, g + 1 + 1, g + 1 + 1 + 1] ∧ Grows w w' := by
  have hmk := make_i64 n (by omega)
  go_enter Try.func66, Try.ntmps66
  go_wp2
  clear hmk
  refine bodyPost_ret (by simp [*, results, Try.results66, go_sem]; try rfl) rfl ?_
  have h := build4 (w.alloc (.cells #[.slice (some ⟨w.heap.size + 1, 0, none⟩) 1 1, .slice (some ⟨w.heap.size + 1 + 1, 0, none⟩) 1 1, .slice (some ⟨w.heap.size + 1 + 1 + 1, 0, none⟩) 1 1, .slice (some ⟨w.heap.size + 1 + 1 + 1 + 1, 0, none⟩) n n] 42)) (-1) 0 l n hn
  simp only [World.size_alloc] at h
  exact ⟨_, rfl, h.1, h.2.1.mono (by omega) (by simp), ((Grows.refl _).alloc _).trans h.2.2⟩
set_option maxHeartbeats 2000000 in
theorem sLump_any (s l : Int) (w : World) : Calls Try.prog 26 #[.int .i64 s, .int .i64 l] w (RetWire (lumpW s l) (lumpC s l) w) := by
  cases h1 : inB s 0 100
  · have E := hideIt (lump_no (l := l) (.inl h1))
    go_enter Try.func26, Try.ntmps26
    go_wp2_with (go_at_call 57; refine (l01In_any _ _ _ _).mono ?_; rintro e w' ⟨rfl, rfl⟩; rw [h1])
    refine bodyPost_ret (by simp [*, results, Try.results26, go_sem]; try rfl) rfl ?_
    rw [E.out.1, E.out.2]
    exact ⟨_, _, _, _, _, _, _, _, [], rfl, empty_wire _, Own.nil, (Grows.refl _).alloc _⟩
  cases h2 : inB l 0 500
  · have E := hideIt (lump_no (s := s) (.inr h2))
    go_enter Try.func26, Try.ntmps26
    go_wp2_with (go_at_call 57; refine (l01In_any _ _ _ _).mono ?_; rintro e w' ⟨rfl, rfl⟩; first | rw [h1] | rw [h2])
    refine bodyPost_ret (by simp [*, results, Try.results26, go_sem]; try rfl) rfl ?_
    rw [E.out.1, E.out.2]
    exact ⟨_, _, _, _, _, _, _, _, [], rfl, empty_wire _, Own.nil, (Grows.refl _).alloc _⟩
  · have hb := inB_true h1
    obtain ⟨n, rfl⟩ := Int.eq_ofNat_of_zero_le hb.1
    have hn : n ≤ 100 := by omega
    have E := hideIt (lump_yes h1 h2)
    clear hb
    go_enter Try.func26, Try.ntmps26
    go_wp2_with (go_at_call 57; refine (l01In_any _ _ _ _).mono ?_; rintro e w' ⟨rfl, rfl⟩; first | rw [h1] | rw [h2])
    refine (l07Lumped_any _ _ hn _).mono ?_
    rintro e u ⟨g, rfl, o, ow, gr⟩
    have b := (Blk.new w 42 #[.slice none 0 0, .slice none 0 0, .slice none 0 0, .slice none 0 0]).grows gr
    have k0 : u.cell? ⟨w.heap.size, 0, none⟩ = some (.slice none 0 0) := b.cell 0
    have k1 : u.cell? ⟨w.heap.size, 1, none⟩ = some (.slice none 0 0) := b.cell 1
    have k2 : u.cell? ⟨w.heap.size, 2, none⟩ = some (.slice none 0 0) := b.cell 2
    have k3 : u.cell? ⟨w.heap.size, 3, none⟩ = some (.slice none 0 0) := b.cell 3
    have f := b.frozen
    have O := hideIt o
    have N := hideIt ow
    have G := hideIt gr
    clear o ow gr b
    go_wp2
    refine bodyPost_ret (by simp [*, results, Try.results26, go_sem]; try rfl) rfl ?_
    rw [E.out.1, E.out.2]
    have hn' : ∀ q ∈ [g, g + 1, g + 1 + 1, g + 1 + 1 + 1], w.heap.size < q := fun q hq => by have := N.out.2 q hq; simp only [World.size_alloc] at this; omega
    refine ⟨_, _, _, _, _, _, _, _, _, by simp, O.out.same (((((SameOn.refl _ u).set (p := ⟨w.heap.size, 0, none⟩) (fun q hq => by have := hn' q hq; simp; omega) _).set (p := ⟨w.heap.size, 1, none⟩) (fun q hq => by have := hn' q hq; simp; omega) _).set (p := ⟨w.heap.size, 2, none⟩) (fun q hq => by have := hn' q hq; simp; omega) _).set (p := ⟨w.heap.size, 3, none⟩) (fun q hq => by have := hn' q hq; simp; omega) _), N.out.mono (by simp) (by simp), ?_⟩
    exact ((((((Grows.refl w).alloc _).trans G.out).setCell (Nat.le_refl _) _).setCell (Nat.le_refl _) _).setCell (Nat.le_refl _) _).setCell (Nat.le_refl _) _
end Go.Proofs.Ytgohjokehkgbpaa
