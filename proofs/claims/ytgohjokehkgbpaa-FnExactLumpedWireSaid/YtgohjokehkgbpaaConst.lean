/-
  Contracts of ConstantTable, the reference's and the program's.
-/
import Derived.Test.YtgohjokehkgbpaaMark
namespace Go.Proofs.Ytgohjokehkgbpaa
open Go.RowKit

def constT (v : Int) : TableD := if inB v (-1000000) 1000000 = true then ⟨[0], [0], [v]⟩ else ⟨[], [], []⟩
def constC (v : Int) : Int := if inB v (-1000000) 1000000 = true then 0 else 2

/-- a table and a code are handed back, the table in memory of its own -/
def RetTable (t : TableD) (code : Int) (w : World) (e : Ending) (w' : World) : Prop :=
  ∃ (A1 : Option Addr) (n1 : Nat) (A2 : Option Addr) (n2 : Nat) (A3 : Option Addr) (n3 : Nat) (bs : List Nat),
    e = .returned (.tuple #[.agg #[.slice A1 t.slews.length n1, .slice A2 t.loads.length n2, .slice A3 t.values.length n3], .int .i64 code]) ∧
    OTable w' [.slice A1 t.slews.length n1, .slice A2 t.loads.length n2, .slice A3 t.values.length n3] t bs ∧ Own w.heap.size w'.heap.size bs ∧ Grows w w'
theorem OInts.nil {w : World} : OInts w (.slice none 0 0) [] [] := .inl ⟨rfl, rfl, rfl⟩
theorem OInts.one {w : World} {g : Nat} {x : Int} (h : Blk w g 2 #[.int .i64 x]) : OInts w (.slice (some ⟨g, 0, none⟩) 1 1) [x] [g] := by
  refine .inr ⟨g, 1, _, [[]], rfl, Nat.le_refl _, by unfold maxLen; omega, h, rfl, rfl, fun i y hy => ?_⟩
  match i, hy with
  | 0, hy =>
    simp at hy
    subst hy
    refine ⟨[.int .i64 x], [], rfl, fun j u hu => ?_, rfl, rfl, rfl⟩
    match j, hu with
    | 0, hu => simpa using hu

theorem build3 (W : World) (x y z : Int) :
    OTable (((W.alloc (.cells #[.int .i64 x] 2)).alloc (.cells #[.int .i64 y] 2)).alloc (.cells #[.int .i64 z] 2))
      [.slice (some ⟨W.heap.size, 0, none⟩) 1 1, .slice (some ⟨W.heap.size + 1, 0, none⟩) 1 1, .slice (some ⟨W.heap.size + 1 + 1, 0, none⟩) 1 1] ⟨[x], [y], [z]⟩ [W.heap.size, W.heap.size + 1, W.heap.size + 1 + 1] ∧
    Own W.heap.size (((W.alloc (.cells #[.int .i64 x] 2)).alloc (.cells #[.int .i64 y] 2)).alloc (.cells #[.int .i64 z] 2)).heap.size [W.heap.size, W.heap.size + 1, W.heap.size + 1 + 1] ∧
    Grows W (((W.alloc (.cells #[.int .i64 x] 2)).alloc (.cells #[.int .i64 y] 2)).alloc (.cells #[.int .i64 z] 2)) := by
  have h1 := (Blk.new W 2 #[.int .i64 x]).grows (((Grows.refl _).alloc (.cells #[.int .i64 y] 2)).alloc (.cells #[.int .i64 z] 2))
  have h2 := (Blk.new (W.alloc (.cells #[.int .i64 x] 2)) 2 #[.int .i64 y]).grows ((Grows.refl _).alloc (.cells #[.int .i64 z] 2))
  have h3 := Blk.new ((W.alloc (.cells #[.int .i64 x] 2)).alloc (.cells #[.int .i64 y] 2)) 2 #[.int .i64 z]
  simp only [World.size_alloc] at h2 h3
  refine ⟨⟨_, _, _, [W.heap.size], [W.heap.size + 1], [W.heap.size + 1 + 1], rfl, OInts.one h1, OInts.one h2, OInts.one h3, rfl⟩, ⟨by simp <;> omega, fun g hg => ?_⟩, (((Grows.refl _).alloc _).alloc _).alloc _⟩
  simp only [List.mem_cons, List.not_mem_nil, or_false] at hg
  simp
  omega
set_option maxHeartbeats 1000000 in
theorem iConst_any (v : Int) (w : World) : Calls Try.prog 16 #[.int .i64 v] w (RetTable (constT v) (constC v) w) := by
  cases hv : inB v (-1000000) 1000000
  · have E : Hid (constT v = ⟨[], [], []⟩ ∧ constC v = 2) := by unfold Hid constT constC; rw [hv]; exact ⟨rfl, rfl⟩
    go_enter Try.func16, Try.ntmps16
    go_wp2_with (go_at_call 59; refine (within_any _ _ _ _).mono ?_; rintro e w' ⟨rfl, rfl⟩; rw [hv])
    refine bodyPost_ret (by simp [*, results, Try.results16, go_sem]; try rfl) rfl ?_
    rw [E.out.1, E.out.2]
    exact ⟨_, _, _, _, _, _, [], rfl, ⟨_, _, _, [], [], [], rfl, OInts.nil, OInts.nil, OInts.nil, rfl⟩, Own.nil, (Grows.refl _).alloc _⟩
  · have E : Hid (constT v = ⟨[0], [0], [v]⟩ ∧ constC v = 0) := by unfold Hid constT constC; rw [hv]; exact ⟨rfl, rfl⟩
    go_enter Try.func16, Try.ntmps16
    go_wp2_with (go_at_call 59; refine (within_any _ _ _ _).mono ?_; rintro e w' ⟨rfl, rfl⟩; rw [hv])
    refine bodyPost_ret (by simp [*, results, Try.results16, go_sem]; try rfl) rfl ?_
    rw [E.out.1, E.out.2]
    have h := build3 (w.alloc (.cells #[.slice (some ⟨w.heap.size + 1, 0, none⟩) 1 1, .slice (some ⟨w.heap.size + 1 + 1, 0, none⟩) 1 1, .slice (some ⟨w.heap.size + 1 + 1 + 1, 0, none⟩) 1 1] 24)) 0 0 v
    simp only [World.size_alloc] at h
    exact ⟨_, _, _, _, _, _, _, rfl, h.1, h.2.1.mono (by omega) (by simp), ((Grows.refl _).alloc _).trans h.2.2⟩
set_option maxHeartbeats 1000000 in
theorem l02Const_any (v : Int) (w : World) : Calls Try.prog 58 #[.int .i64 v] w fun e w' => ∃ g : Nat, e = .returned (.agg #[.slice (some ⟨g, 0, none⟩) 1 1, .slice (some ⟨g + 1, 0, none⟩) 1 1, .slice (some ⟨g + 1 + 1, 0, none⟩) 1 1]) ∧
    OTable w' [.slice (some ⟨g, 0, none⟩) 1 1, .slice (some ⟨g + 1, 0, none⟩) 1 1, .slice (some ⟨g + 1 + 1, 0, none⟩) 1 1] ⟨[0], [0], [v]⟩ [g, g + 1, g + 1 + 1] ∧ Own w.heap.size w'.heap.size [g, g + 1, g + 1 + 1] ∧ Grows w w' := by
  go_enter Try.func58, Try.ntmps58
  go_wp2
  refine bodyPost_ret (by simp [*, results, Try.results58, go_sem]; try rfl) rfl ?_
  have h := build3 (w.alloc (.cells #[.slice (some ⟨w.heap.size + 1, 0, none⟩) 1 1, .slice (some ⟨w.heap.size + 1 + 1, 0, none⟩) 1 1, .slice (some ⟨w.heap.size + 1 + 1 + 1, 0, none⟩) 1 1] 24)) 0 0 v
  simp only [World.size_alloc] at h
  exact ⟨_, rfl, h.1, h.2.1.mono (by omega) (by simp), ((Grows.refl _).alloc _).trans h.2.2⟩
set_option maxHeartbeats 1000000 in
theorem sConst_any (v : Int) (w : World) : Calls Try.prog 15 #[.int .i64 v] w (RetTable (constT v) (constC v) w) := by
  cases hv : inB v (-1000000) 1000000
  · have E : Hid (constT v = ⟨[], [], []⟩ ∧ constC v = 2) := by unfold Hid constT constC; rw [hv]; exact ⟨rfl, rfl⟩
    go_enter Try.func15, Try.ntmps15
    go_wp2_with (go_at_call 57; refine (l01In_any _ _ _ _).mono ?_; rintro e w' ⟨rfl, rfl⟩; rw [hv])
    refine bodyPost_ret (by simp [*, results, Try.results15, go_sem]; try rfl) rfl ?_
    rw [E.out.1, E.out.2]
    exact ⟨_, _, _, _, _, _, [], rfl, ⟨_, _, _, [], [], [], rfl, OInts.nil, OInts.nil, OInts.nil, rfl⟩, Own.nil, (Grows.refl _).alloc _⟩
  · have E : Hid (constT v = ⟨[0], [0], [v]⟩ ∧ constC v = 0) := by unfold Hid constT constC; rw [hv]; exact ⟨rfl, rfl⟩
    go_enter Try.func15, Try.ntmps15
    go_wp2_with (go_at_call 57; refine (l01In_any _ _ _ _).mono ?_; rintro e w' ⟨rfl, rfl⟩; rw [hv])
    refine (l02Const_any _ _).mono ?_
    rintro e u ⟨g, rfl, o, n, gr⟩
    have b := (Blk.new w 24 #[.slice none 0 0, .slice none 0 0, .slice none 0 0]).grows gr
    have k0 : u.cell? ⟨w.heap.size, 0, none⟩ = some (.slice none 0 0) := b.cell 0
    have k1 : u.cell? ⟨w.heap.size, 1, none⟩ = some (.slice none 0 0) := b.cell 1
    have k2 : u.cell? ⟨w.heap.size, 2, none⟩ = some (.slice none 0 0) := b.cell 2
    have f := b.frozen
    have O := hideIt o
    have N := hideIt n
    have G := hideIt gr
    clear o n gr b
    go_wp2
    refine bodyPost_ret (by simp [*, results, Try.results15, go_sem]; try rfl) rfl ?_
    rw [E.out.1, E.out.2]
    have hn : ∀ q ∈ [g, g + 1, g + 1 + 1], w.heap.size < q := fun q hq => by have := N.out.2 q hq; simp only [World.size_alloc] at this; omega
    refine ⟨_, _, _, _, _, _, _, rfl, O.out.same ((((SameOn.refl _ u).set (p := ⟨w.heap.size, 0, none⟩) (fun q hq => by have := hn q hq; simp; omega) _).set (p := ⟨w.heap.size, 1, none⟩) (fun q hq => by have := hn q hq; simp; omega) _).set (p := ⟨w.heap.size, 2, none⟩) (fun q hq => by have := hn q hq; simp; omega) _), N.out.mono (by simp) (by simp), ?_⟩
    exact (((((Grows.refl w).alloc _).trans G.out).setCell (Nat.le_refl _) _).setCell (Nat.le_refl _) _).setCell (Nat.le_refl _) _
end Go.Proofs.Ytgohjokehkgbpaa
