/-
  Texts cut at a byte, and the lines of a text, in plain Lean.
-/
import Derived.Lib.SplitLaws
import Derived.Lib.IndexLaws
import Derived.RangeFuncNested
import Derived.RangeFuncBound
import Derived.RangeFuncCalls
import Derived.RangeFuncLeaves
import Derived.Shelf.Abstract
import Derived.Shelf.RegionOpen
import Derived.WalkKit
import Derived.OwnWalkIn
import Derived.TacticsInMore
import Derived.LoopNIn
import Derived.LoopIn
import Derived.Test.YtocahjbmnkadjaaGreatDoorProg
import Derived.Lib.Strings
import Derived.Lib.Slices
import Derived.Lib.Walk
import Derived.Test.YtocahjbmnkadjaaGreatDoorShelf
import Derived.Test.YtocahjbmnkadjaaGreatDoorShelfS
import Derived.Test.YtocahjbmnkadjaaGreatDoorGA
import Derived.Test.YtocahjbmnkadjaaGreatDoorRA
namespace Go.Proofs.YtocahjbmnkadjaaGreatDoor
def splitL (c : UInt8) : List UInt8 → List (List UInt8)
  | [] => [[]]
  | x :: l => if x = c then [] :: splitL c l else match splitL c l with
    | [] => [[x]]
    | h :: t => (x :: h) :: t
theorem split_none {c : UInt8} : ∀ {a : List UInt8}, c ∉ a → splitL c a = [a]
  | [], _ => rfl
  | x :: a, h => by
    simp at h
    have ih := split_none (a := a) h.2
    unfold splitL
    rw [if_neg (fun e => h.1 e.symm), ih]
theorem split_app {c : UInt8} {b : List UInt8} : ∀ {a : List UInt8}, c ∉ a → splitL c (a ++ c :: b) = a :: splitL c b
  | [], _ => by simp [splitL]
  | x :: a, h => by
    simp at h
    have ih := split_app (b := b) (a := a) h.2
    show (if x = c then [] :: splitL c (a ++ c :: b) else match splitL c (a ++ c :: b) with
      | [] => [[x]]
      | h :: t => (x :: h) :: t) = _
    rw [if_neg (fun e => h.1 e.symm), ih]
theorem cut_at {c : UInt8} : ∀ {l : List UInt8}, c ∈ l → ∃ a b, l = a ++ c :: b ∧ c ∉ a
  | x :: l, h => by
    by_cases e : x = c
    · subst e
      exact ⟨[], l, rfl, by simp⟩
    · have h2 : c ∈ l := by
        rcases List.mem_cons.1 h with h | h
        · exact absurd h.symm e
        · exact h
      obtain ⟨a, b, hl, ha⟩ := cut_at h2
      exact ⟨x :: a, b, by rw [hl]; rfl, by simp; exact ⟨fun q => e q.symm, ha⟩⟩
theorem idx_at (c : UInt8) (b : List UInt8) : ∀ (a : List UInt8), c ∉ a → Lib.index (a ++ c :: b) [c] = a.length
  | [], _ => by simp [Lib.index, List.isPrefixOf]
  | x :: a, h => by
    simp at h
    have ih := idx_at c b a h.2
    have hx : (c == x) = false := by simpa using h.1
    show (if [c].isPrefixOf (x :: (a ++ c :: b)) then 0 else if Lib.index (a ++ c :: b) [c] == -1 then -1 else Lib.index (a ++ c :: b) [c] + 1) = _
    rw [ih]
    simp [List.isPrefixOf, hx]
theorem split_lib (c : UInt8) : ∀ (n : Nat) (l : List UInt8), l.length ≤ n → Lib.splitK [c] 0 (Lib.count l [c]) l = splitL c l
  | n, l, hn => by
    by_cases h : c ∈ l
    · obtain ⟨a, b, rfl, ha⟩ := cut_at h
      have hi := idx_at c b a ha
      have hc : Lib.count (a ++ c :: b) [c] = Lib.count b [c] + 1 := by
        rw [Lib.count_hit (by simp) hi]
        simp [Nat.add_comm]
      rw [hc, Lib.splitK]
      rw [if_neg (by rw [hi]; simp), hi, split_app ha]
      have e2 : ((a.length : Int).toNat + [c].length) = a.length + 1 := by simp
      rw [e2]
      match n with
      | 0 => simp at hn
      | n + 1 =>
        have ih := split_lib c n b (by simp at hn; omega)
        congr 1
        · simp
        · rw [← ih]
          congr 1
          rw [List.drop_append]
          simp
    · rw [split_none h]
      have hi : Lib.index l [c] = -1 := by
        rcases Lib.index_spec l [c] with ⟨h1, _⟩ | ⟨i, h1, h2, h3, _⟩
        · exact h1
        · exfalso
          unfold Lib.occAt at h3
          cases hd : l.drop i with
          | nil => rw [hd] at h3; simp [List.isPrefixOf] at h3
          | cons x r =>
            rw [hd] at h3
            simp [List.isPrefixOf] at h3
            have : x ∈ l := List.mem_of_mem_drop (i := i) (by rw [hd]; simp)
            exact h (h3 ▸ this)
      rw [Lib.count_miss hi]
      rfl
/-- the lines of a text, each with its end -/
def linesL (c : UInt8) : List UInt8 → List (List UInt8)
  | [] => []
  | x :: l => if x = c then [x] :: linesL c l else match linesL c l with
    | [] => [[x]]
    | h :: t => (x :: h) :: t
theorem lines_none {c : UInt8} : ∀ {a : List UInt8}, c ∉ a → a ≠ [] → linesL c a = [a]
  | [], _, h => absurd rfl h
  | [x], h, _ => by
    simp at h
    simp [linesL, Ne.symm h]
  | x :: y :: a, h, _ => by
    simp at h
    have ih := lines_none (c := c) (a := y :: a) (by simp; exact h.2) (by simp)
    show (if x = c then [x] :: linesL c (y :: a) else match linesL c (y :: a) with
      | [] => [[x]]
      | h :: t => (x :: h) :: t) = _
    rw [if_neg (fun e => h.1 e.symm), ih]
theorem lines_app {c : UInt8} {b : List UInt8} : ∀ {a : List UInt8}, c ∉ a → linesL c (a ++ c :: b) = (a ++ [c]) :: linesL c b
  | [], _ => by simp [linesL]
  | x :: a, h => by
    simp at h
    have ih := lines_app (b := b) (a := a) h.2
    show (if x = c then [x] :: linesL c (a ++ c :: b) else match linesL c (a ++ c :: b) with
      | [] => [[x]]
      | h :: t => (x :: h) :: t) = _
    rw [if_neg (fun e => h.1 e.symm), ih]
    rfl
theorem trim_end (c : UInt8) (a : List UInt8) : Lib.trimSuffix (a ++ [c]) [c] = a := by
  unfold Lib.trimSuffix Lib.hasSuffix
  rw [if_pos (List.isSuffixOf_iff_suffix.2 ⟨a, rfl⟩)]
  simp
theorem trim_not {c : UInt8} {a : List UInt8} (h : c ∉ a) : Lib.trimSuffix a [c] = a := by
  unfold Lib.trimSuffix Lib.hasSuffix
  rw [if_neg]
  intro hs
  obtain ⟨t, e⟩ := List.isSuffixOf_iff_suffix.1 hs
  exact h (by rw [← e]; simp)
/-- cutting at line ends gives the lines, and perhaps an empty one behind them -/
theorem split_lines (c : UInt8) : ∀ (n : Nat) (l : List UInt8), l.length ≤ n → ∃ t, (t = [] ∨ t = [[]]) ∧ splitL c l = (linesL c l).map (fun x => Lib.trimSuffix x [c]) ++ t
  | n, l, hn => by
    by_cases h : c ∈ l
    · obtain ⟨a, b, rfl, ha⟩ := cut_at h
      match n with
      | 0 => simp at hn
      | n + 1 =>
        obtain ⟨t, ht, e⟩ := split_lines c n b (by simp at hn; omega)
        refine ⟨t, ht, ?_⟩
        rw [split_app ha, lines_app ha, e, List.map_cons, trim_end]
        rfl
    · cases l with
      | nil => exact ⟨[[]], .inr rfl, rfl⟩
      | cons x l =>
        refine ⟨[], .inl rfl, ?_⟩
        rw [split_none h, lines_none h (by simp)]
        simp [trim_not h]
theorem split_ne (c : UInt8) (l : List UInt8) : splitL c l ≠ [] := by
  cases l with
  | nil => simp [splitL]
  | cons x l =>
    unfold splitL
    split
    · simp
    · split <;> simp
theorem dsize (s : ByteArray) : s.data.toList.length = s.size := by rw [Array.length_toList]; rfl
theorem cut_data (s : ByteArray) (f k : Nat) : (s.extract f k).data.toList = (s.data.toList.drop f).take (k - f) := by
  rw [ByteArray.data_extract, Array.toList_extract, List.extract_eq_take_drop]
theorem bytes_ext {a b : ByteArray} (h : a.data.toList = b.data.toList) : a = b := by
  cases a; cases b
  simp at h
  simpa using h
def mkB (l : List UInt8) : ByteArray := ⟨l.toArray⟩
theorem mkB_data (s : ByteArray) : mkB s.data.toList = s := bytes_ext (by simp [mkB])
/-- the lines of a text -/
def linesB (s : ByteArray) : List ByteArray := (linesL 10 s.data.toList).map mkB
/-- a text cut at a byte -/
def piecesB (c : UInt8) (s : ByteArray) : List ByteArray := (splitL c s.data.toList).map mkB
theorem pieces_of {c : UInt8} {s : ByteArray} {ws : List ByteArray} (h : ws.map (·.data.toList) = splitL c s.data.toList) : ws = piecesB c s := by
  unfold piecesB
  rw [← h, List.map_map]
  simp [Function.comp_def, mkB_data]
theorem linesB_cut {s : ByteArray} {a b : List UInt8} (h : s.data.toList = a ++ 10 :: b) (ha : (10 : UInt8) ∉ a) : linesB s = s.extract 0 (a.length + 1) :: linesB (s.extract (a.length + 1) s.size) := by
  have hs : s.size = (a ++ 10 :: b).length := by rw [← h]; simp
  unfold linesB
  rw [h, lines_app ha, List.map_cons]
  congr 1
  · apply bytes_ext
    rw [cut_data, h]
    simp [mkB, List.take_append]
    exact (List.take_of_length_le (by omega)).symm
  · have e : (a ++ 10 :: b).drop (a.length + 1) = b := by
      rw [show a ++ (10 : UInt8) :: b = (a ++ [10]) ++ b by simp]
      exact List.drop_left' (by simp)
    rw [cut_data, h, hs, e]
    congr 2
    exact (List.take_of_length_le (by simp; omega)).symm
theorem linesB_last {s : ByteArray} (h : (10 : UInt8) ∉ s.data.toList) (h0 : s.size ≠ 0) : linesB s = [s] := by
  unfold linesB
  rw [lines_none h (fun e => h0 (by have : s.data.toList.length = 0 := by rw [e]; rfl
                                    simpa using this))]
  simp [mkB_data]
theorem linesB_nil {s : ByteArray} (h0 : s.size = 0) : linesB s = [] := by
  have : s.data.toList = [] := List.length_eq_zero_iff.1 (by simpa using h0)
  unfold linesB
  rw [this]
  rfl
theorem lines_hit {s : ByteArray} {i : Nat} (h : Lib.indexByte s.data.toList 10 = (i : Int)) : i + 1 ≤ s.size ∧ linesB s = s.extract 0 (i + 1) :: linesB (s.extract (i + 1) s.size) := by
  obtain ⟨h1, h2⟩ := Lib.indexByte_some h
  have hi : i < s.data.toList.length := (List.getElem?_eq_some_iff.1 h1).1
  have hl : (s.data.toList.take i).length = i := by rw [List.length_take]; omega
  have e : s.data.toList = s.data.toList.take i ++ 10 :: s.data.toList.drop (i + 1) := by
    have h3 := (List.getElem?_eq_some_iff.1 h1).2
    rw [← h3, ← List.drop_eq_getElem_cons hi, List.take_append_drop]
  have hn : (10 : UInt8) ∉ s.data.toList.take i := fun hm => by
    obtain ⟨k, hk⟩ := List.getElem?_of_mem hm
    have hki : k < i := by have := (List.getElem?_eq_some_iff.1 hk).1; omega
    rw [List.getElem?_take, if_pos hki] at hk
    exact h2 k hki hk
  have := linesB_cut e hn
  rw [hl] at this
  exact ⟨by have : s.data.toList.length = s.size := by simp
            omega, this⟩
theorem lines_miss {s : ByteArray} (h : Lib.indexByte s.data.toList 10 = -1) (h0 : s.size ≠ 0) : linesB s = [s] :=
  linesB_last (fun hm => by
    obtain ⟨k, hk⟩ := List.getElem?_of_mem hm
    exact Lib.indexByte_none h k hk) h0
/-- a line without its end -/
def trimB (s : ByteArray) : ByteArray := mkB (Lib.trimSuffix s.data.toList [10])
theorem pieces_lines (s : ByteArray) : ∃ t, (t = [] ∨ t = [mkB []]) ∧ piecesB 10 s = (linesB s).map trimB ++ t := by
  obtain ⟨t, ht, e⟩ := split_lines 10 _ s.data.toList (Nat.le_refl _)
  refine ⟨t.map mkB, ?_, ?_⟩
  · rcases ht with rfl | rfl
    · exact .inl rfl
    · exact .inr rfl
  · unfold piecesB linesB
    rw [e, List.map_append, List.map_map, List.map_map]
    congr 1
end Go.Proofs.YtocahjbmnkadjaaGreatDoor
/-
  A range over a function whose iterator keeps its state in one box of its own.
-/
namespace Go.Proofs.YtocahjbmnkadjaaGreatDoor
open Go Go.RowKit
variable {F : Fence} {n : Nat} {P : Program}
/-- what an iterator does that hands out xs, its state in the box b -/
def SeqBox {α : Type} (F : Fence) (n : Nat) (P : Program) (g : Nat) (lb : Array Value) (encs : α → Array Value) (b : Nat) (t : TypeId) (v0 : Value) (xs : List α) : Prop :=
  ∀ (l : Nat) (J : List α → World → Prop) (W : World), Boxed W b t v0 →
    (∀ pre A B, J pre A → A.grownBy B none → J pre B) → (∀ pre A v, J pre A → J pre (A.setCell ⟨b, 0, none⟩ v)) →
    (∀ pre x W1, J pre W1 → pre ++ [x] <+: xs → YieldAt F (n - 1) P l (encs x) W1 fun e W' => e = .returned (.bool true) ∧ J (pre ++ [x]) W' ∧ W'.heap[b]? = W1.heap[b]?) →
    J [] W → CallsIn F n P g (#[.func (.yield l) #[] #[]] ++ lb) W fun e W' => (∃ v, e = .returned v) ∧ J xs W'
def boxRound {α : Type} (b : Nat) (I : List α → World → Prop) (pre : List α) (W : World) : Exit → Act → World → Prop
  | .normal, _, W' => KeepsOthers W W' ∧ W'.heap[b]? = W.heap[b]? ∧ I pre W'
  | _, _, _ => False
theorem wpIn_rangeFunc_box {α : Type} {g : Operand} {ps : Array Tmp} {assign body : Code} {Q : Exit → Act → World → Prop} {a : Act} {w : World}
    (hro : F.round = none) (h1 : 1 ≤ n) {gf : Nat} {lb : Array Value} (hg : a.eval g = .func (.func gf) #[] lb) (hFg : F.fn gf) (eg : ∀ args w, (callFunc gf args).run P w = .ok (.enter gf args) w)
    {encs : α → Array Value} {b : Nat} {t : TypeId} {v0 : Value} {xs : List α} (hseq : SeqBox F (n - 1) P gf lb encs b t v0 xs) (hps : ∀ x, (encs x).size = ps.size)
    (hb : Boxed w b t v0) (I : List α → World → Prop) (hI : OwnFrom w.heap.size I) (hIb : ∀ pre A v, I pre A → I pre (A.setCell ⟨b, 0, none⟩ v)) (h0 : I [] w) (a₁ : α → Act)
    (hassign : ∀ (l : Nat) (x : α) (W : World) (K : Act → World → Prop), K (a₁ x) W →
      assign.wpIn (F.inRound l) (n - 1 - 1) P (Exit.then K (fun _ _ _ => False)) { tmps := (ps.zip (encs x)).foldl (fun t (p, v) => t.setIfInBounds p v) a.tmps, defers := [] } W)
    (hbody : ∀ (l : Nat) (pre : List α) (x : α) (W : World), I pre W → pre ++ [x] <+: xs → body.wpIn (F.inRound l) (n - 1 - 1) P (boxRound b I (pre ++ [x]) W) (a₁ x) W)
    (hdone : ∀ (D : Nat) (W : World), w.heap.size ≤ D → I xs W → W.heap[D]? = some (.deferred (some [])) → Q .normal { a with defers := { target := .collected D, args := #[] } :: a.defers } W) :
    (Code.rangeFunc g ps assign body).wpIn F n P Q a w := by
  refine wpIn_rangeFunc fun fn hfn => ?_
  rw [hro]
  obtain ⟨rec, hrec⟩ : ∃ rec : LoopState → Loop, rec = fun st => { state := st, pending := none, fn, tmps := a.tmps, params := ps, assign, body, defers := w.heap.size } := ⟨_, rfl⟩
  obtain ⟨U, hU⟩ : ∃ U, (w.alloc (.deferred (some []))).alloc (.loop (rec .ready)) = U := ⟨_, rfl⟩
  have hL : U.heap[w.heap.size + 1]? = some (.loop (rec .ready)) := by
    rw [← hU]; have := World.alloc_heap_new (w.alloc (.deferred (some []))) (.loop (rec .ready)); rwa [World.size_alloc] at this
  have hD : U.heap[w.heap.size]? = some (.deferred (some [])) := by
    rw [← hU]; exact (Below.heap_alloc _ _ _ (by simp)).trans (World.alloc_heap_new w _)
  have hi0 : I [] U := by rw [← hU]; exact hI.alloc _ (hI.alloc _ h0)
  have hbU : Boxed U b t v0 := by rw [← hU]; exact (hb.alloc _).alloc _
  have hbl : b < w.heap.size := hb.lt
  refine ⟨w.heap.size + 1, [{ target := .collected w.heap.size, args := #[] }], U, { target := .fn (.func gf) lb, args := #[.func (.yield (w.heap.size + 1)) #[] #[]] }, U, gf,
    #[.func (.yield (w.heap.size + 1)) #[] #[]] ++ lb, U, ?_, ?_, ?_, ?_, fun _ => h1, ?_⟩
  · rw [← hU, hrec]; exact run_enterLoop_outer _ _ _ _ _
  · simp only [resolve, hg]
    simp [go_sem]
  · intro f' hf'; simp [Target.leads] at hf'; subst hf'; exact hFg
  · simp [invoke, go_sem, eg]
  refine (hseq (w.heap.size + 1) (fun pre W => I pre W ∧ W.heap[w.heap.size + 1]? = some (.loop (rec .ready)) ∧ W.heap[w.heap.size]? = some (.deferred (some []))) U hbU
    (fun s A B hs hg' => ⟨hI s A B none hs.1 hg' (fun r e => by cases e), (grownBy_keeps hg' (fun r e => by cases e) hs.2.1 rfl).trans hs.2.1, (grownBy_keeps hg' (fun r e => by cases e) hs.2.2 rfl).trans hs.2.2⟩)
    (fun s A v hs => ⟨hIb s A v hs.1, (KeepsOthers.setCell A _ v).same _ _ hs.2.1 rfl, (KeepsOthers.setCell A _ v).same _ _ hs.2.2 rfl⟩)
    ?_ ⟨hi0, hL, hD⟩).mono ?_
  · rintro pre x W ⟨hi, hl, hk⟩ hx
    have hlt : w.heap.size + 1 < W.heap.size := (Array.getElem?_eq_some_iff.1 hl).1
    have hy := run_yield (P := P) (args := encs x) hl (by rw [hrec]; exact hps x)
    rw [hrec] at hy
    refine ⟨fn, _, assign, body, hy, roundIn_of_wpIn hfn (hassign _ x W _ ⟨_, run_beginRound hl (by rw [hrec]), ?_⟩)⟩
    obtain ⟨V, hV⟩ : ∃ V, W.putObj (w.heap.size + 1) (.loop { rec .ready with state := .busy }) = V := ⟨_, rfl⟩
    rw [hV]
    have hl2 : V.heap[w.heap.size + 1]? = some (.loop { rec .ready with state := .busy }) := by rw [← hV]; exact World.putObj_heap_same hlt
    have hk2 : V.heap[w.heap.size]? = some (.deferred (some [])) := by rw [← hV]; exact (World.putObj_heap_other (by omega)).trans hk
    have hb2 : V.heap[b]? = W.heap[b]? := by rw [← hV]; exact World.putObj_heap_other (by omega)
    have hi2 : I pre V := by rw [← hV]; exact hI.putObj _ hi (by omega) hl rfl
    refine wpIn_mono (hbody _ pre x V hi2 hx) ?_
    rintro e a3 W3 hp
    cases e with
    | normal =>
      obtain ⟨hk3, hb3, hi3⟩ := hp
      have hl3 := hk3.same _ _ hl2 rfl
      have hr := run_endRound (P := P) none hl3
      refine ⟨_, _, hr, rfl, ⟨hI.putObj _ hi3 (by omega) hl3 rfl, ?_, (World.putObj_heap_other (by omega)).trans (hk3.same _ _ hk2 rfl)⟩, (World.putObj_heap_other (by omega)).trans (hb3.trans hb2)⟩
      refine (World.putObj_heap_same (Array.getElem?_eq_some_iff.1 hl3).1).trans ?_
      rw [hrec]
      rfl
    | _ => exact hp.elim
  · rintro e W2 ⟨⟨v, rfl⟩, hi, hl, hk⟩
    have he := run_endLoop (P := P) hl (by rw [hrec]; simp)
    rw [show (rec .ready).pending = none by rw [hrec]] at he
    refine ⟨none, _, he, ?_⟩
    exact hdone _ _ (Nat.le_refl _) (hI.putObj _ hi (by omega) hl rfl) ((World.putObj_heap_other (by omega)).trans hk)
end Go.Proofs.YtocahjbmnkadjaaGreatDoor
/-
  strings.Lines: the lines of a text, handed out one by one.
-/
namespace Go.Proofs.YtocahjbmnkadjaaGreatDoor
open Go.RowKit Go.Shelf
attribute [local go_sem] Oper.semAt_some
theorem boxed_drew {W : World} {b : Nat} {t : TypeId} {v : Value} (h : Boxed W b t v) (n : Nat) : Boxed (W.drewN n) b t v := h
/-- how much is left in the box -/
def boxN (b : Nat) (W : World) : Nat := match W.cell? ⟨b, 0, none⟩ with | some (.string s) => s.size | _ => 0
theorem boxN_at {b : Nat} {W : World} {t : TypeId} {s : ByteArray} (h : Boxed W b t (.string s)) : boxN b W = s.size := by
  unfold boxN
  rw [h.cell]
set_option maxHeartbeats 2000000 in
set_option maxRecDepth 100000 in
theorem lines_box (n : Nat) (hn : 1 ≤ n) (b : Nat) (s : ByteArray) (hs : s.size ≤ 1048576) :
    SeqBox Fence.wide n Tryz.prog 68 #[.pointer (some ⟨b, 0, none⟩)] (fun x : ByteArray => #[Value.string x]) b 9 (.string s) (linesB s) := fun l J W hb hJg hJs hY h0 => by
  refine callsIn_of_wp Tryz.func68 rfl trivial ?_ rfl
  simp only [Tryz.ntmps68, List.size_toArray, List.length_cons, List.length_nil, Nat.reduceAdd, Nat.reduceSub, Array.replicate_succ, Array.replicate_zero, List.push_toArray, List.append_toArray, List.nil_append, List.cons_append]
  gi_wp2
  gi_loopw [3, 4] (fun _ _ wr => ∃ (pre : List ByteArray) (rest : ByteArray), pre ++ linesB rest = linesB s ∧ rest.size ≤ s.size ∧ Boxed wr b 9 (.string rest) ∧ J pre wr) (fun _ _ wr => boxN b wr)
  case atStart => exact ⟨[], s, rfl, Nat.le_refl _, hb, h0⟩
  case round =>
    obtain ⟨pre, rest, hp, hrs, hbx, hJ⟩ := hrel
    have hm := boxN_at hbx
    have hc := hbx.cell
    have hf := hbx.frozen
    by_cases hz : rest.size = 0
    · rw [linesB_nil hz, List.append_nil] at hp
      subst hp
      gi_wp2
      go_end0
      exact ⟨⟨_, rfl⟩, hJ⟩
    · have hz2 : (0 : Int) < (rest.size : Int) := by omega
      rcases Int.lt_or_le (Lib.indexByte rest.data.toList 10) 0 with hi | hi
      · have hi1 : Lib.indexByte rest.data.toList 10 = -1 := by
          have := Lib.indexByte_ge rest.data.toList 10
          omega
        have hl := lines_miss hi1 hz
        obtain ⟨fn, tmps, assign, body, hy, hR⟩ := hY pre rest (wr.setCell ⟨b, 0, none⟩ (.string ⟨#[]⟩)) (hJs _ _ _ hJ) (by rw [← hp, hl]; exact List.prefix_refl _)
        have hbx2 : Boxed (wr.setCell ⟨b, 0, none⟩ (.string ⟨#[]⟩)) b 9 (.string ⟨#[]⟩) := hbx.set _
        gi_wp2_with (refine ⟨trivial, ?_⟩; gi_at_call 69; refine (callsIn_wide.2 (Tryz.strings_IndexByte _ _ _)).mono ?_; rintro e w' ⟨rfl, rfl⟩)
        refine hR.mono ?_
        rintro e W3 ⟨rfl, hJ3, hk3⟩
        have hbx3 : Boxed W3 b 9 (.string ⟨#[]⟩) := hk3.trans hbx2
        have hm3 := boxN_at hbx3
        gi_wp2
        go_roundw
        case rel => exact ⟨pre ++ [rest], ⟨#[]⟩, by rw [← hp, hl, linesB_nil rfl, List.append_nil], Nat.zero_le _, hbx3, hJ3⟩
        case measure => rw [hm3, hm]; show 0 < rest.size; omega
      · obtain ⟨i, hii⟩ : ∃ i : Nat, Lib.indexByte rest.data.toList 10 = (i : Int) := ⟨(Lib.indexByte rest.data.toList 10).toNat, by omega⟩
        obtain ⟨hi2, hl⟩ := lines_hit hii
        gi_wp2_with (refine ⟨trivial, ?_⟩; gi_at_call 69; refine (callsIn_wide.2 (Tryz.strings_IndexByte _ _ _)).mono ?_; rintro e w' ⟨rfl, rfl⟩)
        obtain ⟨fn, tmps, assign, body, hy, hR⟩ := hY pre (rest.extract 0 (i + 1)) ((w'.setCell ⟨b, 0, none⟩ (.string (rest.extract (i + 1) rest.size))).drew) (hJg _ _ _ (hJs _ _ _ hJ) ⟨rfl, rfl, rfl, Nat.le_refl _, fun _ _ _ => rfl⟩) (by rw [← hp, hl]; simp)
        have hbx2 : Boxed (w'.setCell ⟨b, 0, none⟩ (.string (rest.extract (i + 1) rest.size))) b 9 (.string (rest.extract (i + 1) rest.size)) := hbx.set _
        have hw1 : wrap64 ((i : Int) + 1) = ((i + 1 : Nat) : Int) := by unfold wrap64; omega
        gi_region
        gi_wp2
        refine hR.mono ?_
        rintro e W3 ⟨rfl, hJ3, hk3⟩
        have hbx3 : Boxed W3 b 9 (.string (rest.extract (i + 1) rest.size)) := hk3.trans hbx2
        have hm3 := boxN_at hbx3
        have he : (rest.extract (i + 1) rest.size).size = rest.size - (i + 1) := by simp
        gi_wp2
        go_roundw
        case rel => exact ⟨pre ++ [rest.extract 0 (i + 1)], _, by rw [← hp, hl]; simp, by omega, hbx3, hJ3⟩
        case measure => rw [hm3, hm, he]; omega
theorem lines_any (s : ByteArray) (w : World) :
    Calls Tryz.prog 42 #[.string s] w fun e w' => e = .returned (.func (.func 68) #[] #[.pointer (some ⟨w.heap.size, 0, none⟩)]) ∧ w' = w.alloc (.cells #[.string s] 9) := by
  go_enter Tryz.func42, Tryz.ntmps42
  go_wp2
  go_ret
  exact ⟨rfl, rfl⟩
set_option maxHeartbeats 1000000 in
theorem trim0_any (s p : ByteArray) (w : World) (hs : s.size ≤ 9223372036854775807) :
    Calls Tryz.prog 73 #[.string s, .string p] w fun e w' => e = .returned (.string ⟨(Lib.trimSuffix s.data.toList p.data.toList).toArray⟩) ∧ w' = w := by
  have hlo : p.size ≤ s.size → ((s.size : Int) - (p.size : Int) + 9223372036854775808) % 18446744073709551616 - 9223372036854775808 = ((s.size - p.size : Nat) : Int) := fun _ => by omega
  go_enter Tryz.func73, Tryz.ntmps73
  go_wp2
  · have h1 : p.size ≤ s.size := by assumption
    have h2 : ((s.extract (s.size - p.size) s.size).toList == p.toList) = true := by assumption
    go_ret
    refine ⟨?_, rfl⟩
    rw [Lib.trimSuffix_hit s p h1 h2]
    rfl
  · have h2 : ((s.extract (s.size - p.size) s.size).toList == p.toList) = false := by assumption
    go_ret
    refine ⟨?_, rfl⟩
    rw [Lib.trimSuffix_miss s p (by rw [h2]; simp)]
    rfl
  · have h1 : ¬ p.size ≤ s.size := by assumption
    go_ret
    refine ⟨?_, rfl⟩
    rw [Lib.trimSuffix_miss s p (by simp [h1])]
    rfl
theorem trim_any (s p : ByteArray) (w : World) (hs : s.size ≤ 9223372036854775807) :
    Calls Tryz.prog 44 #[.string s, .string p] w fun e w' => e = .returned (.string ⟨(Lib.trimSuffix s.data.toList p.data.toList).toArray⟩) ∧ w' = w := by
  go_enter Tryz.func44, Tryz.ntmps44
  go_wp2_with (first | (go_at_call 73; refine (trim0_any _ _ _ hs).mono ?_; rintro e w' ⟨rfl, rfl⟩))
  go_ret
  exact ⟨rfl, rfl⟩
end Go.Proofs.YtocahjbmnkadjaaGreatDoor
/-
  strings.Split at a byte: the pieces.
-/
namespace Go.Proofs.YtocahjbmnkadjaaGreatDoor
open Go.RowKit
theorem piecesB_eq (s : ByteArray) (c : UInt8) : Lib.splitB ⟨#[c]⟩ 0 (Lib.countB s ⟨#[c]⟩) s = piecesB c s :=
  pieces_of (by rw [Lib.splitB_data]; exact split_lib c _ _ (Nat.le_refl _))
theorem piecesB_len (s : ByteArray) (c : UInt8) : (piecesB c s).length = Lib.countB s ⟨#[c]⟩ + 1 := by
  rw [← piecesB_eq]
  exact Lib.splitB_all ⟨#[c]⟩ (Nat.le_refl 1) 0 _ s rfl
theorem piecesB_small (s : ByteArray) (c : UInt8) : 1 ≤ (piecesB c s).length ∧ (piecesB c s).length ≤ s.size + 1 := by
  rw [piecesB_len]
  have := Lib.countB_le ⟨#[c]⟩ (Nat.le_refl 1) _ s (Nat.le_refl _)
  omega
/-- the greatest length lies where it lies -/
def TM (w : World) : Prop := ∃ m, w.cell? ⟨0, 0, none⟩ = some (.int .i64 m)
theorem TM.keep {w w' : World} (h : TM w) (g : Grows w w') : TM w' := by
  obtain ⟨m, h⟩ := h
  exact ⟨m, g.keeps _ _ h⟩
theorem iSplit_any (s : ByteArray) (c : UInt8) (w : World) (hs : s.size ≤ 1048576) (hm : TM w) :
    Calls Tryz.prog 70 #[.string s, .string ⟨#[c]⟩] w fun e w' => e = .returned (.slice (some ⟨w.heap.size, 0, none⟩) (piecesB c s).length (piecesB c s).length) ∧ w' = w.alloc (.cells ((piecesB c s).map Value.string).toArray 9) := by
  obtain ⟨m, hm⟩ := hm
  refine (Tryz.strings_Split s ⟨#[c]⟩ m w (by omega) hm (Nat.le_refl 1)).mono ?_
  rintro e w' ⟨rfl, rfl⟩
  rw [piecesB_len, piecesB_eq]
  exact ⟨rfl, rfl⟩
end Go.Proofs.YtocahjbmnkadjaaGreatDoor
/-
  A text cut at a byte, the reference's.
-/
namespace Go.Proofs.YtocahjbmnkadjaaGreatDoor
open Go.RowKit
theorem info_strS : (Tryz.prog.info? 9).map (fun i => (i.zero, i.size, i.bytes)) = some (some (.string .empty), 1, 16) := by kernel_rfl
/-- these strings lie in a row -/
def StrsAt (W : World) (v : Value) (ws : List ByteArray) : Prop := ∃ g c : Nat, v = .slice (some ⟨g, 0, none⟩) ws.length c ∧ ∀ (j : Nat) (x : ByteArray), ws[j]? = some x → W.cell? ⟨g, j, none⟩ = some (.string x)
theorem StrsAt.keep {W W' : World} {v : Value} {ws : List ByteArray} (h : StrsAt W v ws) (g : Grows W W') : StrsAt W' v ws := by
  obtain ⟨b, c, e, hc⟩ := h
  exact ⟨b, c, e, fun j x hx => g.keeps _ _ (hc j x hx)⟩
theorem ex_data (s : ByteArray) (f k : Nat) : (s.extract f k).data.toList = (s.data.toList.drop f).take (k - f) := by
  rw [ByteArray.data_extract, Array.toList_extract, List.extract_eq_take_drop]
/-- where the cutting stands -/
def CutAt (s : ByteArray) (c : UInt8) (ps : List ByteArray) (f k : Nat) : Prop :=
  (k ≤ s.size ∧ f ≤ k ∧ splitL c s.data.toList = ps.map (·.data.toList) ++ splitL c (s.data.toList.drop f) ∧ c ∉ (s.data.toList.drop f).take (k - f)) ∨ (k = s.size + 1 ∧ splitL c s.data.toList = ps.map (·.data.toList))
theorem CutAt.start (s : ByteArray) (c : UInt8) : CutAt s c [] 0 0 := .inl ⟨Nat.zero_le _, Nat.le_refl _, rfl, by simp⟩
theorem CutAt.skip {s : ByteArray} {c x : UInt8} {ps : List ByteArray} {f k : Nat} (h : CutAt s c ps f k) (hk : k < s.size) (hx : s.data.toList[k]? = some x) (hn : x ≠ c) : CutAt s c ps f (k + 1) := by
  rcases h with ⟨h1, h2, h3, h4⟩ | ⟨h1, _⟩
  · refine .inl ⟨by omega, by omega, h3, fun hm => ?_⟩
    rw [show k + 1 - f = (k - f) + 1 by omega, List.take_add_one, List.getElem?_drop, show f + (k - f) = k by omega, hx] at hm
    rcases List.mem_append.1 hm with hm | hm
    · exact h4 hm
    · simp at hm; exact hn hm.symm
  · omega
theorem CutAt.cut {s : ByteArray} {c : UInt8} {ps : List ByteArray} {f k : Nat} (h : CutAt s c ps f k) (hk : k < s.size) (hx : s.data.toList[k]? = some c) : CutAt s c (ps ++ [s.extract f k]) (k + 1) (k + 1) := by
  rcases h with ⟨h1, h2, h3, h4⟩ | ⟨h1, _⟩
  · refine .inl ⟨by omega, Nat.le_refl _, ?_, by simp⟩
    have e : s.data.toList.drop f = (s.data.toList.drop f).take (k - f) ++ c :: s.data.toList.drop (k + 1) := by
      have h5 := List.take_append_drop (k - f) (s.data.toList.drop f)
      rw [List.drop_drop, show f + (k - f) = k by omega] at h5
      have hkl : k < s.data.toList.length := by rw [dsize]; exact hk
      rw [List.drop_eq_getElem_cons hkl] at h5
      rw [List.getElem?_eq_getElem hkl] at hx
      injection hx with hx
      rw [hx] at h5
      exact h5.symm
    have e2 : splitL c (s.data.toList.drop f) = (s.extract f k).data.toList :: splitL c (s.data.toList.drop (k + 1)) := by
      rw [ex_data s f k]
      have e3 := split_app (b := s.data.toList.drop (k + 1)) h4
      rwa [← e] at e3
    rw [h3, e2, List.map_append, List.append_assoc]
    rfl
  · omega
theorem CutAt.end_ {s : ByteArray} {c : UInt8} {ps : List ByteArray} {f k : Nat} (h : CutAt s c ps f k) (hk : k = s.size) : CutAt s c (ps ++ [s.extract f k]) (k + 1) (k + 1) := by
  rcases h with ⟨h1, h2, h3, h4⟩ | ⟨h1, _⟩
  · refine .inr ⟨by omega, ?_⟩
    have e : (s.data.toList.drop f).take (k - f) = s.data.toList.drop f := List.take_of_length_le (by rw [List.length_drop, dsize]; omega)
    rw [e] at h4
    rw [h3, split_none h4, List.map_append]
    congr 1
    show _ = [(s.extract f k).data.toList]
    rw [ex_data s f k, e]
  · omega
def SplitPost (s : ByteArray) (c : UInt8) (w : World) (e : Ending) (w' : World) : Prop := ∃ (v : Value) (ws : List ByteArray), e = .returned v ∧ StrsAt w' v ws ∧ ws.map (·.data.toList) = splitL c s.data.toList ∧ ws.length ≤ s.size + 1 ∧ Grows w w'
def SplitOwn (s : ByteArray) (c : UInt8) (w : World) (e : Ending) (w' : World) : Prop := ∃ (v : Value), e = .returned v ∧ w'.ownsRow w.heap.size 9 1 v (piecesB c s).length ((piecesB c s).map Value.string) ∧ Grows w w'
set_option maxHeartbeats 8000000 in
set_option maxRecDepth 10000 in
theorem split_own (s : ByteArray) (c : UInt8) (cz : Int) (hcz : cz = (c.toNat : Int)) (w : World) (hs : s.size ≤ 1048576) : Calls Tryz.prog 34 #[.string s, .int .u8 cz] w (SplitOwn s c w) := by
  obtain ⟨i0, hi, hz0, hz1, hz2⟩ := info_parts info_strS
  have hc8 : c.toNat < 256 := UInt8.toNat_lt _
  obtain ⟨b, hb⟩ : ∃ b : Nat, c.toNat = b := ⟨_, rfl⟩
  rw [hb] at hcz hc8
  subst hcz
  have HB := hideIt hb
  clear hb
  have OW0 : Hid ((w.alloc (.cells #[] 9)).ownsRow w.heap.size 9 1 (.slice (some ⟨w.heap.size, 0, none⟩) 0 0) 0 []) := hideIt ⟨rfl, .inr ⟨_, 0, #[], rfl, Nat.le_refl _, Blk.new w _ _, Nat.le_refl _, Nat.zero_le _, rfl, rfl⟩⟩
  have G0 : Hid (Grows w (w.alloc (.cells #[] 9))) := hideIt ((Grows.refl w).alloc _)
  go_enter Tryz.func34, Tryz.ntmps34
  go_wp2
  go_loopw [5, 6, 7] (fun v a i wr => ∃ (nv : Value) (ps : List ByteArray) (f k : Nat), nv = v ∧ a = .int .i64 (f : Int) ∧ i = .int .i64 (k : Int) ∧ k ≤ s.size + 1 ∧ Hid (ps.length ≤ k) ∧ Hid (wr.ownsRow w.heap.size 9 1 nv (ps).length ((ps).map Value.string)) ∧ Hid (Grows w wr) ∧ Hid (CutAt s c ps f k)) (fun _ _ i _ => s.size + 1 - (intOf i).toNat)
  case atStart => exact ⟨_, [], 0, 0, rfl, rfl, rfl, Nat.zero_le _, hideIt (Nat.zero_le _), OW0, G0, hideIt (CutAt.start s c)⟩
  case round =>
    clear OW0 G0
    obtain ⟨nv, ps, f, k, rfl, rfl, rfl, hk, HPL, OW, GG, CU⟩ := hrel
    by_cases hle : k ≤ s.size
    · have hfk : f ≤ k := by
        rcases CU.out with ⟨_, h2, _⟩ | ⟨h1, _⟩
        · exact h2
        · omega
      by_cases hlt : k < s.size
      · obtain ⟨n, hn⟩ : ∃ n : Nat, (s[k]'hlt).toNat = n := ⟨_, rfl⟩
        have n8 : n < 256 := by rw [← hn]; exact UInt8.toNat_lt _
        have hx : s.data.toList[k]? = some (s[k]'hlt) := by
          rw [List.getElem?_eq_getElem (by rw [dsize]; exact hlt)]
          simp [ByteArray.getElem_eq_getElem_data]
        have nek : ((k : Int) == (s.size : Int)) = false := by simp; omega
        by_cases hnc : n = b
        · have ec : s[k]'hlt = c := UInt8.toNat_inj.1 (by rw [hn, HB.out, hnc])
          have NX := hideIt (CU.out.cut hlt (by rw [hx, ec]))
          subst hnc
          clear hx ec CU
          have own1 := hideIt (OW.out.alloc (.cells #[.string (s.extract f k)] 9))
          have G1 := hideIt (GG.out.alloc (.cells #[.string (s.extract f k)] 9))
          have nlt : Hid (∀ q, nv.ownBlock = some q → w.heap.size ≤ q ∧ q < wr.heap.size) := hideIt OW.out.lt
          have hpl := HPL.out
          clear OW GG
          go_wp2_with (at_builtin; refine wpList_append_own_at _ rfl _ _ 27 rfl (w.heap.size) 9 i0 (.string .empty) 1 16 Tryz.underlying27 hi hz0 hz1 hz2 rfl (by decide) nv ps.length (ps.map Value.string) rfl own1.out ⟨wr.heap.size, 0, none⟩ 1 1 [.string (s.extract f k)] rfl ?c1 ?c2 ?c3 ?c4 ?c5 ?c6 ?_)
          case c1 => simp
          case c2 =>
            intro j u hj
            match j, hj with
            | 0, hj => simp at hj; subst hj; simp [Addr.add]
          case c3 => intro u hu; simp at hu; subst hu; rfl
          case c4 => unfold maxLen; omega
          case c5 => omega
          case c6 => exact G1.out.size
          intro v' w4 hown3 hgrow hnil hat
          have GG := hideIt (Grows.grown G1.out hgrow (fun q e => (nlt.out q e).1))
          have OW : Hid (w4.ownsRow w.heap.size 9 1 v' (ps ++ [s.extract f k]).length ((ps ++ [s.extract f k]).map Value.string)) := hideIt (by rw [List.length_append, List.map_append]; exact hown3)
          clear hown3 hgrow hnil hat own1 G1 nlt
          go_wp2
          go_roundw
          case rel => exact ⟨_, ps ++ [s.extract f k], k + 1, k + 1, rfl, by go_num, by go_num, by omega, hideIt (by have := HPL.out; simp; omega), OW, GG, NX⟩
          case measure => first | (simp [intOf]; done) | (simp [intOf]; omega)
        · have ec : s[k]'hlt ≠ c := fun e => hnc (by rw [← hn, e, HB.out])
          have NX := hideIt (CU.out.skip hlt hx ec)
          have nbb : ((n : Int) == (b : Int)) = false := by simp; omega
          clear hx ec CU
          go_wp2
          go_roundw
          case rel => exact ⟨_, ps, f, k + 1, rfl, rfl, by go_num, by omega, hideIt (by have := HPL.out; omega), OW, GG, NX⟩
          case measure => first | (simp [intOf]; done) | (simp [intOf]; omega)
      · obtain rfl : k = s.size := by omega
        have NX := hideIt (CU.out.end_ rfl)
        clear CU
        have own1 := hideIt (OW.out.alloc (.cells #[.string (s.extract f s.size)] 9))
        have G1 := hideIt (GG.out.alloc (.cells #[.string (s.extract f s.size)] 9))
        have nlt : Hid (∀ q, nv.ownBlock = some q → w.heap.size ≤ q ∧ q < wr.heap.size) := hideIt OW.out.lt
        have hpl := HPL.out
        clear OW GG
        go_wp2_with (at_builtin; refine wpList_append_own_at _ rfl _ _ 27 rfl (w.heap.size) 9 i0 (.string .empty) 1 16 Tryz.underlying27 hi hz0 hz1 hz2 rfl (by decide) nv ps.length (ps.map Value.string) rfl own1.out ⟨wr.heap.size, 0, none⟩ 1 1 [.string (s.extract f s.size)] rfl ?c1 ?c2 ?c3 ?c4 ?c5 ?c6 ?_)
        case c1 => simp
        case c2 =>
          intro j u hj
          match j, hj with
          | 0, hj => simp at hj; subst hj; simp [Addr.add]
        case c3 => intro u hu; simp at hu; subst hu; rfl
        case c4 => unfold maxLen; omega
        case c5 => omega
        case c6 => exact G1.out.size
        intro v' w4 hown3 hgrow hnil hat
        have GG := hideIt (Grows.grown G1.out hgrow (fun q e => (nlt.out q e).1))
        have OW : Hid (w4.ownsRow w.heap.size 9 1 v' (ps ++ [s.extract f s.size]).length ((ps ++ [s.extract f s.size]).map Value.string)) := hideIt (by rw [List.length_append, List.map_append]; exact hown3)
        clear hown3 hgrow hnil hat own1 G1 nlt
        go_wp2
        go_roundw
        case rel => exact ⟨_, ps ++ [s.extract f s.size], s.size + 1, s.size + 1, rfl, by go_num, by go_num, by omega, hideIt (by have := HPL.out; simp; omega), OW, GG, NX⟩
        case measure => first | (simp [intOf]; done) | (simp [intOf]; omega)
    · have PE : Hid (splitL c s.data.toList = ps.map (·.data.toList)) := hideIt (by
        rcases CU.out with ⟨h1, _⟩ | ⟨_, h2⟩
        · omega
        · exact h2)
      have pne : 1 ≤ ps.length := by
        have h1 := split_ne c s.data.toList
        rw [PE.out] at h1
        cases ps with
        | nil => exact absurd rfl h1
        | cons _ _ => simp
      have EP : Hid (ps = piecesB c s) := hideIt (pieces_of PE.out.symm)
      clear CU
      go_wp2
      go_ret
      exact ⟨_, rfl, by rw [← EP.out]; exact OW.out, GG.out⟩
theorem split_any (s : ByteArray) (c : UInt8) (cz : Int) (hcz : cz = (c.toNat : Int)) (w : World) (hs : s.size ≤ 1048576) : Calls Tryz.prog 34 #[.string s, .int .u8 cz] w (SplitPost s c w) := (split_own s c cz hcz w hs).mono fun e w' h => by
  obtain ⟨v, rfl, ho, g⟩ := h
  have h1 : (piecesB c s).map (·.data.toList) = splitL c s.data.toList := by
    unfold piecesB
    rw [List.map_map]
    conv => rhs; rw [← List.map_id (splitL c s.data.toList)]
    congr 1
  have hl : (piecesB c s).length = (splitL c s.data.toList).length := by unfold piecesB; rw [List.length_map]
  have hne : 1 ≤ (piecesB c s).length := by
    cases h : splitL c s.data.toList with
    | nil => exact absurd h (split_ne _ _)
    | cons _ _ => rw [hl, h]; simp
  have hmany : ∀ l : List UInt8, (splitL c l).length ≤ l.length + 1 := fun l => by
    induction l with
    | nil => exact Nat.le_refl _
    | cons y l ih =>
      unfold splitL
      split
      · rw [List.length_cons, List.length_cons]
        omega
      · cases hs : splitL c l with
        | nil => simp
        | cons a t =>
          rw [hs] at ih
          simp at ih ⊢
          omega
  obtain ⟨g9, c', rfl, -, hcell⟩ := own_cells' ho hne
  exact ⟨_, _, rfl, ⟨g9, c', rfl, hcell⟩, h1, by have := hmany s.data.toList; have := dsize s; omega, g⟩
end Go.Proofs.YtocahjbmnkadjaaGreatDoor
