/-
  What both readers of designs read, in plain Lean.
-/
import Derived.Test.YtocahjbmnkadjaaGreatDoorRB
import Derived.Test.YtocahjbmnkadjaaGreatDoorGM
import Derived.Test.YtocahjbmnkadjaaGreatDoorRA
import Derived.Test.YtocahjbmnkadjaaGreatDoorGD
import Derived.RangeFuncNested
import Derived.RangeFuncCalls
namespace Go.Proofs.YtocahjbmnkadjaaGreatDoor
open Go.RowKit
def rNet : ByteArray := ⟨#[110, 101, 116]⟩
def rPort : ByteArray := ⟨#[112, 111, 114, 116]⟩
def rInst : ByteArray := ⟨#[105, 110, 115, 116]⟩
def rOut : ByteArray := ⟨#[111, 117, 116]⟩
def wAt (ws : List ByteArray) (k : Nat) : ByteArray := ws.getD k ByteArray.empty
def netI (d : DesignD) (s : ByteArray) : Int := idxF (fun y => decide (y = s)) d.nets
def isNet (ws : List ByteArray) : Bool := decide (wAt ws 0 = rNet) && decide (ws.length = 2)
def isPort (ws : List ByteArray) : Bool := decide (wAt ws 0 = rPort) && decide (ws.length = 4)
def isInst (ws : List ByteArray) : Bool := decide (wAt ws 0 = rInst) && decide (3 ≤ ws.length)
def rdPort (d : DesignD) (ws : List ByteArray) : PortD := ⟨wAt ws 1, if wAt ws 2 = rOut then 2 else 1, netI d (wAt ws 3)⟩
def rdInst (cs : List CellD) (d : DesignD) (ws : List ByteArray) : InstD := ⟨wAt ws 1, cellI (wAt ws 2) cs, (ws.drop 3).map (netI d)⟩
/-- what one line adds -/
def stepD (cs : List CellD) (d : DesignD) (ws : List ByteArray) : DesignD :=
  if isNet ws = true then ⟨d.insts, d.nets ++ [wAt ws 1], d.ports⟩
  else if isPort ws = true then ⟨d.insts, d.nets, d.ports ++ [rdPort d ws]⟩
  else if isInst ws = true then ⟨d.insts ++ [rdInst cs d ws], d.nets, d.ports⟩
  else d
def noD : DesignD := ⟨[], [], []⟩
def upD (cs : List CellD) (ls : List ByteArray) : DesignD := ls.foldl (fun d l => stepD cs d (piecesB 32 l)) noD
theorem upD_nil (cs : List CellD) : upD cs [] = noD := rfl
theorem upD_snoc (cs : List CellD) (ls : List ByteArray) (l : ByteArray) : upD cs (ls ++ [l]) = stepD cs (upD cs ls) (piecesB 32 l) := by
  unfold upD
  rw [List.foldl_append]
  rfl
theorem stepD_empty (cs : List CellD) (d : DesignD) : stepD cs d (piecesB 32 (mkB [])) = d := by
  have h1 : isNet (piecesB 32 (mkB [])) = false := by decide
  have h2 : isPort (piecesB 32 (mkB [])) = false := by decide
  have h3 : isInst (piecesB 32 (mkB [])) = false := by decide
  unfold stepD
  simp [h1, h2, h3]
/-- the two readers cut their lines in two ways and read the same -/
theorem upD_same (cs : List CellD) (s : ByteArray) : upD cs (piecesB 10 s) = upD cs ((linesB s).map trimB) := by
  obtain ⟨t, ht, e⟩ := pieces_lines s
  rw [e]
  rcases ht with rfl | rfl
  · rw [List.append_nil]
  · rw [upD_snoc, stepD_empty]
/-- how much a reading holds -/
theorem stepD_small (cs : List CellD) (d : DesignD) (ws : List ByteArray) : (stepD cs d ws).insts.length ≤ d.insts.length + 1 ∧ (stepD cs d ws).nets.length ≤ d.nets.length + 1 ∧ (stepD cs d ws).ports.length ≤ d.ports.length + 1 := by
  unfold stepD
  split
  · simp
  · split
    · simp
    · split <;> simp
theorem upD_small (cs : List CellD) (ls : List ByteArray) : (upD cs ls).insts.length ≤ ls.length ∧ (upD cs ls).nets.length ≤ ls.length ∧ (upD cs ls).ports.length ≤ ls.length := by
  have key : ∀ (ls : List ByteArray) (d : DesignD) (n : Nat), (d.insts.length ≤ n ∧ d.nets.length ≤ n ∧ d.ports.length ≤ n) → ((ls.foldl (fun d l => stepD cs d (piecesB 32 l)) d).insts.length ≤ n + ls.length ∧ (ls.foldl (fun d l => stepD cs d (piecesB 32 l)) d).nets.length ≤ n + ls.length ∧ (ls.foldl (fun d l => stepD cs d (piecesB 32 l)) d).ports.length ≤ n + ls.length) := by
    intro ls
    induction ls with
    | nil => intro d n h; exact h
    | cons l ls ih =>
      intro d n h
      have h1 := stepD_small cs d (piecesB 32 l)
      have := ih (stepD cs d (piecesB 32 l)) (n + 1) ⟨by omega, by omega, by omega⟩
      rw [List.foldl_cons, List.length_cons]
      refine ⟨?_, ?_, ?_⟩ <;> omega
  have := key ls noD 0 ⟨Nat.le_refl _, Nat.le_refl _, Nat.le_refl _⟩
  unfold upD
  refine ⟨?_, ?_, ?_⟩ <;> omega
end Go.Proofs.YtocahjbmnkadjaaGreatDoor
/-
  A design in the making: three own rows that grow side by side, and what else may turn.
-/
namespace Go.Proofs.YtocahjbmnkadjaaGreatDoor
open Go Go.RowKit
theorem els_nil {α : Type} {sz : Nat} {O : World → List Value → α → List Nat → Prop} {w : World} (hO : ∀ es x b, O w es x b → b = []) : ∀ {xs : List α} {cells : List Value} {bss : List (List Nat)}, Els sz O w cells xs bss → bss.flatten = []
  | [], _, _, ⟨_, h⟩ => by subst h; rfl
  | x :: xs, _, _, ⟨es, rest, b, bss', _, _, h3, h4, h5⟩ => by
    subst h4
    rw [List.flatten_cons, hO _ _ _ h3, els_nil hO h5]
    rfl
theorem SameOn.size_lt {bs : List Nat} {w w' : World} (g : SameOn bs w w') {q : Nat} (hq : q ∈ bs) (hl : q < w.heap.size) : q < w'.heap.size := by
  have h := g q hq
  rw [Array.getElem?_eq_getElem hl] at h
  exact (Array.getElem?_eq_some_iff.1 h).1
/-- an own row, what its elements hold listed in r -/
def RW {α : Type} (sz : Nat) (t : TypeId) (O : World → List Value → α → List Nat → Prop) (w : World) (v : Value) (xs : List α) (r : List Nat) : Prop :=
  ∃ bss, ORow sz t O 0 w v xs bss ∧ r = bss.flatten
section
variable {α : Type} {sz : Nat} {t : TypeId} {O : World → List Value → α → List Nat → Prop} {w w' u : World} {v v' : Value} {xs : List α} {r : List Nat}
theorem RW.keep (h : RW sz t O w v xs r) (g : SameOn (v.ownBlock.toList ++ r) w w') (hO : ∀ es x b, O w es x b → SameOn b w w' → O w' es x b) : RW sz t O w' v xs r := by
  obtain ⟨bss, ⟨cells, h1, h2, h3⟩, rfl⟩ := h
  refine ⟨bss, ⟨cells, ownsRow_same h1 (g.sub (by simp +contextual)), h2.mono fun es x b hb ho => hO _ _ _ ho (g.sub fun q hq => ?_), h3.1, fun q hq => ⟨Nat.zero_le _, g.size_lt hq (h3.2 q hq).2⟩⟩, rfl⟩
  exact List.mem_append_right _ (List.mem_flatten.2 ⟨b, hb, hq⟩)
theorem RW.list (h : RW sz t O w v xs r) : OList sz t O w v xs (v.ownBlock.toList ++ r) := by
  obtain ⟨bss, h, rfl⟩ := h
  exact h.list
theorem RW.slice (h : RW sz t O w v xs r) : ∃ (A : Option Addr) (c : Nat), v = .slice A xs.length c := by
  obtain ⟨bss, h, rfl⟩ := h
  exact h.slice
theorem RW.nil0 : RW sz t O w (.slice none 0 0) ([] : List α) [] := ⟨[], ⟨[], ⟨by simp, .inl ⟨rfl, rfl⟩⟩, Els.nil, Own.nil⟩, rfl⟩
theorem RW.empty : RW sz t O (w.alloc (.cells #[] t)) (.slice (some ⟨w.heap.size, 0, none⟩) 0 0) ([] : List α) [] := ⟨[], ORow.empty (Nat.zero_le _), rfl⟩
theorem RW.row (h : RW sz t O w v xs r) : ∃ cells, w.ownsRow 0 t sz v xs.length cells ∧ ∀ (u w4 : World) (v' : Value) (y : α) (es : List Value) (b : List Nat), Own 0 w.heap.size (v.ownBlock.toList ++ r) → w.heap.size ≤ u.heap.size → SameOn (v.ownBlock.toList ++ r) w u → (∀ w w' es x b, O w es x b → SameOn b w w' → O w' es x b) → O u es y b → es.length = sz →
    (∀ q ∈ b, q < u.heap.size ∧ q ∉ v.ownBlock.toList ++ r) → b.Nodup → u.grownBy w4 v.ownBlock → (v'.ownBlock = v.ownBlock ∨ v'.ownBlock = some u.heap.size) → w4.ownsRow 0 t sz v' (xs.length + 1) (cells ++ es) → RW sz t O w4 v' (xs ++ [y]) (r ++ b) := by
  obtain ⟨bss, ⟨cells, h1, h2, h3⟩, rfl⟩ := h
  refine ⟨cells, h1, fun u w4 v' y es b ho hsz hs hO hy hl hb hbn g hat hr => ?_⟩
  refine ⟨bss ++ [b], ORow.snoc (u := u) (lo := 0) (h2.mono fun es x d hd hx => hO _ _ _ _ _ hx (hs.sub fun q hq => List.mem_append_right _ (List.mem_flatten.2 ⟨d, hd, hq⟩))) ?_ (Nat.zero_le _) g hat hr hl hy (fun es x b h g => hO _ _ _ _ _ h g), by rw [List.flatten_append, List.flatten_singleton]⟩
  refine ⟨List.nodup_append.2 ⟨ho.1, hbn, fun a ha c hc e => (hb c hc).2 (e ▸ ha)⟩, fun q hq => ⟨Nat.zero_le _, ?_⟩⟩
  rcases List.mem_append.1 hq with hq | hq
  · have := (ho.2 q hq).2; omega
  · exact (hb q hq).1
end
section
variable {lo hi hi' n : Nat} {A B b : List Nat} {a a' : Option Nat} {w w' u w4 : World}
theorem own_mid (h : Own lo hi (A ++ (a.toList ++ B))) (ha : a' = a ∨ a' = some n) (hn : hi ≤ n) (hl : lo ≤ n) (hlt : a' = some n → n < hi') (hh : hi ≤ hi') : Own lo hi' (A ++ (a'.toList ++ B)) := by
  rcases ha with rfl | rfl
  · exact h.mono (Nat.le_refl _) hh
  · have hs : (A ++ B).Sublist (A ++ (a.toList ++ B)) := List.Sublist.append_left (List.sublist_append_right _ _) _
    refine ⟨?_, fun q hq => ?_⟩
    · have hp : (A ++ n :: B).Perm (n :: (A ++ B)) := List.perm_middle
      refine hp.nodup_iff.2 (List.nodup_cons.2 ⟨fun hm => ?_, hs.nodup h.1⟩)
      have := (h.2 n (hs.subset hm)).2
      omega
    · simp only [Option.toList_some, List.mem_append, List.mem_cons, List.not_mem_nil, or_false] at hq
      rcases hq with hq | rfl | hq
      · have := h.2 q (List.mem_append_left _ hq); omega
      · exact ⟨hl, hlt rfl⟩
      · have := h.2 q (List.mem_append_right _ (List.mem_append_right _ hq)); omega
theorem own_sides (h : Own lo hi (A ++ (a.toList ++ B))) (g : u.grownBy w4 a) (hh : hi ≤ u.heap.size) : SameOn A u w4 ∧ SameOn B u w4 := by
  have hn := h.1
  refine ⟨fun q hq => g.block q ?_ fun e => ?_, fun q hq => g.block q ?_ fun e => ?_⟩
  · have := h.2 q (List.mem_append_left _ hq); omega
  · rw [List.nodup_append] at hn
    exact hn.2.2 q hq q (by rw [← e]; simp) rfl
  · have := h.2 q (List.mem_append_right _ (List.mem_append_right _ hq)); omega
  · rw [List.nodup_append, List.nodup_append] at hn
    exact hn.2.1.2.2 q (by rw [← e]; simp) q hq rfl
theorem own_sub {L : List Nat} (h : Own lo hi L) (hs : A.Sublist L) : Own 0 hi A := ⟨hs.nodup h.1, fun q hq => ⟨Nat.zero_le _, (h.2 q (hs.subset hq)).2⟩⟩
end
/-- a design's rows as they grow; ex: blocks besides -/
def RSt (lo : Nat) (ex : List Nat) (w : World) (vi vn vp : Value) (d : DesignD) : Prop :=
  ∃ r, RW 3 77 OInst w vi d.insts r ∧ RW 1 9 OS w vn d.nets [] ∧ RW 3 75 OPort w vp d.ports [] ∧ Own lo w.heap.size (ex ++ (vn.ownBlock.toList ++ (vp.ownBlock.toList ++ (vi.ownBlock.toList ++ r))))
section
variable {lo : Nat} {ex : List Nat} {w w' : World} {vi vn vp : Value} {d : DesignD}
theorem RSt.start : RSt lo [] w (.slice none 0 0) (.slice none 0 0) (.slice none 0 0) noD := ⟨[], RW.nil0, RW.nil0, RW.nil0, Own.nil⟩
theorem RSt.next (h : RSt lo ex w vi vn vp d) (hs : ∀ q, lo ≤ q → q < w.heap.size → w'.heap[q]? = w.heap[q]?) (hz : w.heap.size ≤ w'.heap.size) : RSt lo ex w' vi vn vp d := by
  obtain ⟨r, h1, h2, h3, h4⟩ := h
  have key : ∀ bs : List Nat, (∀ q ∈ bs, q ∈ ex ++ (vn.ownBlock.toList ++ (vp.ownBlock.toList ++ (vi.ownBlock.toList ++ r)))) → SameOn bs w w' := fun bs hb q hq => hs q (h4.2 q (hb q hq)).1 (h4.2 q (hb q hq)).2
  exact ⟨r, RW.keep h1 (key _ fun q hq => List.mem_append_right _ (List.mem_append_right _ (List.mem_append_right _ hq))) (fun _ _ _ h g => h.same g), RW.keep h2 (key _ fun q hq => List.mem_append_right _ (List.mem_append_left _ (by simpa using hq))) (fun _ _ _ h _ => h), RW.keep h3 (key _ fun q hq => List.mem_append_right _ (List.mem_append_right _ (List.mem_append_left _ (by simpa using hq)))) (fun _ _ _ h _ => h), h4.mono (Nat.le_refl _) hz⟩
theorem RSt.grows (h : RSt lo ex w vi vn vp d) (g : Grows w w') : RSt lo ex w' vi vn vp d := h.next (fun q _ hl => Below.block g q hl) g.size
theorem RSt.chg {ds : List Nat} (h : RSt lo ex w vi vn vp d) (c : Chg ds w w') (hd : ∀ g ∈ ds, g < lo) : RSt lo ex w' vi vn vp d :=
  h.next (fun q hq hl => c.block q hl fun hm => by have := hd q hm; omega) c.size
theorem RSt.slices (h : RSt lo ex w vi vn vp d) : (∃ (A : Option Addr) (c : Nat), vi = .slice A d.insts.length c) ∧ (∃ (A : Option Addr) (c : Nat), vn = .slice A d.nets.length c) ∧ ∃ (A : Option Addr) (c : Nat), vp = .slice A d.ports.length c := by
  obtain ⟨r, h1, h2, h3, h4⟩ := h
  exact ⟨h1.slice, h2.slice, h3.slice⟩
theorem RSt.owns (h : RSt lo ex w vi vn vp d) : ∃ bs, ODesign w [vi, vn, vp] d bs ∧ Own lo w.heap.size bs := by
  obtain ⟨r, h1, h2, h3, h4⟩ := h
  refine ⟨_, ⟨_, _, _, _, _, _, rfl, RW.list h1, RW.list h2, RW.list h3, rfl⟩, ?_⟩
  rw [List.append_nil, List.append_nil]
  have hp : ((vi.ownBlock.toList ++ r) ++ vn.ownBlock.toList ++ vp.ownBlock.toList).Perm (vn.ownBlock.toList ++ (vp.ownBlock.toList ++ (vi.ownBlock.toList ++ r))) := by
    have e1 := List.perm_append_comm (l₁ := vi.ownBlock.toList ++ r) (l₂ := vn.ownBlock.toList ++ vp.ownBlock.toList)
    rwa [← List.append_assoc, List.append_assoc vn.ownBlock.toList] at e1
  have hs := List.sublist_append_right ex (vn.ownBlock.toList ++ (vp.ownBlock.toList ++ (vi.ownBlock.toList ++ r)))
  exact ⟨hp.nodup_iff.2 (hs.nodup h4.1), fun q hq => h4.2 q (hs.subset (hp.mem_iff.1 hq))⟩
theorem RSt.reads (h : RSt lo ex w vi vn vp d) : RDesign w [vi, vn, vp] d := by
  obtain ⟨bs, h, -⟩ := h.owns
  exact h.reads
theorem RSt.names (h : RSt lo ex w vi vn vp d) : RStrs w vn d.nets := by
  obtain ⟨r, h1, h2, h3, h4⟩ := h
  exact OStrs.reads (RW.list h2)
/-- a net more -/
theorem RSt.net (h : RSt lo ex w vi vn vp d) : ∃ cells, w.ownsRow 0 9 1 vn d.nets.length cells ∧ ∀ (u w4 : World) (v' : Value) (s : ByteArray), (∀ q, lo ≤ q → q < w.heap.size → u.heap[q]? = w.heap[q]?) → w.heap.size ≤ u.heap.size → lo ≤ u.heap.size → s.size ≤ maxLen → u.grownBy w4 vn.ownBlock → (v'.ownBlock = vn.ownBlock ∨ v'.ownBlock = some u.heap.size) → w4.ownsRow 0 9 1 v' (d.nets.length + 1) (cells ++ [.string s]) → RSt lo ex w4 vi v' vp ⟨d.insts, d.nets ++ [s], d.ports⟩ := by
  have h0 := h
  obtain ⟨r, h1, h2, h3, h4⟩ := h
  obtain ⟨cells, hr, H⟩ := RW.row h2
  refine ⟨cells, hr, fun u w4 v' s hs hz hlo hl g hat hr4 => ?_⟩
  have key : ∀ bs : List Nat, (∀ q ∈ bs, q ∈ ex ++ (vn.ownBlock.toList ++ (vp.ownBlock.toList ++ (vi.ownBlock.toList ++ r)))) → SameOn bs w u := fun bs hb q hq => hs q (h4.2 q (hb q hq)).1 (h4.2 q (hb q hq)).2
  obtain ⟨sa, sb⟩ := own_sides h4 g hz
  have n2 := H u w4 v' s [.string s] [] (by rw [List.append_nil]; exact own_sub h4 ((List.sublist_append_left _ _).trans (List.sublist_append_right _ _))) hz (key _ fun q hq => List.mem_append_right _ (List.mem_append_left _ (by simpa using hq))) (fun _ _ _ _ _ h _ => h) ⟨rfl, hl, rfl⟩ rfl (fun _ h => by cases h) List.nodup_nil g hat hr4
  refine ⟨r, RW.keep h1 ((key _ fun q hq => List.mem_append_right _ (List.mem_append_right _ (List.mem_append_right _ hq))).trans (sb.sub fun q hq => List.mem_append_right _ hq)) (fun _ _ _ h g => h.same g), n2, RW.keep h3 ((key _ fun q hq => List.mem_append_right _ (List.mem_append_right _ (List.mem_append_left _ (by simpa using hq)))).trans (sb.sub fun q hq => List.mem_append_left _ (by simpa using hq))) (fun _ _ _ h _ => h), own_mid h4 hat hz hlo (fun e => (hr4.lt _ e).2) (Nat.le_trans hz g.size)⟩
/-- a port more -/
theorem RSt.port (h : RSt lo ex w vi vn vp d) : ∃ cells, w.ownsRow 0 75 3 vp d.ports.length cells ∧ ∀ (u w4 : World) (v' : Value) (y : PortD), (∀ q, lo ≤ q → q < w.heap.size → u.heap[q]? = w.heap[q]?) → w.heap.size ≤ u.heap.size → lo ≤ u.heap.size → y.name.size ≤ maxLen → u.grownBy w4 vp.ownBlock → (v'.ownBlock = vp.ownBlock ∨ v'.ownBlock = some u.heap.size) → w4.ownsRow 0 75 3 v' (d.ports.length + 1) (cells ++ [.string y.name, .int .i64 y.dir, .int .i64 y.net]) → RSt lo ex w4 vi vn v' ⟨d.insts, d.nets, d.ports ++ [y]⟩ := by
  obtain ⟨r, h1, h2, h3, h4⟩ := h
  obtain ⟨cells, hr, H⟩ := RW.row h3
  refine ⟨cells, hr, fun u w4 v' y hs hz hlo hl g hat hr4 => ?_⟩
  have key : ∀ bs : List Nat, (∀ q ∈ bs, q ∈ ex ++ (vn.ownBlock.toList ++ (vp.ownBlock.toList ++ (vi.ownBlock.toList ++ r)))) → SameOn bs w u := fun bs hb q hq => hs q (h4.2 q (hb q hq)).1 (h4.2 q (hb q hq)).2
  have h5 : Own lo w.heap.size ((ex ++ vn.ownBlock.toList) ++ (vp.ownBlock.toList ++ (vi.ownBlock.toList ++ r))) := by rw [List.append_assoc]; exact h4
  obtain ⟨sa, sb⟩ := own_sides h5 g hz
  have n3 := H u w4 v' y [.string y.name, .int .i64 y.dir, .int .i64 y.net] [] (by rw [List.append_nil]; exact own_sub h5 ((List.sublist_append_left _ _).trans (List.sublist_append_right _ _))) hz (key _ fun q hq => List.mem_append_right _ (List.mem_append_right _ (List.mem_append_left _ (by simpa using hq)))) (fun _ _ _ _ _ h _ => h) ⟨rfl, hl, rfl⟩ rfl (fun _ h => by cases h) List.nodup_nil g hat hr4
  refine ⟨r, RW.keep h1 ((key _ fun q hq => List.mem_append_right _ (List.mem_append_right _ (List.mem_append_right _ hq))).trans sb) (fun _ _ _ h g => h.same g), RW.keep h2 ((key _ fun q hq => List.mem_append_right _ (List.mem_append_left _ (by simpa using hq))).trans (sa.sub fun q hq => List.mem_append_right _ (by simpa using hq))) (fun _ _ _ h _ => h), n3, ?_⟩
  have h6 := own_mid (hi' := w4.heap.size) h5 hat hz hlo (fun e => (hr4.lt _ e).2) (Nat.le_trans hz g.size)
  rwa [List.append_assoc] at h6
/-- an instance more -/
theorem RSt.inst (h : RSt lo ex w vi vn vp d) : ∃ cells, w.ownsRow 0 77 3 vi d.insts.length cells ∧ ∀ (u w4 : World) (v' : Value) (y : InstD) (es : List Value) (b : List Nat), (∀ q, lo ≤ q → q < w.heap.size → u.heap[q]? = w.heap[q]?) → w.heap.size ≤ u.heap.size → lo ≤ w.heap.size → OInst u es y b → es.length = 3 → Own w.heap.size u.heap.size b →
    u.grownBy w4 vi.ownBlock → (v'.ownBlock = vi.ownBlock ∨ v'.ownBlock = some u.heap.size) → w4.ownsRow 0 77 3 v' (d.insts.length + 1) (cells ++ es) → RSt lo ex w4 v' vn vp ⟨d.insts ++ [y], d.nets, d.ports⟩ := by
  obtain ⟨r, h1, h2, h3, h4⟩ := h
  obtain ⟨cells, hr, H⟩ := RW.row h1
  refine ⟨cells, hr, fun u w4 v' y es b hs hz hlo hy hl hb g hat hr4 => ?_⟩
  have key : ∀ bs : List Nat, (∀ q ∈ bs, q ∈ ex ++ (vn.ownBlock.toList ++ (vp.ownBlock.toList ++ (vi.ownBlock.toList ++ r)))) → SameOn bs w u := fun bs hb q hq => hs q (h4.2 q (hb q hq)).1 (h4.2 q (hb q hq)).2
  have h5 : Own lo w.heap.size ((ex ++ (vn.ownBlock.toList ++ vp.ownBlock.toList)) ++ (vi.ownBlock.toList ++ r)) := by rw [List.append_assoc, List.append_assoc]; exact h4
  have h6 : Own lo u.heap.size ((ex ++ (vn.ownBlock.toList ++ vp.ownBlock.toList)) ++ (vi.ownBlock.toList ++ (r ++ b))) := by
    have h7 := h5.append hb hlo hz
    rwa [List.append_assoc, List.append_assoc vi.ownBlock.toList] at h7
  obtain ⟨sa, sb⟩ := own_sides h6 g (Nat.le_refl _)
  have n1 := H u w4 v' y es b (own_sub h5 (List.sublist_append_right _ _)) hz (key _ fun q hq => List.mem_append_right _ (List.mem_append_right _ (List.mem_append_right _ hq))) (fun _ _ _ _ _ h g => h.same g) hy hl (fun q hq => ⟨(hb.2 q hq).2, fun hm => by have := (h5.2 q (List.mem_append_right _ hm)).2; have := (hb.2 q hq).1; omega⟩) hb.1 g hat hr4
  refine ⟨r ++ b, n1, RW.keep h2 ((key _ fun q hq => List.mem_append_right _ (List.mem_append_left _ (by simpa using hq))).trans (sa.sub fun q hq => List.mem_append_right _ (List.mem_append_left _ (by simpa using hq)))) (fun _ _ _ h _ => h), RW.keep h3 ((key _ fun q hq => List.mem_append_right _ (List.mem_append_right _ (List.mem_append_left _ (by simpa using hq)))).trans (sa.sub fun q hq => List.mem_append_right _ (List.mem_append_right _ (by simpa using hq)))) (fun _ _ _ h _ => h), ?_⟩
  have h8 := own_mid (hi' := w4.heap.size) h6 hat (Nat.le_refl _) (Nat.le_trans hlo hz) (fun e => (hr4.lt _ e).2) g.size
  rwa [List.append_assoc, List.append_assoc] at h8
/-- the blocks besides turn -/
theorem RSt.swap {E : List Nat} {a a' : Option Nat} {w4 u : World} (h : RSt lo (a.toList ++ E) w vi vn vp d) (hs : ∀ q, lo ≤ q → q < w.heap.size → u.heap[q]? = w.heap[q]?) (hz : w.heap.size ≤ u.heap.size) (hlo : lo ≤ u.heap.size) (g : u.grownBy w4 a) (hat : a' = a ∨ a' = some u.heap.size) (hlt : a' = some u.heap.size → u.heap.size < w4.heap.size) : RSt lo (a'.toList ++ E) w4 vi vn vp d := by
  obtain ⟨r, h1, h2, h3, h4⟩ := h.next hs hz
  have h5 : Own lo u.heap.size ([] ++ (a.toList ++ (E ++ (vn.ownBlock.toList ++ (vp.ownBlock.toList ++ (vi.ownBlock.toList ++ r)))))) := by rw [← List.append_assoc a.toList]; exact h4
  obtain ⟨-, sb⟩ := own_sides h5 g (Nat.le_refl _)
  refine ⟨r, RW.keep h1 (sb.sub fun q hq => List.mem_append_right _ (List.mem_append_right _ (List.mem_append_right _ hq))) (fun _ _ _ h g => h.same g), RW.keep h2 (sb.sub fun q hq => List.mem_append_right _ (List.mem_append_left _ (by simpa using hq))) (fun _ _ _ h _ => h), RW.keep h3 (sb.sub fun q hq => List.mem_append_right _ (List.mem_append_right _ (List.mem_append_left _ (by simpa using hq)))) (fun _ _ _ h _ => h), ?_⟩
  have h6 := own_mid (A := []) (hi' := w4.heap.size) h5 hat (Nat.le_refl _) hlo hlt g.size
  rw [List.nil_append, ← List.append_assoc a'.toList] at h6
  exact h6
/-- the blocks besides are none of the rows' -/
theorem RSt.far (h : RSt lo ex w vi vn vp d) : ∀ q ∈ ex, (∀ k, vi.ownBlock = some k → k ≠ q) ∧ (∀ k, vn.ownBlock = some k → k ≠ q) ∧ ∀ k, vp.ownBlock = some k → k ≠ q := by
  obtain ⟨r, h1, h2, h3, h4⟩ := h
  intro q hq
  have hn := h4.1
  rw [List.nodup_append] at hn
  exact ⟨fun k e e2 => hn.2.2 q hq k (by rw [e]; simp) e2.symm, fun k e e2 => hn.2.2 q hq k (by rw [e]; simp) e2.symm, fun k e e2 => hn.2.2 q hq k (by rw [e]; simp) e2.symm⟩
theorem RSt.lt (h : RSt lo ex w vi vn vp d) : (∀ q ∈ ex, lo ≤ q ∧ q < w.heap.size) ∧ (∀ k, vi.ownBlock = some k → lo ≤ k ∧ k < w.heap.size) ∧ (∀ k, vn.ownBlock = some k → lo ≤ k ∧ k < w.heap.size) ∧ ∀ k, vp.ownBlock = some k → lo ≤ k ∧ k < w.heap.size := by
  obtain ⟨r, h1, h2, h3, h4⟩ := h
  exact ⟨fun q hq => h4.2 q (by simp [hq]), fun k e => h4.2 k (by rw [e]; simp), fun k e => h4.2 k (by rw [e]; simp), fun k e => h4.2 k (by rw [e]; simp)⟩
end
/-- at most block b and what lies from lo on has turned, and it held cells -/
structure Kp (lo b : Nat) (w w' : World) : Prop where
  ex : ∃ ds, Chg ds w w' ∧ ∀ g ∈ ds, g = b ∨ lo ≤ g
  ot : KeepsOthers w w'
section
variable {lo b : Nat} {w w' w'' : World}
theorem Kp.refl (lo b : Nat) (w : World) : Kp lo b w w := ⟨⟨[], Chg.refl _ _, fun _ h => by cases h⟩, KeepsOthers.refl _⟩
theorem Kp.trans (h : Kp lo b w w') (k : Kp lo b w' w'') : Kp lo b w w'' := by
  obtain ⟨⟨d1, c1, e1⟩, o1⟩ := h
  obtain ⟨⟨d2, c2, e2⟩, o2⟩ := k
  refine ⟨⟨d1 ++ d2, (c1.mono fun g hg => List.mem_append_left _ hg).trans (c2.mono fun g hg => List.mem_append_right _ hg), fun g hg => ?_⟩, o1.trans o2⟩
  rcases List.mem_append.1 hg with hg | hg
  · exact e1 g hg
  · exact e2 g hg
theorem Kp.of_grows (g : Grows w w') : Kp lo b w w' := ⟨⟨[], Chg.of_grows g, fun _ h => by cases h⟩, g.size, fun k o hk _ => by
  have hl := (Array.getElem?_eq_some_iff.1 hk).1
  exact (Below.block g k hl).trans hk⟩
theorem Kp.grows (h : Kp lo b w w') (g : Grows w' w'') : Kp lo b w w'' := h.trans (Kp.of_grows g)
theorem Kp.set (h : Kp lo b w w') (i : Nat) (v : Value) : Kp lo b w (w'.setCell ⟨b, i, none⟩ v) := h.trans ⟨⟨[b], (Chg.refl _ _).setCell (by simp) _, by simp⟩, KeepsOthers.setCell _ _ _⟩
theorem Kp.grown {row : Option Nat} (h : Kp lo b w w') (g : w'.grownBy w'' row) (hr : ∀ k, row = some k → lo ≤ k) (hc : ∀ k o, row = some k → w'.heap[k]? = some o → o.isCells = true) : Kp lo b w w'' :=
  h.trans ⟨⟨row.toList, Chg.grown (Chg.refl _ _) g (fun k e => .inl (by rw [e]; simp)), fun k hk => .inr (hr k (by simpa using hk))⟩, KeepsOthers.of_grownBy g hc⟩
theorem Kp.chg {ds : List Nat} {w0 : World} (c : Chg ds w0 w) (h : Kp w0.heap.size b w w') (hb : b ∈ ds) : Chg ds w0 w' := by
  obtain ⟨⟨d1, c1, e1⟩, -⟩ := h
  exact ⟨c1.os.trans c.os, c1.tape.trans c.tape, c1.output.trans c.output, Nat.le_trans c.size c1.size, fun g hg hn => (c1.block g (Nat.lt_of_lt_of_le hg c.size) fun hm => by
    rcases e1 g hm with h | h
    · exact hn (h ▸ hb)
    · omega).trans (c.block g hg hn)⟩
theorem Kp.block (h : Kp lo b w w') {q : Nat} (hq : q < lo) (hb : q ≠ b) (hl : q < w.heap.size) : w'.heap[q]? = w.heap[q]? := by
  obtain ⟨⟨d1, c1, e1⟩, -⟩ := h
  exact c1.block q hl fun hm => by
    rcases e1 q hm with h | h
    · exact hb h
    · omega
theorem row_cells {n lo sz : Nat} {t : TypeId} {v : Value} {xs : List Value} (h : w.ownsRow lo t sz v n xs) : ∀ k o, v.ownBlock = some k → w.heap[k]? = some o → o.isCells = true := by
  intro k o hk ho
  obtain ⟨hl, ⟨rfl, h0⟩ | ⟨q, c, cur, rfl, hb, hq, rest⟩⟩ := h
  · cases hk
  · injection hk with hk
    subst hk
    have h5 := Option.some.inj (ho.symm.trans (show w.heap[q]? = some (.cells cur t) from hq))
    rw [h5]
    rfl
end
end Go.Proofs.YtocahjbmnkadjaaGreatDoor
/-
  How much a reading holds.
-/
namespace Go.Proofs.YtocahjbmnkadjaaGreatDoor
open Go.RowKit
theorem splitL_small {c : UInt8} : ∀ {l : List UInt8} {x : List UInt8}, x ∈ splitL c l → x.length ≤ l.length
  | [], x, h => by
    simp [splitL] at h
    subst h
    exact Nat.le_refl _
  | y :: l, x, h => by
    unfold splitL at h
    split at h
    · rcases List.mem_cons.1 h with rfl | h
      · simp
      · have := splitL_small h
        rw [List.length_cons]
        omega
    · cases hs : splitL c l with
      | nil => exact absurd hs (split_ne c l)
      | cons a t =>
        rw [hs] at h
        rcases List.mem_cons.1 h with rfl | h
        · have := splitL_small (c := c) (l := l) (x := a) (by rw [hs]; exact List.mem_cons_self ..)
          rw [List.length_cons, List.length_cons]
          omega
        · have := splitL_small (c := c) (l := l) (x := x) (by rw [hs]; exact List.mem_cons_of_mem _ h)
          rw [List.length_cons]
          omega
theorem splitL_many {c : UInt8} : ∀ (l : List UInt8), (splitL c l).length ≤ l.length + 1
  | [] => Nat.le_refl _
  | y :: l => by
    have ih := splitL_many (c := c) l
    unfold splitL
    split
    · rw [List.length_cons, List.length_cons]
      omega
    · cases hs : splitL c l with
      | nil => simp
      | cons a t =>
        rw [hs] at ih
        simp at ih ⊢
        omega
theorem mkB_size (l : List UInt8) : (mkB l).size = l.length := by simp [mkB, ByteArray.size]
theorem pieces_small {c : UInt8} {s p : ByteArray} (h : p ∈ piecesB c s) : p.size ≤ s.size := by
  unfold piecesB at h
  obtain ⟨x, hx, rfl⟩ := List.mem_map.1 h
  have := splitL_small hx
  rw [mkB_size]
  have := dsize s
  omega
theorem pieces_many (c : UInt8) (s : ByteArray) : (piecesB c s).length ≤ s.size + 1 := by
  unfold piecesB
  rw [List.length_map]
  have := splitL_many (c := c) s.data.toList
  have := dsize s
  omega
theorem pieces_one (c : UInt8) (s : ByteArray) : 1 ≤ (piecesB c s).length := by
  unfold piecesB
  rw [List.length_map]
  cases h : splitL c s.data.toList with
  | nil => exact absurd h (split_ne _ _)
  | cons _ _ => simp
/-- at most n of each kind, and nothing longer than m -/
def SzD (n m : Nat) (d : DesignD) : Prop := (d.insts.length ≤ n ∧ d.nets.length ≤ n ∧ d.ports.length ≤ n) ∧ (∀ x ∈ d.insts, x.name.size ≤ m ∧ x.nets.length ≤ m) ∧ (∀ s ∈ d.nets, s.size ≤ m) ∧ ∀ p ∈ d.ports, p.name.size ≤ m
theorem wAt_small {m : Nat} {ws : List ByteArray} (h : ∀ p ∈ ws, p.size ≤ m) (k : Nat) : (wAt ws k).size ≤ m := by
  unfold wAt
  rw [List.getD_eq_getElem?_getD]
  cases e : ws[k]? with
  | none => exact Nat.zero_le _
  | some x => exact h x (List.mem_of_getElem? e)
theorem SzD.step {n m : Nat} {cs : List CellD} {d : DesignD} {ws : List ByteArray} (h : SzD n m d) (hw : ∀ p ∈ ws, p.size ≤ m) (hl : ws.length ≤ m) : SzD (n + 1) m (stepD cs d ws) := by
  obtain ⟨⟨h1, h2, h3⟩, hi, hn, hp⟩ := h
  have h4 := stepD_small cs d ws
  refine ⟨⟨by omega, by omega, by omega⟩, ?_⟩
  unfold stepD
  split
  · refine ⟨hi, fun s hs => ?_, hp⟩
    rcases List.mem_append.1 hs with hs | hs
    · exact hn s hs
    · rw [List.mem_singleton.1 hs]; exact wAt_small hw 1
  · split
    · refine ⟨hi, hn, fun p hs => ?_⟩
      rcases List.mem_append.1 hs with hs | hs
      · exact hp p hs
      · rw [List.mem_singleton.1 hs]; exact wAt_small hw 1
    · split
      · refine ⟨fun x hs => ?_, hn, hp⟩
        rcases List.mem_append.1 hs with hs | hs
        · exact hi x hs
        · rw [List.mem_singleton.1 hs]
          refine ⟨wAt_small hw 1, ?_⟩
          show ((ws.drop 3).map (netI d)).length ≤ m
          rw [List.length_map, List.length_drop]
          omega
      · exact ⟨hi, hn, hp⟩
theorem SzD.up {m : Nat} {cs : List CellD} : ∀ (ls : List ByteArray) {n : Nat} {d : DesignD}, SzD n m d → (∀ l ∈ ls, l.size + 1 ≤ m) → SzD (n + ls.length) m (ls.foldl (fun d l => stepD cs d (piecesB 32 l)) d)
  | [], _, _, h, _ => h
  | l :: ls, n, d, h, hl => by
    have h0 := hl l (List.mem_cons_self ..)
    have h1 := SzD.up (m := m) (cs := cs) ls (h.step (cs := cs) (ws := piecesB 32 l) (fun p hp => Nat.le_trans (pieces_small hp) (by omega)) (Nat.le_trans (pieces_many 32 l) h0)) (fun l hm => hl l (List.mem_cons_of_mem _ hm))
    rw [List.length_cons, List.foldl_cons]
    rwa [Nat.add_assoc, Nat.add_comm 1] at h1
theorem noD_sz (n m : Nat) : SzD n m noD := ⟨⟨Nat.zero_le _, Nat.zero_le _, Nat.zero_le _⟩, ⟨fun _ h => (by cases h), fun _ h => (by cases h), fun _ h => (by cases h)⟩⟩
theorem upD_sz {m : Nat} (cs : List CellD) (ls : List ByteArray) (h : ∀ l ∈ ls, l.size + 1 ≤ m) : SzD ls.length m (upD cs ls) := by
  have := SzD.up (cs := cs) ls (noD_sz 0 m) h
  rwa [Nat.zero_add] at this
theorem SzD.mono {n n' m m' : Nat} {d : DesignD} (h : SzD n m d) (hn : n ≤ n') (hm : m ≤ m') : SzD n' m' d := by
  obtain ⟨⟨h1, h2, h3⟩, hi, hs, hp⟩ := h
  exact ⟨⟨by omega, by omega, by omega⟩, fun x hx => by have := hi x hx; omega, fun x hx => by have := hs x hx; omega, fun x hx => by have := hp x hx; omega⟩
theorem SzD.sm {n m : Nat} {d : DesignD} (h : SzD n m d) (hn : n ≤ 1048576) (hm : m ≤ 1048576) : SmDesign d := by
  obtain ⟨⟨h1, h2, h3⟩, hi, hs, hp⟩ := h
  exact ⟨⟨by unfold SmL; omega, fun x hx => by have := hi x hx; exact ⟨by omega, by unfold SmL; omega⟩⟩, ⟨by unfold SmL; omega, fun x hx => by have := hs x hx; unfold SmStr; omega⟩, ⟨by unfold SmL; omega, fun x hx => by have := hp x hx; unfold SmPort; omega⟩⟩
/-- lines, trimmed, are pieces -/
theorem lines_in {s l : ByteArray} (h : l ∈ linesB s) : trimB l ∈ piecesB 10 s := by
  obtain ⟨t, -, e⟩ := pieces_lines s
  rw [e]
  exact List.mem_append_left _ (List.mem_map.2 ⟨l, h, rfl⟩)
theorem lines_many (s : ByteArray) : (linesB s).length ≤ s.size + 1 := by
  obtain ⟨t, -, e⟩ := pieces_lines s
  have h := pieces_many 10 s
  rw [e, List.length_append, List.length_map] at h
  omega
theorem upD_read {s : ByteArray} (cs : List CellD) (ls : List ByteArray) (hs : s.size ≤ 6000) (h : ls <+: (linesB s).map trimB) : SzD 6001 6001 (upD cs ls) := by
  have h1 := h.length_le
  rw [List.length_map] at h1
  have h2 := lines_many s
  refine (upD_sz cs ls fun l hl => ?_).mono (by omega) (Nat.le_refl _)
  obtain ⟨x, hx, rfl⟩ := List.mem_map.1 (h.subset hl)
  have := pieces_small (lines_in hx)
  omega
theorem upD_cut {s : ByteArray} (cs : List CellD) (ls : List ByteArray) (hs : s.size ≤ 6000) (h : ls <+: piecesB 10 s) : SzD 6001 6001 (upD cs ls) := by
  have h1 := h.length_le
  have h2 := pieces_many 10 s
  refine (upD_sz cs ls fun l hl => ?_).mono (by omega) (Nat.le_refl _)
  have := pieces_small (h.subset hl)
  omega
end Go.Proofs.YtocahjbmnkadjaaGreatDoor
/-
  What a line's words add, case by case; the words as literals; the rows' types.
-/
namespace Go.Proofs.YtocahjbmnkadjaaGreatDoor
open Go.RowKit
theorem step_net {cs : List CellD} {d : DesignD} {ws : List ByteArray} {q1 : ByteArray} (h0 : wAt ws 0 = rNet) (hl : ws.length = 2) (h1 : wAt ws 1 = q1) : stepD cs d ws = ⟨d.insts, d.nets ++ [q1], d.ports⟩ := by
  unfold stepD
  rw [if_pos (by unfold isNet; rw [decide_eq_true h0, decide_eq_true hl]; rfl), h1]
theorem step_port {cs : List CellD} {d : DesignD} {ws : List ByteArray} {y : PortD} (h0 : wAt ws 0 = rPort) (hl : ws.length = 4) (h1 : rdPort d ws = y) : stepD cs d ws = ⟨d.insts, d.nets, d.ports ++ [y]⟩ := by
  unfold stepD
  rw [if_neg (by unfold isNet; rw [h0, show decide (rPort = rNet) = false by decide]; simp), if_pos (by unfold isPort; rw [decide_eq_true h0, decide_eq_true hl]; rfl), h1]
theorem step_inst {cs : List CellD} {d : DesignD} {ws : List ByteArray} (h0 : wAt ws 0 = rInst) (hl : 3 ≤ ws.length) : stepD cs d ws = ⟨d.insts ++ [rdInst cs d ws], d.nets, d.ports⟩ := by
  unfold stepD
  rw [if_neg (by unfold isNet; rw [h0, show decide (rInst = rNet) = false by decide]; simp), if_neg (by unfold isPort; rw [h0, show decide (rInst = rPort) = false by decide]; simp), if_pos (by unfold isInst; rw [decide_eq_true h0, decide_eq_true hl]; rfl)]
theorem step_none {cs : List CellD} {d : DesignD} {ws : List ByteArray} (h1 : ¬ (wAt ws 0 = rNet ∧ ws.length = 2)) (h2 : ¬ (wAt ws 0 = rPort ∧ ws.length = 4)) (h3 : ¬ (wAt ws 0 = rInst ∧ 3 ≤ ws.length)) : stepD cs d ws = d := by
  unfold stepD
  rw [if_neg (by unfold isNet; rw [Bool.and_eq_true, decide_eq_true_eq, decide_eq_true_eq]; exact h1), if_neg (by unfold isPort; rw [Bool.and_eq_true, decide_eq_true_eq, decide_eq_true_eq]; exact h2), if_neg (by unfold isInst; rw [Bool.and_eq_true, decide_eq_true_eq, decide_eq_true_eq]; exact h3)]
theorem wAt_some {ws : List ByteArray} {k : Nat} (h : k < ws.length) : ws[k]? = some (wAt ws k) := by
  unfold wAt
  rw [List.getD_eq_getElem?_getD, List.getElem?_eq_getElem h]
  rfl
theorem lit_net : rNet.toList = [110, 101, 116] := by simp [rNet]
theorem lit_port : rPort.toList = [112, 111, 114, 116] := by simp [rPort]
theorem lit_inst : rInst.toList = [105, 110, 115, 116] := by simp [rInst]
theorem lit_out : rOut.toList = [111, 117, 116] := by simp [rOut]
theorem lit_ne {q b : ByteArray} {l : List UInt8} (hb : b.toList = l) (h : ¬ q = b) : (q.toList == l) = false := by
  have := strNe h
  rwa [hb] at this
theorem own_slice3 {w : World} {base n : Nat} {t : TypeId} {v : Value} {xs : List Value} (h : w.ownsRow base t 3 v n xs) : ∃ (A : Option Addr) (c : Nat), v = .slice A n c := by
  obtain ⟨hl, ⟨rfl, h0⟩ | ⟨g, c, cur, rfl, _⟩⟩ := h
  · exact ⟨none, 0, by rw [h0]⟩
  · exact ⟨_, _, rfl⟩
theorem info_inst : (Tryz.prog.info? 77).map (fun i => (i.zero, i.size, i.bytes)) = some (some (.agg #[.string .empty, .int .i64 0, .slice none 0 0]), 3, 48) := by kernel_rfl
theorem info_port : (Tryz.prog.info? 75).map (fun i => (i.zero, i.size, i.bytes)) = some (some (.agg #[.string .empty, .int .i64 0, .int .i64 0]), 3, 32) := by kernel_rfl
end Go.Proofs.YtocahjbmnkadjaaGreatDoor
/-
  The reference's reading: what stands between two lines.
-/
namespace Go.Proofs.YtocahjbmnkadjaaGreatDoor
open Go Go.RowKit
/-- between two lines: the design so far, the lines of wires, the lines -/
def GSt (w0 : World) (cs : List CellD) (gl : Nat) (lc : Array Value) (ls : List ByteArray) (wr : World) (vn vp vi vw : Value) (k : Nat) : Prop :=
  Grows w0 wr ∧ RSt w0.heap.size (vw.ownBlock.toList ++ [gl]) wr vi vn vp (upD cs (ls.take k)) ∧ (∃ m cells, m ≤ k ∧ wr.ownsRow 0 27 1 vw m cells) ∧ Blk wr gl 9 lc
theorem upD_take {cs : List CellD} {ls : List ByteArray} {k : Nat} {x : ByteArray} (hx : ls[k]? = some x) : upD cs (ls.take (k + 1)) = stepD cs (upD cs (ls.take k)) (piecesB 32 x) := by
  rw [List.take_add_one, hx]
  exact upD_snoc cs _ x
section
variable {w0 wr u w4 : World} {cs : List CellD} {gl k : Nat} {lc : Array Value} {ls : List ByteArray} {vn vp vi vw v' : Value} {x : ByteArray}
theorem GSt.grows (h : GSt w0 cs gl lc ls wr vn vp vi vw k) (g : Grows wr u) : GSt w0 cs gl lc ls u vn vp vi vw k := by
  obtain ⟨h1, h2, ⟨m, cells, h3, h4⟩, h5⟩ := h
  exact ⟨h1.trans g, h2.grows g, ⟨m, cells, h3, ownsRow_same h4 (fun q hq => Below.block g q (h4.lt q (by simpa using hq)).2)⟩, h5.grows g⟩
theorem GSt.rest (h : GSt w0 cs gl lc ls wr vn vp vi vw k) (gu : Grows wr u) {row : Option Nat} (hrow : row = vi.ownBlock ∨ row = vn.ownBlock ∨ row = vp.ownBlock) (g : u.grownBy w4 row) :
    Grows w0 w4 ∧ (∃ m cells, m ≤ k + 1 ∧ w4.ownsRow 0 27 1 vw m cells) ∧ Blk w4 gl 9 lc := by
  obtain ⟨h1, h2, ⟨m, cells, h3, h4⟩, h5⟩ := h.grows gu
  have hlt := h2.lt
  have hfar := h2.far
  have hr : ∀ q, row = some q → w0.heap.size ≤ q := fun q e => by
    rcases hrow with rfl | rfl | rfl
    · exact (hlt.2.1 q e).1
    · exact (hlt.2.2.1 q e).1
    · exact (hlt.2.2.2 q e).1
  have hf : ∀ q ∈ vw.ownBlock.toList ++ [gl], ∀ r, row = some r → r ≠ q := fun q hq r e => by
    obtain ⟨f1, f2, f3⟩ := hfar q hq
    rcases hrow with rfl | rfl | rfl
    · exact f1 r e
    · exact f2 r e
    · exact f3 r e
  refine ⟨h1.grown g hr, ⟨m, cells, by omega, ownsRow_same h4 (fun q hq => g.block q (h4.lt q (by simpa using hq)).2 (fun e => hf q (List.mem_append_left _ hq) q e.symm rfl))⟩, blk_grown h5 g (fun q e => hf gl (by simp) q e)⟩
theorem GSt.skip (h : GSt w0 cs gl lc ls wr vn vp vi vw k) (hx : ls[k]? = some x) (hn : stepD cs (upD cs (ls.take k)) (piecesB 32 x) = upD cs (ls.take k)) : GSt w0 cs gl lc ls wr vn vp vi vw (k + 1) := by
  obtain ⟨h1, h2, ⟨m, cells, h3, h4⟩, h5⟩ := h
  refine ⟨h1, ?_, ⟨m, cells, by omega, h4⟩, h5⟩
  rw [upD_take hx, hn]
  exact h2
theorem GSt.net {q : ByteArray} (h : GSt w0 cs gl lc ls wr vn vp vi vw k) (hx : ls[k]? = some x) (hn : stepD cs (upD cs (ls.take k)) (piecesB 32 x) = ⟨(upD cs (ls.take k)).insts, (upD cs (ls.take k)).nets ++ [q], (upD cs (ls.take k)).ports⟩) (hq : q.size ≤ maxLen) :
    ∃ cells, wr.ownsRow 0 9 1 vn (upD cs (ls.take k)).nets.length cells ∧ ∀ (u w4 : World) (v' : Value), Grows wr u → u.grownBy w4 vn.ownBlock → (v'.ownBlock = vn.ownBlock ∨ v'.ownBlock = some u.heap.size) → w4.ownsRow 0 9 1 v' ((upD cs (ls.take k)).nets.length + 1) (cells ++ [.string q]) → GSt w0 cs gl lc ls w4 v' vp vi vw (k + 1) := by
  obtain ⟨cells, hr, FIN⟩ := h.2.1.net
  refine ⟨cells, hr, fun u w4 v' gu g hat hr4 => ?_⟩
  obtain ⟨r1, r2, r3⟩ := h.rest gu (.inr (.inl rfl)) g
  refine ⟨r1, ?_, r2, r3⟩
  rw [upD_take hx, hn]
  exact FIN u w4 v' q (fun p _ hp => Below.block gu p hp) gu.size (Nat.le_trans h.1.size gu.size) hq g hat hr4
theorem GSt.port {y : PortD} (h : GSt w0 cs gl lc ls wr vn vp vi vw k) (hx : ls[k]? = some x) (hn : stepD cs (upD cs (ls.take k)) (piecesB 32 x) = ⟨(upD cs (ls.take k)).insts, (upD cs (ls.take k)).nets, (upD cs (ls.take k)).ports ++ [y]⟩) (hq : y.name.size ≤ maxLen) :
    ∃ cells, wr.ownsRow 0 75 3 vp (upD cs (ls.take k)).ports.length cells ∧ ∀ (u w4 : World) (v' : Value), Grows wr u → u.grownBy w4 vp.ownBlock → (v'.ownBlock = vp.ownBlock ∨ v'.ownBlock = some u.heap.size) → w4.ownsRow 0 75 3 v' ((upD cs (ls.take k)).ports.length + 1) (cells ++ [.string y.name, .int .i64 y.dir, .int .i64 y.net]) → GSt w0 cs gl lc ls w4 vn v' vi vw (k + 1) := by
  obtain ⟨cells, hr, FIN⟩ := h.2.1.port
  refine ⟨cells, hr, fun u w4 v' gu g hat hr4 => ?_⟩
  obtain ⟨r1, r2, r3⟩ := h.rest gu (.inr (.inr rfl)) g
  refine ⟨r1, ?_, r2, r3⟩
  rw [upD_take hx, hn]
  exact FIN u w4 v' y (fun p _ hp => Below.block gu p hp) gu.size (Nat.le_trans h.1.size gu.size) hq g hat hr4
theorem GSt.inst {y : InstD} (h : GSt w0 cs gl lc ls wr vn vp vi vw k) (hx : ls[k]? = some x) (hn : stepD cs (upD cs (ls.take k)) (piecesB 32 x) = ⟨(upD cs (ls.take k)).insts ++ [y], (upD cs (ls.take k)).nets, (upD cs (ls.take k)).ports⟩) :
    ∃ cells, wr.ownsRow 0 77 3 vi (upD cs (ls.take k)).insts.length cells ∧ ∀ (u w4 : World) (v' : Value) (es : List Value) (b : List Nat), Grows wr u → OInst u es y b → es.length = 3 → Own wr.heap.size u.heap.size b → u.grownBy w4 vi.ownBlock → (v'.ownBlock = vi.ownBlock ∨ v'.ownBlock = some u.heap.size) → w4.ownsRow 0 77 3 v' ((upD cs (ls.take k)).insts.length + 1) (cells ++ es) → GSt w0 cs gl lc ls w4 vn vp v' vw (k + 1) := by
  obtain ⟨cells, hr, FIN⟩ := h.2.1.inst
  refine ⟨cells, hr, fun u w4 v' es b gu hy hl hb g hat hr4 => ?_⟩
  obtain ⟨r1, r2, r3⟩ := h.rest gu (.inl rfl) g
  refine ⟨r1, ?_, r2, r3⟩
  rw [upD_take hx, hn]
  exact FIN u w4 v' y es b (fun p _ hp => Below.block gu p hp) gu.size h.1.size hy hl hb g hat hr4
theorem GSt.wire (h : GSt w0 cs gl lc ls wr vn vp vi vw k) (hx : ls[k]? = some x) (hn : stepD cs (upD cs (ls.take k)) (piecesB 32 x) = upD cs (ls.take k)) :
    ∃ m cells, m ≤ k ∧ wr.ownsRow 0 27 1 vw m cells ∧ ∀ (u w4 : World) (v' : Value) (e : Value), Grows wr u → u.grownBy w4 vw.ownBlock → (v'.ownBlock = vw.ownBlock ∨ v'.ownBlock = some u.heap.size) → w4.ownsRow 0 27 1 v' (m + 1) (cells ++ [e]) → GSt w0 cs gl lc ls w4 vn vp vi v' (k + 1) := by
  obtain ⟨h1, h2, ⟨m, cells, h3, h4⟩, h5⟩ := h
  refine ⟨m, cells, h3, h4, fun u w4 v' e gu g hat hr4 => ?_⟩
  have hlt := h2.lt
  refine ⟨(h1.trans gu).grown g (fun q e => (hlt.1 q (by rw [e]; simp)).1), ?_, ⟨m + 1, _, by omega, hr4⟩, blk_grown (h5.grows gu) g (fun q e e2 => ?_)⟩
  · rw [upD_take hx, hn]
    exact h2.swap (fun p _ hp => Below.block gu p hp) gu.size (Nat.le_trans h1.size gu.size) g hat (fun e => (hr4.lt _ e).2)
  · obtain ⟨r, -, -, -, o⟩ := h2
    have hn := o.1
    rw [List.nodup_append, List.nodup_append] at hn
    exact hn.1.2.2 q (by rw [e]; simp) gl (by simp) e2
end
theorem own_blk {α : Type} {w : World} {base : Nat} {t : TypeId} {v : Value} {xs : List α} {f : α → Value} (h : w.ownsRow base t 1 v xs.length (xs.map f)) (hn : 1 ≤ xs.length) :
    ∃ (g c : Nat) (cur : Array Value), v = .slice (some ⟨g, 0, none⟩) xs.length c ∧ base ≤ g ∧ Blk w g t cur ∧ ∀ (j : Nat) (x : α), xs[j]? = some x → cur[j]? = some (f x) := by
  obtain ⟨hl, ⟨rfl, h0⟩ | ⟨g, c, cur, rfl, hb, hg, h1, h2, h3, h4⟩⟩ := h
  · omega
  · have hB : Blk w g t cur := hg
    refine ⟨g, c, cur, rfl, hb, hB, fun j x hx => ?_⟩
    have hi : j < xs.length := (List.getElem?_eq_some_iff.1 hx).1
    have h5 : (cur.toList.take (xs.length * 1))[j]? = some (f x) := by rw [h4, List.getElem?_map, hx]; rfl
    rw [Nat.mul_one, List.getElem?_take_of_lt hi] at h5
    simpa using h5
end Go.Proofs.YtocahjbmnkadjaaGreatDoor
