/-
  Rows that grow side by side: instances and nets of a drawn design.
-/
import Derived.Test.YtlnpefiipdkafaaGreatDoorL3E
import Derived.Test.YtlnpefiipdkafaaGreatDoorGD
namespace Go.Proofs.YtlnpefiipdkafaaGreatDoor
open Go.RowKit
def OInstB (w : World) (es : List Value) (x : InstD) (b : List Nat) : Prop := OInst w es x b ∧ (1 ≤ x.nets.length ∧ x.nets.length ≤ 8) ∧ x.name.size ≤ 100
def OStrB (_ : World) (es : List Value) (s : ByteArray) (b : List Nat) : Prop := es = [.string s] ∧ s.size ≤ 100 ∧ b = []
def OPortB (_ : World) (es : List Value) (x : PortD) (b : List Nat) : Prop := es = [.string x.name, .int .i64 x.dir, .int .i64 x.net] ∧ x.name.size ≤ 100 ∧ b = []
theorem OInstB.same {w w' : World} {es : List Value} {x : InstD} {b : List Nat} (h : OInstB w es x b) (g : SameOn b w w') : OInstB w' es x b := ⟨h.1.same g, h.2⟩
theorem OStrB.same {w w' : World} {es : List Value} {x : ByteArray} {b : List Nat} (h : OStrB w es x b) (_ : SameOn b w w') : OStrB w' es x b := h
theorem OPortB.same {w w' : World} {es : List Value} {x : PortD} {b : List Nat} (h : OPortB w es x b) (_ : SameOn b w w') : OPortB w' es x b := h
theorem els_nil {α : Type} {sz : Nat} {O : World → List Value → α → List Nat → Prop} {w : World} (hO : ∀ es x b, O w es x b → b = []) : ∀ {xs : List α} {cells : List Value} {bss : List (List Nat)}, Els sz O w cells xs bss → bss.flatten = []
  | [], _, _, ⟨_, h⟩ => by subst h; rfl
  | x :: xs, _, _, ⟨es, rest, b, bss', _, _, h3, h4, h5⟩ => by
    subst h4
    rw [List.flatten_cons, hO _ _ _ h3, els_nil hO h5]
    rfl
/-- an own row, what its elements hold listed in r -/
def RW {α : Type} (sz : Nat) (t : TypeId) (O : World → List Value → α → List Nat → Prop) (w : World) (v : Value) (xs : List α) (r : List Nat) : Prop :=
  ∃ bss, ORow sz t O 0 w v xs bss ∧ r = bss.flatten
section
variable {α : Type} {sz : Nat} {t : TypeId} {O : World → List Value → α → List Nat → Prop} {w w' u : World} {v v' : Value} {xs : List α} {r : List Nat}
theorem RW.keep (h : RW sz t O w v xs r) (g : SameOn (v.ownBlock.toList ++ r) w w') (hO : ∀ es x b, O w es x b → SameOn b w w' → O w' es x b) : RW sz t O w' v xs r := by
  obtain ⟨bss, h, rfl⟩ := h
  exact ⟨bss, h.keep g hO, rfl⟩
theorem RW.list (h : RW sz t O w v xs r) : OList sz t O w v xs (v.ownBlock.toList ++ r) := by
  obtain ⟨bss, h, rfl⟩ := h
  exact h.list
theorem RW.slice (h : RW sz t O w v xs r) : ∃ (A : Option Addr) (c : Nat), v = .slice A xs.length c := by
  obtain ⟨bss, h, rfl⟩ := h
  exact h.slice
theorem RW.row (h : RW sz t O w v xs r) : ∃ cells, w.ownsRow 0 t sz v xs.length cells ∧ ∀ (u w4 : World) (v' : Value) (y : α) (es : List Value) (b : List Nat), Own 0 w.heap.size (v.ownBlock.toList ++ r) → w.heap.size ≤ u.heap.size → SameOn (v.ownBlock.toList ++ r) w u → (∀ w w' es x b, O w es x b → SameOn b w w' → O w' es x b) → O u es y b → es.length = sz →
    (∀ q ∈ b, q < u.heap.size ∧ q ∉ v.ownBlock.toList ++ r) → b.Nodup → u.grownBy w4 v.ownBlock → (v'.ownBlock = v.ownBlock ∨ v'.ownBlock = some u.heap.size) → w4.ownsRow 0 t sz v' (xs.length + 1) (cells ++ es) → RW sz t O w4 v' (xs ++ [y]) (r ++ b) := by
  obtain ⟨bss, ⟨cells, h1, h2, h3⟩, rfl⟩ := h
  refine ⟨cells, h1, fun u w4 v' y es b ho hsz hs hO hy hl hb hbn g hat hr => ?_⟩
  refine ⟨bss ++ [b], ORow.snoc (u := u) (lo := 0) (h2.mono fun es x d hd hx => hO _ _ _ _ _ hx (hs.sub fun q hq => List.mem_append_right _ (List.mem_flatten.2 ⟨d, hd, hq⟩))) ?_ (Nat.zero_le _) g hat hr hl hy (fun es x b h g => hO _ _ _ _ _ h g), by rw [List.flatten_append, List.flatten_singleton]⟩
  refine ⟨List.nodup_append.2 ⟨ho.1, hbn, fun a ha c hc e => (hb c hc).2 (e ▸ ha)⟩, fun q hq => ⟨Nat.zero_le _, ?_⟩⟩
  rcases List.mem_append.1 hq with hq | hq
  · have := (ho.2 q hq).2; omega
  · exact (hb q hq).1
end
theorem OwnQ.perm {Q : Nat → Prop} {hi : Nat} {a b : List Nat} (h : OwnQ Q hi a) (p : a.Perm b) : OwnQ Q hi b := ⟨(p.nodup_iff).1 h.1, fun g hg => h.2 g (p.mem_iff.2 hg)⟩
theorem OwnQ.left {Q : Nat → Prop} {hi : Nat} {a b : List Nat} (h : OwnQ Q hi (a ++ b)) : OwnQ Q hi a := ⟨(List.nodup_append.1 h.1).1, fun g hg => h.2 g (List.mem_append_left _ hg)⟩
theorem OwnQ.right {Q : Nat → Prop} {hi : Nat} {a b : List Nat} (h : OwnQ Q hi (a ++ b)) : OwnQ Q hi b := ⟨(List.nodup_append.1 h.1).2.1, fun g hg => h.2 g (List.mem_append_right _ hg)⟩
theorem OwnQ.own {Q : Nat → Prop} {hi : Nat} {a : List Nat} (h : OwnQ Q hi a) : Own 0 hi a := ⟨h.1, fun g hg => ⟨Nat.zero_le _, (h.2 g hg).2⟩⟩
/-- a row's block was turned for a new one, or stays -/
theorem OwnQ.head {Q : Nat → Prop} {hi hi' n : Nat} {a a' : Option Nat} {l : List Nat} (h : OwnQ Q hi (a.toList ++ l)) (ha : a' = a ∨ a' = some n) (hn : hi ≤ n) (hq : Q n) (hlt : a' = some n → n < hi') (hh : hi ≤ hi') : OwnQ Q hi' (a'.toList ++ l) := by
  rcases ha with rfl | rfl
  · exact h.mono hh
  · refine ⟨?_, fun g hg => ?_⟩
    · simp only [Option.toList_some, List.singleton_append, List.nodup_cons]
      exact ⟨fun hm => by have := (h.right.2 n hm).2; omega, h.right.1⟩
    · simp only [Option.toList_some, List.singleton_append, List.mem_cons] at hg
      rcases hg with rfl | hg
      · exact ⟨hq, hlt rfl⟩
      · have := h.right.2 g hg
        exact ⟨this.1, Nat.lt_of_lt_of_le this.2 hh⟩
/-- blocks more -/
theorem OwnQ.more {Q : Nat → Prop} {hi hi' : Nat} {l b : List Nat} (h : OwnQ Q hi l) (hb : OwnQ Q hi' b) (hd : ∀ q ∈ b, q ∉ l) (hh : hi ≤ hi') : OwnQ Q hi' (l ++ b) := by
  refine ⟨List.nodup_append.2 ⟨h.1, hb.1, fun a ha c hc e => hd c hc (e ▸ ha)⟩, fun g hg => ?_⟩
  rcases List.mem_append.1 hg with hg | hg
  · exact ⟨(h.2 g hg).1, Nat.lt_of_lt_of_le (h.2 g hg).2 hh⟩
  · exact hb.2 g hg
def RInstW : World → Value → List InstD → List Nat → Prop := RW 3 72 OInstB
def RStrW : World → Value → List ByteArray → List Nat → Prop := RW 1 9 OStrB
/-- instances and nets as they grow -/
def DSt (Q : Nat → Prop) (w : World) (vi : Value) (xs : List InstD) (vn : Value) (ns : List ByteArray) : Prop :=
  ∃ r, RInstW w vi xs r ∧ RStrW w vn ns [] ∧ OwnQ Q w.heap.size (vn.ownBlock.toList ++ (vi.ownBlock.toList ++ r))
section
variable {Q : Nat → Prop} {w w' : World} {vi vn : Value} {xs : List InstD} {ns : List ByteArray}
theorem RStrW.nil {r : List Nat} (h : RStrW w vn ns r) : r = [] := by
  obtain ⟨bss, ⟨cells, _, h2, _⟩, rfl⟩ := h
  exact els_nil (fun _ _ _ h => h.2.2) h2
theorem DSt.next {ds : List Nat} (h : DSt Q w vi xs vn ns) (c : Chg ds w w') (hd : ∀ g ∈ ds, ¬ Q g) : DSt Q w' vi xs vn ns := by
  obtain ⟨r, h1, h2, h3⟩ := h
  have key : ∀ bs : List Nat, (∀ q ∈ bs, q ∈ vn.ownBlock.toList ++ (vi.ownBlock.toList ++ r)) → SameOn bs w w' := fun bs hs => c.same (fun q hq => (h3.2 q (hs q hq)).2) (fun q hq hm => hd q hm (h3.2 q (hs q hq)).1)
  exact ⟨r, RW.keep h1 (key _ fun q hq => List.mem_append_right _ hq) (fun _ _ _ h g => h.same g), RW.keep h2 (key _ fun q hq => List.mem_append_left _ (by simpa using hq)) (fun _ _ _ h _ => h), h3.mono c.size⟩
theorem DSt.net (h : DSt Q w vi xs vn ns) : ∃ cells, w.ownsRow 0 9 1 vn ns.length cells ∧ ∀ (u w4 : World) (v' : Value) (s : ByteArray) (ds : List Nat), Chg ds w u → (∀ g ∈ ds, ¬ Q g) → Q u.heap.size → s.size ≤ 100 → u.grownBy w4 vn.ownBlock → (v'.ownBlock = vn.ownBlock ∨ v'.ownBlock = some u.heap.size) → w4.ownsRow 0 9 1 v' (ns.length + 1) (cells ++ [.string s]) → DSt Q w4 vi xs v' (ns ++ [s]) := by
  obtain ⟨r, h1, h2, h3⟩ := h
  obtain ⟨cells, hr, H⟩ := RW.row h2
  refine ⟨cells, hr, fun u w4 v' s ds c hd hQ hs g hat hr4 => ?_⟩
  have key : ∀ bs : List Nat, (∀ q ∈ bs, q ∈ vn.ownBlock.toList ++ (vi.ownBlock.toList ++ r)) → SameOn bs w u := fun bs hs => c.same (fun q hq => (h3.2 q (hs q hq)).2) (fun q hq hm => hd q hm (h3.2 q (hs q hq)).1)
  have h4 := H u w4 v' s [.string s] [] (by simpa using h3.left.own) c.size (key _ fun q hq => List.mem_append_left _ (by simpa using hq)) (fun _ _ _ _ _ h _ => h) ⟨rfl, hs, rfl⟩ rfl (fun _ h => nomatch h) List.nodup_nil g hat hr4
  refine ⟨r, RW.keep h1 (w' := w4) (fun q hq => ?_) (fun _ _ _ h g => h.same g), h4, h3.head (n := u.heap.size) hat c.size hQ (fun e => (hr4.lt _ e).2) (Nat.le_trans c.size g.size)⟩
  have hm := h3.2 q (List.mem_append_right _ hq)
  have hn := h3.1
  rw [List.nodup_append] at hn
  exact (g.block q (Nat.lt_of_lt_of_le hm.2 c.size) (fun e => hn.2.2 q (by rw [← e]; simp) q hq rfl)).trans (key _ (fun q hq => List.mem_append_right _ hq) q hq)
theorem DSt.imp {Q' : Nat → Prop} (h : DSt Q w vi xs vn ns) (hq : ∀ g, g < w.heap.size → Q g → Q' g) : DSt Q' w vi xs vn ns := by
  obtain ⟨r, h1, h2, h3⟩ := h
  exact ⟨r, h1, h2, h3.1, fun g hg => ⟨hq g (h3.2 g hg).2 (h3.2 g hg).1, (h3.2 g hg).2⟩⟩
theorem DSt.inst {Q' : Nat → Prop} (h : DSt Q' w vi xs vn ns) (hQ' : ∀ q, Q' q → Q q) : ∃ cells, w.ownsRow 0 72 3 vi xs.length cells ∧ ∀ (u w4 : World) (v' : Value) (y : InstD) (es : List Value) (b : List Nat) (ds : List Nat), Chg ds w u → (∀ g ∈ ds, ¬ Q' g) → Q u.heap.size → OInstB u es y b → es.length = 3 → OwnQ Q u.heap.size b → (∀ q ∈ b, ¬ Q' q) →
    u.grownBy w4 vi.ownBlock → (v'.ownBlock = vi.ownBlock ∨ v'.ownBlock = some u.heap.size) → w4.ownsRow 0 72 3 v' (xs.length + 1) (cells ++ es) → DSt Q w4 v' (xs ++ [y]) vn ns := by
  obtain ⟨r, h1, h2, h3⟩ := h
  obtain ⟨cells, hr, H⟩ := RW.row h1
  refine ⟨cells, hr, fun u w4 v' y es b ds c hd hQ hy hl hb hbq g hat hr4 => ?_⟩
  have key : ∀ bs : List Nat, (∀ q ∈ bs, q ∈ vn.ownBlock.toList ++ (vi.ownBlock.toList ++ r)) → SameOn bs w u := fun bs hs => c.same (fun q hq => (h3.2 q (hs q hq)).2) (fun q hq hm => hd q hm (h3.2 q (hs q hq)).1)
  have h4 := H u w4 v' y es b h3.right.own c.size (key _ fun q hq => List.mem_append_right _ hq) (fun _ _ _ _ _ h g => h.same g) hy hl (fun q hq => ⟨(hb.2 q hq).2, fun hm => hbq q hq (h3.2 q (List.mem_append_right _ hm)).1⟩) hb.1 g hat hr4
  refine ⟨r ++ b, h4, RW.keep h2 (w' := w4) (fun q hq => ?_) (fun _ _ _ h _ => h), ?_⟩
  · rw [List.append_nil] at hq
    have hm := h3.2 q (List.mem_append_left _ hq)
    have hn := h3.1
    rw [List.nodup_append] at hn
    exact (g.block q (Nat.lt_of_lt_of_le hm.2 c.size) (fun e => hn.2.2 q hq q (List.mem_append_left _ (by rw [← e]; simp)) rfl)).trans (key [q] (fun q' hq' => by simp at hq'; subst hq'; exact List.mem_append_left _ hq) q (by simp))
  · have h5 : OwnQ Q u.heap.size (vi.ownBlock.toList ++ (vn.ownBlock.toList ++ r)) := (OwnQ.mono (⟨h3.1, fun q hq => ⟨hQ' q (h3.2 q hq).1, (h3.2 q hq).2⟩⟩ : OwnQ Q w.heap.size _) c.size).perm (by
      have hpm := List.Perm.append_right r (List.perm_append_comm (l₁ := vn.ownBlock.toList) (l₂ := vi.ownBlock.toList))
      rw [List.append_assoc, List.append_assoc] at hpm
      exact hpm)
    have h6 := h5.more hb (fun q hq hm => hbq q hq (h3.2 q (by
      rw [List.mem_append, List.mem_append] at hm ⊢
      rcases hm with h | h | h
      · exact .inr (.inl h)
      · exact .inl h
      · exact .inr (.inr h))).1) (Nat.le_refl _)
    rw [List.append_assoc, List.append_assoc] at h6
    have h7 := h6.head (n := u.heap.size) (hi' := w4.heap.size) hat (Nat.le_refl _) hQ (fun e => (hr4.lt _ e).2) g.size
    have hpm := List.Perm.append_right (r ++ b) (List.perm_append_comm (l₁ := v'.ownBlock.toList) (l₂ := vn.ownBlock.toList))
    rw [List.append_assoc, List.append_assoc] at hpm
    exact h7.perm hpm
end
end Go.Proofs.YtlnpefiipdkafaaGreatDoor
