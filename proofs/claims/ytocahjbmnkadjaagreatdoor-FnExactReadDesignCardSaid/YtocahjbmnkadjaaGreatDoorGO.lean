/-
  What it means that at most certain blocks have turned.
-/
import Derived.Test.YtocahjbmnkadjaaGreatDoorGA
namespace Go.Proofs.YtocahjbmnkadjaaGreatDoor
open Go.RowKit

/-- at most these blocks have turned; nothing has gone -/
structure Chg (bs : List Nat) (w w' : World) : Prop where
  os : w'.os = w.os
  tape : w'.tape = w.tape
  output : w'.output = w.output
  size : w.heap.size ≤ w'.heap.size
  block : ∀ g, g < w.heap.size → g ∉ bs → w'.heap[g]? = w.heap[g]?
theorem Chg.refl (bs : List Nat) (w : World) : Chg bs w w := ⟨rfl, rfl, rfl, Nat.le_refl _, fun _ _ _ => rfl⟩
theorem Chg.trans {bs : List Nat} {a b c : World} (h : Chg bs a b) (k : Chg bs b c) : Chg bs a c :=
  ⟨k.os.trans h.os, k.tape.trans h.tape, k.output.trans h.output, Nat.le_trans h.size k.size, fun g hg hn => (k.block g (Nat.lt_of_lt_of_le hg h.size) hn).trans (h.block g hg hn)⟩
theorem Chg.mono {bs cs : List Nat} {a b : World} (h : Chg bs a b) (hs : ∀ g ∈ bs, g ∈ cs) : Chg cs a b :=
  ⟨h.os, h.tape, h.output, h.size, fun g hg hn => h.block g hg fun hm => hn (hs g hm)⟩
theorem Chg.of_grows {bs : List Nat} {a b : World} (h : Grows a b) : Chg bs a b := ⟨h.os, h.tape, h.output, h.size, fun g hg _ => Below.block h g hg⟩
theorem Chg.setCell {bs : List Nat} {a w : World} (h : Chg bs a w) {p : Addr} (hp : p.block ∈ bs) (u : Value) : Chg bs a (w.setCell p u) :=
  ⟨h.os, h.tape, h.output, by simpa [World.setCell] using h.size, fun g hg hn => (Below.heap_setCell w p u g (by rintro rfl; exact hn hp)).trans (h.block g hg hn)⟩
theorem Grows.chg {W w w' : World} {bs : List Nat} (h : Grows W w) (k : Chg bs w w') (hb : ∀ g ∈ bs, W.heap.size ≤ g) : Grows W w' :=
  ⟨k.os.trans h.os, k.tape.trans h.tape, k.output.trans h.output, Nat.le_trans h.size k.size, fun g hg => (k.block g (Nat.lt_of_lt_of_le hg h.size) fun hm => by have := hb g hm; omega).trans (Below.block h g hg)⟩
theorem Chg.same {bs cs : List Nat} {w w' : World} (h : Chg bs w w') (hl : ∀ g ∈ cs, g < w.heap.size) (hd : ∀ g ∈ cs, g ∉ bs) : SameOn cs w w' := fun g hg => h.block g (hl g hg) (hd g hg)
theorem Blk.chg {w w' : World} {g : Nat} {t : TypeId} {cs : Array Value} {bs : List Nat} (h : Blk w g t cs) (k : Chg bs w w') (hn : g ∉ bs) : Blk w' g t cs := (k.block g h.lt hn).trans h

theorem Chg.drewN {bs : List Nat} {a w : World} (h : Chg bs a w) (n : Nat) : Chg bs a (w.drewN n) := ⟨h.os, h.tape, h.output, h.size, h.block⟩
theorem Chg.drew {bs : List Nat} {a w : World} (h : Chg bs a w) : Chg bs a w.drew := ⟨h.os, h.tape, h.output, h.size, h.block⟩
theorem Chg.alloc {bs : List Nat} {a w : World} (h : Chg bs a w) (o : Obj) : Chg bs a (w.alloc o) := h.trans (Chg.of_grows ((Grows.refl w).alloc o))
theorem Blk.drewN {w : World} {g : Nat} {t : TypeId} {cs : Array Value} (h : Blk w g t cs) (n : Nat) : Blk (w.drewN n) g t cs := h
theorem Blk.setE {w : World} {g : Nat} {t : TypeId} {cs ds : Array Value} {i : Nat} {u : Value} (h : Blk w g t cs) (e : ds = cs.setIfInBounds i u) : Blk (w.setCell ⟨g, i, none⟩ u) g t ds := by subst e; exact h.set_ i u
end Go.Proofs.YtocahjbmnkadjaaGreatDoor
/-
  Contracts of the functions that mark a value's memory with numbers and that look whether the marks stand.
-/
namespace Go.Proofs.YtocahjbmnkadjaaGreatDoor
open Go.RowKit

/-- the marks from k on -/
def mkL (k : Int) (n : Nat) : List Int := (List.range n).map fun (i : Nat) => k + (i : Int)
theorem mkL_len (k : Int) (n : Nat) : (mkL k n).length = n := by simp [mkL]
theorem mkL_at {k : Int} {n i : Nat} (h : i < n) : (mkL k n)[i]? = some (k + (i : Int)) := by simp [mkL, h]

/-- the marking's state behind i rounds -/
def Marked (w wr : World) (g : Nat) (n : Nat) (k : Int) (i : Nat) : Prop :=
  ∃ cs : Array Value, Blk wr g 2 cs ∧ n ≤ cs.size ∧ (∀ j, j < i → cs[j]? = some (.int .i64 (k + (j : Int)))) ∧ Chg [g] w wr
theorem Marked.step {w wr : World} {g n i : Nat} {k : Int} (h : Marked w wr g n k i) (hi : i < n) : Marked w (wr.setCell ⟨g, i, none⟩ (.int .i64 (k + (i : Int)))) g n k (i + 1) := by
  obtain ⟨cs, hb, hs, hc, hg⟩ := h
  refine ⟨_, hb.set_ i _, by simpa using hs, fun j hj => ?_, hg.setCell (by simp) _⟩
  rw [Array.getElem?_setIfInBounds]
  by_cases e : i = j
  · subst e
    rw [if_pos rfl, if_pos (by omega)]
  · rw [if_neg e]
    exact hc j (by omega)
set_option maxHeartbeats 1000000 in
theorem markInts_any {v : Value} {xs : List Int} {bs : List Nat} (k : Int) (w : World) (h : OInts w v xs bs) (hn : SmL xs) (hk : 0 ≤ k) (hk2 : k ≤ 1000000000000) :
    Calls Tryz.prog 53 #[v, .int .i64 k] w fun e w' => e = .returned (.int .i64 (k + (xs.length : Int))) ∧ OInts w' v (mkL k xs.length) bs ∧ Chg bs w w' := by
  unfold SmL at hn
  rcases h with ⟨rfl, rfl, rfl⟩ | ⟨g, c, cs, bss, rfl, h1, h2, hb, hl, rfl, hc⟩
  · go_enter Tryz.func53, Tryz.ntmps53
    go_wp2
    go_loopw [1, 5] (fun q i wr => q = .int .i64 k ∧ i = .int .i64 0 ∧ wr = w) (fun _ _ _ => 0)
    case atStart => exact ⟨rfl, rfl, rfl⟩
    case round =>
      obtain ⟨rfl, rfl, rfl⟩ := hrel
      go_wp2
      go_ret
      exact ⟨ret_int (by simp), .inl ⟨rfl, rfl, rfl⟩, Chg.refl _ _⟩
  · have hflat : bss.flatten = [] := by
      rw [List.flatten_eq_nil_iff]
      intro l hl'
      obtain ⟨i, hi⟩ := List.getElem?_of_mem hl'
      have hlt : i < xs.length := by have := (List.getElem?_eq_some_iff.1 hi).1; omega
      obtain ⟨es, b', _, _, hbi, ho⟩ := hc i _ (List.getElem?_eq_getElem hlt)
      rw [hi] at hbi
      injection hbi with hbi
      rw [hbi, ho.2]
    have hsz : xs.length ≤ cs.size := by
      rcases Nat.eq_zero_or_pos xs.length with h0 | h0
      · omega
      · obtain ⟨es, b', hes, hcs, _, _⟩ := hc (xs.length - 1) _ (List.getElem?_eq_getElem (by omega))
        have := hcs 0 es[0] (List.getElem?_eq_getElem (by omega))
        have := (Array.getElem?_eq_some_iff.1 this).1
        omega
    have HS : Marked w w g xs.length k 0 := ⟨cs, hb, hsz, fun j hj => absurd hj (by omega), Chg.refl _ _⟩
    have HS := hideIt HS
    rw [hflat]
    clear hb hc hl hflat hsz
    go_enter Tryz.func53, Tryz.ntmps53
    go_wp2
    go_loopw [1, 5] (fun q i wr => ∃ j : Nat, j ≤ xs.length ∧ q = .int .i64 (k + (j : Int)) ∧ i = .int .i64 (j : Int) ∧ Marked w wr g xs.length k j) (fun _ i _ => xs.length - (intOf i).toNat)
    case atStart => exact ⟨0, Nat.zero_le _, by simp, rfl, HS.out⟩
    case round =>
      obtain ⟨j, hj, rfl, rfl, hm⟩ := hrel
      by_cases hlt : j < xs.length
      · have hst := hideIt (hm.step hlt)
        obtain ⟨ds, hb, hsz, -, -⟩ := hm
        obtain ⟨old, hd⟩ : ∃ old, wr.cell? ⟨g, j, none⟩ = some old := ⟨_, by rw [hb.cell]; exact Array.getElem?_eq_getElem (by omega)⟩
        have hf : wr.frozen? ⟨g, j, none⟩ = false := hb.frozen j
        clear hb hsz
        go_wp2
        go_roundw
        case rel => exact ⟨j + 1, by omega, by go_num, by go_num, hst.out⟩
        case measure => simp [intOf]; omega
      · have hj2 : j = xs.length := by omega
        subst hj2
        have HM := hideIt hm
        clear hm
        go_wp2
        go_ret
        obtain ⟨ds, hb, hsz, hc, hg⟩ := HM.out
        refine ⟨rfl, .inr ⟨g, c, ds, List.replicate xs.length [], by rw [mkL_len], by rw [mkL_len]; exact h1, h2, hb, by simp [mkL_len], ?_, fun i x hx => ?_⟩, hg⟩
        · congr 1
          symm
          rw [List.flatten_eq_nil_iff]
          intro l hl
          exact (List.mem_replicate.1 hl).2
        · have hi : i < xs.length := by have := (List.getElem?_eq_some_iff.1 hx).1; rw [mkL_len] at this; exact this
          rw [mkL_at hi] at hx
          injection hx with hx
          subst hx
          refine ⟨[.int .i64 (k + (i : Int))], [], rfl, fun j u hu => ?_, by rw [List.getElem?_replicate, if_pos hi], rfl, rfl⟩
          match j, hu with
          | 0, hu =>
            simp at hu
            subst hu
            simpa using hc i hi
set_option maxHeartbeats 1000000 in
theorem heldInts_any {v : Value} {n : Nat} (k : Int) (w : World) (h : RInts w v (mkL k n)) (hn : n ≤ 1048576) (hk : 0 ≤ k) (hk2 : k ≤ 1000000000000) :
    Calls Tryz.prog 54 #[v, .int .i64 k] w fun e w' => e = .returned (.int .i64 (k + (n : Int))) ∧ Grows w w' := by
  obtain ⟨A, c, hv, hle, hc, hx⟩ := h.form
  rw [mkL_len] at hv hle
  subst hv
  have HX := hideIt hx
  clear hx h hle hc
  go_enter Tryz.func54, Tryz.ntmps54
  go_wp2
  go_loopw [1, 5] (fun q i wr => ∃ j : Nat, j ≤ n ∧ q = .int .i64 (k + (j : Int)) ∧ i = .int .i64 (j : Int) ∧ Grows w wr) (fun _ i _ => n - (intOf i).toNat)
  case atStart => exact ⟨0, Nat.zero_le _, by simp, rfl, Grows.refl _⟩
  case round =>
    obtain ⟨j, hj, rfl, rfl, hg⟩ := hrel
    by_cases hlt : j < n
    · obtain ⟨b, off, rfl, cs, hl1, hcs, hr⟩ := HX.out j _ (mkL_at hlt)
      unfold RI at hr
      subst hr
      have hs : wr.cell? ⟨b, off + j, none⟩ = some (.int .i64 (k + (j : Int))) := by simpa using hg.keeps _ _ (hcs 0 _ rfl)
      clear hcs hl1
      go_wp2
      try (go_quiet (fail); go_wp2)
      go_roundw
      case rel => exact ⟨j + 1, by omega, by go_num, by go_num, by first | exact hg | exact hg.drewN _ | exact (hg.drewN _).drewN _⟩
      case measure => simp [intOf]; omega
    · have hj2 : j = n := by omega
      subst hj2
      go_wp2
      go_ret
      exact ⟨rfl, hg⟩
def mkTable (k : Int) (t : TableD) : TableD := ⟨mkL k t.slews.length, mkL (k + t.slews.length) t.loads.length, mkL (k + t.slews.length + t.loads.length) t.values.length⟩
end Go.Proofs.YtocahjbmnkadjaaGreatDoor
/-
  What marking a list of structs keeps: the headers of nested slices, and the blocks of the elements that are still to come.
-/
namespace Go.Proofs.YtocahjbmnkadjaaGreatDoor
open Go.RowKit

theorem at_world {P : Program} {n : Nat} {args : Array Value} {W : World} {Q : Ending → World → Prop} (st : World → Prop) (hW : st W) (h : ∀ u, st u → Calls P n args u Q) : Calls P n args W Q := h W hW

/-- block g is a row of structs of sz cells; fields fs are as in cs; besides it at most the blocks bs have turned -/
structure MkSt (sz : Nat) (t : TypeId) (fs : List Nat) (w : World) (g : Nat) (cs : Array Value) (bs : List Nat) (wr : World) : Prop where
  ex : ∃ ds : Array Value, Blk wr g t ds ∧ ds.size = cs.size ∧ ∀ j f, f ∈ fs → ds[j * sz + f]? = cs[j * sz + f]?
  chg : Chg (g :: bs) w wr
section
variable {sz : Nat} {t : TypeId} {fs : List Nat} {w wr u : World} {g : Nat} {cs : Array Value} {bs bs' : List Nat}
theorem MkSt.start (h : Blk w g t cs) : MkSt sz t fs w g cs bs w := ⟨⟨cs, h, rfl, fun _ _ _ => rfl⟩, Chg.refl _ _⟩
theorem MkSt.more (h : MkSt sz t fs w g cs bs wr) (hs : ∀ q ∈ bs, q ∈ bs') : MkSt sz t fs w g cs bs' wr :=
  ⟨h.ex, h.chg.mono fun q hq => by
    rcases List.mem_cons.1 hq with rfl | hq
    · exact List.mem_cons_self ..
    · exact List.mem_cons_of_mem _ (hs q hq)⟩
theorem MkSt.store (h : MkSt sz t fs w g cs bs wr) (i f : Nat) (hf : f ∉ fs) (hlt : f < sz) (hfs : ∀ x ∈ fs, x < sz) (v : Value) : MkSt sz t fs w g cs bs (wr.setCell ⟨g, i * sz + f, none⟩ v) := by
  obtain ⟨ds, hb, hs, hd⟩ := h.ex
  refine ⟨⟨_, hb.set_ (i * sz + f) v, by simpa using hs, fun j x hx => ?_⟩, h.chg.setCell (by simp) _⟩
  rw [Array.getElem?_setIfInBounds, if_neg, hd j x hx]
  intro e
  have h1 : (i * sz + f) % sz = f := by rw [Nat.add_comm, Nat.add_mul_mod_self_right]; exact Nat.mod_eq_of_lt hlt
  have h2 : (j * sz + x) % sz = x := by rw [Nat.add_comm, Nat.add_mul_mod_self_right]; exact Nat.mod_eq_of_lt (hfs x hx)
  rw [e, h2] at h1
  exact hf (h1 ▸ hx)
theorem MkSt.grows (h : MkSt sz t fs w g cs bs wr) (k : Grows wr u) : MkSt sz t fs w g cs bs u := by
  obtain ⟨ds, hb, hs, hd⟩ := h.ex
  exact ⟨⟨ds, hb.grows k, hs, hd⟩, h.chg.trans (Chg.of_grows k)⟩
theorem MkSt.call {b : List Nat} (h : MkSt sz t fs w g cs bs wr) (k : Chg b wr u) (hb : ∀ q ∈ b, q ∈ bs) (hg : g ∉ b) : MkSt sz t fs w g cs bs u := by
  obtain ⟨ds, hbk, hs, hd⟩ := h.ex
  exact ⟨⟨ds, hbk.chg k hg, hs, hd⟩, h.chg.trans (k.mono fun q hq => List.mem_cons_of_mem _ (hb q hq))⟩
theorem MkSt.lt (h : MkSt sz t fs w g cs bs wr) : g < wr.heap.size := by obtain ⟨ds, hb, -⟩ := h.ex; exact hb.lt
theorem MkSt.frozen (h : MkSt sz t fs w g cs bs wr) : ∀ o, wr.frozen? ⟨g, o, none⟩ = false := by obtain ⟨ds, hb, -⟩ := h.ex; exact hb.frozen
/-- a cell that may be written -/
theorem MkSt.has (h : MkSt sz t fs w g cs bs wr) {o : Nat} (ho : o < cs.size) : ∃ v, wr.cell? ⟨g, o, none⟩ = some v := by
  obtain ⟨ds, hb, hs, -⟩ := h.ex
  exact ⟨_, by rw [hb.cell]; exact Array.getElem?_eq_getElem (by omega)⟩
/-- a header that is as it was -/
theorem MkSt.kept (h : MkSt sz t fs w g cs bs wr) {i f : Nat} {v : Value} (hf : f ∈ fs) (hv : cs[i * sz + f]? = some v) : wr.cell? ⟨g, i * sz + f, none⟩ = some v := by
  obtain ⟨ds, hb, -, hd⟩ := h.ex
  rw [hb.cell, hd i f hf, hv]
end
def wtStr (_ : ByteArray) : Nat := 0
theorem wtStr_sum (xs : List ByteArray) : (xs.map wtStr).sum = 0 := by
  induction xs with
  | nil => rfl
  | cons a r ih => rw [List.map_cons, List.sum_cons, ih]; rfl
theorem MkSt.store1 {t : TypeId} {w wr : World} {g : Nat} {cs : Array Value} {bs : List Nat} (h : MkSt 1 t [] w g cs bs wr) (i : Nat) (v : Value) : MkSt 1 t [] w g cs bs (wr.setCell ⟨g, i, none⟩ v) := by
  have := h.store i 0 (by simp) (by decide) (by simp) v
  simpa using this
/-- blocks of one element, apart from the row and from those before it -/
theorem part_of {g : Nat} {bss : List (List Nat)} {i : Nat} {b : List Nat} (h : (g :: bss.flatten).Nodup) (hb : bss[i]? = some b) : g ∉ b ∧ b.Nodup ∧ (∀ q ∈ b, q ∈ bss.flatten) ∧ ∀ q ∈ b, q ∉ (bss.take i).flatten := by
  obtain ⟨hg, hn⟩ := List.nodup_cons.1 h
  have hm : ∀ q ∈ b, q ∈ bss.flatten := fun q hq => List.mem_flatten.2 ⟨b, List.mem_of_getElem? hb, hq⟩
  have hlt : i < bss.length := (List.getElem?_eq_some_iff.1 hb).1
  have hi : bss[i] = b := (List.getElem?_eq_some_iff.1 hb).2
  have e : bss.flatten = (bss.take i).flatten ++ (b ++ (bss.drop (i + 1)).flatten) := by
    rw [← hi, ← List.flatten_cons, ← List.drop_eq_getElem_cons hlt, ← List.flatten_append, List.take_append_drop]
  rw [e, List.nodup_append] at hn
  obtain ⟨_, h2, h3⟩ := hn
  rw [List.nodup_append] at h2
  exact ⟨fun h => hg (hm g h), h2.1, hm, fun q hq hp => h3 q hp q (List.mem_append_left _ hq) rfl⟩
theorem part_mem {bss : List (List Nat)} {i : Nat} {b : List Nat} (hb : bss[i]? = some b) : (∀ q ∈ (bss.take i).flatten, q ∈ (bss.take (i + 1)).flatten) ∧ ∀ q ∈ b, q ∈ (bss.take (i + 1)).flatten := by
  have e : (bss.take (i + 1)).flatten = (bss.take i).flatten ++ b := by
    rw [List.take_add_one, hb, List.flatten_append]; simp
  rw [e]
  exact ⟨fun q hq => List.mem_append_left _ hq, fun q hq => List.mem_append_right _ hq⟩
theorem part_all {bss : List (List Nat)} {i : Nat} : ∀ q ∈ (bss.take i).flatten, q ∈ bss.flatten := by
  intro q hq
  obtain ⟨b, hb, hq⟩ := List.mem_flatten.1 hq
  exact List.mem_flatten.2 ⟨b, List.mem_of_mem_take hb, hq⟩
/-- what a marking without its values says -/
def MarkW (wt : Nat) (k : Int) (bs : List Nat) (w : World) (e : Ending) (w' : World) : Prop := ∃ r : Int, e = .returned (.int .i64 r) ∧ k ≤ r ∧ r ≤ k + 4 * (wt : Int) ∧ Chg bs w w'
theorem nodup2 {b1 b2 : List Nat} (h : (b1 ++ b2).Nodup) : b1.Nodup ∧ b2.Nodup ∧ (∀ g ∈ b1, g ∉ b2) ∧ ∀ g ∈ b2, g ∉ b1 := by
  rw [List.nodup_append] at h
  obtain ⟨h1, h2, h3⟩ := h
  exact ⟨h1, h2, fun g hg hm => h3 g hg g hm rfl, fun g hg hm => h3 g hm g hg rfl⟩
theorem markInts_w {v : Value} {xs : List Int} {bs : List Nat} (k : Int) (w : World) (h : OInts w v xs bs) (_ : bs.Nodup) (hw : xs.length ≤ 1048576) (hk : 0 ≤ k) (hk2 : k + 4 * (xs.length : Int) ≤ 1000000000000) :
    Calls Tryz.prog 53 #[v, .int .i64 k] w (MarkW xs.length k bs w) :=
  (markInts_any k w h hw hk (by omega)).mono fun _ _ ⟨he, _, c⟩ => ⟨_, he, by omega, by omega, c⟩
end Go.Proofs.YtocahjbmnkadjaaGreatDoor
