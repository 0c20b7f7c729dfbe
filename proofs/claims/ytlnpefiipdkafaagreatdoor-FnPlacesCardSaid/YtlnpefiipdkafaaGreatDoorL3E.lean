/-
  What is left of a drawn cell when one of its parts has turned.
-/
import Derived.Test.YtlnpefiipdkafaaGreatDoorL3D
namespace Go.Proofs.YtlnpefiipdkafaaGreatDoor
open Go.RowKit
/-- a reading that stays while these blocks stay -/
def SR (bs : List Nat) (w : World) (P : World → Prop) : Prop := ∀ w', SameOn bs w w' → P w'
theorem SR.now {bs : List Nat} {w : World} {P : World → Prop} (h : SR bs w P) : P w := h w (SameOn.refl _ _)
theorem SR.same {bs : List Nat} {w w' : World} {P : World → Prop} (h : SR bs w P) (g : SameOn bs w w') : SR bs w' P := fun w2 g2 => h w2 (g.trans g2)
theorem ownsRow_up {w : World} {base lo n sz : Nat} {t : TypeId} {v : Value} {xs : List Value} (h : w.ownsRow base t sz v n xs) (hl : ∀ k, v.ownBlock = some k → lo ≤ k) : w.ownsRow lo t sz v n xs := by
  obtain ⟨h1, h2 | ⟨g, c, cur, rfl, hb, rest⟩⟩ := h
  · exact ⟨h1, .inl h2⟩
  · exact ⟨h1, .inr ⟨g, c, cur, rfl, hl g rfl, rest⟩⟩
theorem OList.of_row {α : Type} {sz lo : Nat} {t : TypeId} {O : World → List Value → α → List Nat → Prop} {w : World} {v : Value} {xs : List α} {cells : List Value} {bss : List (List Nat)} (h : w.ownsRow lo t sz v xs.length cells) (hE : Els sz O w cells xs bss) : OList sz t O w v xs (v.ownBlock.toList ++ bss.flatten) := by
  obtain ⟨hl, ⟨rfl, h0⟩ | ⟨g, c, cur, rfl, hb, hg, h1, h2, h3, h4⟩⟩ := h
  · have hx : xs = [] := List.eq_nil_of_length_eq_zero h0
    subst hx
    obtain ⟨e1, e2⟩ := hE
    subst e2
    exact .inl ⟨rfl, rfl, rfl⟩
  · refine .inr ⟨g, c, cur, bss, rfl, h1, h2, hg, hE.len.2, rfl, fun i x hx => ?_⟩
    obtain ⟨es, b, e1, e2, e3, e4⟩ := hE.at hx
    refine ⟨es, b, e1, fun j u hu => ?_, e3, e4⟩
    have := e2 j u hu
    rw [← h4, List.getElem?_take] at this
    split at this
    · simpa using this
    · cases this
theorem RList.tail {α : Type} {sz : Nat} {R : World → List Value → α → Prop} {w : World} {g o n c : Nat} {xs : List α} (h : RList sz R w (.slice (some ⟨g, o, none⟩) n c) xs) (hn : 1 ≤ xs.length) : RList sz R w (.slice (some ⟨g, o + sz, none⟩) (n - 1) (c - 1)) xs.tail := by
  obtain ⟨A, c', e, h1, h2, h3⟩ := h
  injection e with e1 e2 e3
  subst e1 e2 e3
  refine ⟨_, _, by rw [List.length_tail], by rw [List.length_tail]; omega, by omega, ?_⟩
  rcases h3 with rfl | ⟨b, off, e, hc⟩
  · simp at hn
  · injection e with e
    injection e with e1 e2
    subst e1 e2
    refine .inr ⟨_, _, rfl, fun i x hx => ?_⟩
    rw [List.getElem?_tail] at hx
    obtain ⟨cs, l, hcs, hr⟩ := hc (i + 1) x hx
    refine ⟨cs, l, fun j u hu => ?_, hr⟩
    rw [← hcs j u hu]
    congr 2
    rw [Nat.add_mul, Nat.one_mul]
    omega
/-- blocks of one's own, each of a kind -/
def OwnQ (Q : Nat → Prop) (hi : Nat) (bs : List Nat) : Prop := bs.Nodup ∧ ∀ g ∈ bs, Q g ∧ g < hi
theorem OwnQ.mono {Q : Nat → Prop} {hi hi' : Nat} {bs : List Nat} (h : OwnQ Q hi bs) (h2 : hi ≤ hi') : OwnQ Q hi' bs := ⟨h.1, fun g hg => ⟨(h.2 g hg).1, Nat.lt_of_lt_of_le (h.2 g hg).2 h2⟩⟩
/-- the cell's memory, part by part -/
def CS (Q : Nat → Prop) (w : World) (x : CellD) (vp va vt : Value) : Prop :=
  ∃ pss ass, ORow 4 125 OPinB 0 w vp x.pins pss ∧ ORow 6 134 OArcB 0 w va x.arcs ass ∧ w.ownsRow 0 2 1 vt x.truth.length (x.truth.map (Value.int .i64)) ∧
    OwnQ Q w.heap.size (vt.ownBlock.toList ++ ((vp.ownBlock.toList ++ pss.flatten) ++ (va.ownBlock.toList ++ ass.flatten))) ∧ bndC x
/-- what the laws ask of a drawn cell -/
def CellW (Q : Nat → Prop) (w : World) (x : CellD) (vp va vt : Value) : Prop :=
  ∃ bs, SR bs w (fun w => RPins w vp x.pins ∧ RArcs w va x.arcs) ∧ (∀ g ∈ bs, Q g ∧ g < w.heap.size ∧ vt.ownBlock ≠ some g) ∧ (w.ownsRow 0 2 1 vt x.truth.length (x.truth.map (Value.int .i64)) ∧ ∀ k, vt.ownBlock = some k → Q k) ∧ SmCell x ∧ x.pins.length ≤ 5
section
variable {Q : Nat → Prop} {w w' : World} {x : CellD} {vp va vt : Value}
theorem bndC.small (h : bndC x) (hp : ∀ p ∈ x.pins, p.name.size ≤ 8) (ha : ∀ a ∈ x.arcs, a.delay.length = 2 ∧ a.slew.length ≤ 2 ∧ SmT a.delay ∧ SmT a.slew) : SmCell x := by
  obtain ⟨h1, h2, h3, h4⟩ := h
  have ht : ∀ t : TableD, bndT t → SmTable t := fun t ⟨⟨_, b1⟩, ⟨_, b2⟩, b3, _⟩ => by
    have : t.values.length ≤ 9 := by rw [b3]; exact Nat.mul_le_mul b1 b2
    unfold SmTable SmL; omega
  refine ⟨by omega, ⟨by unfold SmL; omega, fun p hm => by have := hp p hm; unfold SmPin; omega⟩, ⟨by unfold SmL; omega, fun a hm => ?_⟩, by unfold SmL; omega⟩
  obtain ⟨a1, a2, a3, a4⟩ := ha a hm
  exact ⟨⟨by unfold SmL; omega, fun t hq => ht t (a3 t hq)⟩, ⟨by unfold SmL; omega, fun t hq => ht t (a4 t hq)⟩⟩
theorem ORow.allP {α : Type} {sz lo : Nat} {t : TypeId} {O : World → List Value → α → List Nat → Prop} {v : Value} {xs : List α} {bss : List (List Nat)} {p : α → Prop} (h : ORow sz t O lo w v xs bss) (hp : ∀ es y b, O w es y b → p y) : ∀ y ∈ xs, p y := by
  obtain ⟨cells, -, h2, -⟩ := h
  have h3 : Els sz (fun w es x b => O w es x b ∧ p x) w cells xs bss := h2.mono (O' := fun w es x b => O w es x b ∧ p x) fun es x b _ ho => ⟨ho, hp es x b ho⟩
  exact h3.all
theorem OCellB.cs {hi : Nat} {v0 v1 v5 v6 : Value} {bs : List Nat} (h : OCellB w [v0, v1, vp, va, vt, v5, v6] x bs) (ho : OwnQ Q hi bs) (hi' : hi ≤ w.heap.size) : CS Q w x vp va vt := by
  obtain ⟨p, a, t, pss, ass, e, hp, ha, ht, rfl, hb⟩ := h
  injection e with _ e
  injection e with _ e
  injection e with e1 e
  injection e with e2 e
  injection e with e3 e
  subst e1 e2 e3
  exact ⟨pss, ass, hp, ha, ht, ho.mono hi', hb⟩
theorem CS.next {ds : List Nat} (h : CS Q w x vp va vt) (c : Chg ds w w') (hd : ∀ g ∈ ds, ¬ Q g) : CS Q w' x vp va vt := by
  obtain ⟨pss, ass, hp, ha, ht, ho, hb⟩ := h
  have key : ∀ bs : List Nat, (∀ g ∈ bs, g ∈ vt.ownBlock.toList ++ ((vp.ownBlock.toList ++ pss.flatten) ++ (va.ownBlock.toList ++ ass.flatten))) → SameOn bs w w' := fun bs hs => c.same (fun g hg => (ho.2 g (hs g hg)).2) (fun g hg hm => by
    exact hd g hm (ho.2 g (hs g hg)).1)
  exact ⟨pss, ass, hp.keep (key _ fun _ hq => List.mem_append_right _ (List.mem_append_left _ hq)) (fun _ _ _ h g => h.same g), ha.keep (key _ fun _ hq => List.mem_append_right _ (List.mem_append_right _ hq)) (fun _ _ _ h g => h.same g), ownsRow_same ht (key _ fun _ hq => List.mem_append_left _ hq), ho.mono c.size, hb⟩
theorem CellW.next {ds : List Nat} (h : CellW Q w x vp va vt) (c : Chg ds w w') (hd : ∀ g ∈ ds, ¬ Q g) : CellW Q w' x vp va vt := by
  obtain ⟨bs, hs, hb, ht, hr⟩ := h
  have g1 : SameOn bs w w' := c.same (fun g hg => (hb g hg).2.1) (fun g hg hm => hd g hm (hb g hg).1)
  refine ⟨bs, hs.same g1, fun g hg => ⟨(hb g hg).1, g1.size_lt hg (hb g hg).2.1, (hb g hg).2.2⟩, ⟨ownsRow_same ht.1 (c.same (fun g hg => (ht.1.lt g (by simpa using hg)).2) (fun g hg hm => hd g hm (ht.2 g (by simpa using hg)))), ht.2⟩, hr⟩
theorem CellW.imp {Q' : Nat → Prop} (h : CellW Q w x vp va vt) (hq : ∀ g, Q g → Q' g) : CellW Q' w x vp va vt := by
  obtain ⟨bs, hs, hb, ht, hr⟩ := h
  exact ⟨bs, hs, fun g hg => ⟨hq g (hb g hg).1, (hb g hg).2⟩, ⟨ht.1, fun k e => hq k (ht.2 k e)⟩, hr⟩
theorem CellW.reads (h : CellW Q w x vp va vt) : RCell w [.string x.name, .int .i64 x.kind, vp, va, vt, .int .i64 x.leak, .int .i64 x.energy] x := by
  obtain ⟨bs, hs, hb, ht, hr⟩ := h
  obtain ⟨_, _, _, _, o1, _⟩ := own_oints ht.1
  exact ⟨_, _, _, rfl, by have := hr.1.1; unfold maxLen; omega, hs.now.1, hs.now.2, o1.reads⟩
/-- a cell with other scalars -/
theorem CellW.of {y : CellD} (h : CellW Q w x vp va vt) (h1 : y.pins = x.pins) (h2 : y.arcs = x.arcs) (h3 : y.truth = x.truth) (h4 : y.name.size ≤ 1000) : CellW Q w y vp va vt := by
  obtain ⟨bs, hs, hb, ht, hr⟩ := h
  unfold CellW SmCell
  rw [h1, h2, h3]
  exact ⟨bs, hs, hb, ht, ⟨by omega, hr.1.2⟩, hr.2⟩
theorem CS.sm (h : CS Q w x vp va vt) : SmCell x := by
  obtain ⟨pss, ass, hp, ha, ht, ho, hb⟩ := h
  exact hb.small (hp.allP fun _ _ _ h => h.2) (ha.allP fun _ _ _ h => h.2)
theorem CS.weak (h : CS Q w x vp va vt) : CellW Q w x vp va vt := by
  have hsm := h.sm
  obtain ⟨pss, ass, hp, ha, ht, ho, hb⟩ := h
  refine ⟨(vp.ownBlock.toList ++ pss.flatten) ++ (va.ownBlock.toList ++ ass.flatten), fun w' g => ⟨?_, ?_⟩, fun g hg => ?_, ⟨ht, fun k e => ?_⟩, hsm, hb.2.1.2⟩
  · exact (hp.pins.same (g.sub fun _ hq => List.mem_append_left _ hq)).reads
  · exact (ha.arcs.same (g.sub fun _ hq => List.mem_append_right _ hq)).reads
  · have := ho.2 g (List.mem_append_right _ hg)
    refine ⟨this.1, this.2, fun e => ?_⟩
    have hn := ho.1
    rw [List.nodup_append] at hn
    exact hn.2.2 g (by rw [e]; simp) g hg rfl
  · exact (ho.2 k (List.mem_append_left _ (by rw [e]; simp))).1
/-- a cell whose pins or arcs turned: what is read of them stays while the blocks stay -/
theorem CS.turn {y : CellD} {bp ba : List Nat} {vp' va' : Value} (h : CS Q w x vp va vt) (hc : SameOn vt.ownBlock.toList w w') (hp : SR bp w' (fun w => RPins w vp' y.pins)) (ha : SR ba w' (fun w => RArcs w va' y.arcs)) (hb : ∀ g ∈ bp ++ ba, Q g ∧ g < w'.heap.size ∧ vt.ownBlock ≠ some g) (h3 : y.truth = x.truth) (hs : SmCell y) (hn : y.pins.length ≤ 5) : CellW Q w' y vp' va' vt := by
  obtain ⟨pss, ass, -, -, ht, ho, -⟩ := h
  refine ⟨bp ++ ba, fun w2 g => ⟨hp w2 (g.sub fun _ hq => List.mem_append_left _ hq), ha w2 (g.sub fun _ hq => List.mem_append_right _ hq)⟩, hb, ?_, hs, hn⟩
  rw [h3]
  exact ⟨ownsRow_same ht hc, fun k e => (ho.2 k (List.mem_append_left _ (by rw [e]; simp))).1⟩
/-- the first pin's cells, and what is left when one of them turns -/
theorem CS.pin0 (h : CS Q w x vp va vt) : ∃ (g c : Nat) (p : PinD), vp = .slice (some ⟨g, 0, none⟩) x.pins.length c ∧ x.pins[0]? = some p ∧ (Q g ∧ g < w.heap.size) ∧ (∀ o, w.frozen? ⟨g, o, none⟩ = false) ∧ 1 ≤ x.pins.length ∧
    (w.cell? ⟨g, 0, none⟩ = some (.string p.name) ∧ w.cell? ⟨g, 1, none⟩ = some (.int .i64 p.dir) ∧ w.cell? ⟨g, 2, none⟩ = some (.int .i64 p.cap) ∧ w.cell? ⟨g, 3, none⟩ = some (.bool p.clock)) ∧
    ∀ (j : Nat) (v : Value) (q : PinD), j < 4 → [Value.string p.name, .int .i64 p.dir, .int .i64 p.cap, .bool p.clock].set j v = [.string q.name, .int .i64 q.dir, .int .i64 q.cap, .bool q.clock] → q.name.size ≤ 1048576 →
      CellW Q (w.setCell ⟨g, j, none⟩ v) { x with pins := x.pins.set 0 q } vp va vt := by
  have hsm := h.sm
  have hcs := h
  obtain ⟨pss, ass, hp, ha, ht, ho, hb⟩ := h
  have h1 : 1 ≤ x.pins.length := by have := hb.2.1.1; omega
  obtain ⟨p, hp0⟩ : ∃ p, x.pins[0]? = some p := ⟨_, List.getElem?_eq_getElem h1⟩
  have hO := hp.pins
  obtain ⟨g, c, rfl, hg, h2, h3, h4, h5, -⟩ := OList.rowAt hO h1
  have hgo := ho.2 g (List.mem_append_right _ (List.mem_append_left _ hg))
  have hn := ho.1
  rw [List.nodup_append, List.nodup_append] at hn
  obtain ⟨es, b, e1, e2, e3, -⟩ := OList.cellAt hO hp0
  obtain ⟨rfl, hz, rfl⟩ := e3
  refine ⟨g, c, p, rfl, hp0, hgo, h5, h1, ⟨by simpa using e2 0 _ rfl, by simpa using e2 1 _ rfl, by simpa using e2 2 _ rfl, by simpa using e2 3 _ rfl⟩, fun j v q hj hq hqs => ?_⟩
  have key := OList.put (i := 0) (j := j) (u := v) (x' := q) hO hn.2.1.1 hj hp0 (fun es b hh => by
    obtain ⟨rfl, -, rfl⟩ := hh
    exact ⟨hq, by unfold maxLen; omega, rfl⟩) (fun _ _ _ h g => h.same g)
  simp only [Nat.zero_mul, Nat.zero_add] at key
  have hchg : Chg [g] w (w.setCell ⟨g, j, none⟩ v) := (Chg.refl _ _).setCell (by simp) _
  have hgv : (Value.slice (some ⟨g, 0, none⟩) x.pins.length c).ownBlock = some g := rfl
  have hout : ∀ q', q' ∈ vt.ownBlock.toList ∨ q' ∈ va.ownBlock.toList ++ ass.flatten → q' ≠ g := fun q' hq' e => by
    subst e
    rcases hq' with hq' | hq'
    · exact hn.2.2 q' hq' q' (List.mem_append_left _ hg) rfl
    · exact hn.2.1.2.2 q' hg q' hq' rfl
  have hlt : ∀ q' ∈ vt.ownBlock.toList ++ (((Value.slice (some ⟨g, 0, none⟩) x.pins.length c).ownBlock.toList ++ pss.flatten) ++ (va.ownBlock.toList ++ ass.flatten)), q' < w.heap.size := fun q' hq' => (ho.2 q' hq').2
  refine hcs.turn (hchg.same (fun q' hq' => hlt q' (List.mem_append_left _ hq')) (fun q' hq' hm => by simp at hm; exact hout q' (.inl hq') hm)) (fun w2 g2 => (OPins.same key g2).reads)
    (fun w2 g2 => (ha.arcs.same ((hchg.same (fun q' hq' => hlt q' (List.mem_append_right _ (List.mem_append_right _ hq'))) (fun q' hq' hm => by simp at hm; exact hout q' (.inr hq') hm)).trans g2)).reads) (fun q' hq' => ?_) rfl ?_ (by simpa using hb.2.1.2)
  · have h9 := ho.2 q' (List.mem_append_right _ hq')
    refine ⟨h9.1, Nat.lt_of_lt_of_le h9.2 hchg.size, fun e => hn.2.2 q' (by rw [e]; simp) q' hq' rfl⟩
  · refine ⟨hsm.1, ⟨by have := hsm.2.1.1; unfold SmL at this ⊢; simpa using this, fun r hr => ?_⟩, hsm.2.2.1, hsm.2.2.2⟩
    rcases List.mem_or_eq_of_mem_set hr with h | h
    · exact hsm.2.1.2 r h
    · subst h; unfold SmPin; omega
theorem OwnQ.rest {hi : Nat} {a b c : List Nat} (h : OwnQ Q hi (a ++ (b ++ c))) : a.Nodup ∧ b.Nodup ∧ c.Nodup ∧ (∀ q, q ∈ c → q ∉ a ∧ q ∉ b) ∧ (∀ q, q ∈ b → q ∉ a ∧ q ∉ c) := by
  have hn := h.1
  rw [List.nodup_append, List.nodup_append] at hn
  exact ⟨hn.1, hn.2.1.1, hn.2.1.2.1, fun q hq => ⟨fun ha => hn.2.2 q ha q (List.mem_append_right _ hq) rfl, fun hb => hn.2.1.2.2 q hb q hq rfl⟩, fun q hq => ⟨fun ha => hn.2.2 q ha q (List.mem_append_left _ hq) rfl, fun hc => hn.2.1.2.2 q hq q hc rfl⟩⟩
/-- one arc's cells, and what is left when a number of it turns -/
theorem CS.arcK {k : Nat} (h : CS Q w x vp va vt) (hk : k < x.arcs.length) : ∃ (g c : Nat) (a : ArcD) (vd vs : Value), va = .slice (some ⟨g, 0, none⟩) x.arcs.length c ∧ x.arcs[k]? = some a ∧ (Q g ∧ g < w.heap.size) ∧ (∀ o, w.frozen? ⟨g, o, none⟩ = false) ∧ x.arcs.length ≤ c ∧ c ≤ maxLen ∧
    (w.cell? ⟨g, k * 6, none⟩ = some (.int .i64 a.kind) ∧ w.cell? ⟨g, k * 6 + 1, none⟩ = some (.int .i64 a.src) ∧ w.cell? ⟨g, k * 6 + 2, none⟩ = some (.int .i64 a.dst) ∧ w.cell? ⟨g, k * 6 + 3, none⟩ = some (.int .i64 a.sense) ∧ w.cell? ⟨g, k * 6 + 4, none⟩ = some vd ∧ w.cell? ⟨g, k * 6 + 5, none⟩ = some vs) ∧
    ((∃ gd cd : Nat, vd = .slice (some ⟨gd, 0, none⟩) 2 cd ∧ (Q gd ∧ gd < w.heap.size) ∧ (∀ o, w.frozen? ⟨gd, o, none⟩ = false) ∧ gd ≠ g ∧ ∃ d0 d1 d2 : Value, w.cell? ⟨gd, 0, none⟩ = some d0 ∧ w.cell? ⟨gd, 1, none⟩ = some d1 ∧ w.cell? ⟨gd, 2, none⟩ = some d2) ∧ ∃ (A : Option Addr) (n : Nat), vs = .slice A a.slew.length n) ∧
    ∀ (j : Nat) (v : Value) (q : ArcD), j < 4 → (∀ d s : Value, [Value.int .i64 a.kind, .int .i64 a.src, .int .i64 a.dst, .int .i64 a.sense, d, s].set j v = [.int .i64 q.kind, .int .i64 q.src, .int .i64 q.dst, .int .i64 q.sense, d, s]) → q.delay = a.delay → q.slew = a.slew →
      CellW Q (w.setCell ⟨g, k * 6 + j, none⟩ v) { x with arcs := x.arcs.set k q } vp va vt := by
  have hsm := h.sm
  have hcs := h
  obtain ⟨pss, ass, hp, ha, ht, ho, hb⟩ := h
  have hB := ha.allP (p := fun a => a.delay.length = 2) fun _ _ _ h => h.2.1
  obtain ⟨a, ha0⟩ : ∃ a, x.arcs[k]? = some a := ⟨_, List.getElem?_eq_getElem hk⟩
  have hO := ha.arcs
  obtain ⟨g, c, rfl, hg, h2, h3, h4, h5, -⟩ := OList.rowAt hO (by omega)
  have hgo := ho.2 g (List.mem_append_right _ (List.mem_append_right _ hg))
  obtain ⟨n1, n2, n3, n4, n5⟩ := ho.rest
  obtain ⟨es, b, e1, e2, e3, e4, e5⟩ := OList.cellAt hO ha0
  obtain ⟨vd, vs, b4, b5, rfl, t4, t5, rfl⟩ := e3
  obtain ⟨e5, e6⟩ := e5 n3
  have hd2 : a.delay.length = 2 := hB a (List.mem_of_getElem? ha0)
  obtain ⟨gd, cd, rfl, hgd, c1, c2, c3, c4, -⟩ := OList.rowAt t4 (by omega)
  obtain ⟨t0, ht0⟩ : ∃ t0, a.delay[0]? = some t0 := ⟨_, List.getElem?_eq_getElem (by omega)⟩
  obtain ⟨ds, db, f1, f2, f3, -, -⟩ := OList.cellAt t4 ht0
  obtain ⟨d0, d1, d2, _, _, _, rfl, -⟩ := f3
  obtain ⟨As, ns, hvs, -⟩ := RList.form (OTables.reads t5)
  have hgdo := ho.2 gd (List.mem_append_right _ (List.mem_append_right _ (e4 gd (List.mem_append_left _ hgd))))
  refine ⟨g, c, a, _, vs, rfl, ha0, hgo, h5, h2, h3, ⟨by simpa using e2 0 _ rfl, e2 1 _ rfl, e2 2 _ rfl, e2 3 _ rfl, e2 4 _ rfl, e2 5 _ rfl⟩, ⟨⟨gd, cd, by rw [hd2], hgdo, c4, fun e => e6 (by rw [← e]; exact List.mem_append_left _ hgd), d0, d1, d2, by simpa using f2 0 _ rfl, by simpa using f2 1 _ rfl, by simpa using f2 2 _ rfl⟩, As, ns, hvs⟩, fun j v q hj hq hqd hqs => ?_⟩
  have key := OList.put (i := k) (j := j) (u := v) (x' := q) hO n3 (by omega) ha0 (fun es b hh => by
    obtain ⟨d', s', x4, x5, rfl, y4, y5, rfl⟩ := hh
    exact ⟨d', s', x4, x5, hq d' s', by rw [hqd]; exact y4, by rw [hqs]; exact y5, rfl⟩) (fun _ _ _ h g => h.same g)
  have hchg : Chg [g] w (w.setCell ⟨g, k * 6 + j, none⟩ v) := (Chg.refl _ _).setCell (by simp) _
  refine hcs.turn (hchg.same (fun q' hq' => (ho.2 q' (List.mem_append_left _ hq')).2) (fun q' hq' hm => by simp at hm; subst hm; exact (n4 _ hg).1 hq'))
    (fun w2 g2 => (hp.pins.same ((hchg.same (fun q' hq' => (ho.2 q' (List.mem_append_right _ (List.mem_append_left _ hq'))).2) (fun q' hq' hm => by simp at hm; subst hm; exact (n5 _ hq').2 hg)).trans g2)).reads) (fun w2 g2 => (OArcs.same key g2).reads) (fun q' hq' => ?_) rfl ?_ hb.2.1.2
  · have h9 := ho.2 q' (List.mem_append_right _ hq')
    refine ⟨h9.1, Nat.lt_of_lt_of_le h9.2 hchg.size, fun e => ?_⟩
    rcases List.mem_append.1 hq' with h' | h'
    · exact (n5 _ h').1 (by rw [e]; simp)
    · exact (n4 _ h').1 (by rw [e]; simp)
  · refine ⟨hsm.1, hsm.2.1, ⟨by have := hsm.2.2.1.1; unfold SmL at this ⊢; simpa using this, fun r hr => ?_⟩, hsm.2.2.2⟩
    rcases List.mem_or_eq_of_mem_set hr with h | h
    · exact hsm.2.2.1.2 r h
    · subst h
      have := hsm.2.2.1.2 a (List.mem_of_getElem? ha0)
      unfold SmArc at this ⊢
      rw [hqd, hqs]
      exact this
/-- without the first arc -/
theorem CS.arcTail (h : CS Q w x vp va vt) {g c n : Nat} (e : va = .slice (some ⟨g, 0, none⟩) n c) : CellW Q w { x with arcs := x.arcs.tail } vp (.slice (some ⟨g, 6, none⟩) (n - 1) (c - 1)) vt := by
  have hsm := h.sm
  have hcs := h
  obtain ⟨pss, ass, hp, ha, ht, ho, hb⟩ := h
  obtain ⟨n1, n2, n3, n4, n5⟩ := ho.rest
  refine CS.turn hcs (bp := vp.ownBlock.toList ++ pss.flatten) (ba := va.ownBlock.toList ++ ass.flatten) (SameOn.refl _ _) (fun w2 g2 => (hp.pins.same g2).reads) (fun w2 g2 => ?_) (fun q' hq' => ?_) rfl ?_ hb.2.1.2
  · have h2 := (ha.arcs.same g2).reads
    rw [e] at h2
    have h3 := RList.tail h2 hb.2.2.1.1
    rw [Nat.zero_add] at h3
    exact h3
  · have h9 := ho.2 q' (List.mem_append_right _ hq')
    refine ⟨h9.1, h9.2, fun e => ?_⟩
    rcases List.mem_append.1 hq' with h' | h'
    · exact (n5 _ h').1 (by rw [e]; simp)
    · exact (n4 _ h').1 (by rw [e]; simp)
  · exact ⟨hsm.1, hsm.2.1, ⟨by have := hsm.2.2.1.1; unfold SmL at this ⊢; simp; omega, fun r hr => hsm.2.2.1.2 r (List.mem_of_mem_tail hr)⟩, hsm.2.2.2⟩
/-- a truth value more -/
theorem CS.truthApp {u w4 : World} {v' : Value} (h : CS Q w x vp va vt) (c : Grows w u) (hQ : Q u.heap.size) (g : u.grownBy w4 vt.ownBlock) (hrow : w4.ownsRow 0 2 1 v' (x.truth.length + 1) (x.truth.map (Value.int .i64) ++ [.int .i64 1])) (hat : v'.ownBlock = vt.ownBlock ∨ v'.ownBlock = some u.heap.size) : CellW Q w4 { x with truth := x.truth ++ [1] } vp va v' := by
  have hsm := h.sm
  obtain ⟨pss, ass, hp, ha, ht, ho, hb⟩ := h
  obtain ⟨n1, n2, n3, n4, n5⟩ := ho.rest
  have hnt : ∀ q, q ∈ (vp.ownBlock.toList ++ pss.flatten) ++ (va.ownBlock.toList ++ ass.flatten) → vt.ownBlock ≠ some q := fun q hq e => by
    rcases List.mem_append.1 hq with h' | h'
    · exact (n5 _ h').1 (by rw [e]; simp)
    · exact (n4 _ h').1 (by rw [e]; simp)
  have hso : ∀ bs : List Nat, (∀ q ∈ bs, q ∈ (vp.ownBlock.toList ++ pss.flatten) ++ (va.ownBlock.toList ++ ass.flatten)) → SameOn bs w w4 := fun bs hs q hq => by
    have h9 := ho.2 q (List.mem_append_right _ (hs q hq))
    exact (g.block q (Nat.lt_of_lt_of_le h9.2 c.size) (fun e => hnt q (hs q hq) e.symm)).trans (Below.block c q h9.2)
  refine ⟨(vp.ownBlock.toList ++ pss.flatten) ++ (va.ownBlock.toList ++ ass.flatten), fun w2 g2 => ⟨?_, ?_⟩, fun q hq => ?_, ⟨by rw [List.length_append, List.map_append]; exact hrow, fun k e => ?_⟩, ⟨hsm.1, hsm.2.1, hsm.2.2.1, by have := hsm.2.2.2; have := hb.2.2.2; unfold SmL at this ⊢; simp; omega⟩, hb.2.1.2⟩
  · exact (hp.pins.same ((hso _ fun _ hq => List.mem_append_left _ hq).trans (g2.sub fun _ hq => List.mem_append_left _ hq))).reads
  · exact (ha.arcs.same ((hso _ fun _ hq => List.mem_append_right _ hq).trans (g2.sub fun _ hq => List.mem_append_right _ hq))).reads
  · have h9 := ho.2 q (List.mem_append_right _ hq)
    refine ⟨h9.1, Nat.lt_of_lt_of_le (Nat.lt_of_lt_of_le h9.2 c.size) g.size, fun e => ?_⟩
    rcases hat with hat | hat
    · exact hnt q hq (by rw [← hat]; exact e)
    · rw [hat] at e
      injection e with e
      have := c.size
      omega
  · rcases hat with hat | hat
    · exact (ho.2 k (List.mem_append_left _ (by rw [← hat, e]; simp))).1
    · rw [hat] at e
      injection e with e
      rw [← e]
      exact hQ
/-- an arc appended that shares its tables with one of the row -/
theorem CS.arcApp {k : Nat} (h : CS Q w x vp va vt) (hk : k < x.arcs.length) : ∃ (g c : Nat) (a : ArcD) (vd vs : Value) (cells : List Value), va = .slice (some ⟨g, 0, none⟩) x.arcs.length c ∧ w.ownsRow 0 134 6 va x.arcs.length cells ∧ x.arcs[k]? = some a ∧
    (w.cell? ⟨g, k * 6, none⟩ = some (.int .i64 a.kind) ∧ w.cell? ⟨g, k * 6 + 1, none⟩ = some (.int .i64 a.src) ∧ w.cell? ⟨g, k * 6 + 2, none⟩ = some (.int .i64 a.dst) ∧ w.cell? ⟨g, k * 6 + 3, none⟩ = some (.int .i64 a.sense) ∧ w.cell? ⟨g, k * 6 + 4, none⟩ = some vd ∧ w.cell? ⟨g, k * 6 + 5, none⟩ = some vs) ∧
    ((∃ (A : Option Addr) (n : Nat), vd = .slice A 2 n) ∧ ∃ (A : Option Addr) (n : Nat), vs = .slice A a.slew.length n) ∧
    ∀ (u w4 : World) (v' : Value), Grows w u → Q u.heap.size → u.grownBy w4 va.ownBlock → (v'.ownBlock = va.ownBlock ∨ v'.ownBlock = some u.heap.size) → w4.ownsRow 0 134 6 v' (x.arcs.length + 1) (cells ++ [.int .i64 a.kind, .int .i64 a.src, .int .i64 a.dst, .int .i64 a.sense, vd, vs]) →
      CellW Q w4 { x with arcs := x.arcs ++ [a] } vp v' vt ∧ ∃ (A : Option Addr) (n : Nat), v' = .slice A (x.arcs.length + 1) n := by
  have hsm := h.sm
  have hcs := h
  obtain ⟨pss, ass, hp, ha, ht, ho, hb⟩ := h
  have hB := ha.allP (p := fun a => a.delay.length = 2) fun _ _ _ h => h.2.1
  obtain ⟨n1, n2, n3, n4, n5⟩ := ho.rest
  obtain ⟨a, ha0⟩ : ∃ a, x.arcs[k]? = some a := ⟨_, List.getElem?_eq_getElem hk⟩
  obtain ⟨cells, hrow, hE, hO⟩ := ha
  obtain ⟨g, c, hva, hg, h2, h3, h4, h5, -⟩ := OList.rowAt (OList.of_row hrow hE) (by omega)
  have hlog : Q g ∧ g < w.heap.size := ho.2 g (List.mem_append_right _ (List.mem_append_right _ hg))
  obtain ⟨es, b, m1, m2, m3, m4⟩ := hE.at ha0
  have m4' := m4
  obtain ⟨⟨vd, vs, b4, b5, rfl, t4, t5, rfl⟩, m5⟩ := m4
  have hcell : ∀ (j : Nat) (u : Value), [Value.int .i64 a.kind, .int .i64 a.src, .int .i64 a.dst, .int .i64 a.sense, vd, vs][j]? = some u → w.cell? ⟨g, k * 6 + j, none⟩ = some u := fun j u hu => by
    subst hva
    obtain ⟨hl, ⟨e, _⟩ | ⟨g', c', cur, e, hb', hg', i1, i2, i3, i4⟩⟩ := hrow
    · cases e
    · injection e with e1 e2 e3
      injection e1 with e1
      injection e1 with e1
      subst e1
      have hB' : Blk w g 134 cur := hg'
      rw [hB'.cell]
      have := m2 j u hu
      rw [← i4, List.getElem?_take] at this
      split at this
      · simpa using this
      · cases this
  obtain ⟨Ad, nd, hvd, -⟩ := RList.form (OTables.reads t4)
  obtain ⟨As, ns, hvs, -⟩ := RList.form (OTables.reads t5)
  rw [hB a (List.mem_of_getElem? ha0)] at hvd
  refine ⟨g, c, a, vd, vs, cells, hva, hrow, ha0, ⟨by simpa using hcell 0 _ rfl, hcell 1 _ rfl, hcell 2 _ rfl, hcell 3 _ rfl, hcell 4 _ rfl, hcell 5 _ rfl⟩, ⟨⟨Ad, nd, hvd⟩, As, ns, hvs⟩, fun u w4 v' c hQ g hat hr4 => ?_⟩
  have hnv : ∀ q, (q ∈ vt.ownBlock.toList ∨ q ∈ vp.ownBlock.toList ++ pss.flatten ∨ q ∈ ass.flatten) → va.ownBlock ≠ some q := fun q hq e => by
    have hm : q ∈ va.ownBlock.toList := by rw [e]; simp
    rcases hq with hq | hq | hq
    · exact (n4 q (List.mem_append_left _ hm)).1 hq
    · exact (n5 q hq).2 (List.mem_append_left _ hm)
    · rw [List.nodup_append] at n3
      exact n3.2.2 q hm q hq rfl
  have hlt : ∀ q, (q ∈ vt.ownBlock.toList ∨ q ∈ vp.ownBlock.toList ++ pss.flatten ∨ q ∈ ass.flatten) → Q q ∧ q < w.heap.size := fun q hq => ho.2 q (by
    rcases hq with hq | hq | hq
    · exact List.mem_append_left _ hq
    · exact List.mem_append_right _ (List.mem_append_left _ hq)
    · exact List.mem_append_right _ (List.mem_append_right _ (List.mem_append_right _ hq)))
  have hso : ∀ bs : List Nat, (∀ q ∈ bs, q ∈ vt.ownBlock.toList ∨ q ∈ vp.ownBlock.toList ++ pss.flatten ∨ q ∈ ass.flatten) → SameOn bs w w4 := fun bs hs q hq =>
    (g.block q (Nat.lt_of_lt_of_le (hlt q (hs q hq)).2 c.size) (fun e => hnv q (hs q hq) e.symm)).trans (Below.block c q (hlt q (hs q hq)).2)
  have hbk : ∀ q ∈ b4 ++ b5, q ∈ ass.flatten := fun q hq => List.mem_flatten.2 ⟨_, List.mem_of_getElem? m3, hq⟩
  have hE4 : Els 6 OArcB w4 (cells ++ [.int .i64 a.kind, .int .i64 a.src, .int .i64 a.dst, .int .i64 a.sense, vd, vs]) (x.arcs ++ [a]) (ass ++ [b4 ++ b5]) := by
    refine (Els.snoc rfl m4' hE).mono fun es y d hd hy => hy.same (hso d fun q hq => .inr (.inr ?_))
    rcases List.mem_append.1 hd with hd | hd
    · exact List.mem_flatten.2 ⟨d, hd, hq⟩
    · simp at hd
      subst hd
      exact hbk q (by simpa using hq)
  have hL := OList.of_row (xs := x.arcs ++ [a]) (by rw [List.length_append]; exact hr4) hE4
  have hL2 : OArcs w4 v' (x.arcs ++ [a]) (v'.ownBlock.toList ++ (ass ++ [b4 ++ b5]).flatten) := by
    have := OList.of_row (O := OArc) (xs := x.arcs ++ [a]) (by rw [List.length_append]; exact hr4) (hE4.mono fun _ _ _ _ h => h.1)
    exact this
  refine ⟨?_, by have := RList.form hL2.reads; obtain ⟨A, n, e, -⟩ := this; exact ⟨A, n, by rw [e, List.length_append]; rfl⟩⟩
  refine CS.turn hcs (hso _ fun q hq => .inl hq) (bp := vp.ownBlock.toList ++ pss.flatten) (ba := v'.ownBlock.toList ++ (ass ++ [b4 ++ b5]).flatten) (fun w2 g2 => (hp.pins.same ((hso _ fun q hq => .inr (.inl hq)).trans g2)).reads) (fun w2 g2 => (hL2.same g2).reads) (fun q hq => ?_) rfl ?_ hb.2.1.2
  · have hsz := g.size
    have hc := c.size
    have hold : ∀ q, (q ∈ vp.ownBlock.toList ++ pss.flatten ∨ q ∈ va.ownBlock.toList ++ ass.flatten) → Q q ∧ q < w4.heap.size ∧ vt.ownBlock ≠ some q := fun q hq => by
      have h9 : Q q ∧ q < w.heap.size := ho.2 q (List.mem_append_right _ (List.mem_append.2 hq))
      refine ⟨h9.1, by omega, fun e => ?_⟩
      rcases hq with h' | h'
      · exact (n5 _ h').1 (by rw [e]; simp)
      · exact (n4 _ h').1 (by rw [e]; simp)
    rcases List.mem_append.1 hq with hq | hq
    · exact hold q (.inl hq)
    rcases List.mem_append.1 hq with hq | hq
    · rcases hat with hat | hat
      · rw [hat] at hq
        exact hold q (.inr (List.mem_append_left _ hq))
      · rw [hat] at hq
        simp at hq
        subst hq
        have := hr4.lt _ hat
        refine ⟨hQ, this.2, fun e => ?_⟩
        have := ho.2 _ (List.mem_append_left _ (by rw [e]; simp : u.heap.size ∈ vt.ownBlock.toList))
        omega
    · rw [List.flatten_append, List.flatten_singleton] at hq
      refine hold q (.inr (List.mem_append_right _ ?_))
      rcases List.mem_append.1 hq with hq | hq
      · exact hq
      · exact hbk q hq
  · refine ⟨hsm.1, hsm.2.1, ⟨by have := hsm.2.2.1.1; have := hb.2.2.1.2; unfold SmL at this ⊢; simp; omega, fun r hr => ?_⟩, hsm.2.2.2⟩
    rcases List.mem_append.1 hr with h | h
    · exact hsm.2.2.1.2 r h
    · simp at h
      subst h
      exact hsm.2.2.1.2 _ (List.mem_of_getElem? ha0)
theorem SR.ints {lo : Nat} {v : Value} {xs : List Int} (h : RInts w v xs) (hb : OffB lo v) : ∃ b : List Nat, SR b w (fun w => RInts w v xs) ∧ ∀ g ∈ b, lo ≤ g ∧ g < w.heap.size := by
  obtain ⟨A, n, e, h1, h2, h3⟩ := h
  rcases h3 with rfl | ⟨g, off, hA, h4⟩
  · exact ⟨[], fun w' _ => ⟨A, n, e, h1, h2, .inl rfl⟩, fun _ h => nomatch h⟩
  · rcases Nat.eq_zero_or_pos xs.length with h0 | h0
    · have hx : xs = [] := List.eq_nil_of_length_eq_zero h0
      subst hx
      exact ⟨[], fun w' _ => ⟨A, n, e, h1, h2, .inl rfl⟩, fun _ h => nomatch h⟩
    · refine ⟨[g], fun w' hs => ⟨A, n, e, h1, h2, .inr ⟨g, off, hA, fun i x hx => ?_⟩⟩, fun q hq => ?_⟩
      · obtain ⟨cs, l, hc, hr⟩ := h4 i x hx
        exact ⟨cs, l, fun j u hu => (World.cell?_of_block (hs g (by simp))).trans (hc j u hu), hr⟩
      · simp at hq
        subst hq
        obtain ⟨cs, l, hc, hr⟩ := h4 0 _ (List.getElem?_eq_getElem h0)
        have hr' : cs = [.int .i64 _] := hr
        subst hr'
        have := cell_lt (hc 0 _ rfl)
        exact ⟨hb q off _ n (by rw [e, hA]), this⟩
theorem SR.table {lo : Nat} {a1 a2 a3 : Value} {t : TableD} (h : RTable w [a1, a2, a3] t) (f1 : OffB lo a1) (f2 : OffB lo a2) (f3 : OffB lo a3) : ∃ b : List Nat, SR b w (fun w => RTable w [a1, a2, a3] t) ∧ ∀ g ∈ b, lo ≤ g ∧ g < w.heap.size := by
  obtain ⟨x, y, z, e, h1, h2, h3⟩ := h
  injection e with e1 e
  injection e with e2 e
  injection e with e3 e
  subst e1 e2 e3
  obtain ⟨b1, s1, l1⟩ := SR.ints h1 f1
  obtain ⟨b2, s2, l2⟩ := SR.ints h2 f2
  obtain ⟨b3, s3, l3⟩ := SR.ints h3 f3
  refine ⟨b1 ++ (b2 ++ b3), fun w' g => ⟨_, _, _, rfl, s1 w' (g.sub (by simp +contextual)), s2 w' (g.sub (by simp +contextual)), s3 w' (g.sub (by simp +contextual))⟩, fun q hq => ?_⟩
  rcases List.mem_append.1 hq with hq | hq
  · exact l1 q hq
  rcases List.mem_append.1 hq with hq | hq
  · exact l2 q hq
  · exact l3 q hq
/-- one element's cells, or its memory, turn -/
theorem OList.turn {α : Type} {sz : Nat} {t : TypeId} {O O' : World → List Value → α → List Nat → Prop} {v : Value} {xs : List α} {bs : List Nat} {i : Nat} {y : α} (h : OList sz t O w v xs bs) (hn : bs.Nodup) (hy : xs[i]? = some y) :
    ∃ (g c : Nat) (cs : Array Value) (es : List Value) (b : List Nat), v = .slice (some ⟨g, 0, none⟩) xs.length c ∧ Blk w g t cs ∧ g ∈ bs ∧ g ∉ b ∧ (∀ q ∈ b, q ∈ bs) ∧ b.Nodup ∧ es.length = sz ∧ (∀ (j : Nat) (u : Value), es[j]? = some u → cs[i * sz + j]? = some u) ∧ O w es y b ∧
      ∀ (w' : World) (cs' : Array Value) (es' : List Value) (y' : α) (b' : List Nat), Blk w' g t cs' → (∀ m, m < i * sz ∨ i * sz + sz ≤ m → cs'[m]? = cs[m]?) → es'.length = sz → (∀ (j : Nat) (u : Value), es'[j]? = some u → cs'[i * sz + j]? = some u) → O' w' es' y' b' →
        (∀ es z d, (∀ q ∈ d, q ∈ bs ∧ q ∉ b ∧ q ≠ g) → O w es z d → O' w' es z d) → ∃ bs', OList sz t O' w' v (xs.set i y') bs' ∧ ∀ q ∈ bs', q ∈ bs ∨ q ∈ b' := by
  have hi : i < xs.length := (List.getElem?_eq_some_iff.1 hy).1
  rcases h with ⟨_, rfl, _⟩ | ⟨g, c, cs, bss, hv, h1, h2, hb, hl, rfl, hc⟩
  · simp at hy
  obtain ⟨es, b, e1, e2, e3, e4⟩ := hc i y hy
  rw [List.nodup_cons] at hn
  have hm : b ∈ bss := List.mem_of_getElem? e3
  refine ⟨g, c, cs, es, b, hv, hb, List.mem_cons_self .., fun hq => hn.1 (List.mem_flatten.2 ⟨b, hm, hq⟩), fun q hq => List.mem_cons_of_mem _ (List.mem_flatten.2 ⟨b, hm, hq⟩), (List.sublist_flatten_of_mem hm).nodup hn.2, e1, e2, e4, fun w' cs' es' y' b' hb' hcs hel hes ho hO => ?_⟩
  refine ⟨g :: (bss.set i b').flatten, .inr ⟨g, c, cs', bss.set i b', by rw [List.length_set]; exact hv, by rw [List.length_set]; exact h1, h2, hb', by rw [List.length_set, List.length_set]; exact hl, rfl, fun k z hz => ?_⟩, fun q hq => ?_⟩
  · by_cases hk : k = i
    · subst hk
      rw [List.getElem?_set_self hi] at hz
      injection hz with hz
      subst hz
      exact ⟨es', b', hel, hes, by rw [List.getElem?_set_self (by omega)], ho⟩
    · rw [List.getElem?_set_ne (fun q => hk q.symm)] at hz
      obtain ⟨es2, b2, f1, f2, f3, f4⟩ := hc k z hz
      have hm2 : b2 ∈ bss := List.mem_of_getElem? f3
      refine ⟨es2, b2, f1, fun j u hu => ?_, by rw [List.getElem?_set_ne (fun q => hk q.symm)]; exact f3, hO _ _ _ (fun q hq => ⟨List.mem_cons_of_mem _ (List.mem_flatten.2 ⟨b2, hm2, hq⟩), fun hq2 => ?_, fun e => hn.1 (by rw [← e]; exact List.mem_flatten.2 ⟨b2, hm2, hq⟩)⟩) f4⟩
      · have hj : j < sz := by have := (List.getElem?_eq_some_iff.1 hu).1; omega
        rw [hcs]
        · exact f2 j u hu
        · rcases Nat.lt_or_gt_of_ne hk with hlt | hgt
          · have : (k + 1) * sz ≤ i * sz := Nat.mul_le_mul_right _ hlt
            rw [Nat.add_mul, Nat.one_mul] at this
            omega
          · have : (i + 1) * sz ≤ k * sz := Nat.mul_le_mul_right _ hgt
            rw [Nat.add_mul, Nat.one_mul] at this
            omega
      · obtain ⟨hi2, e3'⟩ := List.getElem?_eq_some_iff.1 e3
        obtain ⟨hk2, f3'⟩ := List.getElem?_eq_some_iff.1 f3
        have hp := List.pairwise_flatten.1 hn.2
        rcases Nat.lt_or_gt_of_ne hk with hlt | hgt
        · have := (List.pairwise_iff_getElem.1 hp.2) k i hk2 hi2 hlt
          rw [e3', f3'] at this
          exact this _ hq _ hq2 rfl
        · have := (List.pairwise_iff_getElem.1 hp.2) i k hi2 hk2 hgt
          rw [e3', f3'] at this
          exact this _ hq2 _ hq rfl
  · rcases List.mem_cons.1 hq with hq | hq
    · exact .inl (by rw [hq]; exact List.mem_cons_self ..)
    · obtain ⟨d, hd, hq⟩ := List.mem_flatten.1 hq
      rcases List.mem_or_eq_of_mem_set hd with h | h
      · exact .inl (List.mem_cons_of_mem _ (List.mem_flatten.2 ⟨d, h, hq⟩))
      · exact .inr (by rw [← h]; exact hq)
def WTable (w : World) (es : List Value) (t : TableD) (b : List Nat) : Prop := SR b w (fun w => RTable w es t)
def WArc (w : World) (es : List Value) (a : ArcD) (b : List Nat) : Prop := SR b w (fun w => RArc w es a)
theorem OTable.weak {es : List Value} {t : TableD} {b : List Nat} (h : OTable w es t b) (g : SameOn b w w') : WTable w' es t b := fun _ g2 => (h.same (g.trans g2)).reads
theorem OArc.weak {es : List Value} {a : ArcD} {b : List Nat} (h : OArc w es a b) (g : SameOn b w w') : WArc w' es a b := fun _ g2 => (h.same (g.trans g2)).reads
theorem WTable.list {v : Value} {ts : List TableD} {b : List Nat} (h : OList 3 136 WTable w v ts b) : SR b w (fun w => RTables w v ts) := fun _ g => OList.reads (OList.same h g fun _ _ _ h g => SR.same h g) fun _ _ _ h => SR.now h
theorem WArc.list {v : Value} {ts : List ArcD} {b : List Nat} (h : OList 6 134 WArc w v ts b) : SR b w (fun w => RArcs w v ts) := fun _ g => OList.reads (OList.same h g fun _ _ _ h g => SR.same h g) fun _ _ _ h => SR.now h
theorem Arr.set3 {cs : Array Value} {a b c : Value} (h : 3 ≤ cs.size) : (∀ (j : Nat) (u : Value), [a, b, c][j]? = some u → (((cs.setIfInBounds 0 a).setIfInBounds 1 b).setIfInBounds 2 c)[j]? = some u) ∧ ∀ m : Nat, 3 ≤ m → (((cs.setIfInBounds 0 a).setIfInBounds 1 b).setIfInBounds 2 c)[m]? = cs[m]? := by
  refine ⟨fun j u hu => ?_, fun m hm => ?_⟩
  · match j, hu with
    | 0, hu => simp at hu; subst hu; rw [Array.getElem?_setIfInBounds_ne (by omega), Array.getElem?_setIfInBounds_ne (by omega), Array.getElem?_setIfInBounds_self_of_lt (by omega)]
    | 1, hu => simp at hu; subst hu; rw [Array.getElem?_setIfInBounds_ne (by omega), Array.getElem?_setIfInBounds_self_of_lt (by simp; omega)]
    | 2, hu => simp at hu; subst hu; rw [Array.getElem?_setIfInBounds_self_of_lt (by simp; omega)]
  · rw [Array.getElem?_setIfInBounds_ne (by omega), Array.getElem?_setIfInBounds_ne (by omega), Array.getElem?_setIfInBounds_ne (by omega)]
/-- an arc's first delay table is laid anew -/
theorem CS.arcDelay {k g c n gd cd b : Nat} {a : ArcD} {u w2 : World} {a1 a2 a3 : Value} {t : TableD} (h : CS Q w x vp va vt) (hva : va = .slice (some ⟨g, 0, none⟩) n c) (ha0 : x.arcs[k]? = some a) (hcell : w.cell? ⟨g, k * 6 + 4, none⟩ = some (.slice (some ⟨gd, 0, none⟩) 2 cd)) (hb : ¬ Q b) (hbw : b < w.heap.size) (hQ : ∀ q, w.heap.size ≤ q → Q q) (hc : Chg [b] w u)
    (hr : RTable u [a1, a2, a3] t) (f1 : OffB w.heap.size a1) (f2 : OffB w.heap.size a2) (f3 : OffB w.heap.size a3) (hst : SmTable t) (e2 : w2 = ((u.setCell ⟨gd, 0, none⟩ a1).setCell ⟨gd, 1, none⟩ a2).setCell ⟨gd, 2, none⟩ a3) :
    CellW Q w2 { x with arcs := x.arcs.set k { a with delay := a.delay.set 0 t } } vp va vt := by
  have hsm := h.sm
  have hcu := h.next hc (fun q hq => by simp at hq; subst hq; exact hb)
  obtain ⟨pss, ass, hp, ha, ht, ho, hbd⟩ := h
  have key : ∀ bs : List Nat, (∀ q ∈ bs, q ∈ vt.ownBlock.toList ++ ((vp.ownBlock.toList ++ pss.flatten) ++ (va.ownBlock.toList ++ ass.flatten))) → SameOn bs w u := fun bs hs => hc.same (fun q hq => (ho.2 q (hs q hq)).2) (fun q hq hm => by
    simp at hm
    subst hm
    exact hb (ho.2 _ (hs _ hq)).1)
  obtain ⟨n1, n2, n3, n4, n5⟩ := ho.rest
  have hB := ha.allP (p := fun a => a.delay.length = 2) fun _ _ _ h => h.2.1
  have hd2 : a.delay.length = 2 := hB a (List.mem_of_getElem? ha0)
  have OA : OArcs u va x.arcs (va.ownBlock.toList ++ ass.flatten) := ha.arcs.same (key _ fun q hq => List.mem_append_right _ (List.mem_append_right _ hq))
  obtain ⟨g', c', cs, es, b', hva', hBk, hgm, hgb, hbs, hbn, el, ecs, hoa, FIN⟩ := OList.turn (O' := WArc) OA n3 ha0
  rw [hva] at hva'
  injection hva' with q1 q2 q3
  injection q1 with q1
  injection q1 with q1
  subst q1 q2 q3
  obtain ⟨vd, vs, b4, b5, rfl, t4, t5, rfl⟩ := hoa
  have hgw := ho.2 g (List.mem_append_right _ (List.mem_append_right _ hgm))
  have hvd : vd = .slice (some ⟨gd, 0, none⟩) 2 cd := by
    have z1 := ecs 4 _ rfl
    rw [← hBk.cell, hc.cell hcell (by simp; intro e; exact hb (by rw [← e]; exact hgw.1))] at z1
    injection z1 with z1
    exact z1.symm
  rw [List.nodup_append] at hbn
  obtain ⟨t0, ht0⟩ : ∃ t0, a.delay[0]? = some t0 := ⟨_, List.getElem?_eq_getElem (by omega)⟩
  obtain ⟨gd', cd', csd, esd, bd, hvd', hBd, hgdm, hgdb, hbds, hbdn, eld, ecsd, hot, FIN2⟩ := OList.turn (O' := WTable) t4 hbn.1 ht0
  rw [hvd] at hvd'
  injection hvd' with q1 q2 q3
  injection q1 with q1
  injection q1 with q1
  subst q1 q3
  obtain ⟨bt, hbt, lbt⟩ := SR.table hr f1 f2 f3
  have hgdo : gd ∈ va.ownBlock.toList ++ ass.flatten := hbs gd (List.mem_append_left _ hgdm)
  have hgdw := ho.2 gd (List.mem_append_right _ (List.mem_append_right _ hgdo))
  have h3 : 3 ≤ csd.size := by
    obtain ⟨_, _, _, _, _, _, rfl, -⟩ := hot
    have := (Array.getElem?_eq_some_iff.1 (ecsd 2 _ rfl)).1
    omega
  have hc2 : Chg [gd] u w2 := by
    rw [e2]
    exact (((Chg.refl _ _).setCell (by simp) _).setCell (by simp) _).setCell (by simp) _
  have hBd2 : Blk w2 gd 136 (((csd.setIfInBounds 0 a1).setIfInBounds 1 a2).setIfInBounds 2 a3) := by
    rw [e2]
    exact ((hBd.set_ 0 a1).set_ 1 a2).set_ 2 a3
  obtain ⟨k1, k2⟩ := Arr.set3 (a := a1) (b := a2) (c := a3) h3
  have hcw : w.heap.size ≤ u.heap.size := hc.size
  have same2 : ∀ bs : List Nat, (∀ q ∈ bs, q < u.heap.size ∧ q ≠ gd) → SameOn bs u w2 := fun bs hs => hc2.same (fun q hq => (hs q hq).1) (fun q hq hm => by simp at hm; exact (hs q hq).2 hm)
  have ltA : ∀ q, q ∈ va.ownBlock.toList ++ ass.flatten → q < u.heap.size := fun q hq => Nat.lt_of_lt_of_le (ho.2 q (List.mem_append_right _ (List.mem_append_right _ hq))).2 hcw
  obtain ⟨bs4, hL4, hm4⟩ := FIN2 w2 _ [a1, a2, a3] t bt hBd2 (fun m hm => by rcases hm with hm | hm; · omega
                                                                             · exact k2 m (by omega)) rfl (fun j u hu => by rw [Nat.zero_mul, Nat.zero_add]; exact k1 j u hu) (hbt.same (same2 bt fun q hq => ⟨(lbt q hq).2, fun e => by have := lbt q hq; omega⟩)) (fun es z d hd hz => OTable.weak hz (same2 d fun q hq => ⟨ltA q (hbs q (List.mem_append_left _ (hd q hq).1)), (hd q hq).2.2⟩))
  have s5 : SameOn b5 u w2 := same2 b5 fun q hq => ⟨ltA q (hbs q (List.mem_append_right _ hq)), fun e => hbn.2.2 gd hgdm q hq e.symm⟩
  obtain ⟨bsA, hLA, hmA⟩ := FIN w2 cs _ { a with delay := a.delay.set 0 t } (bs4 ++ b5) (hBk.chg hc2 (by simp; intro e; exact hgb (by rw [e]; exact List.mem_append_left _ hgdm))) (fun m _ => rfl) el ecs
    (fun w9 g9 => ⟨_, _, rfl, WTable.list hL4 w9 (g9.sub fun q hq => List.mem_append_left _ hq), (t5.same (s5.trans (g9.sub fun q hq => List.mem_append_right _ hq))).reads⟩)
    (fun es z d hd hz => OArc.weak hz (same2 d fun q hq => ⟨ltA q (hd q hq).1, fun e => (hd q hq).2.1 (by rw [e]; exact List.mem_append_left _ hgdm)⟩))
  have hall : ∀ q ∈ bsA, q ∈ va.ownBlock.toList ++ ass.flatten ∨ (w.heap.size ≤ q ∧ q < u.heap.size) := fun q hq => by
    rcases hmA q hq with h | h
    · exact .inl h
    · rcases List.mem_append.1 h with h | h
      · rcases hm4 q h with h | h
        · exact .inl (hbs q (List.mem_append_left _ h))
        · exact .inr (lbt q h)
      · exact .inl (hbs q (List.mem_append_right _ h))
  refine CS.turn (bp := vp.ownBlock.toList ++ pss.flatten) (ba := bsA) hcu (same2 _ fun q hq => ⟨Nat.lt_of_lt_of_le (ho.2 q (List.mem_append_left _ hq)).2 hcw, fun e => (n4 _ hgdo).1 (by rw [← e]; exact hq)⟩) (fun w9 g9 => (hp.pins.same (((key _ fun q hq => List.mem_append_right _ (List.mem_append_left _ hq)).trans (same2 _ fun q hq => ⟨Nat.lt_of_lt_of_le (ho.2 q (List.mem_append_right _ (List.mem_append_left _ hq))).2 hcw, fun e => (n5 _ hq).2 (by rw [e]; exact hgdo)⟩)).trans g9)).reads) (WArc.list hLA) (fun q hq => ?_) rfl ?_ hbd.2.1.2
  · have hz := hc2.size
    rcases List.mem_append.1 hq with hq | hq
    · have h9 := ho.2 q (List.mem_append_right _ (List.mem_append_left _ hq))
      exact ⟨h9.1, by omega, fun e => (n5 _ hq).1 (by rw [e]; simp)⟩
    · rcases hall q hq with hq | hq
      · have h9 := ho.2 q (List.mem_append_right _ (List.mem_append_right _ hq))
        exact ⟨h9.1, by omega, fun e => (n4 _ hq).1 (by rw [e]; simp)⟩
      · refine ⟨hQ q hq.1, by omega, fun e => ?_⟩
        have := ho.2 q (List.mem_append_left _ (by rw [e]; simp))
        omega
  · refine ⟨hsm.1, hsm.2.1, ⟨by have := hsm.2.2.1.1; unfold SmL at this ⊢; simpa using this, fun r hr => ?_⟩, hsm.2.2.2⟩
    rcases List.mem_or_eq_of_mem_set hr with h | h
    · exact hsm.2.2.1.2 r h
    · subst h
      have h9 := hsm.2.2.1.2 a (List.mem_of_getElem? ha0)
      refine ⟨⟨by have := h9.1.1; unfold SmL at this ⊢; simpa using this, fun t' ht' => ?_⟩, h9.2⟩
      rcases List.mem_or_eq_of_mem_set ht' with h | h
      · exact h9.1.2 t' h
      · subst h; exact hst
end
end Go.Proofs.YtlnpefiipdkafaaGreatDoor
