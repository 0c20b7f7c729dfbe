/-
  What a valid library and a valid design are, and a design's places, in plain Lean.
-/
import Derived.Test.YtocahjbmnkadjaaGreatDoorGI
import Derived.Test.YtocahjbmnkadjaaGreatDoorGG
import Derived.Laws.AppendOwn
namespace Go.Proofs.YtocahjbmnkadjaaGreatDoor
open Go.RowKit

theorem ownsRow_grows {w w' : World} {base : Nat} {e : TypeId} {size : Nat} {v : Value} {n : Nat} {xs : List Value} (h : w.ownsRow base e size v n xs) (g : Grows w w') : w'.ownsRow base e size v n xs := by
  obtain ⟨hl, ⟨rfl, h0⟩ | ⟨q, c, cur, rfl, hb, hq, h1, h2, h3, h4⟩⟩ := h
  · exact ⟨hl, .inl ⟨rfl, h0⟩⟩
  · exact ⟨hl, .inr ⟨q, c, cur, rfl, hb, (Blk.grows (show Blk w q e cur from hq) g), h1, h2, h3, h4⟩⟩
def LibP (cs : List CellD) : Prop := (∀ (i : Nat) (x : CellD), cs[i]? = some x → CellP x) ∧ (∀ (i j : Nat) (x y : CellD), i < j → cs[i]? = some x → cs[j]? = some y → ¬ x.name = y.name) ∧ cs.length ≤ 8
noncomputable def libB (cs : List CellD) : Bool := pB (LibP cs)
theorem lib_names {cs : List CellD} (h : ∀ (i : Nat) (x : CellD), cs[i]? = some x → CellP x) : (pB (NamesP (cs.map (·.name))) && decide (cs.length ≤ 8)) = libB cs := by
  unfold libB
  rw [Bool.eq_iff_iff, Bool.and_eq_true, pB_iff, pB_iff, decide_eq_true_eq]
  constructor
  · rintro ⟨⟨-, h2⟩, hl⟩
    refine ⟨h, fun i j x y hij hx hy => h2 i j _ _ hij ?_ ?_, hl⟩
    · rw [List.getElem?_map, hx]; rfl
    · rw [List.getElem?_map, hy]; rfl
  · rintro ⟨-, h2, hl⟩
    refine ⟨⟨fun i s hs => ?_, fun i j s u hij hs hu => ?_⟩, hl⟩
    · rw [List.getElem?_map] at hs
      obtain ⟨x, hx, rfl⟩ := Option.map_eq_some_iff.1 hs
      exact (h i x hx).name
    · rw [List.getElem?_map] at hs hu
      obtain ⟨x, hx, rfl⟩ := Option.map_eq_some_iff.1 hs
      obtain ⟨y, hy, rfl⟩ := Option.map_eq_some_iff.1 hu
      exact h2 i j x y hij hx hy
def cellI (s : ByteArray) (cs : List CellD) : Int := idxF (fun c => decide (c.name = s)) cs

def netIn (d : DesignD) (n : Int) : Bool := inB n 0 ((d.nets.length : Int) - 1)
structure InstOk (l : List CellD) (d : DesignD) (x : InstD) : Prop where
  cell : inB x.cell 0 ((l.length : Int) - 1) = true
  pins : ∀ c, l[x.cell.toNat]? = some c → x.nets.length = c.pins.length
  nets : x.nets.all (netIn d) = true
structure PortOk (d : DesignD) (p : PortD) : Prop where
  dir : inB p.dir 1 2 = true
  net : netIn d p.net = true
def lastNet (x : InstD) : Int := x.nets.getD (x.nets.length - 1) 0
theorem lastNet_of {x : InstD} {v : Int} (h : x.nets[x.nets.length - 1]? = some v) : lastNet x = v := by
  unfold lastNet; rw [List.getD_eq_getElem?_getD, h]; rfl
/-- how many of some instances drive net j; how many of some ports -/
def cntI (xs : List InstD) (j : Nat) : Nat := (xs.filter fun x => lastNet x == (j : Int)).length
def cntP (ps : List PortD) (j : Nat) : Nat := (ps.filter fun p => p.dir == 1 && p.net == (j : Int)).length
theorem cntI_succ {xs : List InstD} {k : Nat} {x : InstD} (h : xs[k]? = some x) (j : Nat) : cntI (xs.take (k + 1)) j = cntI (xs.take k) j + (if lastNet x = (j : Int) then 1 else 0) := by
  unfold cntI
  rw [List.take_add_one, h, List.filter_append, List.length_append]
  by_cases e : lastNet x = (j : Int) <;> simp [e]
theorem cntP_succ {ps : List PortD} {k : Nat} {p : PortD} (h : ps[k]? = some p) (j : Nat) : cntP (ps.take (k + 1)) j = cntP (ps.take k) j + (if p.dir = 1 ∧ p.net = (j : Int) then 1 else 0) := by
  unfold cntP
  rw [List.take_add_one, h, List.filter_append, List.length_append]
  by_cases e : p.dir = 1 <;> by_cases f : p.net = (j : Int) <;> simp [e, f]
theorem cntI_le (xs : List InstD) (j : Nat) : cntI xs j ≤ xs.length := List.length_filter_le _ _
theorem cntP_le (ps : List PortD) (j : Nat) : cntP ps j ≤ ps.length := List.length_filter_le _ _
structure DesP (l : List CellD) (d : DesignD) : Prop where
  lib : LibP l
  ni : d.insts.length ≤ 14
  nn : d.nets.length ≤ 30
  np : d.ports.length ≤ 8
  inst : ∀ (i : Nat) (x : InstD), d.insts[i]? = some x → InstOk l d x
  port : ∀ (i : Nat) (p : PortD), d.ports[i]? = some p → PortOk d p
  iname : NamesP (d.insts.map (·.name))
  nname : NamesP d.nets
  pname : NamesP (d.ports.map (·.name))
  drv : ∀ j : Nat, j < d.nets.length → cntI d.insts j + cntP d.ports j = 1
noncomputable def desB (l : List CellD) (d : DesignD) : Bool := pB (DesP l d)
/-- a valid instance has nets -/
theorem DesP.last {l : List CellD} {d : DesignD} (hl : LibP l) {x : InstD} (h : InstOk l d x) : 2 ≤ x.nets.length ∧ x.nets.length ≤ 5 := by
  have hc := inB_true h.cell
  obtain ⟨c, hcc⟩ : ∃ c, l[x.cell.toNat]? = some c := ⟨_, List.getElem?_eq_getElem (by omega)⟩
  have := h.pins c hcc
  have hp := (hl.1 _ _ hcc).pins.1
  omega

structure PlaceD where
  inst : Int
  pin : Int
  net : Int
  drives : Bool
def RPlace (_ : World) (cs : List Value) (p : PlaceD) : Prop := cs = [.int .i64 p.inst, .int .i64 p.pin, .int .i64 p.net, .bool p.drives]
def RPlaces : World → Value → List PlaceD → Prop := RList 4 RPlace
theorem RPlaces.keep {w w' : World} {v : Value} {xs : List PlaceD} (h : RPlaces w v xs) (k : Keeps w w') : RPlaces w' v xs := RList.keep h k fun _ _ h => h
/-- the places of an instance's first q pins -/
def plI (i : Nat) (x : InstD) (q : Nat) : List PlaceD := (List.range q).map fun (k : Nat) => ⟨(i : Int), (k : Int), x.nets.getD k 0, decide (k + 1 = x.nets.length)⟩
def plIs (xs : List InstD) (k : Nat) : List PlaceD := (List.range k).flatMap fun (i : Nat) => match xs[i]? with | some x => plI i x x.nets.length | none => []
def plPs (ps : List PortD) (k : Nat) : List PlaceD := (List.range k).flatMap fun (i : Nat) => match ps[i]? with | some p => [⟨-1, (i : Int), p.net, p.dir == 1⟩] | none => []
def placesL (d : DesignD) : List PlaceD := plIs d.insts d.insts.length ++ plPs d.ports d.ports.length
theorem plI_succ {i : Nat} {x : InstD} {q : Nat} {v : Int} (h : x.nets[q]? = some v) : plI i x (q + 1) = plI i x q ++ [⟨(i : Int), (q : Int), v, decide (q + 1 = x.nets.length)⟩] := by
  unfold plI
  rw [List.range_succ, List.map_append, List.map_singleton, List.getD_eq_getElem?_getD, h]; rfl
theorem plIs_succ {xs : List InstD} {k : Nat} {x : InstD} (h : xs[k]? = some x) : plIs xs (k + 1) = plIs xs k ++ plI k x x.nets.length := by
  unfold plIs
  rw [List.range_succ, List.flatMap_append, List.flatMap_singleton, h]
theorem plPs_succ {ps : List PortD} {k : Nat} {p : PortD} (h : ps[k]? = some p) : plPs ps (k + 1) = plPs ps k ++ [⟨-1, (k : Int), p.net, p.dir == 1⟩] := by
  unfold plPs
  rw [List.range_succ, List.flatMap_append, List.flatMap_singleton, h]
theorem plI_len (i : Nat) (x : InstD) (q : Nat) : (plI i x q).length = q := by unfold plI; simp
theorem plIs_len {l : List CellD} {d : DesignD} (h : DesP l d) : ∀ {k : Nat}, k ≤ d.insts.length → (plIs d.insts k).length ≤ 5 * k
  | 0, _ => by simp [plIs]
  | k + 1, hk => by
    obtain ⟨x, hx⟩ : ∃ x, d.insts[k]? = some x := ⟨_, List.getElem?_eq_getElem (by omega)⟩
    rw [plIs_succ hx, List.length_append, plI_len]
    have := plIs_len h (k := k) (by omega)
    have := (DesP.last h.lib (h.inst k x hx)).2
    omega
theorem plPs_len {d : DesignD} : ∀ {k : Nat}, k ≤ d.ports.length → (plPs d.ports k).length = k
  | 0, _ => by simp [plPs]
  | k + 1, hk => by
    obtain ⟨x, hx⟩ : ∃ x, d.ports[k]? = some x := ⟨_, List.getElem?_eq_getElem (by omega)⟩
    rw [plPs_succ hx, List.length_append, plPs_len (k := k) (by omega)]; rfl
theorem places_len {l : List CellD} {d : DesignD} (h : DesP l d) : (placesL d).length ≤ 78 := by
  unfold placesL
  rw [List.length_append, plPs_len (Nat.le_refl _)]
  have := plIs_len h (Nat.le_refl d.insts.length)
  have := h.ni
  have := h.np
  omega
/-- every place of a valid design lies at a net, at a pin of an instance or at a port -/
structure PlaceOk (l : List CellD) (d : DesignD) (p : PlaceD) : Prop where
  net : netIn d p.net = true
  at_ : (∃ (i k : Nat) (x : InstD) (c : CellD) (q : PinD), p.inst = (i : Int) ∧ p.pin = (k : Int) ∧ d.insts[i]? = some x ∧ 0 ≤ x.cell ∧ l[x.cell.toNat]? = some c ∧ c.pins[k]? = some q) ∨ (p.inst = -1 ∧ ∃ (k : Nat) (o : PortD), p.pin = (k : Int) ∧ d.ports[k]? = some o)
theorem place_ok {l : List CellD} {d : DesignD} (h : DesP l d) {p : PlaceD} (hp : p ∈ placesL d) : PlaceOk l d p := by
  unfold placesL at hp
  rcases List.mem_append.1 hp with hp | hp
  · unfold plIs at hp
    obtain ⟨i, hi, hp⟩ := List.mem_flatMap.1 hp
    obtain ⟨x, hx⟩ : ∃ x, d.insts[i]? = some x := ⟨_, List.getElem?_eq_getElem (List.mem_range.1 hi)⟩
    rw [hx] at hp
    simp only at hp
    unfold plI at hp
    obtain ⟨k, hk, rfl⟩ := List.mem_map.1 hp
    have hk := List.mem_range.1 hk
    have ho := h.inst i x hx
    have hc := inB_true ho.cell
    obtain ⟨c, hcc⟩ : ∃ c, l[x.cell.toNat]? = some c := ⟨_, List.getElem?_eq_getElem (by omega)⟩
    have hpl := ho.pins c hcc
    obtain ⟨q, hq⟩ : ∃ q, c.pins[k]? = some q := ⟨_, List.getElem?_eq_getElem (by omega)⟩
    refine ⟨?_, .inl ⟨i, k, x, c, q, rfl, rfl, hx, hc.1, hcc, hq⟩⟩
    show netIn d (x.nets.getD k 0) = true
    rw [List.getD_eq_getElem?_getD, List.getElem?_eq_getElem hk]
    exact List.all_eq_true.1 ho.nets _ (List.getElem_mem hk)
  · unfold plPs at hp
    obtain ⟨i, hi, hp⟩ := List.mem_flatMap.1 hp
    obtain ⟨x, hx⟩ : ∃ x, d.ports[i]? = some x := ⟨_, List.getElem?_eq_getElem (List.mem_range.1 hi)⟩
    rw [hx] at hp
    simp only [List.mem_singleton] at hp
    subst hp
    exact ⟨(h.port i x hx).net, .inr ⟨rfl, i, x, rfl, hx⟩⟩
end Go.Proofs.YtocahjbmnkadjaaGreatDoor
/-
  An own row that was appended to, read as a list of elements of several cells.
-/
namespace Go.Proofs.YtocahjbmnkadjaaGreatDoor
open Go.RowKit
theorem flat_at {α β : Type} {f : α → List β} {sz : Nat} (hf : ∀ x, (f x).length = sz) : ∀ {xs : List α} {i j : Nat} {x : α} {u : β}, xs[i]? = some x → (f x)[j]? = some u → (xs.flatMap f)[i * sz + j]? = some u
  | [], i, j, x, u, h, _ => by simp at h
  | y :: ys, 0, j, x, u, h, hu => by
    simp at h
    subst h
    have hj : j < (f y).length := (List.getElem?_eq_some_iff.1 hu).1
    rw [List.flatMap_cons, Nat.zero_mul, Nat.zero_add, List.getElem?_append_left hj]
    exact hu
  | y :: ys, i + 1, j, x, u, h, hu => by
    have h' : ys[i]? = some x := by simpa using h
    have e : (i + 1) * sz + j = (f y).length + (i * sz + j) := by rw [hf, Nat.add_mul]; omega
    rw [List.flatMap_cons, e, List.getElem?_append_right (by omega), Nat.add_sub_cancel_left]
    exact flat_at hf h' hu
theorem own_list {α : Type} {sz : Nat} {R : World → List Value → α → Prop} {f : α → List Value} (hf : ∀ x, (f x).length = sz) {w : World} {base : Nat} {E : TypeId} {v : Value} {xs : List α} {n : Nat} (hR : ∀ x ∈ xs, R w (f x) x) (hn : n = xs.length) (h : w.ownsRow base E sz v n (xs.flatMap f)) : RList sz R w v xs := by
  subst hn
  obtain ⟨hl, ⟨rfl, h0⟩ | ⟨g, c, cur, rfl, hb', hg, h1, h2, h3, h4⟩⟩ := h
  · have hx : xs = [] := List.eq_nil_of_length_eq_zero h0
    subst hx
    exact ⟨none, 0, rfl, Nat.le_refl _, Nat.zero_le _, .inl rfl⟩
  · have hB : Blk w g E cur := hg
    refine ⟨_, c, rfl, h1, h2, .inr ⟨g, 0, rfl, fun i x hx => ⟨f x, hf x, fun j u hu => ?_, hR x (List.mem_of_getElem? hx)⟩⟩⟩
    have hi : i < xs.length := (List.getElem?_eq_some_iff.1 hx).1
    have hj : j < sz := by have := (List.getElem?_eq_some_iff.1 hu).1; rw [hf] at this; exact this
    have h5 : (cur.toList.take (xs.length * sz))[i * sz + j]? = some u := by rw [h4]; exact flat_at hf hx hu
    have hlt : i * sz + j < xs.length * sz := by
      have : (i + 1) * sz ≤ xs.length * sz := Nat.mul_le_mul_right _ hi
      rw [Nat.add_mul] at this
      omega
    rw [List.getElem?_take_of_lt hlt] at h5
    rw [Nat.zero_add, hB.cell, ← Array.getElem?_toList]
    exact h5
def plC (p : PlaceD) : List Value := [.int .i64 p.inst, .int .i64 p.pin, .int .i64 p.net, .bool p.drives]
end Go.Proofs.YtocahjbmnkadjaaGreatDoor
