/-
  A struct and the slices of it: owned, small, its budget, copy and equality.
-/
import Derived.Test.YtocahjbmnkadjaaGreatDoorGB
import Derived.Test.YtocahjbmnkadjaaGreatDoorGA
namespace Go.Proofs.YtocahjbmnkadjaaGreatDoor
open Go.RowKit

def OPin (_ : World) (cs : List Value) (x : PinD) (bs : List Nat) : Prop :=
  cs = [.string x.name, .int .i64 x.dir, .int .i64 x.cap, .bool x.clock] ∧ x.name.size ≤ maxLen ∧ bs = []
theorem OPin.reads {w : World} {cs : List Value} {x : PinD} {bs : List Nat} (h : OPin w cs x bs) : RPin w cs x := by
  obtain ⟨e, z0, _⟩ := h
  exact ⟨e, z0⟩
theorem OPin.same {w w' : World} {cs : List Value} {x : PinD} {bs : List Nat} (h : OPin w cs x bs) (_ : SameOn bs w w') : OPin w' cs x bs := by
  exact h
theorem OPin.lt {w : World} {cs : List Value} {x : PinD} {bs : List Nat} (h : OPin w cs x bs) : ∀ g ∈ bs, g < w.heap.size := by
  obtain ⟨e, z0, rfl⟩ := h
  intro g hg
  cases hg
def SmPin (x : PinD) : Prop := x.name.size ≤ 1048576
theorem RPin.parts {w : World} {vv0 vv1 vv2 vv3 : Value} {x : PinD} (h : RPin w [vv0, vv1, vv2, vv3] x) : (vv0 = .string x.name) ∧ (vv1 = .int .i64 x.dir) ∧ (vv2 = .int .i64 x.cap) ∧ (vv3 = .bool x.clock) ∧ x.name.size ≤ maxLen := by
  obtain ⟨he, z0⟩ := h
  injection he with e0 he
  injection he with e1 he
  injection he with e2 he
  injection he with e3 he
  exact ⟨e0, e1, e2, e3, z0⟩
theorem OPin.shape {w : World} {vv0 vv1 vv2 vv3 : Value} {x : PinD} {bs : List Nat} (h : OPin w [vv0, vv1, vv2, vv3] x bs) : vv0 = .string x.name ∧ vv1 = .int .i64 x.dir ∧ vv2 = .int .i64 x.cap ∧ vv3 = .bool x.clock := by
  obtain ⟨e0, e1, e2, e3, -⟩ := h.reads.parts
  exact ⟨e0, e1, e2, e3⟩
def wtPin (_ : PinD) : Nat := 0
set_option maxHeartbeats 1000000 in
theorem szPin_w {vv0 vv1 vv2 vv3 : Value} {x : PinD} (left : Int) (w : World) (h : RPin w [vv0, vv1, vv2, vv3] x) (h1 : 0 ≤ left) (h2 : left ≤ 1048576) :
    Calls Tryz.prog 84 #[.agg #[vv0, vv1, vv2, vv3], .int .i64 left] w (SzPostW (SmPin x) (wtPin x) left w) := by
  obtain ⟨rfl, rfl, rfl, rfl, kz0⟩ := h.parts
  have g0 := (Grows.refl w).alloc (.cells #[.string x.name, .int .i64 x.dir, .int .i64 x.cap, .bool x.clock] 128)
  have zs0 : (x.name.size : Int) ≤ 9223372036854775807 := by unfold maxLen at kz0; omega
  clear kz0
  have S := hideIt (Blk.new w 128 #[.string x.name, .int .i64 x.dir, .int .i64 x.cap, .bool x.clock])
  have G := hideIt g0
  clear g0 
  go_enter Tryz.func84, Tryz.ntmps84
  by_cases n0 : left - (x.name.size : Int) < 0
  · go_wp2
    go_ret
    exact ⟨-1, rfl, by omega, by omega, fun h => by omega, G.out⟩
  obtain ⟨r0, er0⟩ : ∃ r : Int, r = left - (x.name.size : Int) := ⟨_, rfl⟩
  go_wp2
  go_ret
  exact ⟨_, rfl, by omega, by omega, fun _ => ⟨(by unfold SmPin; omega), (by unfold wtPin; omega)⟩, G.out⟩
theorem szPin_any {vv0 vv1 vv2 vv3 : Value} {x : PinD} (left : Int) (w : World) (h : RPin w [vv0, vv1, vv2, vv3] x) (h1 : 0 ≤ left) (h2 : left ≤ 1048576) :
    Calls Tryz.prog 84 #[.agg #[vv0, vv1, vv2, vv3], .int .i64 left] w (SzPost (SmPin x) w) := (szPin_w left w h h1 h2).mono fun _ _ h => h.post
set_option maxHeartbeats 2000000 in
theorem toPin_o {vv0 vv1 vv2 vv3 : Value} {x : PinD} (w : World) (h : RPin w [vv0, vv1, vv2, vv3] x) (_ : SmPin x) :
    Calls Tryz.prog 87 #[.agg #[vv0, vv1, vv2, vv3]] w fun e w' => ∃ (y0_ y1_ y2_ y3_ : Value) (bs : List Nat), e = .returned (.agg #[y0_, y1_, y2_, y3_]) ∧ OPin w' [y0_, y1_, y2_, y3_] x bs ∧ Own w.heap.size w'.heap.size bs ∧ Grows w w' := by
  obtain ⟨rfl, rfl, rfl, rfl, kz0⟩ := h.parts
  have Z0 := hideIt kz0
  clear kz0
  have g0 : Grows w (((w.alloc (.cells #[.string x.name, .int .i64 x.dir, .int .i64 x.cap, .bool x.clock] 128)).alloc (.cells #[.string .empty, .int .i64 0, .int .i64 0, .bool false] 125)).alloc (.cells #[.string x.name, .int .i64 x.dir, .int .i64 x.cap, .bool x.clock] 125)) := (((Grows.refl w).alloc _).alloc _).alloc _
  have s0 : Blk (((w.alloc (.cells #[.string x.name, .int .i64 x.dir, .int .i64 x.cap, .bool x.clock] 128)).alloc (.cells #[.string .empty, .int .i64 0, .int .i64 0, .bool false] 125)).alloc (.cells #[.string x.name, .int .i64 x.dir, .int .i64 x.cap, .bool x.clock] 125)) (w.heap.size) 128 #[.string x.name, .int .i64 x.dir, .int .i64 x.cap, .bool x.clock] := ((Blk.new w _ _).grows ((Grows.refl _).alloc _)).grows ((Grows.refl _).alloc _)
  have r0 : Blk (((w.alloc (.cells #[.string x.name, .int .i64 x.dir, .int .i64 x.cap, .bool x.clock] 128)).alloc (.cells #[.string .empty, .int .i64 0, .int .i64 0, .bool false] 125)).alloc (.cells #[.string x.name, .int .i64 x.dir, .int .i64 x.cap, .bool x.clock] 125)) (w.heap.size + 1) 125 #[.string .empty, .int .i64 0, .int .i64 0, .bool false] := by have := (Blk.new (w.alloc (.cells #[.string x.name, .int .i64 x.dir, .int .i64 x.cap, .bool x.clock] 128)) 125 #[.string .empty, .int .i64 0, .int .i64 0, .bool false]).grows ((Grows.refl _).alloc (.cells #[.string x.name, .int .i64 x.dir, .int .i64 x.cap, .bool x.clock] 125)); simpa using this
  have b0 : Blk (((w.alloc (.cells #[.string x.name, .int .i64 x.dir, .int .i64 x.cap, .bool x.clock] 128)).alloc (.cells #[.string .empty, .int .i64 0, .int .i64 0, .bool false] 125)).alloc (.cells #[.string x.name, .int .i64 x.dir, .int .i64 x.cap, .bool x.clock] 125)) (w.heap.size + 1 + 1) 125 #[.string x.name, .int .i64 x.dir, .int .i64 x.cap, .bool x.clock] := by have := Blk.new ((w.alloc (.cells #[.string x.name, .int .i64 x.dir, .int .i64 x.cap, .bool x.clock] 128)).alloc (.cells #[.string .empty, .int .i64 0, .int .i64 0, .bool false] 125)) 125 #[.string x.name, .int .i64 x.dir, .int .i64 x.cap, .bool x.clock]; simpa using this
  have G0 := hideIt g0
  have S0 := hideIt s0
  have R0 := hideIt r0
  have B0 := hideIt b0
  clear g0 s0 r0 b0
  go_enter Tryz.func87, Tryz.ntmps87
  go_wp2
  refine bodyPost_ret (by simp [*, results, Tryz.results87, go_sem]; try rfl) rfl ?_
  exact ⟨_, _, _, _, _, rfl, ⟨rfl, Z0.out, rfl⟩, Own.nil, by repeat (first | exact Grows.refl _ | refine Grows.setCell ?_ (by simp <;> omega) _ | refine Grows.alloc ?_ _)⟩
set_option maxHeartbeats 1000000 in
theorem eqPin_same {vv0 vv1 vv2 vv3 uu0 uu1 uu2 uu3 : Value} {x : PinD} (w : World) (h : RPin w [vv0, vv1, vv2, vv3] x) (h2 : RPin w [uu0, uu1, uu2, uu3] x) :
    Calls Tryz.prog 106 #[.agg #[vv0, vv1, vv2, vv3], .agg #[uu0, uu1, uu2, uu3]] w fun e w' => e = .returned (.bool true) ∧ Grows w w' := by
  obtain ⟨rfl, rfl, rfl, rfl, kz0⟩ := h.parts
  obtain ⟨rfl, rfl, rfl, rfl, mz0⟩ := h2.parts
  clear kz0 mz0
  have g0 : Grows w ((w.alloc (.cells #[.string x.name, .int .i64 x.dir, .int .i64 x.cap, .bool x.clock] 125)).alloc (.cells #[.string x.name, .int .i64 x.dir, .int .i64 x.cap, .bool x.clock] 125)) := ((Grows.refl w).alloc _).alloc _
  have s0 : Blk ((w.alloc (.cells #[.string x.name, .int .i64 x.dir, .int .i64 x.cap, .bool x.clock] 125)).alloc (.cells #[.string x.name, .int .i64 x.dir, .int .i64 x.cap, .bool x.clock] 125)) (w.heap.size) 125 #[.string x.name, .int .i64 x.dir, .int .i64 x.cap, .bool x.clock] := (Blk.new w _ _).grows ((Grows.refl _).alloc _)
  have r0 : Blk ((w.alloc (.cells #[.string x.name, .int .i64 x.dir, .int .i64 x.cap, .bool x.clock] 125)).alloc (.cells #[.string x.name, .int .i64 x.dir, .int .i64 x.cap, .bool x.clock] 125)) (w.heap.size + 1) 125 #[.string x.name, .int .i64 x.dir, .int .i64 x.cap, .bool x.clock] := by have := Blk.new (w.alloc (.cells #[.string x.name, .int .i64 x.dir, .int .i64 x.cap, .bool x.clock] 125)) 125 #[.string x.name, .int .i64 x.dir, .int .i64 x.cap, .bool x.clock]; simpa using this
  have G0 := hideIt g0
  have S0 := hideIt s0
  have R0 := hideIt r0
  clear g0 s0 r0
  go_enter Tryz.func106, Tryz.ntmps106
  go_wp2
  go_ret
  exact ⟨rfl, G0.out⟩
def OPins : World → Value → List PinD → List Nat → Prop := OList 4 125 OPin
def SmPins (xs : List PinD) : Prop := SmL xs ∧ ∀ x ∈ xs, SmPin x
def wtPins (xs : List PinD) : Nat := wtL wtPin xs
theorem OPins.reads {w : World} {v : Value} {xs : List PinD} {bs : List Nat} (h : OPins w v xs bs) : RPins w v xs := OList.reads h fun _ _ _ h => h.reads
theorem OPins.same {w w' : World} {v : Value} {xs : List PinD} {bs : List Nat} (h : OPins w v xs bs) (g : SameOn bs w w') : OPins w' v xs bs := OList.same h g fun _ _ _ h g => h.same g
theorem OPins.lt {w : World} {v : Value} {xs : List PinD} {bs : List Nat} (h : OPins w v xs bs) : ∀ g ∈ bs, g < w.heap.size := OList.lt h fun _ _ _ h => h.lt
theorem info_Pin : (Tryz.prog.info? 125).map (fun i => (i.zero, i.size)) = some (some (.agg #[.string .empty, .int .i64 0, .int .i64 0, .bool false]), 4) := by kernel_rfl
theorem bytes_Pin : ∀ i, Tryz.prog.info? 125 = some i → i.bytes ≤ 256 := by
  intro i hi
  have h : (Tryz.prog.info? 125).map (fun i => decide (i.bytes ≤ 256)) = some true := by kernel_rfl
  rw [hi] at h
  simpa using h
set_option maxHeartbeats 4000000 in
theorem toPins_o {v : Value} {xs : List PinD} (w : World) (h : RPins w v xs) (hn : SmPins xs) :
    Calls Tryz.prog 63 #[v] w fun e w' => ∃ (A : Option Addr) (c : Nat) (bs : List Nat), e = .returned (.slice A xs.length c) ∧ OPins w' (.slice A xs.length c) xs bs ∧ Own w.heap.size w'.heap.size bs ∧ Grows w w' := by
  obtain ⟨i0, hi, hzz⟩ := Option.map_eq_some_iff.1 info_Pin
  simp only [Prod.mk.injEq] at hzz
  obtain ⟨hz0, hz1⟩ := hzz
  have hbt := bytes_Pin i0 hi
  obtain ⟨hn1, hn2⟩ := hn
  unfold SmL at hn1
  have hmk : ∀ u : World, (Instr.makeSlice 68 (.int .i64 (xs.length : Int)) (.int .i64 (xs.length : Int))).run Tryz.prog u =
      .ok (.slice (some ⟨u.heap.size, 0, none⟩) xs.length xs.length) (u.alloc (.cells (madeCells #[.string .empty, .int .i64 0, .int .i64 0, .bool false] (xs.length * 4)) 125)) := fun u => by
    have h := run_make (P := Tryz.prog) u 68 125 i0 (.agg #[.string .empty, .int .i64 0, .int .i64 0, .bool false]) Tryz.underlying68 hi hz0 .i64 .i64 (xs.length : Int) (xs.length : Int) (by omega) (Int.le_refl _) (by have h5 := Nat.mul_le_mul hbt hn1; have e : (i0.bytes : Int) * (xs.length : Int) = ((i0.bytes * xs.length : Nat) : Int) := (Int.natCast_mul _ _).symm; rw [e]; omega) (by omega)
    simpa [hz1, Value.cells] using h
  obtain ⟨A, c, rfl, hle, hc, hx⟩ := h.form
  have HX := hideIt hx
  have HN := hideIt hn2
  clear hx hi hz0 hz1 hbt h hn2
  go_enter Tryz.func63, Tryz.ntmps63
  go_wp2
  go_loopw [4] (fun i wr => ∃ k : Nat, k ≤ xs.length ∧ i = .int .i64 k ∧ CopyG 4 125 OPin w wr xs k) (fun i _ => xs.length - (intOf i).toNat)
  case atStart => exact ⟨0, Nat.zero_le _, rfl, CopyG.start _ (Blk.new _ _ _) (by simp [size_madeCells]) ((Grows.refl _).alloc _)⟩
  case round =>
    obtain ⟨k, hk, rfl, hco⟩ := hrel
    by_cases hlt : k < xs.length
    · obtain ⟨x, hx⟩ : ∃ x, xs[k]? = some x := ⟨_, List.getElem?_eq_getElem hlt⟩
      obtain ⟨b, off, rfl, cs, hl1, hcs, hr⟩ := HX.out k x hx
      obtain ⟨c0, c1, c2, c3, rfl⟩ := list4 hl1
      have HST := hideIt (fun u es b => CopyG.step (u := u) (es := es) (b := b) hco (fun _ _ _ _ _ h g => OPin.same h g) hx)
      have SX := hideIt (HN.out x (List.mem_of_getElem? hx))
      obtain ⟨ds, bss, hb, hsz, -, -, hg, -⟩ := hco
      have HR : Hid (RPin wr [c0, c1, c2, c3] x) := hideIt (hr.keep hg.keeps)
      have hs0 : wr.cell? ⟨b, off + k * 4, none⟩ = some c0 := by simpa [Nat.add_assoc] using hg.keeps _ _ (hcs 0 _ rfl)
      have hs1 : wr.cell? ⟨b, off + k * 4 + 1, none⟩ = some c1 := by simpa [Nat.add_assoc] using hg.keeps _ _ (hcs 1 _ rfl)
      have hs2 : wr.cell? ⟨b, off + k * 4 + 2, none⟩ = some c2 := by simpa [Nat.add_assoc] using hg.keeps _ _ (hcs 2 _ rfl)
      have hs3 : wr.cell? ⟨b, off + k * 4 + 3, none⟩ = some c3 := by simpa [Nat.add_assoc] using hg.keeps _ _ (hcs 3 _ rfl)
      have HB := hideIt hb
      have hmul : k * 4 + 4 ≤ ds.size := by rw [hsz]; omega
      clear hcs hl1 hx hr hb hsz hmk hg
      go_wp2_with fail
      refine (toPin_o _ HR.out SX.out).mono ?_
      rintro e u ⟨y0, y1, y2, y3, bb, rfl, ho, ow, g⟩
      obtain ⟨rfl, rfl, rfl, rfl⟩ := ho.shape
      have st := hideIt (HST.out u _ bb g ho ow rfl)
      have hbu := HB.out.grows g
      have hf := hbu.frozen
      obtain ⟨o0, hd0⟩ : ∃ o, u.cell? ⟨w.heap.size, k * 4, none⟩ = some o := ⟨_, by rw [hbu.cell]; exact Array.getElem?_eq_getElem (by omega)⟩
      obtain ⟨o1, hd1⟩ : ∃ o, u.cell? ⟨w.heap.size, k * 4 + 1, none⟩ = some o := ⟨_, by rw [hbu.cell]; exact Array.getElem?_eq_getElem (by omega)⟩
      obtain ⟨o2, hd2⟩ : ∃ o, u.cell? ⟨w.heap.size, k * 4 + 2, none⟩ = some o := ⟨_, by rw [hbu.cell]; exact Array.getElem?_eq_getElem (by omega)⟩
      obtain ⟨o3, hd3⟩ : ∃ o, u.cell? ⟨w.heap.size, k * 4 + 3, none⟩ = some o := ⟨_, by rw [hbu.cell]; exact Array.getElem?_eq_getElem (by omega)⟩
      clear hbu ho ow g HST HB HR
      go_wp2
      go_roundw
      case rel => exact ⟨k + 1, by omega, by go_num, st.out⟩
      case measure => simp [intOf]; omega
    · have hk2 : k = xs.length := by omega
      subst hk2
      have H := hideIt hco
      clear hco hmk
      go_wp2
      go_ret
      obtain ⟨bs, h1, h2, h3⟩ := H.out.done (by unfold maxLen; omega)
      exact ⟨_, _, bs, rfl, h1, h2, h3⟩
theorem toPins_any {v : Value} {xs : List PinD} (w : World) (h : RPins w v xs) (hn : SmPins xs) :
    Calls Tryz.prog 63 #[v] w fun e w' => ∃ (v' : Value) (bs : List Nat), e = .returned v' ∧ OPins w' v' xs bs ∧ Own w.heap.size w'.heap.size bs ∧ Grows w w' :=
  (toPins_o w h hn).mono fun _ _ ⟨_, _, bs, he, h⟩ => ⟨_, bs, he, h⟩
set_option maxHeartbeats 4000000 in
theorem eqPins_same {v1 v2 : Value} {xs : List PinD} (w : World) (h1 : RPins w v1 xs) (h2 : RPins w v2 xs) :
    Calls Tryz.prog 81 #[v1, v2] w fun e w' => e = .returned (.bool true) ∧ Grows w w' := by
  have l1 := h1.len
  obtain ⟨A, c, rfl, hle, hc, hx⟩ := h1.form
  obtain ⟨A2, c2, rfl, hle2, hc2, hy⟩ := h2.form
  have HX := hideIt hx
  have HY := hideIt hy
  have hb : ((xs.length : Int) != (xs.length : Int)) = false := by simp
  clear hx hy h1 h2 hle hle2 hc hc2
  go_enter Tryz.func81, Tryz.ntmps81
  go_wp2
  go_loopw [5] (fun i wr => ∃ k : Nat, k ≤ xs.length ∧ i = .int .i64 k ∧ Grows w wr) (fun i _ => xs.length - (intOf i).toNat)
  case atStart => exact ⟨0, Nat.zero_le _, rfl, Grows.refl _⟩
  case round =>
    obtain ⟨k, hk, rfl, hg⟩ := hrel
    by_cases hlt : k < xs.length
    · obtain ⟨x, hx⟩ : ∃ x, xs[k]? = some x := ⟨_, List.getElem?_eq_getElem hlt⟩
      obtain ⟨b, off, rfl, cs, hl1, hcs, hr⟩ := HX.out k x hx
      obtain ⟨b2, off2, rfl, cs2, hl2, hcs2, hr2⟩ := HY.out k x hx
      obtain ⟨c0, c1, c2, c3, rfl⟩ := list4 hl1
      obtain ⟨d0, d1, d2, d3, rfl⟩ := list4 hl2
      have HR : Hid (RPin wr [c0, c1, c2, c3] x) := hideIt (hr.keep hg.keeps)
      have HR2 : Hid (RPin wr [d0, d1, d2, d3] x) := hideIt (hr2.keep hg.keeps)
      have zc0 : wr.cell? ⟨b, off + k * 4, none⟩ = some c0 := by simpa [Nat.add_assoc] using hg.keeps _ _ (hcs 0 _ rfl)
      have zc1 : wr.cell? ⟨b, off + k * 4 + 1, none⟩ = some c1 := by simpa [Nat.add_assoc] using hg.keeps _ _ (hcs 1 _ rfl)
      have zc2 : wr.cell? ⟨b, off + k * 4 + 2, none⟩ = some c2 := by simpa [Nat.add_assoc] using hg.keeps _ _ (hcs 2 _ rfl)
      have zc3 : wr.cell? ⟨b, off + k * 4 + 3, none⟩ = some c3 := by simpa [Nat.add_assoc] using hg.keeps _ _ (hcs 3 _ rfl)
      have zd0 : wr.cell? ⟨b2, off2 + k * 4, none⟩ = some d0 := by simpa [Nat.add_assoc] using hg.keeps _ _ (hcs2 0 _ rfl)
      have zd1 : wr.cell? ⟨b2, off2 + k * 4 + 1, none⟩ = some d1 := by simpa [Nat.add_assoc] using hg.keeps _ _ (hcs2 1 _ rfl)
      have zd2 : wr.cell? ⟨b2, off2 + k * 4 + 2, none⟩ = some d2 := by simpa [Nat.add_assoc] using hg.keeps _ _ (hcs2 2 _ rfl)
      have zd3 : wr.cell? ⟨b2, off2 + k * 4 + 3, none⟩ = some d3 := by simpa [Nat.add_assoc] using hg.keeps _ _ (hcs2 3 _ rfl)
      have K0 : ∀ w', Grows wr w' → w'.cell? ⟨b, off + k * 4, none⟩ = some c0 ∧ w'.cell? ⟨b, off + k * 4 + 1, none⟩ = some c1 ∧ w'.cell? ⟨b, off + k * 4 + 2, none⟩ = some c2 ∧ w'.cell? ⟨b, off + k * 4 + 3, none⟩ = some c3 ∧ w'.cell? ⟨b2, off2 + k * 4, none⟩ = some d0 ∧ w'.cell? ⟨b2, off2 + k * 4 + 1, none⟩ = some d1 ∧ w'.cell? ⟨b2, off2 + k * 4 + 2, none⟩ = some d2 ∧ w'.cell? ⟨b2, off2 + k * 4 + 3, none⟩ = some d3 ∧ Grows wr w' := fun w' G => ⟨G.keeps _ _ zc0, G.keeps _ _ zc1, G.keeps _ _ zc2, G.keeps _ _ zc3, G.keeps _ _ zd0, G.keeps _ _ zd1, G.keeps _ _ zd2, G.keeps _ _ zd3, G⟩
      have HK := hideIt K0
      have HG := hideIt hg
      have gg : Grows wr wr := Grows.refl _
      clear K0 hcs hcs2 hl1 hl2 hr hr2 hx hg
      go_wp2_with fail
      go_region_held3 (fun w' => w'.cell? ⟨b, off + k * 4, none⟩ = some c0 ∧ w'.cell? ⟨b, off + k * 4 + 1, none⟩ = some c1 ∧ w'.cell? ⟨b, off + k * 4 + 2, none⟩ = some c2 ∧ w'.cell? ⟨b, off + k * 4 + 3, none⟩ = some c3 ∧ w'.cell? ⟨b2, off2 + k * 4, none⟩ = some d0 ∧ w'.cell? ⟨b2, off2 + k * 4 + 1, none⟩ = some d1 ∧ w'.cell? ⟨b2, off2 + k * 4 + 2, none⟩ = some d2 ∧ w'.cell? ⟨b2, off2 + k * 4 + 3, none⟩ = some d3 ∧ Grows wr w')
        ((refine HK.out _ ?_; (repeat (first | exact gg | refine Grows.drew ?_ | refine Grows.alloc ?_ _ | refine Grows.setCell ?_ (by simp <;> omega) _))))
        (first | (go_at_call 106; refine (eqPin_same _ (HR.out.keep (Grows.keeps (by (repeat (first | exact gg | refine Grows.drew ?_))))) (HR2.out.keep (Grows.keeps (by (repeat (first | exact gg | refine Grows.drew ?_)))))).mono ?_; rintro e wx ⟨rfl, g⟩; replace gg : Grows wr wx := Grows.trans (by (repeat (first | exact gg | refine Grows.drew ?_))) g))
      all_goals go_split_ands
      all_goals go_wp2
      all_goals go_roundw
      all_goals first
        | (case rel => exact ⟨k + 1, by omega, by go_num, HG.out.trans (by repeat (first | exact gg | refine Grows.drew ?_))⟩)
        | (simp [intOf]; omega)
    · have hk2 : k = xs.length := by omega
      subst hk2
      go_wp2
      go_ret
      exact ⟨rfl, hg⟩
set_option maxHeartbeats 2000000 in
theorem szPins_w {v : Value} {xs : List PinD} (left : Int) (w : World) (h : RPins w v xs) (h1 : 0 ≤ left) (h2 : left ≤ 1048576) :
    Calls Tryz.prog 55 #[v, .int .i64 left] w (SzPostW (SmPins xs) (wtPins xs) left w) := by
  have hl := h.len
  obtain ⟨A, c, rfl, hle, hc, hx⟩ := h.form
  have HX := hideIt hx
  clear hx h hle hc
  by_cases hlt : left - xs.length < 0
  · go_enter Tryz.func55, Tryz.ntmps55
    go_wp2
    go_ret
    exact ⟨_, rfl, by omega, by omega, fun h => absurd h (by omega), Grows.refl _⟩
  · go_enter Tryz.func55, Tryz.ntmps55
    go_wp2
    go_loopw [1, 5] (fun l i wr => ∃ (k : Nat) (r : Int), k ≤ xs.length ∧ l = .int .i64 r ∧ i = .int .i64 (k : Int) ∧ 0 ≤ r ∧ r ≤ 1048576 ∧ Hid ((((xs.take k).map wtPin).sum : Int) + r ≤ left - xs.length) ∧ Hid (∀ (j : Nat) (x : PinD), j < k → xs[j]? = some x → SmPin x) ∧ Grows w wr) (fun _ i _ => xs.length - (intOf i).toNat)
    case atStart => exact ⟨0, left - xs.length, Nat.zero_le _, rfl, rfl, by omega, by omega, hideIt (by simp), fun j x hj => absurd hj (by omega), Grows.refl _⟩
    case round =>
      obtain ⟨k, r, hk, rfl, rfl, hr0, hr1, hwt, hco, hg⟩ := hrel
      by_cases hk1 : k < xs.length
      · obtain ⟨x, hx⟩ : ∃ x, xs[k]? = some x := ⟨_, List.getElem?_eq_getElem hk1⟩
        obtain ⟨b, off, rfl, cs, hl1, hcs, hr⟩ := HX.out k x hx
        obtain ⟨c0, c1, c2, c3, rfl⟩ := list4 hl1
        have HR : Hid (RPin wr [c0, c1, c2, c3] x) := hideIt (hr.keep hg.keeps)
        have hs0 : wr.cell? ⟨b, off + k * 4, none⟩ = some c0 := by simpa [Nat.add_assoc] using hg.keeps _ _ (hcs 0 _ rfl)
        have hs1 : wr.cell? ⟨b, off + k * 4 + 1, none⟩ = some c1 := by simpa [Nat.add_assoc] using hg.keeps _ _ (hcs 1 _ rfl)
        have hs2 : wr.cell? ⟨b, off + k * 4 + 2, none⟩ = some c2 := by simpa [Nat.add_assoc] using hg.keeps _ _ (hcs 2 _ rfl)
        have hs3 : wr.cell? ⟨b, off + k * 4 + 3, none⟩ = some c3 := by simpa [Nat.add_assoc] using hg.keeps _ _ (hcs 3 _ rfl)
        have X1 := hideIt hx
        have HG := hideIt hg
        clear hcs hl1 hx hr hg
        go_wp2_with fail
        refine (szPin_w _ _ HR.out hr0 hr1).mono ?_
        rintro e u ⟨r2, rfl, p1, p2, sm, g⟩
        have SM := hideIt sm
        have GU := hideIt (HG.out.trans g)
        clear sm g HG HR
        by_cases n1 : r2 < 0
        · go_wp2
          go_ret
          exact ⟨-1, rfl, by omega, by omega, fun h => absurd h (by omega), GU.out⟩
        · go_wp2
          go_roundw
          case rel => exact ⟨k + 1, r2, by omega, rfl, by go_num, by omega, by omega, hideIt (by rw [sum_take_succ X1.out]; have h1 := hwt.out; have h2 := (SM.out (by omega)).2; omega), fun j y hj hy => by
            by_cases e : j = k
            · subst e; rw [X1.out] at hy; injection hy with hy; rw [← hy]; exact (SM.out (by omega)).1
            · exact hco.out j y (by omega) hy, GU.out⟩
          case measure => simp [intOf]; omega
      · have hk2 : k = xs.length := by omega
        subst hk2
        have HC := hideIt hco.out
        clear hco
        go_wp2
        go_ret
        exact ⟨_, rfl, by omega, by omega, fun _ => ⟨⟨by unfold SmL; omega, fun x hx => by obtain ⟨i, hi⟩ := List.getElem?_of_mem hx; exact HC.out i x (lt_of_at hi) hi⟩, by have h1 := hwt.out; rw [List.take_of_length_le (Nat.le_refl _)] at h1; unfold wtPins wtL; omega⟩, hg⟩
theorem szPins_any {v : Value} {xs : List PinD} (left : Int) (w : World) (h : RPins w v xs) (h1 : 0 ≤ left) (h2 : left ≤ 1048576) :
    Calls Tryz.prog 55 #[v, .int .i64 left] w (SzPost (SmPins xs) w) := (szPins_w left w h h1 h2).mono fun _ _ h => h.post
end Go.Proofs.YtocahjbmnkadjaaGreatDoor
/-
  A struct and the slices of it: owned, small, its budget, copy and equality.
-/
namespace Go.Proofs.YtocahjbmnkadjaaGreatDoor
open Go.RowKit

theorem OTable.shape {w : World} {a b c : Value} {t : TableD} {bs : List Nat} (h : OTable w [a, b, c] t bs) : (∃ (A : Option Addr) (n : Nat), a = .slice A t.slews.length n) ∧ (∃ (A : Option Addr) (n : Nat), b = .slice A t.loads.length n) ∧ (∃ (A : Option Addr) (n : Nat), c = .slice A t.values.length n) := h.reads.shape
theorem toTable_o {a b c : Value} {t : TableD} (w : World) (h : RTable w [a, b, c] t) (hs : SmTable t) :
    Calls Tryz.prog 132 #[.agg #[a, b, c]] w fun e w' => ∃ (x y z : Value) (bs : List Nat), e = .returned (.agg #[x, y, z]) ∧ OTable w' [x, y, z] t bs ∧ Own w.heap.size w'.heap.size bs ∧ Grows w w' := toTable_any w h hs
def OTables : World → Value → List TableD → List Nat → Prop := OList 3 149 OTable
def SmTables (xs : List TableD) : Prop := SmL xs ∧ ∀ x ∈ xs, SmTable x
def wtTables (xs : List TableD) : Nat := wtL wtTable xs
theorem OTables.reads {w : World} {v : Value} {xs : List TableD} {bs : List Nat} (h : OTables w v xs bs) : RTables w v xs := OList.reads h fun _ _ _ h => h.reads
theorem OTables.same {w w' : World} {v : Value} {xs : List TableD} {bs : List Nat} (h : OTables w v xs bs) (g : SameOn bs w w') : OTables w' v xs bs := OList.same h g fun _ _ _ h g => h.same g
theorem OTables.lt {w : World} {v : Value} {xs : List TableD} {bs : List Nat} (h : OTables w v xs bs) : ∀ g ∈ bs, g < w.heap.size := OList.lt h fun _ _ _ h => h.lt
theorem info_Table : (Tryz.prog.info? 149).map (fun i => (i.zero, i.size)) = some (some (.agg #[.slice none 0 0, .slice none 0 0, .slice none 0 0]), 3) := by kernel_rfl
theorem bytes_Table : ∀ i, Tryz.prog.info? 149 = some i → i.bytes ≤ 256 := by
  intro i hi
  have h : (Tryz.prog.info? 149).map (fun i => decide (i.bytes ≤ 256)) = some true := by kernel_rfl
  rw [hi] at h
  simpa using h
set_option maxHeartbeats 4000000 in
theorem toTables_o {v : Value} {xs : List TableD} (w : World) (h : RTables w v xs) (hn : SmTables xs) :
    Calls Tryz.prog 110 #[v] w fun e w' => ∃ (A : Option Addr) (c : Nat) (bs : List Nat), e = .returned (.slice A xs.length c) ∧ OTables w' (.slice A xs.length c) xs bs ∧ Own w.heap.size w'.heap.size bs ∧ Grows w w' := by
  obtain ⟨i0, hi, hzz⟩ := Option.map_eq_some_iff.1 info_Table
  simp only [Prod.mk.injEq] at hzz
  obtain ⟨hz0, hz1⟩ := hzz
  have hbt := bytes_Table i0 hi
  obtain ⟨hn1, hn2⟩ := hn
  unfold SmL at hn1
  have hmk : ∀ u : World, (Instr.makeSlice 99 (.int .i64 (xs.length : Int)) (.int .i64 (xs.length : Int))).run Tryz.prog u =
      .ok (.slice (some ⟨u.heap.size, 0, none⟩) xs.length xs.length) (u.alloc (.cells (madeCells #[.slice none 0 0, .slice none 0 0, .slice none 0 0] (xs.length * 3)) 149)) := fun u => by
    have h := run_make (P := Tryz.prog) u 99 149 i0 (.agg #[.slice none 0 0, .slice none 0 0, .slice none 0 0]) Tryz.underlying99 hi hz0 .i64 .i64 (xs.length : Int) (xs.length : Int) (by omega) (Int.le_refl _) (by have h5 := Nat.mul_le_mul hbt hn1; have e : (i0.bytes : Int) * (xs.length : Int) = ((i0.bytes * xs.length : Nat) : Int) := (Int.natCast_mul _ _).symm; rw [e]; omega) (by omega)
    simpa [hz1, Value.cells] using h
  obtain ⟨A, c, rfl, hle, hc, hx⟩ := h.form
  have HX := hideIt hx
  have HN := hideIt hn2
  clear hx hi hz0 hz1 hbt h hn2
  go_enter Tryz.func110, Tryz.ntmps110
  go_wp2
  go_loopw [4] (fun i wr => ∃ k : Nat, k ≤ xs.length ∧ i = .int .i64 k ∧ CopyG 3 149 OTable w wr xs k) (fun i _ => xs.length - (intOf i).toNat)
  case atStart => exact ⟨0, Nat.zero_le _, rfl, CopyG.start _ (Blk.new _ _ _) (by simp [size_madeCells]) ((Grows.refl _).alloc _)⟩
  case round =>
    obtain ⟨k, hk, rfl, hco⟩ := hrel
    by_cases hlt : k < xs.length
    · obtain ⟨x, hx⟩ : ∃ x, xs[k]? = some x := ⟨_, List.getElem?_eq_getElem hlt⟩
      obtain ⟨b, off, rfl, cs, hl1, hcs, hr⟩ := HX.out k x hx
      obtain ⟨c0, c1, c2, rfl⟩ := list3 hl1
      have HST := hideIt (fun u es b => CopyG.step (u := u) (es := es) (b := b) hco (fun _ _ _ _ _ h g => OTable.same h g) hx)
      have SX := hideIt (HN.out x (List.mem_of_getElem? hx))
      obtain ⟨ds, bss, hb, hsz, -, -, hg, -⟩ := hco
      have HR : Hid (RTable wr [c0, c1, c2] x) := hideIt (hr.keep hg.keeps)
      have hs0 : wr.cell? ⟨b, off + k * 3, none⟩ = some c0 := by simpa [Nat.add_assoc] using hg.keeps _ _ (hcs 0 _ rfl)
      have hs1 : wr.cell? ⟨b, off + k * 3 + 1, none⟩ = some c1 := by simpa [Nat.add_assoc] using hg.keeps _ _ (hcs 1 _ rfl)
      have hs2 : wr.cell? ⟨b, off + k * 3 + 2, none⟩ = some c2 := by simpa [Nat.add_assoc] using hg.keeps _ _ (hcs 2 _ rfl)
      have HB := hideIt hb
      have hmul : k * 3 + 3 ≤ ds.size := by rw [hsz]; omega
      clear hcs hl1 hx hr hb hsz hmk hg
      go_wp2_with fail
      refine (toTable_o _ HR.out SX.out).mono ?_
      rintro e u ⟨y0, y1, y2, bb, rfl, ho, ow, g⟩
      obtain ⟨⟨A0, m0, rfl⟩, ⟨A1, m1, rfl⟩, ⟨A2, m2, rfl⟩⟩ := ho.shape
      have st := hideIt (HST.out u _ bb g ho ow rfl)
      have hbu := HB.out.grows g
      have hf := hbu.frozen
      obtain ⟨o0, hd0⟩ : ∃ o, u.cell? ⟨w.heap.size, k * 3, none⟩ = some o := ⟨_, by rw [hbu.cell]; exact Array.getElem?_eq_getElem (by omega)⟩
      obtain ⟨o1, hd1⟩ : ∃ o, u.cell? ⟨w.heap.size, k * 3 + 1, none⟩ = some o := ⟨_, by rw [hbu.cell]; exact Array.getElem?_eq_getElem (by omega)⟩
      obtain ⟨o2, hd2⟩ : ∃ o, u.cell? ⟨w.heap.size, k * 3 + 2, none⟩ = some o := ⟨_, by rw [hbu.cell]; exact Array.getElem?_eq_getElem (by omega)⟩
      clear hbu ho ow g HST HB HR
      go_wp2
      go_roundw
      case rel => exact ⟨k + 1, by omega, by go_num, st.out⟩
      case measure => simp [intOf]; omega
    · have hk2 : k = xs.length := by omega
      subst hk2
      have H := hideIt hco
      clear hco hmk
      go_wp2
      go_ret
      obtain ⟨bs, h1, h2, h3⟩ := H.out.done (by unfold maxLen; omega)
      exact ⟨_, _, bs, rfl, h1, h2, h3⟩
theorem toTables_any {v : Value} {xs : List TableD} (w : World) (h : RTables w v xs) (hn : SmTables xs) :
    Calls Tryz.prog 110 #[v] w fun e w' => ∃ (v' : Value) (bs : List Nat), e = .returned v' ∧ OTables w' v' xs bs ∧ Own w.heap.size w'.heap.size bs ∧ Grows w w' :=
  (toTables_o w h hn).mono fun _ _ ⟨_, _, bs, he, h⟩ => ⟨_, bs, he, h⟩
set_option maxHeartbeats 4000000 in
theorem eqTables_same {v1 v2 : Value} {xs : List TableD} (w : World) (h1 : RTables w v1 xs) (h2 : RTables w v2 xs) :
    Calls Tryz.prog 129 #[v1, v2] w fun e w' => e = .returned (.bool true) ∧ Grows w w' := by
  have l1 := h1.len
  obtain ⟨A, c, rfl, hle, hc, hx⟩ := h1.form
  obtain ⟨A2, c2, rfl, hle2, hc2, hy⟩ := h2.form
  have HX := hideIt hx
  have HY := hideIt hy
  have hb : ((xs.length : Int) != (xs.length : Int)) = false := by simp
  clear hx hy h1 h2 hle hle2 hc hc2
  go_enter Tryz.func129, Tryz.ntmps129
  go_wp2
  go_loopw [5] (fun i wr => ∃ k : Nat, k ≤ xs.length ∧ i = .int .i64 k ∧ Grows w wr) (fun i _ => xs.length - (intOf i).toNat)
  case atStart => exact ⟨0, Nat.zero_le _, rfl, Grows.refl _⟩
  case round =>
    obtain ⟨k, hk, rfl, hg⟩ := hrel
    by_cases hlt : k < xs.length
    · obtain ⟨x, hx⟩ : ∃ x, xs[k]? = some x := ⟨_, List.getElem?_eq_getElem hlt⟩
      obtain ⟨b, off, rfl, cs, hl1, hcs, hr⟩ := HX.out k x hx
      obtain ⟨b2, off2, rfl, cs2, hl2, hcs2, hr2⟩ := HY.out k x hx
      obtain ⟨c0, c1, c2, rfl⟩ := list3 hl1
      obtain ⟨d0, d1, d2, rfl⟩ := list3 hl2
      have HR : Hid (RTable wr [c0, c1, c2] x) := hideIt (hr.keep hg.keeps)
      have HR2 : Hid (RTable wr [d0, d1, d2] x) := hideIt (hr2.keep hg.keeps)
      have zc0 : wr.cell? ⟨b, off + k * 3, none⟩ = some c0 := by simpa [Nat.add_assoc] using hg.keeps _ _ (hcs 0 _ rfl)
      have zc1 : wr.cell? ⟨b, off + k * 3 + 1, none⟩ = some c1 := by simpa [Nat.add_assoc] using hg.keeps _ _ (hcs 1 _ rfl)
      have zc2 : wr.cell? ⟨b, off + k * 3 + 2, none⟩ = some c2 := by simpa [Nat.add_assoc] using hg.keeps _ _ (hcs 2 _ rfl)
      have zd0 : wr.cell? ⟨b2, off2 + k * 3, none⟩ = some d0 := by simpa [Nat.add_assoc] using hg.keeps _ _ (hcs2 0 _ rfl)
      have zd1 : wr.cell? ⟨b2, off2 + k * 3 + 1, none⟩ = some d1 := by simpa [Nat.add_assoc] using hg.keeps _ _ (hcs2 1 _ rfl)
      have zd2 : wr.cell? ⟨b2, off2 + k * 3 + 2, none⟩ = some d2 := by simpa [Nat.add_assoc] using hg.keeps _ _ (hcs2 2 _ rfl)
      have K0 : ∀ w', Grows wr w' → w'.cell? ⟨b, off + k * 3, none⟩ = some c0 ∧ w'.cell? ⟨b, off + k * 3 + 1, none⟩ = some c1 ∧ w'.cell? ⟨b, off + k * 3 + 2, none⟩ = some c2 ∧ w'.cell? ⟨b2, off2 + k * 3, none⟩ = some d0 ∧ w'.cell? ⟨b2, off2 + k * 3 + 1, none⟩ = some d1 ∧ w'.cell? ⟨b2, off2 + k * 3 + 2, none⟩ = some d2 ∧ Grows wr w' := fun w' G => ⟨G.keeps _ _ zc0, G.keeps _ _ zc1, G.keeps _ _ zc2, G.keeps _ _ zd0, G.keeps _ _ zd1, G.keeps _ _ zd2, G⟩
      have HK := hideIt K0
      have HG := hideIt hg
      have gg : Grows wr wr := Grows.refl _
      clear K0 hcs hcs2 hl1 hl2 hr hr2 hx hg
      go_wp2_with fail
      go_region_held3 (fun w' => w'.cell? ⟨b, off + k * 3, none⟩ = some c0 ∧ w'.cell? ⟨b, off + k * 3 + 1, none⟩ = some c1 ∧ w'.cell? ⟨b, off + k * 3 + 2, none⟩ = some c2 ∧ w'.cell? ⟨b2, off2 + k * 3, none⟩ = some d0 ∧ w'.cell? ⟨b2, off2 + k * 3 + 1, none⟩ = some d1 ∧ w'.cell? ⟨b2, off2 + k * 3 + 2, none⟩ = some d2 ∧ Grows wr w')
        ((refine HK.out _ ?_; (repeat (first | exact gg | refine Grows.drew ?_ | refine Grows.alloc ?_ _ | refine Grows.setCell ?_ (by simp <;> omega) _))))
        (first | (go_at_call 153; refine (eqTable_same _ (HR.out.keep (Grows.keeps (by (repeat (first | exact gg | refine Grows.drew ?_))))) (HR2.out.keep (Grows.keeps (by (repeat (first | exact gg | refine Grows.drew ?_)))))).mono ?_; rintro e wx ⟨rfl, g⟩; replace gg : Grows wr wx := Grows.trans (by (repeat (first | exact gg | refine Grows.drew ?_))) g))
      all_goals go_split_ands
      all_goals go_wp2
      all_goals go_roundw
      all_goals first
        | (case rel => exact ⟨k + 1, by omega, by go_num, HG.out.trans (by repeat (first | exact gg | refine Grows.drew ?_))⟩)
        | (simp [intOf]; omega)
    · have hk2 : k = xs.length := by omega
      subst hk2
      go_wp2
      go_ret
      exact ⟨rfl, hg⟩
set_option maxHeartbeats 2000000 in
theorem szTables_w {v : Value} {xs : List TableD} (left : Int) (w : World) (h : RTables w v xs) (h1 : 0 ≤ left) (h2 : left ≤ 1048576) :
    Calls Tryz.prog 108 #[v, .int .i64 left] w (SzPostW (SmTables xs) (wtTables xs) left w) := by
  have hl := h.len
  obtain ⟨A, c, rfl, hle, hc, hx⟩ := h.form
  have HX := hideIt hx
  clear hx h hle hc
  by_cases hlt : left - xs.length < 0
  · go_enter Tryz.func108, Tryz.ntmps108
    go_wp2
    go_ret
    exact ⟨_, rfl, by omega, by omega, fun h => absurd h (by omega), Grows.refl _⟩
  · go_enter Tryz.func108, Tryz.ntmps108
    go_wp2
    go_loopw [1, 5] (fun l i wr => ∃ (k : Nat) (r : Int), k ≤ xs.length ∧ l = .int .i64 r ∧ i = .int .i64 (k : Int) ∧ 0 ≤ r ∧ r ≤ 1048576 ∧ Hid ((((xs.take k).map wtTable).sum : Int) + r ≤ left - xs.length) ∧ Hid (∀ (j : Nat) (x : TableD), j < k → xs[j]? = some x → SmTable x) ∧ Grows w wr) (fun _ i _ => xs.length - (intOf i).toNat)
    case atStart => exact ⟨0, left - xs.length, Nat.zero_le _, rfl, rfl, by omega, by omega, hideIt (by simp), fun j x hj => absurd hj (by omega), Grows.refl _⟩
    case round =>
      obtain ⟨k, r, hk, rfl, rfl, hr0, hr1, hwt, hco, hg⟩ := hrel
      by_cases hk1 : k < xs.length
      · obtain ⟨x, hx⟩ : ∃ x, xs[k]? = some x := ⟨_, List.getElem?_eq_getElem hk1⟩
        obtain ⟨b, off, rfl, cs, hl1, hcs, hr⟩ := HX.out k x hx
        obtain ⟨c0, c1, c2, rfl⟩ := list3 hl1
        have HR : Hid (RTable wr [c0, c1, c2] x) := hideIt (hr.keep hg.keeps)
        have hs0 : wr.cell? ⟨b, off + k * 3, none⟩ = some c0 := by simpa [Nat.add_assoc] using hg.keeps _ _ (hcs 0 _ rfl)
        have hs1 : wr.cell? ⟨b, off + k * 3 + 1, none⟩ = some c1 := by simpa [Nat.add_assoc] using hg.keeps _ _ (hcs 1 _ rfl)
        have hs2 : wr.cell? ⟨b, off + k * 3 + 2, none⟩ = some c2 := by simpa [Nat.add_assoc] using hg.keeps _ _ (hcs 2 _ rfl)
        have X1 := hideIt hx
        have HG := hideIt hg
        clear hcs hl1 hx hr hg
        go_wp2_with fail
        refine (szTable_w _ _ HR.out hr0 hr1).mono ?_
        rintro e u ⟨r2, rfl, p1, p2, sm, g⟩
        have SM := hideIt sm
        have GU := hideIt (HG.out.trans g)
        clear sm g HG HR
        by_cases n1 : r2 < 0
        · go_wp2
          go_ret
          exact ⟨-1, rfl, by omega, by omega, fun h => absurd h (by omega), GU.out⟩
        · go_wp2
          go_roundw
          case rel => exact ⟨k + 1, r2, by omega, rfl, by go_num, by omega, by omega, hideIt (by rw [sum_take_succ X1.out]; have h1 := hwt.out; have h2 := (SM.out (by omega)).2; omega), fun j y hj hy => by
            by_cases e : j = k
            · subst e; rw [X1.out] at hy; injection hy with hy; rw [← hy]; exact (SM.out (by omega)).1
            · exact hco.out j y (by omega) hy, GU.out⟩
          case measure => simp [intOf]; omega
      · have hk2 : k = xs.length := by omega
        subst hk2
        have HC := hideIt hco.out
        clear hco
        go_wp2
        go_ret
        exact ⟨_, rfl, by omega, by omega, fun _ => ⟨⟨by unfold SmL; omega, fun x hx => by obtain ⟨i, hi⟩ := List.getElem?_of_mem hx; exact HC.out i x (lt_of_at hi) hi⟩, by have h1 := hwt.out; rw [List.take_of_length_le (Nat.le_refl _)] at h1; unfold wtTables wtL; omega⟩, hg⟩
theorem szTables_any {v : Value} {xs : List TableD} (left : Int) (w : World) (h : RTables w v xs) (h1 : 0 ≤ left) (h2 : left ≤ 1048576) :
    Calls Tryz.prog 108 #[v, .int .i64 left] w (SzPost (SmTables xs) w) := (szTables_w left w h h1 h2).mono fun _ _ h => h.post
end Go.Proofs.YtocahjbmnkadjaaGreatDoor
/-
  A struct and the slices of it: owned, small, its budget, copy and equality.
-/
namespace Go.Proofs.YtocahjbmnkadjaaGreatDoor
open Go.RowKit

def OArc (w : World) (cs : List Value) (x : ArcD) (bs : List Nat) : Prop :=
  ∃ (vv4 vv5 : Value) (b4 b5 : List Nat), cs = [.int .i64 x.kind, .int .i64 x.src, .int .i64 x.dst, .int .i64 x.sense, vv4, vv5] ∧ OTables w vv4 x.delay b4 ∧ OTables w vv5 x.slew b5 ∧ bs = b4 ++ b5
theorem OArc.reads {w : World} {cs : List Value} {x : ArcD} {bs : List Nat} (h : OArc w cs x bs) : RArc w cs x := by
  obtain ⟨vv4, vv5, b4, b5, e, h4, h5, _⟩ := h
  exact ⟨vv4, vv5, e, h4.reads, h5.reads⟩
theorem OArc.same {w w' : World} {cs : List Value} {x : ArcD} {bs : List Nat} (h : OArc w cs x bs) (g : SameOn bs w w') : OArc w' cs x bs := by
  obtain ⟨vv4, vv5, b4, b5, e, h4, h5, rfl⟩ := h
  exact ⟨vv4, vv5, _, _, e, h4.same (g.sub (by simp +contextual)), h5.same (g.sub (by simp +contextual)), rfl⟩
theorem OArc.lt {w : World} {cs : List Value} {x : ArcD} {bs : List Nat} (h : OArc w cs x bs) : ∀ g ∈ bs, g < w.heap.size := by
  obtain ⟨vv4, vv5, b4, b5, e, h4, h5, rfl⟩ := h
  intro g hg
  simp only [List.mem_append] at hg
  rcases hg with (hg | hg)
  · exact h4.lt g hg
  · exact h5.lt g hg
def SmArc (x : ArcD) : Prop := SmTables x.delay ∧ SmTables x.slew
theorem RArc.parts {w : World} {vv0 vv1 vv2 vv3 vv4 vv5 : Value} {x : ArcD} (h : RArc w [vv0, vv1, vv2, vv3, vv4, vv5] x) : (vv0 = .int .i64 x.kind) ∧ (vv1 = .int .i64 x.src) ∧ (vv2 = .int .i64 x.dst) ∧ (vv3 = .int .i64 x.sense) ∧ RTables w vv4 x.delay ∧ RTables w vv5 x.slew := by
  obtain ⟨vv4', vv5', he, h4, h5⟩ := h
  injection he with e0 he
  injection he with e1 he
  injection he with e2 he
  injection he with e3 he
  injection he with e4 he
  injection he with e5 he
  subst e4 e5
  exact ⟨e0, e1, e2, e3, h4, h5⟩
theorem OArc.shape {w : World} {vv0 vv1 vv2 vv3 vv4 vv5 : Value} {x : ArcD} {bs : List Nat} (h : OArc w [vv0, vv1, vv2, vv3, vv4, vv5] x bs) : vv0 = .int .i64 x.kind ∧ vv1 = .int .i64 x.src ∧ vv2 = .int .i64 x.dst ∧ vv3 = .int .i64 x.sense ∧ (∃ (A : Option Addr) (n : Nat), vv4 = .slice A x.delay.length n) ∧ (∃ (A : Option Addr) (n : Nat), vv5 = .slice A x.slew.length n) := by
  obtain ⟨e0, e1, e2, e3, e4, e5⟩ := h.reads.parts
  exact ⟨e0, e1, e2, e3, (by obtain ⟨A, c, h, -⟩ := RList.form e4; exact ⟨A, c, h⟩), (by obtain ⟨A, c, h, -⟩ := RList.form e5; exact ⟨A, c, h⟩)⟩
def wtArc (x : ArcD) : Nat := wtTables x.delay + wtTables x.slew
set_option maxHeartbeats 1000000 in
theorem szArc_w {vv0 vv1 vv2 vv3 vv4 vv5 : Value} {x : ArcD} (left : Int) (w : World) (h : RArc w [vv0, vv1, vv2, vv3, vv4, vv5] x) (h1 : 0 ≤ left) (h2 : left ≤ 1048576) :
    Calls Tryz.prog 85 #[.agg #[vv0, vv1, vv2, vv3, vv4, vv5], .int .i64 left] w (SzPostW (SmArc x) (wtArc x) left w) := by
  obtain ⟨rfl, rfl, rfl, rfl, k4, k5⟩ := h.parts
  have g0 := (Grows.refl w).alloc (.cells #[.int .i64 x.kind, .int .i64 x.src, .int .i64 x.dst, .int .i64 x.sense, vv4, vv5] 132)
  have H4 := hideIt (k4.keep g0.keeps)
  have H5 := hideIt (k5.keep g0.keeps)
  have S := hideIt (Blk.new w 132 #[.int .i64 x.kind, .int .i64 x.src, .int .i64 x.dst, .int .i64 x.sense, vv4, vv5])
  have G := hideIt g0
  clear g0 k4 k5
  go_enter Tryz.func85, Tryz.ntmps85
  go_wp2_with fail
  refine (szTables_w _ _ H4.out (by omega) (by omega)).mono ?_
  rintro e w4 ⟨r4, rfl, p4, q4, s4, g⟩
  have S4 := hideIt s4
  clear s4
  replace G := hideIt (G.out.trans g)
  replace S := hideIt (S.out.grows g)
  replace H5 := hideIt (H5.out.keep g.keeps)
  clear g
  have c0 : w4.cell? ⟨w.heap.size, 0, none⟩ = some (.int .i64 x.kind) := S.out.cell 0
  have c1 : w4.cell? ⟨w.heap.size, 1, none⟩ = some (.int .i64 x.src) := S.out.cell 1
  have c2 : w4.cell? ⟨w.heap.size, 2, none⟩ = some (.int .i64 x.dst) := S.out.cell 2
  have c3 : w4.cell? ⟨w.heap.size, 3, none⟩ = some (.int .i64 x.sense) := S.out.cell 3
  have c4 : w4.cell? ⟨w.heap.size, 4, none⟩ = some (vv4) := S.out.cell 4
  have c5 : w4.cell? ⟨w.heap.size, 5, none⟩ = some (vv5) := S.out.cell 5
  by_cases n4 : r4 < 0
  · go_wp2
    go_ret
    exact ⟨-1, rfl, by omega, by omega, fun h => by omega, G.out⟩
  go_wp2_with fail
  clear c0 c1 c2 c3 c4 c5
  refine (szTables_w _ _ H5.out (by omega) (by omega)).mono ?_
  rintro e w5 ⟨r5, rfl, p5, q5, s5, g⟩
  have S5 := hideIt s5
  clear s5
  replace G := hideIt (G.out.trans g)
  replace S := hideIt (S.out.grows g)
  clear g
  have c0 : w5.cell? ⟨w.heap.size, 0, none⟩ = some (.int .i64 x.kind) := S.out.cell 0
  have c1 : w5.cell? ⟨w.heap.size, 1, none⟩ = some (.int .i64 x.src) := S.out.cell 1
  have c2 : w5.cell? ⟨w.heap.size, 2, none⟩ = some (.int .i64 x.dst) := S.out.cell 2
  have c3 : w5.cell? ⟨w.heap.size, 3, none⟩ = some (.int .i64 x.sense) := S.out.cell 3
  have c4 : w5.cell? ⟨w.heap.size, 4, none⟩ = some (vv4) := S.out.cell 4
  have c5 : w5.cell? ⟨w.heap.size, 5, none⟩ = some (vv5) := S.out.cell 5
  by_cases n5 : r5 < 0
  · go_wp2
    go_ret
    exact ⟨-1, rfl, by omega, by omega, fun h => by omega, G.out⟩
  go_wp2
  go_ret
  exact ⟨_, rfl, by omega, by omega, fun _ => ⟨⟨(S4.out (by omega)).1, (S5.out (by omega)).1⟩, (by have h4 := (S4.out (by omega)).2; have h5 := (S5.out (by omega)).2; unfold wtArc; omega)⟩, G.out⟩
theorem szArc_any {vv0 vv1 vv2 vv3 vv4 vv5 : Value} {x : ArcD} (left : Int) (w : World) (h : RArc w [vv0, vv1, vv2, vv3, vv4, vv5] x) (h1 : 0 ≤ left) (h2 : left ≤ 1048576) :
    Calls Tryz.prog 85 #[.agg #[vv0, vv1, vv2, vv3, vv4, vv5], .int .i64 left] w (SzPost (SmArc x) w) := (szArc_w left w h h1 h2).mono fun _ _ h => h.post
set_option maxHeartbeats 2000000 in
theorem toArc_o {vv0 vv1 vv2 vv3 vv4 vv5 : Value} {x : ArcD} (w : World) (h : RArc w [vv0, vv1, vv2, vv3, vv4, vv5] x) (hs : SmArc x) :
    Calls Tryz.prog 88 #[.agg #[vv0, vv1, vv2, vv3, vv4, vv5]] w fun e w' => ∃ (y0_ y1_ y2_ y3_ y4_ y5_ : Value) (bs : List Nat), e = .returned (.agg #[y0_, y1_, y2_, y3_, y4_, y5_]) ∧ OArc w' [y0_, y1_, y2_, y3_, y4_, y5_] x bs ∧ Own w.heap.size w'.heap.size bs ∧ Grows w w' := by
  obtain ⟨rfl, rfl, rfl, rfl, k4, k5⟩ := h.parts
  obtain ⟨s4, s5⟩ := hs
  have H0 := hideIt k4
  have M0 := hideIt s4
  have H1 := hideIt k5
  have M1 := hideIt s5
  clear k4 s4 k5 s5
  have g0 : Grows w (((w.alloc (.cells #[.int .i64 x.kind, .int .i64 x.src, .int .i64 x.dst, .int .i64 x.sense, vv4, vv5] 132)).alloc (.cells #[.int .i64 0, .int .i64 0, .int .i64 0, .int .i64 0, .slice none 0 0, .slice none 0 0] 101)).alloc (.cells #[.int .i64 x.kind, .int .i64 x.src, .int .i64 x.dst, .int .i64 x.sense, .slice none 0 0, .slice none 0 0] 101)) := (((Grows.refl w).alloc _).alloc _).alloc _
  have s0 : Blk (((w.alloc (.cells #[.int .i64 x.kind, .int .i64 x.src, .int .i64 x.dst, .int .i64 x.sense, vv4, vv5] 132)).alloc (.cells #[.int .i64 0, .int .i64 0, .int .i64 0, .int .i64 0, .slice none 0 0, .slice none 0 0] 101)).alloc (.cells #[.int .i64 x.kind, .int .i64 x.src, .int .i64 x.dst, .int .i64 x.sense, .slice none 0 0, .slice none 0 0] 101)) (w.heap.size) 132 #[.int .i64 x.kind, .int .i64 x.src, .int .i64 x.dst, .int .i64 x.sense, vv4, vv5] := ((Blk.new w _ _).grows ((Grows.refl _).alloc _)).grows ((Grows.refl _).alloc _)
  have r0 : Blk (((w.alloc (.cells #[.int .i64 x.kind, .int .i64 x.src, .int .i64 x.dst, .int .i64 x.sense, vv4, vv5] 132)).alloc (.cells #[.int .i64 0, .int .i64 0, .int .i64 0, .int .i64 0, .slice none 0 0, .slice none 0 0] 101)).alloc (.cells #[.int .i64 x.kind, .int .i64 x.src, .int .i64 x.dst, .int .i64 x.sense, .slice none 0 0, .slice none 0 0] 101)) (w.heap.size + 1) 101 #[.int .i64 0, .int .i64 0, .int .i64 0, .int .i64 0, .slice none 0 0, .slice none 0 0] := by have := (Blk.new (w.alloc (.cells #[.int .i64 x.kind, .int .i64 x.src, .int .i64 x.dst, .int .i64 x.sense, vv4, vv5] 132)) 101 #[.int .i64 0, .int .i64 0, .int .i64 0, .int .i64 0, .slice none 0 0, .slice none 0 0]).grows ((Grows.refl _).alloc (.cells #[.int .i64 x.kind, .int .i64 x.src, .int .i64 x.dst, .int .i64 x.sense, .slice none 0 0, .slice none 0 0] 101)); simpa using this
  have b0 : Blk (((w.alloc (.cells #[.int .i64 x.kind, .int .i64 x.src, .int .i64 x.dst, .int .i64 x.sense, vv4, vv5] 132)).alloc (.cells #[.int .i64 0, .int .i64 0, .int .i64 0, .int .i64 0, .slice none 0 0, .slice none 0 0] 101)).alloc (.cells #[.int .i64 x.kind, .int .i64 x.src, .int .i64 x.dst, .int .i64 x.sense, .slice none 0 0, .slice none 0 0] 101)) (w.heap.size + 1 + 1) 101 #[.int .i64 x.kind, .int .i64 x.src, .int .i64 x.dst, .int .i64 x.sense, .slice none 0 0, .slice none 0 0] := by have := Blk.new ((w.alloc (.cells #[.int .i64 x.kind, .int .i64 x.src, .int .i64 x.dst, .int .i64 x.sense, vv4, vv5] 132)).alloc (.cells #[.int .i64 0, .int .i64 0, .int .i64 0, .int .i64 0, .slice none 0 0, .slice none 0 0] 101)) 101 #[.int .i64 x.kind, .int .i64 x.src, .int .i64 x.dst, .int .i64 x.sense, .slice none 0 0, .slice none 0 0]; simpa using this
  have G0 := hideIt g0
  have S0 := hideIt s0
  have R0 := hideIt r0
  have B0 := hideIt b0
  clear g0 s0 r0 b0
  go_enter Tryz.func88, Tryz.ntmps88
  go_wp2_with fail
  refine (toTables_o _ (H0.out.keep G0.out.keeps) M0.out).mono ?_
  rintro e u0 ⟨A0, c0, y0, rfl, o0, n0, g0⟩
  have s1 := S0.out.grows g0
  have ks0_0 : u0.cell? ⟨w.heap.size, 0, none⟩ = some (.int .i64 x.kind) := s1.cell 0
  have ks0_1 : u0.cell? ⟨w.heap.size, 1, none⟩ = some (.int .i64 x.src) := s1.cell 1
  have ks0_2 : u0.cell? ⟨w.heap.size, 2, none⟩ = some (.int .i64 x.dst) := s1.cell 2
  have ks0_3 : u0.cell? ⟨w.heap.size, 3, none⟩ = some (.int .i64 x.sense) := s1.cell 3
  have ks0_4 : u0.cell? ⟨w.heap.size, 4, none⟩ = some (vv4) := s1.cell 4
  have ks0_5 : u0.cell? ⟨w.heap.size, 5, none⟩ = some (vv5) := s1.cell 5
  have fs0 := s1.frozen
  have r1 := R0.out.grows g0
  have kr0_0 : u0.cell? ⟨w.heap.size + 1, 0, none⟩ = some (.int .i64 0) := r1.cell 0
  have kr0_1 : u0.cell? ⟨w.heap.size + 1, 1, none⟩ = some (.int .i64 0) := r1.cell 1
  have kr0_2 : u0.cell? ⟨w.heap.size + 1, 2, none⟩ = some (.int .i64 0) := r1.cell 2
  have kr0_3 : u0.cell? ⟨w.heap.size + 1, 3, none⟩ = some (.int .i64 0) := r1.cell 3
  have kr0_4 : u0.cell? ⟨w.heap.size + 1, 4, none⟩ = some (.slice none 0 0) := r1.cell 4
  have kr0_5 : u0.cell? ⟨w.heap.size + 1, 5, none⟩ = some (.slice none 0 0) := r1.cell 5
  have fr0 := r1.frozen
  have b1 := B0.out.grows g0
  have kb0_0 : u0.cell? ⟨w.heap.size + 1 + 1, 0, none⟩ = some (.int .i64 x.kind) := b1.cell 0
  have kb0_1 : u0.cell? ⟨w.heap.size + 1 + 1, 1, none⟩ = some (.int .i64 x.src) := b1.cell 1
  have kb0_2 : u0.cell? ⟨w.heap.size + 1 + 1, 2, none⟩ = some (.int .i64 x.dst) := b1.cell 2
  have kb0_3 : u0.cell? ⟨w.heap.size + 1 + 1, 3, none⟩ = some (.int .i64 x.sense) := b1.cell 3
  have kb0_4 : u0.cell? ⟨w.heap.size + 1 + 1, 4, none⟩ = some (.slice none 0 0) := b1.cell 4
  have kb0_5 : u0.cell? ⟨w.heap.size + 1 + 1, 5, none⟩ = some (.slice none 0 0) := b1.cell 5
  have fb0 := b1.frozen
  have z0 := b1.lt
  have v0 : w.heap.size + 1 + 1 + 1 ≤ u0.heap.size := by have := g0.size; simpa using this
  have G1 := hideIt ((G0.out.trans g0).setCell (p := ⟨w.heap.size + 1 + 1, 4, none⟩) (by simp <;> omega) (.slice A0 x.delay.length c0))
  have S1 := hideIt (s1.far (p := ⟨w.heap.size + 1 + 1, 4, none⟩) (by simp <;> omega) (.slice A0 x.delay.length c0))
  have R1 := hideIt (r1.far (p := ⟨w.heap.size + 1 + 1, 4, none⟩) (by simp <;> omega) (.slice A0 x.delay.length c0))
  have B1 := hideIt (b1.set_ 4 (.slice A0 x.delay.length c0))
  have O0 := hideIt o0
  have N0 := hideIt n0
  have Q0 := hideIt g0
  clear s1 r1 b1 o0 n0 g0
  go_wp2_with fail
  clear ks0_0 kr0_0 kb0_0 ks0_1 kr0_1 kb0_1 ks0_2 kr0_2 kb0_2 ks0_3 kr0_3 kb0_3 ks0_4 kr0_4 kb0_4 ks0_5 kr0_5 kb0_5 fs0 fr0 fb0
  refine (toTables_o _ (H1.out.keep G1.out.keeps) M1.out).mono ?_
  rintro e u1 ⟨A1, c1, y1, rfl, o1, n1, g1⟩
  have s2 := S1.out.grows g1
  have ks1_0 : u1.cell? ⟨w.heap.size, 0, none⟩ = some (.int .i64 x.kind) := s2.cell 0
  have ks1_1 : u1.cell? ⟨w.heap.size, 1, none⟩ = some (.int .i64 x.src) := s2.cell 1
  have ks1_2 : u1.cell? ⟨w.heap.size, 2, none⟩ = some (.int .i64 x.dst) := s2.cell 2
  have ks1_3 : u1.cell? ⟨w.heap.size, 3, none⟩ = some (.int .i64 x.sense) := s2.cell 3
  have ks1_4 : u1.cell? ⟨w.heap.size, 4, none⟩ = some (vv4) := s2.cell 4
  have ks1_5 : u1.cell? ⟨w.heap.size, 5, none⟩ = some (vv5) := s2.cell 5
  have fs1 := s2.frozen
  have r2 := R1.out.grows g1
  have kr1_0 : u1.cell? ⟨w.heap.size + 1, 0, none⟩ = some (.int .i64 0) := r2.cell 0
  have kr1_1 : u1.cell? ⟨w.heap.size + 1, 1, none⟩ = some (.int .i64 0) := r2.cell 1
  have kr1_2 : u1.cell? ⟨w.heap.size + 1, 2, none⟩ = some (.int .i64 0) := r2.cell 2
  have kr1_3 : u1.cell? ⟨w.heap.size + 1, 3, none⟩ = some (.int .i64 0) := r2.cell 3
  have kr1_4 : u1.cell? ⟨w.heap.size + 1, 4, none⟩ = some (.slice none 0 0) := r2.cell 4
  have kr1_5 : u1.cell? ⟨w.heap.size + 1, 5, none⟩ = some (.slice none 0 0) := r2.cell 5
  have fr1 := r2.frozen
  have b2 := B1.out.grows g1
  have kb1_0 : u1.cell? ⟨w.heap.size + 1 + 1, 0, none⟩ = some (.int .i64 x.kind) := b2.cell 0
  have kb1_1 : u1.cell? ⟨w.heap.size + 1 + 1, 1, none⟩ = some (.int .i64 x.src) := b2.cell 1
  have kb1_2 : u1.cell? ⟨w.heap.size + 1 + 1, 2, none⟩ = some (.int .i64 x.dst) := b2.cell 2
  have kb1_3 : u1.cell? ⟨w.heap.size + 1 + 1, 3, none⟩ = some (.int .i64 x.sense) := b2.cell 3
  have kb1_4 : u1.cell? ⟨w.heap.size + 1 + 1, 4, none⟩ = some (.slice A0 x.delay.length c0) := b2.cell 4
  have kb1_5 : u1.cell? ⟨w.heap.size + 1 + 1, 5, none⟩ = some (.slice none 0 0) := b2.cell 5
  have fb1 := b2.frozen
  have z1 := b2.lt
  have v1 : u0.heap.size ≤ u1.heap.size := by have := g1.size; simpa using this
  have G2 := hideIt ((G1.out.trans g1).setCell (p := ⟨w.heap.size + 1 + 1, 5, none⟩) (by simp <;> omega) (.slice A1 x.slew.length c1))
  have S2 := hideIt (s2.far (p := ⟨w.heap.size + 1 + 1, 5, none⟩) (by simp <;> omega) (.slice A1 x.slew.length c1))
  have R2 := hideIt (r2.far (p := ⟨w.heap.size + 1 + 1, 5, none⟩) (by simp <;> omega) (.slice A1 x.slew.length c1))
  have B2 := hideIt (b2.set_ 5 (.slice A1 x.slew.length c1))
  have O1 := hideIt o1
  have N1 := hideIt n1
  have Q1 := hideIt g1
  clear s2 r2 b2 o1 n1 g1
  go_wp2
  refine bodyPost_ret (by simp [*, results, Tryz.results88, go_sem]; try rfl) rfl ?_
  exact ⟨_, _, _, _, _, _, _, rfl, ⟨_, _, _, _, rfl, O0.out.same ((((((((((SameOn.refl y0 u0).set (p := ⟨w.heap.size + 1 + 1, 4, none⟩) (fun g hg => by have := (N0.out.2 g hg).1; simp at this ⊢; omega) (.slice A0 x.delay.length c0)).grows (fun g hg => by have := (N0.out.2 g hg).2; simp; omega) Q1.out).set (p := ⟨w.heap.size + 1 + 1, 5, none⟩) (fun g hg => by have := (N0.out.2 g hg).1; simp at this ⊢; omega) (.slice A1 x.slew.length c1)).set (p := ⟨w.heap.size + 1, 0, none⟩) (fun g hg => by have := (N0.out.2 g hg).1; simp at this ⊢; omega) (.int .i64 x.kind)).set (p := ⟨w.heap.size + 1, 1, none⟩) (fun g hg => by have := (N0.out.2 g hg).1; simp at this ⊢; omega) (.int .i64 x.src)).set (p := ⟨w.heap.size + 1, 2, none⟩) (fun g hg => by have := (N0.out.2 g hg).1; simp at this ⊢; omega) (.int .i64 x.dst)).set (p := ⟨w.heap.size + 1, 3, none⟩) (fun g hg => by have := (N0.out.2 g hg).1; simp at this ⊢; omega) (.int .i64 x.sense)).set (p := ⟨w.heap.size + 1, 4, none⟩) (fun g hg => by have := (N0.out.2 g hg).1; simp at this ⊢; omega) (.slice A0 x.delay.length c0)).set (p := ⟨w.heap.size + 1, 5, none⟩) (fun g hg => by have := (N0.out.2 g hg).1; simp at this ⊢; omega) (.slice A1 x.slew.length c1)), O1.out.same ((((((((SameOn.refl y1 u1).set (p := ⟨w.heap.size + 1 + 1, 5, none⟩) (fun g hg => by have := (N1.out.2 g hg).1; simp at this ⊢; omega) (.slice A1 x.slew.length c1)).set (p := ⟨w.heap.size + 1, 0, none⟩) (fun g hg => by have := (N1.out.2 g hg).1; simp at this ⊢; omega) (.int .i64 x.kind)).set (p := ⟨w.heap.size + 1, 1, none⟩) (fun g hg => by have := (N1.out.2 g hg).1; simp at this ⊢; omega) (.int .i64 x.src)).set (p := ⟨w.heap.size + 1, 2, none⟩) (fun g hg => by have := (N1.out.2 g hg).1; simp at this ⊢; omega) (.int .i64 x.dst)).set (p := ⟨w.heap.size + 1, 3, none⟩) (fun g hg => by have := (N1.out.2 g hg).1; simp at this ⊢; omega) (.int .i64 x.sense)).set (p := ⟨w.heap.size + 1, 4, none⟩) (fun g hg => by have := (N1.out.2 g hg).1; simp at this ⊢; omega) (.slice A0 x.delay.length c0)).set (p := ⟨w.heap.size + 1, 5, none⟩) (fun g hg => by have := (N1.out.2 g hg).1; simp at this ⊢; omega) (.slice A1 x.slew.length c1)), rfl⟩, ((Own.append (N0.out.mono (lo' := w.heap.size) (hi' := u0.heap.size) (by simp <;> omega) (Nat.le_refl _)) (N1.out.mono (lo' := u0.heap.size) (hi' := u1.heap.size) (by simp <;> omega) (Nat.le_refl _)) (by omega) (by omega))).mono (Nat.le_refl _) (by simp), ((((((G2.out.setCell (p := ⟨w.heap.size + 1, 0, none⟩) (by simp <;> omega) (.int .i64 x.kind)).setCell (p := ⟨w.heap.size + 1, 1, none⟩) (by simp <;> omega) (.int .i64 x.src)).setCell (p := ⟨w.heap.size + 1, 2, none⟩) (by simp <;> omega) (.int .i64 x.dst)).setCell (p := ⟨w.heap.size + 1, 3, none⟩) (by simp <;> omega) (.int .i64 x.sense)).setCell (p := ⟨w.heap.size + 1, 4, none⟩) (by simp <;> omega) (.slice A0 x.delay.length c0)).setCell (p := ⟨w.heap.size + 1, 5, none⟩) (by simp <;> omega) (.slice A1 x.slew.length c1))⟩
set_option maxHeartbeats 1000000 in
theorem eqArc_same {vv0 vv1 vv2 vv3 vv4 vv5 uu0 uu1 uu2 uu3 uu4 uu5 : Value} {x : ArcD} (w : World) (h : RArc w [vv0, vv1, vv2, vv3, vv4, vv5] x) (h2 : RArc w [uu0, uu1, uu2, uu3, uu4, uu5] x) :
    Calls Tryz.prog 107 #[.agg #[vv0, vv1, vv2, vv3, vv4, vv5], .agg #[uu0, uu1, uu2, uu3, uu4, uu5]] w fun e w' => e = .returned (.bool true) ∧ Grows w w' := by
  obtain ⟨rfl, rfl, rfl, rfl, k4, k5⟩ := h.parts
  obtain ⟨rfl, rfl, rfl, rfl, m4, m5⟩ := h2.parts
  have H0 := hideIt k4
  have M0 := hideIt m4
  have H1 := hideIt k5
  have M1 := hideIt m5
  clear k4 m4 k5 m5
  have g0 : Grows w ((w.alloc (.cells #[.int .i64 x.kind, .int .i64 x.src, .int .i64 x.dst, .int .i64 x.sense, vv4, vv5] 101)).alloc (.cells #[.int .i64 x.kind, .int .i64 x.src, .int .i64 x.dst, .int .i64 x.sense, uu4, uu5] 101)) := ((Grows.refl w).alloc _).alloc _
  have s0 : Blk ((w.alloc (.cells #[.int .i64 x.kind, .int .i64 x.src, .int .i64 x.dst, .int .i64 x.sense, vv4, vv5] 101)).alloc (.cells #[.int .i64 x.kind, .int .i64 x.src, .int .i64 x.dst, .int .i64 x.sense, uu4, uu5] 101)) (w.heap.size) 101 #[.int .i64 x.kind, .int .i64 x.src, .int .i64 x.dst, .int .i64 x.sense, vv4, vv5] := (Blk.new w _ _).grows ((Grows.refl _).alloc _)
  have r0 : Blk ((w.alloc (.cells #[.int .i64 x.kind, .int .i64 x.src, .int .i64 x.dst, .int .i64 x.sense, vv4, vv5] 101)).alloc (.cells #[.int .i64 x.kind, .int .i64 x.src, .int .i64 x.dst, .int .i64 x.sense, uu4, uu5] 101)) (w.heap.size + 1) 101 #[.int .i64 x.kind, .int .i64 x.src, .int .i64 x.dst, .int .i64 x.sense, uu4, uu5] := by have := Blk.new (w.alloc (.cells #[.int .i64 x.kind, .int .i64 x.src, .int .i64 x.dst, .int .i64 x.sense, vv4, vv5] 101)) 101 #[.int .i64 x.kind, .int .i64 x.src, .int .i64 x.dst, .int .i64 x.sense, uu4, uu5]; simpa using this
  have G0 := hideIt g0
  have S0 := hideIt s0
  have R0 := hideIt r0
  clear g0 s0 r0
  go_enter Tryz.func107, Tryz.ntmps107
  go_wp2_with fail
  refine (eqTables_same _ (H0.out.keep G0.out.keeps) (M0.out.keep G0.out.keeps)).mono ?_
  rintro e u0 ⟨rfl, g0⟩
  have s1 := S0.out.grows g0
  have ks0_0 : u0.cell? ⟨w.heap.size, 0, none⟩ = some (.int .i64 x.kind) := s1.cell 0
  have ks0_1 : u0.cell? ⟨w.heap.size, 1, none⟩ = some (.int .i64 x.src) := s1.cell 1
  have ks0_2 : u0.cell? ⟨w.heap.size, 2, none⟩ = some (.int .i64 x.dst) := s1.cell 2
  have ks0_3 : u0.cell? ⟨w.heap.size, 3, none⟩ = some (.int .i64 x.sense) := s1.cell 3
  have ks0_4 : u0.cell? ⟨w.heap.size, 4, none⟩ = some (vv4) := s1.cell 4
  have ks0_5 : u0.cell? ⟨w.heap.size, 5, none⟩ = some (vv5) := s1.cell 5
  have r1 := R0.out.grows g0
  have kr0_0 : u0.cell? ⟨w.heap.size + 1, 0, none⟩ = some (.int .i64 x.kind) := r1.cell 0
  have kr0_1 : u0.cell? ⟨w.heap.size + 1, 1, none⟩ = some (.int .i64 x.src) := r1.cell 1
  have kr0_2 : u0.cell? ⟨w.heap.size + 1, 2, none⟩ = some (.int .i64 x.dst) := r1.cell 2
  have kr0_3 : u0.cell? ⟨w.heap.size + 1, 3, none⟩ = some (.int .i64 x.sense) := r1.cell 3
  have kr0_4 : u0.cell? ⟨w.heap.size + 1, 4, none⟩ = some (uu4) := r1.cell 4
  have kr0_5 : u0.cell? ⟨w.heap.size + 1, 5, none⟩ = some (uu5) := r1.cell 5
  have G1 := hideIt (G0.out.trans g0)
  have S1 := hideIt s1
  have R1 := hideIt r1
  clear s1 r1 g0
  go_wp2_with fail
  clear ks0_0 kr0_0 ks0_1 kr0_1 ks0_2 kr0_2 ks0_3 kr0_3 ks0_4 kr0_4 ks0_5 kr0_5
  refine (eqTables_same _ (H1.out.keep G1.out.keeps) (M1.out.keep G1.out.keeps)).mono ?_
  rintro e u1 ⟨rfl, g1⟩
  have s2 := S1.out.grows g1
  have ks1_0 : u1.cell? ⟨w.heap.size, 0, none⟩ = some (.int .i64 x.kind) := s2.cell 0
  have ks1_1 : u1.cell? ⟨w.heap.size, 1, none⟩ = some (.int .i64 x.src) := s2.cell 1
  have ks1_2 : u1.cell? ⟨w.heap.size, 2, none⟩ = some (.int .i64 x.dst) := s2.cell 2
  have ks1_3 : u1.cell? ⟨w.heap.size, 3, none⟩ = some (.int .i64 x.sense) := s2.cell 3
  have ks1_4 : u1.cell? ⟨w.heap.size, 4, none⟩ = some (vv4) := s2.cell 4
  have ks1_5 : u1.cell? ⟨w.heap.size, 5, none⟩ = some (vv5) := s2.cell 5
  have r2 := R1.out.grows g1
  have kr1_0 : u1.cell? ⟨w.heap.size + 1, 0, none⟩ = some (.int .i64 x.kind) := r2.cell 0
  have kr1_1 : u1.cell? ⟨w.heap.size + 1, 1, none⟩ = some (.int .i64 x.src) := r2.cell 1
  have kr1_2 : u1.cell? ⟨w.heap.size + 1, 2, none⟩ = some (.int .i64 x.dst) := r2.cell 2
  have kr1_3 : u1.cell? ⟨w.heap.size + 1, 3, none⟩ = some (.int .i64 x.sense) := r2.cell 3
  have kr1_4 : u1.cell? ⟨w.heap.size + 1, 4, none⟩ = some (uu4) := r2.cell 4
  have kr1_5 : u1.cell? ⟨w.heap.size + 1, 5, none⟩ = some (uu5) := r2.cell 5
  have G2 := hideIt (G1.out.trans g1)
  have S2 := hideIt s2
  have R2 := hideIt r2
  clear s2 r2 g1
  go_wp2
  go_ret
  exact ⟨rfl, G2.out⟩
def OArcs : World → Value → List ArcD → List Nat → Prop := OList 6 101 OArc
def SmArcs (xs : List ArcD) : Prop := SmL xs ∧ ∀ x ∈ xs, SmArc x
def wtArcs (xs : List ArcD) : Nat := wtL wtArc xs
theorem OArcs.reads {w : World} {v : Value} {xs : List ArcD} {bs : List Nat} (h : OArcs w v xs bs) : RArcs w v xs := OList.reads h fun _ _ _ h => h.reads
theorem OArcs.same {w w' : World} {v : Value} {xs : List ArcD} {bs : List Nat} (h : OArcs w v xs bs) (g : SameOn bs w w') : OArcs w' v xs bs := OList.same h g fun _ _ _ h g => h.same g
theorem OArcs.lt {w : World} {v : Value} {xs : List ArcD} {bs : List Nat} (h : OArcs w v xs bs) : ∀ g ∈ bs, g < w.heap.size := OList.lt h fun _ _ _ h => h.lt
theorem info_Arc : (Tryz.prog.info? 101).map (fun i => (i.zero, i.size)) = some (some (.agg #[.int .i64 0, .int .i64 0, .int .i64 0, .int .i64 0, .slice none 0 0, .slice none 0 0]), 6) := by kernel_rfl
theorem bytes_Arc : ∀ i, Tryz.prog.info? 101 = some i → i.bytes ≤ 256 := by
  intro i hi
  have h : (Tryz.prog.info? 101).map (fun i => decide (i.bytes ≤ 256)) = some true := by kernel_rfl
  rw [hi] at h
  simpa using h
set_option maxHeartbeats 4000000 in
theorem toArcs_o {v : Value} {xs : List ArcD} (w : World) (h : RArcs w v xs) (hn : SmArcs xs) :
    Calls Tryz.prog 64 #[v] w fun e w' => ∃ (A : Option Addr) (c : Nat) (bs : List Nat), e = .returned (.slice A xs.length c) ∧ OArcs w' (.slice A xs.length c) xs bs ∧ Own w.heap.size w'.heap.size bs ∧ Grows w w' := by
  obtain ⟨i0, hi, hzz⟩ := Option.map_eq_some_iff.1 info_Arc
  simp only [Prod.mk.injEq] at hzz
  obtain ⟨hz0, hz1⟩ := hzz
  have hbt := bytes_Arc i0 hi
  obtain ⟨hn1, hn2⟩ := hn
  unfold SmL at hn1
  have hmk : ∀ u : World, (Instr.makeSlice 69 (.int .i64 (xs.length : Int)) (.int .i64 (xs.length : Int))).run Tryz.prog u =
      .ok (.slice (some ⟨u.heap.size, 0, none⟩) xs.length xs.length) (u.alloc (.cells (madeCells #[.int .i64 0, .int .i64 0, .int .i64 0, .int .i64 0, .slice none 0 0, .slice none 0 0] (xs.length * 6)) 101)) := fun u => by
    have h := run_make (P := Tryz.prog) u 69 101 i0 (.agg #[.int .i64 0, .int .i64 0, .int .i64 0, .int .i64 0, .slice none 0 0, .slice none 0 0]) Tryz.underlying69 hi hz0 .i64 .i64 (xs.length : Int) (xs.length : Int) (by omega) (Int.le_refl _) (by have h5 := Nat.mul_le_mul hbt hn1; have e : (i0.bytes : Int) * (xs.length : Int) = ((i0.bytes * xs.length : Nat) : Int) := (Int.natCast_mul _ _).symm; rw [e]; omega) (by omega)
    simpa [hz1, Value.cells] using h
  obtain ⟨A, c, rfl, hle, hc, hx⟩ := h.form
  have HX := hideIt hx
  have HN := hideIt hn2
  clear hx hi hz0 hz1 hbt h hn2
  go_enter Tryz.func64, Tryz.ntmps64
  go_wp2
  go_loopw [4] (fun i wr => ∃ k : Nat, k ≤ xs.length ∧ i = .int .i64 k ∧ CopyG 6 101 OArc w wr xs k) (fun i _ => xs.length - (intOf i).toNat)
  case atStart => exact ⟨0, Nat.zero_le _, rfl, CopyG.start _ (Blk.new _ _ _) (by simp [size_madeCells]) ((Grows.refl _).alloc _)⟩
  case round =>
    obtain ⟨k, hk, rfl, hco⟩ := hrel
    by_cases hlt : k < xs.length
    · obtain ⟨x, hx⟩ : ∃ x, xs[k]? = some x := ⟨_, List.getElem?_eq_getElem hlt⟩
      obtain ⟨b, off, rfl, cs, hl1, hcs, hr⟩ := HX.out k x hx
      obtain ⟨c0, c1, c2, c3, c4, c5, rfl⟩ := list6 hl1
      have HST := hideIt (fun u es b => CopyG.step (u := u) (es := es) (b := b) hco (fun _ _ _ _ _ h g => OArc.same h g) hx)
      have SX := hideIt (HN.out x (List.mem_of_getElem? hx))
      obtain ⟨ds, bss, hb, hsz, -, -, hg, -⟩ := hco
      have HR : Hid (RArc wr [c0, c1, c2, c3, c4, c5] x) := hideIt (hr.keep hg.keeps)
      have hs0 : wr.cell? ⟨b, off + k * 6, none⟩ = some c0 := by simpa [Nat.add_assoc] using hg.keeps _ _ (hcs 0 _ rfl)
      have hs1 : wr.cell? ⟨b, off + k * 6 + 1, none⟩ = some c1 := by simpa [Nat.add_assoc] using hg.keeps _ _ (hcs 1 _ rfl)
      have hs2 : wr.cell? ⟨b, off + k * 6 + 2, none⟩ = some c2 := by simpa [Nat.add_assoc] using hg.keeps _ _ (hcs 2 _ rfl)
      have hs3 : wr.cell? ⟨b, off + k * 6 + 3, none⟩ = some c3 := by simpa [Nat.add_assoc] using hg.keeps _ _ (hcs 3 _ rfl)
      have hs4 : wr.cell? ⟨b, off + k * 6 + 4, none⟩ = some c4 := by simpa [Nat.add_assoc] using hg.keeps _ _ (hcs 4 _ rfl)
      have hs5 : wr.cell? ⟨b, off + k * 6 + 5, none⟩ = some c5 := by simpa [Nat.add_assoc] using hg.keeps _ _ (hcs 5 _ rfl)
      have HB := hideIt hb
      have hmul : k * 6 + 6 ≤ ds.size := by rw [hsz]; omega
      clear hcs hl1 hx hr hb hsz hmk hg
      go_wp2_with fail
      refine (toArc_o _ HR.out SX.out).mono ?_
      rintro e u ⟨y0, y1, y2, y3, y4, y5, bb, rfl, ho, ow, g⟩
      obtain ⟨rfl, rfl, rfl, rfl, ⟨A4, m4, rfl⟩, ⟨A5, m5, rfl⟩⟩ := ho.shape
      have st := hideIt (HST.out u _ bb g ho ow rfl)
      have hbu := HB.out.grows g
      have hf := hbu.frozen
      obtain ⟨o0, hd0⟩ : ∃ o, u.cell? ⟨w.heap.size, k * 6, none⟩ = some o := ⟨_, by rw [hbu.cell]; exact Array.getElem?_eq_getElem (by omega)⟩
      obtain ⟨o1, hd1⟩ : ∃ o, u.cell? ⟨w.heap.size, k * 6 + 1, none⟩ = some o := ⟨_, by rw [hbu.cell]; exact Array.getElem?_eq_getElem (by omega)⟩
      obtain ⟨o2, hd2⟩ : ∃ o, u.cell? ⟨w.heap.size, k * 6 + 2, none⟩ = some o := ⟨_, by rw [hbu.cell]; exact Array.getElem?_eq_getElem (by omega)⟩
      obtain ⟨o3, hd3⟩ : ∃ o, u.cell? ⟨w.heap.size, k * 6 + 3, none⟩ = some o := ⟨_, by rw [hbu.cell]; exact Array.getElem?_eq_getElem (by omega)⟩
      obtain ⟨o4, hd4⟩ : ∃ o, u.cell? ⟨w.heap.size, k * 6 + 4, none⟩ = some o := ⟨_, by rw [hbu.cell]; exact Array.getElem?_eq_getElem (by omega)⟩
      obtain ⟨o5, hd5⟩ : ∃ o, u.cell? ⟨w.heap.size, k * 6 + 5, none⟩ = some o := ⟨_, by rw [hbu.cell]; exact Array.getElem?_eq_getElem (by omega)⟩
      clear hbu ho ow g HST HB HR
      go_wp2
      go_roundw
      case rel => exact ⟨k + 1, by omega, by go_num, st.out⟩
      case measure => simp [intOf]; omega
    · have hk2 : k = xs.length := by omega
      subst hk2
      have H := hideIt hco
      clear hco hmk
      go_wp2
      go_ret
      obtain ⟨bs, h1, h2, h3⟩ := H.out.done (by unfold maxLen; omega)
      exact ⟨_, _, bs, rfl, h1, h2, h3⟩
theorem toArcs_any {v : Value} {xs : List ArcD} (w : World) (h : RArcs w v xs) (hn : SmArcs xs) :
    Calls Tryz.prog 64 #[v] w fun e w' => ∃ (v' : Value) (bs : List Nat), e = .returned v' ∧ OArcs w' v' xs bs ∧ Own w.heap.size w'.heap.size bs ∧ Grows w w' :=
  (toArcs_o w h hn).mono fun _ _ ⟨_, _, bs, he, h⟩ => ⟨_, bs, he, h⟩
set_option maxHeartbeats 4000000 in
theorem eqArcs_same {v1 v2 : Value} {xs : List ArcD} (w : World) (h1 : RArcs w v1 xs) (h2 : RArcs w v2 xs) :
    Calls Tryz.prog 82 #[v1, v2] w fun e w' => e = .returned (.bool true) ∧ Grows w w' := by
  have l1 := h1.len
  obtain ⟨A, c, rfl, hle, hc, hx⟩ := h1.form
  obtain ⟨A2, c2, rfl, hle2, hc2, hy⟩ := h2.form
  have HX := hideIt hx
  have HY := hideIt hy
  have hb : ((xs.length : Int) != (xs.length : Int)) = false := by simp
  clear hx hy h1 h2 hle hle2 hc hc2
  go_enter Tryz.func82, Tryz.ntmps82
  go_wp2
  go_loopw [5] (fun i wr => ∃ k : Nat, k ≤ xs.length ∧ i = .int .i64 k ∧ Grows w wr) (fun i _ => xs.length - (intOf i).toNat)
  case atStart => exact ⟨0, Nat.zero_le _, rfl, Grows.refl _⟩
  case round =>
    obtain ⟨k, hk, rfl, hg⟩ := hrel
    by_cases hlt : k < xs.length
    · obtain ⟨x, hx⟩ : ∃ x, xs[k]? = some x := ⟨_, List.getElem?_eq_getElem hlt⟩
      obtain ⟨b, off, rfl, cs, hl1, hcs, hr⟩ := HX.out k x hx
      obtain ⟨b2, off2, rfl, cs2, hl2, hcs2, hr2⟩ := HY.out k x hx
      obtain ⟨c0, c1, c2, c3, c4, c5, rfl⟩ := list6 hl1
      obtain ⟨d0, d1, d2, d3, d4, d5, rfl⟩ := list6 hl2
      have HR : Hid (RArc wr [c0, c1, c2, c3, c4, c5] x) := hideIt (hr.keep hg.keeps)
      have HR2 : Hid (RArc wr [d0, d1, d2, d3, d4, d5] x) := hideIt (hr2.keep hg.keeps)
      have zc0 : wr.cell? ⟨b, off + k * 6, none⟩ = some c0 := by simpa [Nat.add_assoc] using hg.keeps _ _ (hcs 0 _ rfl)
      have zc1 : wr.cell? ⟨b, off + k * 6 + 1, none⟩ = some c1 := by simpa [Nat.add_assoc] using hg.keeps _ _ (hcs 1 _ rfl)
      have zc2 : wr.cell? ⟨b, off + k * 6 + 2, none⟩ = some c2 := by simpa [Nat.add_assoc] using hg.keeps _ _ (hcs 2 _ rfl)
      have zc3 : wr.cell? ⟨b, off + k * 6 + 3, none⟩ = some c3 := by simpa [Nat.add_assoc] using hg.keeps _ _ (hcs 3 _ rfl)
      have zc4 : wr.cell? ⟨b, off + k * 6 + 4, none⟩ = some c4 := by simpa [Nat.add_assoc] using hg.keeps _ _ (hcs 4 _ rfl)
      have zc5 : wr.cell? ⟨b, off + k * 6 + 5, none⟩ = some c5 := by simpa [Nat.add_assoc] using hg.keeps _ _ (hcs 5 _ rfl)
      have zd0 : wr.cell? ⟨b2, off2 + k * 6, none⟩ = some d0 := by simpa [Nat.add_assoc] using hg.keeps _ _ (hcs2 0 _ rfl)
      have zd1 : wr.cell? ⟨b2, off2 + k * 6 + 1, none⟩ = some d1 := by simpa [Nat.add_assoc] using hg.keeps _ _ (hcs2 1 _ rfl)
      have zd2 : wr.cell? ⟨b2, off2 + k * 6 + 2, none⟩ = some d2 := by simpa [Nat.add_assoc] using hg.keeps _ _ (hcs2 2 _ rfl)
      have zd3 : wr.cell? ⟨b2, off2 + k * 6 + 3, none⟩ = some d3 := by simpa [Nat.add_assoc] using hg.keeps _ _ (hcs2 3 _ rfl)
      have zd4 : wr.cell? ⟨b2, off2 + k * 6 + 4, none⟩ = some d4 := by simpa [Nat.add_assoc] using hg.keeps _ _ (hcs2 4 _ rfl)
      have zd5 : wr.cell? ⟨b2, off2 + k * 6 + 5, none⟩ = some d5 := by simpa [Nat.add_assoc] using hg.keeps _ _ (hcs2 5 _ rfl)
      have K0 : ∀ w', Grows wr w' → w'.cell? ⟨b, off + k * 6, none⟩ = some c0 ∧ w'.cell? ⟨b, off + k * 6 + 1, none⟩ = some c1 ∧ w'.cell? ⟨b, off + k * 6 + 2, none⟩ = some c2 ∧ w'.cell? ⟨b, off + k * 6 + 3, none⟩ = some c3 ∧ w'.cell? ⟨b, off + k * 6 + 4, none⟩ = some c4 ∧ w'.cell? ⟨b, off + k * 6 + 5, none⟩ = some c5 ∧ w'.cell? ⟨b2, off2 + k * 6, none⟩ = some d0 ∧ w'.cell? ⟨b2, off2 + k * 6 + 1, none⟩ = some d1 ∧ w'.cell? ⟨b2, off2 + k * 6 + 2, none⟩ = some d2 ∧ w'.cell? ⟨b2, off2 + k * 6 + 3, none⟩ = some d3 ∧ w'.cell? ⟨b2, off2 + k * 6 + 4, none⟩ = some d4 ∧ w'.cell? ⟨b2, off2 + k * 6 + 5, none⟩ = some d5 ∧ Grows wr w' := fun w' G => ⟨G.keeps _ _ zc0, G.keeps _ _ zc1, G.keeps _ _ zc2, G.keeps _ _ zc3, G.keeps _ _ zc4, G.keeps _ _ zc5, G.keeps _ _ zd0, G.keeps _ _ zd1, G.keeps _ _ zd2, G.keeps _ _ zd3, G.keeps _ _ zd4, G.keeps _ _ zd5, G⟩
      have HK := hideIt K0
      have HG := hideIt hg
      have gg : Grows wr wr := Grows.refl _
      clear K0 hcs hcs2 hl1 hl2 hr hr2 hx hg
      go_wp2_with fail
      go_region_held3 (fun w' => w'.cell? ⟨b, off + k * 6, none⟩ = some c0 ∧ w'.cell? ⟨b, off + k * 6 + 1, none⟩ = some c1 ∧ w'.cell? ⟨b, off + k * 6 + 2, none⟩ = some c2 ∧ w'.cell? ⟨b, off + k * 6 + 3, none⟩ = some c3 ∧ w'.cell? ⟨b, off + k * 6 + 4, none⟩ = some c4 ∧ w'.cell? ⟨b, off + k * 6 + 5, none⟩ = some c5 ∧ w'.cell? ⟨b2, off2 + k * 6, none⟩ = some d0 ∧ w'.cell? ⟨b2, off2 + k * 6 + 1, none⟩ = some d1 ∧ w'.cell? ⟨b2, off2 + k * 6 + 2, none⟩ = some d2 ∧ w'.cell? ⟨b2, off2 + k * 6 + 3, none⟩ = some d3 ∧ w'.cell? ⟨b2, off2 + k * 6 + 4, none⟩ = some d4 ∧ w'.cell? ⟨b2, off2 + k * 6 + 5, none⟩ = some d5 ∧ Grows wr w')
        ((refine HK.out _ ?_; (repeat (first | exact gg | refine Grows.drew ?_ | refine Grows.alloc ?_ _ | refine Grows.setCell ?_ (by simp <;> omega) _))))
        (first | (go_at_call 107; refine (eqArc_same _ (HR.out.keep (Grows.keeps (by (repeat (first | exact gg | refine Grows.drew ?_))))) (HR2.out.keep (Grows.keeps (by (repeat (first | exact gg | refine Grows.drew ?_)))))).mono ?_; rintro e wx ⟨rfl, g⟩; replace gg : Grows wr wx := Grows.trans (by (repeat (first | exact gg | refine Grows.drew ?_))) g))
      all_goals go_split_ands
      all_goals go_wp2
      all_goals go_roundw
      all_goals first
        | (case rel => exact ⟨k + 1, by omega, by go_num, HG.out.trans (by repeat (first | exact gg | refine Grows.drew ?_))⟩)
        | (simp [intOf]; omega)
    · have hk2 : k = xs.length := by omega
      subst hk2
      go_wp2
      go_ret
      exact ⟨rfl, hg⟩
set_option maxHeartbeats 2000000 in
theorem szArcs_w {v : Value} {xs : List ArcD} (left : Int) (w : World) (h : RArcs w v xs) (h1 : 0 ≤ left) (h2 : left ≤ 1048576) :
    Calls Tryz.prog 56 #[v, .int .i64 left] w (SzPostW (SmArcs xs) (wtArcs xs) left w) := by
  have hl := h.len
  obtain ⟨A, c, rfl, hle, hc, hx⟩ := h.form
  have HX := hideIt hx
  clear hx h hle hc
  by_cases hlt : left - xs.length < 0
  · go_enter Tryz.func56, Tryz.ntmps56
    go_wp2
    go_ret
    exact ⟨_, rfl, by omega, by omega, fun h => absurd h (by omega), Grows.refl _⟩
  · go_enter Tryz.func56, Tryz.ntmps56
    go_wp2
    go_loopw [1, 5] (fun l i wr => ∃ (k : Nat) (r : Int), k ≤ xs.length ∧ l = .int .i64 r ∧ i = .int .i64 (k : Int) ∧ 0 ≤ r ∧ r ≤ 1048576 ∧ Hid ((((xs.take k).map wtArc).sum : Int) + r ≤ left - xs.length) ∧ Hid (∀ (j : Nat) (x : ArcD), j < k → xs[j]? = some x → SmArc x) ∧ Grows w wr) (fun _ i _ => xs.length - (intOf i).toNat)
    case atStart => exact ⟨0, left - xs.length, Nat.zero_le _, rfl, rfl, by omega, by omega, hideIt (by simp), fun j x hj => absurd hj (by omega), Grows.refl _⟩
    case round =>
      obtain ⟨k, r, hk, rfl, rfl, hr0, hr1, hwt, hco, hg⟩ := hrel
      by_cases hk1 : k < xs.length
      · obtain ⟨x, hx⟩ : ∃ x, xs[k]? = some x := ⟨_, List.getElem?_eq_getElem hk1⟩
        obtain ⟨b, off, rfl, cs, hl1, hcs, hr⟩ := HX.out k x hx
        obtain ⟨c0, c1, c2, c3, c4, c5, rfl⟩ := list6 hl1
        have HR : Hid (RArc wr [c0, c1, c2, c3, c4, c5] x) := hideIt (hr.keep hg.keeps)
        have hs0 : wr.cell? ⟨b, off + k * 6, none⟩ = some c0 := by simpa [Nat.add_assoc] using hg.keeps _ _ (hcs 0 _ rfl)
        have hs1 : wr.cell? ⟨b, off + k * 6 + 1, none⟩ = some c1 := by simpa [Nat.add_assoc] using hg.keeps _ _ (hcs 1 _ rfl)
        have hs2 : wr.cell? ⟨b, off + k * 6 + 2, none⟩ = some c2 := by simpa [Nat.add_assoc] using hg.keeps _ _ (hcs 2 _ rfl)
        have hs3 : wr.cell? ⟨b, off + k * 6 + 3, none⟩ = some c3 := by simpa [Nat.add_assoc] using hg.keeps _ _ (hcs 3 _ rfl)
        have hs4 : wr.cell? ⟨b, off + k * 6 + 4, none⟩ = some c4 := by simpa [Nat.add_assoc] using hg.keeps _ _ (hcs 4 _ rfl)
        have hs5 : wr.cell? ⟨b, off + k * 6 + 5, none⟩ = some c5 := by simpa [Nat.add_assoc] using hg.keeps _ _ (hcs 5 _ rfl)
        have X1 := hideIt hx
        have HG := hideIt hg
        clear hcs hl1 hx hr hg
        go_wp2_with fail
        refine (szArc_w _ _ HR.out hr0 hr1).mono ?_
        rintro e u ⟨r2, rfl, p1, p2, sm, g⟩
        have SM := hideIt sm
        have GU := hideIt (HG.out.trans g)
        clear sm g HG HR
        by_cases n1 : r2 < 0
        · go_wp2
          go_ret
          exact ⟨-1, rfl, by omega, by omega, fun h => absurd h (by omega), GU.out⟩
        · go_wp2
          go_roundw
          case rel => exact ⟨k + 1, r2, by omega, rfl, by go_num, by omega, by omega, hideIt (by rw [sum_take_succ X1.out]; have h1 := hwt.out; have h2 := (SM.out (by omega)).2; omega), fun j y hj hy => by
            by_cases e : j = k
            · subst e; rw [X1.out] at hy; injection hy with hy; rw [← hy]; exact (SM.out (by omega)).1
            · exact hco.out j y (by omega) hy, GU.out⟩
          case measure => simp [intOf]; omega
      · have hk2 : k = xs.length := by omega
        subst hk2
        have HC := hideIt hco.out
        clear hco
        go_wp2
        go_ret
        exact ⟨_, rfl, by omega, by omega, fun _ => ⟨⟨by unfold SmL; omega, fun x hx => by obtain ⟨i, hi⟩ := List.getElem?_of_mem hx; exact HC.out i x (lt_of_at hi) hi⟩, by have h1 := hwt.out; rw [List.take_of_length_le (Nat.le_refl _)] at h1; unfold wtArcs wtL; omega⟩, hg⟩
theorem szArcs_any {v : Value} {xs : List ArcD} (left : Int) (w : World) (h : RArcs w v xs) (h1 : 0 ≤ left) (h2 : left ≤ 1048576) :
    Calls Tryz.prog 56 #[v, .int .i64 left] w (SzPost (SmArcs xs) w) := (szArcs_w left w h h1 h2).mono fun _ _ h => h.post
end Go.Proofs.YtocahjbmnkadjaaGreatDoor
/-
  A struct and the slices of it: owned, small, its budget, copy and equality.
-/
namespace Go.Proofs.YtocahjbmnkadjaaGreatDoor
open Go.RowKit

def OCell (w : World) (cs : List Value) (x : CellD) (bs : List Nat) : Prop :=
  ∃ (vv2 vv3 vv4 : Value) (b2 b3 b4 : List Nat), cs = [.string x.name, .int .i64 x.kind, vv2, vv3, vv4, .int .i64 x.leak, .int .i64 x.energy] ∧ x.name.size ≤ maxLen ∧ OPins w vv2 x.pins b2 ∧ OArcs w vv3 x.arcs b3 ∧ OInts w vv4 x.truth b4 ∧ bs = b2 ++ b3 ++ b4
theorem OCell.reads {w : World} {cs : List Value} {x : CellD} {bs : List Nat} (h : OCell w cs x bs) : RCell w cs x := by
  obtain ⟨vv2, vv3, vv4, b2, b3, b4, e, z0, h2, h3, h4, _⟩ := h
  exact ⟨vv2, vv3, vv4, e, z0, h2.reads, h3.reads, h4.reads⟩
theorem OCell.same {w w' : World} {cs : List Value} {x : CellD} {bs : List Nat} (h : OCell w cs x bs) (g : SameOn bs w w') : OCell w' cs x bs := by
  obtain ⟨vv2, vv3, vv4, b2, b3, b4, e, z0, h2, h3, h4, rfl⟩ := h
  exact ⟨vv2, vv3, vv4, _, _, _, e, z0, h2.same (g.sub (by simp +contextual)), h3.same (g.sub (by simp +contextual)), h4.same (g.sub (by simp +contextual)), rfl⟩
theorem OCell.lt {w : World} {cs : List Value} {x : CellD} {bs : List Nat} (h : OCell w cs x bs) : ∀ g ∈ bs, g < w.heap.size := by
  obtain ⟨vv2, vv3, vv4, b2, b3, b4, e, z0, h2, h3, h4, rfl⟩ := h
  intro g hg
  simp only [List.mem_append] at hg
  rcases hg with ((hg | hg) | hg)
  · exact h2.lt g hg
  · exact h3.lt g hg
  · exact h4.lt g hg
def SmCell (x : CellD) : Prop := x.name.size ≤ 1048576 ∧ SmPins x.pins ∧ SmArcs x.arcs ∧ SmL x.truth
theorem RCell.parts {w : World} {vv0 vv1 vv2 vv3 vv4 vv5 vv6 : Value} {x : CellD} (h : RCell w [vv0, vv1, vv2, vv3, vv4, vv5, vv6] x) : (vv0 = .string x.name) ∧ (vv1 = .int .i64 x.kind) ∧ RPins w vv2 x.pins ∧ RArcs w vv3 x.arcs ∧ RInts w vv4 x.truth ∧ (vv5 = .int .i64 x.leak) ∧ (vv6 = .int .i64 x.energy) ∧ x.name.size ≤ maxLen := by
  obtain ⟨vv2', vv3', vv4', he, z0, h2, h3, h4⟩ := h
  injection he with e0 he
  injection he with e1 he
  injection he with e2 he
  injection he with e3 he
  injection he with e4 he
  injection he with e5 he
  injection he with e6 he
  subst e2 e3 e4
  exact ⟨e0, e1, h2, h3, h4, e5, e6, z0⟩
theorem OCell.shape {w : World} {vv0 vv1 vv2 vv3 vv4 vv5 vv6 : Value} {x : CellD} {bs : List Nat} (h : OCell w [vv0, vv1, vv2, vv3, vv4, vv5, vv6] x bs) : vv0 = .string x.name ∧ vv1 = .int .i64 x.kind ∧ (∃ (A : Option Addr) (n : Nat), vv2 = .slice A x.pins.length n) ∧ (∃ (A : Option Addr) (n : Nat), vv3 = .slice A x.arcs.length n) ∧ (∃ (A : Option Addr) (n : Nat), vv4 = .slice A x.truth.length n) ∧ vv5 = .int .i64 x.leak ∧ vv6 = .int .i64 x.energy := by
  obtain ⟨e0, e1, e2, e3, e4, e5, e6, -⟩ := h.reads.parts
  exact ⟨e0, e1, (by obtain ⟨A, c, h, -⟩ := RList.form e2; exact ⟨A, c, h⟩), (by obtain ⟨A, c, h, -⟩ := RList.form e3; exact ⟨A, c, h⟩), (by obtain ⟨A, c, h, -⟩ := RList.form e4; exact ⟨A, c, h⟩), e5, e6⟩
def wtCell (x : CellD) : Nat := wtPins x.pins + wtArcs x.arcs + List.length x.truth
set_option maxHeartbeats 1000000 in
theorem szCell_w {vv0 vv1 vv2 vv3 vv4 vv5 vv6 : Value} {x : CellD} (left : Int) (w : World) (h : RCell w [vv0, vv1, vv2, vv3, vv4, vv5, vv6] x) (h1 : 0 ≤ left) (h2 : left ≤ 1048576) :
    Calls Tryz.prog 32 #[.agg #[vv0, vv1, vv2, vv3, vv4, vv5, vv6], .int .i64 left] w (SzPostW (SmCell x) (wtCell x) left w) := by
  obtain ⟨rfl, rfl, k2, k3, k4, rfl, rfl, kz0⟩ := h.parts
  have g0 := (Grows.refl w).alloc (.cells #[.string x.name, .int .i64 x.kind, vv2, vv3, vv4, .int .i64 x.leak, .int .i64 x.energy] 66)
  have zs0 : (x.name.size : Int) ≤ 9223372036854775807 := by unfold maxLen at kz0; omega
  clear kz0
  have H2 := hideIt (k2.keep g0.keeps)
  have H3 := hideIt (k3.keep g0.keeps)
  have H4 := hideIt (k4.keep g0.keeps)
  have S := hideIt (Blk.new w 66 #[.string x.name, .int .i64 x.kind, vv2, vv3, vv4, .int .i64 x.leak, .int .i64 x.energy])
  have G := hideIt g0
  clear g0 k2 k3 k4
  go_enter Tryz.func32, Tryz.ntmps32
  by_cases n0 : left - (x.name.size : Int) < 0
  · go_wp2
    go_ret
    exact ⟨-1, rfl, by omega, by omega, fun h => by omega, G.out⟩
  obtain ⟨r0, er0⟩ : ∃ r : Int, r = left - (x.name.size : Int) := ⟨_, rfl⟩
  go_wp2_with fail
  refine (szPins_w _ _ H2.out (by omega) (by omega)).mono ?_
  rintro e w2 ⟨r2, rfl, p2, q2, s2, g⟩
  have S2 := hideIt s2
  clear s2
  replace G := hideIt (G.out.trans g)
  replace S := hideIt (S.out.grows g)
  replace H3 := hideIt (H3.out.keep g.keeps)
  replace H4 := hideIt (H4.out.keep g.keeps)
  clear g
  have c0 : w2.cell? ⟨w.heap.size, 0, none⟩ = some (.string x.name) := S.out.cell 0
  have c1 : w2.cell? ⟨w.heap.size, 1, none⟩ = some (.int .i64 x.kind) := S.out.cell 1
  have c2 : w2.cell? ⟨w.heap.size, 2, none⟩ = some (vv2) := S.out.cell 2
  have c3 : w2.cell? ⟨w.heap.size, 3, none⟩ = some (vv3) := S.out.cell 3
  have c4 : w2.cell? ⟨w.heap.size, 4, none⟩ = some (vv4) := S.out.cell 4
  have c5 : w2.cell? ⟨w.heap.size, 5, none⟩ = some (.int .i64 x.leak) := S.out.cell 5
  have c6 : w2.cell? ⟨w.heap.size, 6, none⟩ = some (.int .i64 x.energy) := S.out.cell 6
  by_cases n2 : r2 < 0
  · go_wp2
    go_ret
    exact ⟨-1, rfl, by omega, by omega, fun h => by omega, G.out⟩
  go_wp2_with fail
  clear c0 c1 c2 c3 c4 c5 c6
  refine (szArcs_w _ _ H3.out (by omega) (by omega)).mono ?_
  rintro e w3 ⟨r3, rfl, p3, q3, s3, g⟩
  have S3 := hideIt s3
  clear s3
  replace G := hideIt (G.out.trans g)
  replace S := hideIt (S.out.grows g)
  replace H4 := hideIt (H4.out.keep g.keeps)
  clear g
  have c0 : w3.cell? ⟨w.heap.size, 0, none⟩ = some (.string x.name) := S.out.cell 0
  have c1 : w3.cell? ⟨w.heap.size, 1, none⟩ = some (.int .i64 x.kind) := S.out.cell 1
  have c2 : w3.cell? ⟨w.heap.size, 2, none⟩ = some (vv2) := S.out.cell 2
  have c3 : w3.cell? ⟨w.heap.size, 3, none⟩ = some (vv3) := S.out.cell 3
  have c4 : w3.cell? ⟨w.heap.size, 4, none⟩ = some (vv4) := S.out.cell 4
  have c5 : w3.cell? ⟨w.heap.size, 5, none⟩ = some (.int .i64 x.leak) := S.out.cell 5
  have c6 : w3.cell? ⟨w.heap.size, 6, none⟩ = some (.int .i64 x.energy) := S.out.cell 6
  by_cases n3 : r3 < 0
  · go_wp2
    go_ret
    exact ⟨-1, rfl, by omega, by omega, fun h => by omega, G.out⟩
  go_wp2_with fail
  clear c0 c1 c2 c3 c4 c5 c6
  refine (szInts_w _ _ H4.out (by omega) (by omega)).mono ?_
  rintro e w4 ⟨r4, rfl, p4, q4, s4, g⟩
  have S4 := hideIt s4
  clear s4
  replace G := hideIt (G.out.trans g)
  replace S := hideIt (S.out.grows g)
  clear g
  have c0 : w4.cell? ⟨w.heap.size, 0, none⟩ = some (.string x.name) := S.out.cell 0
  have c1 : w4.cell? ⟨w.heap.size, 1, none⟩ = some (.int .i64 x.kind) := S.out.cell 1
  have c2 : w4.cell? ⟨w.heap.size, 2, none⟩ = some (vv2) := S.out.cell 2
  have c3 : w4.cell? ⟨w.heap.size, 3, none⟩ = some (vv3) := S.out.cell 3
  have c4 : w4.cell? ⟨w.heap.size, 4, none⟩ = some (vv4) := S.out.cell 4
  have c5 : w4.cell? ⟨w.heap.size, 5, none⟩ = some (.int .i64 x.leak) := S.out.cell 5
  have c6 : w4.cell? ⟨w.heap.size, 6, none⟩ = some (.int .i64 x.energy) := S.out.cell 6
  by_cases n4 : r4 < 0
  · go_wp2
    go_ret
    exact ⟨-1, rfl, by omega, by omega, fun h => by omega, G.out⟩
  go_wp2
  go_ret
  exact ⟨_, rfl, by omega, by omega, fun _ => ⟨⟨(by omega), (S2.out (by omega)).1, (S3.out (by omega)).1, (S4.out (by omega)).1⟩, (by have h2 := (S2.out (by omega)).2; have h3 := (S3.out (by omega)).2; have h4 := (S4.out (by omega)).2; unfold wtCell; omega)⟩, G.out⟩
theorem szCell_any {vv0 vv1 vv2 vv3 vv4 vv5 vv6 : Value} {x : CellD} (left : Int) (w : World) (h : RCell w [vv0, vv1, vv2, vv3, vv4, vv5, vv6] x) (h1 : 0 ≤ left) (h2 : left ≤ 1048576) :
    Calls Tryz.prog 32 #[.agg #[vv0, vv1, vv2, vv3, vv4, vv5, vv6], .int .i64 left] w (SzPost (SmCell x) w) := (szCell_w left w h h1 h2).mono fun _ _ h => h.post
set_option maxHeartbeats 2000000 in
theorem toCell_o {vv0 vv1 vv2 vv3 vv4 vv5 vv6 : Value} {x : CellD} (w : World) (h : RCell w [vv0, vv1, vv2, vv3, vv4, vv5, vv6] x) (hs : SmCell x) :
    Calls Tryz.prog 40 #[.agg #[vv0, vv1, vv2, vv3, vv4, vv5, vv6]] w fun e w' => ∃ (y0_ y1_ y2_ y3_ y4_ y5_ y6_ : Value) (bs : List Nat), e = .returned (.agg #[y0_, y1_, y2_, y3_, y4_, y5_, y6_]) ∧ OCell w' [y0_, y1_, y2_, y3_, y4_, y5_, y6_] x bs ∧ Own w.heap.size w'.heap.size bs ∧ Grows w w' := by
  obtain ⟨rfl, rfl, k2, k3, k4, rfl, rfl, kz0⟩ := h.parts
  obtain ⟨-, s2, s3, s4⟩ := hs
  have H0 := hideIt k2
  have M0 := hideIt s2
  have H1 := hideIt k3
  have M1 := hideIt s3
  have H2 := hideIt k4
  have M2 := hideIt s4
  clear k2 s2 k3 s3 k4 s4
  have Z0 := hideIt kz0
  clear kz0
  have g0 : Grows w (((w.alloc (.cells #[.string x.name, .int .i64 x.kind, vv2, vv3, vv4, .int .i64 x.leak, .int .i64 x.energy] 66)).alloc (.cells #[.string .empty, .int .i64 0, .slice none 0 0, .slice none 0 0, .slice none 0 0, .int .i64 0, .int .i64 0] 71)).alloc (.cells #[.string x.name, .int .i64 x.kind, .slice none 0 0, .slice none 0 0, .slice none 0 0, .int .i64 0, .int .i64 0] 71)) := (((Grows.refl w).alloc _).alloc _).alloc _
  have s0 : Blk (((w.alloc (.cells #[.string x.name, .int .i64 x.kind, vv2, vv3, vv4, .int .i64 x.leak, .int .i64 x.energy] 66)).alloc (.cells #[.string .empty, .int .i64 0, .slice none 0 0, .slice none 0 0, .slice none 0 0, .int .i64 0, .int .i64 0] 71)).alloc (.cells #[.string x.name, .int .i64 x.kind, .slice none 0 0, .slice none 0 0, .slice none 0 0, .int .i64 0, .int .i64 0] 71)) (w.heap.size) 66 #[.string x.name, .int .i64 x.kind, vv2, vv3, vv4, .int .i64 x.leak, .int .i64 x.energy] := ((Blk.new w _ _).grows ((Grows.refl _).alloc _)).grows ((Grows.refl _).alloc _)
  have r0 : Blk (((w.alloc (.cells #[.string x.name, .int .i64 x.kind, vv2, vv3, vv4, .int .i64 x.leak, .int .i64 x.energy] 66)).alloc (.cells #[.string .empty, .int .i64 0, .slice none 0 0, .slice none 0 0, .slice none 0 0, .int .i64 0, .int .i64 0] 71)).alloc (.cells #[.string x.name, .int .i64 x.kind, .slice none 0 0, .slice none 0 0, .slice none 0 0, .int .i64 0, .int .i64 0] 71)) (w.heap.size + 1) 71 #[.string .empty, .int .i64 0, .slice none 0 0, .slice none 0 0, .slice none 0 0, .int .i64 0, .int .i64 0] := by have := (Blk.new (w.alloc (.cells #[.string x.name, .int .i64 x.kind, vv2, vv3, vv4, .int .i64 x.leak, .int .i64 x.energy] 66)) 71 #[.string .empty, .int .i64 0, .slice none 0 0, .slice none 0 0, .slice none 0 0, .int .i64 0, .int .i64 0]).grows ((Grows.refl _).alloc (.cells #[.string x.name, .int .i64 x.kind, .slice none 0 0, .slice none 0 0, .slice none 0 0, .int .i64 0, .int .i64 0] 71)); simpa using this
  have b0 : Blk (((w.alloc (.cells #[.string x.name, .int .i64 x.kind, vv2, vv3, vv4, .int .i64 x.leak, .int .i64 x.energy] 66)).alloc (.cells #[.string .empty, .int .i64 0, .slice none 0 0, .slice none 0 0, .slice none 0 0, .int .i64 0, .int .i64 0] 71)).alloc (.cells #[.string x.name, .int .i64 x.kind, .slice none 0 0, .slice none 0 0, .slice none 0 0, .int .i64 0, .int .i64 0] 71)) (w.heap.size + 1 + 1) 71 #[.string x.name, .int .i64 x.kind, .slice none 0 0, .slice none 0 0, .slice none 0 0, .int .i64 0, .int .i64 0] := by have := Blk.new ((w.alloc (.cells #[.string x.name, .int .i64 x.kind, vv2, vv3, vv4, .int .i64 x.leak, .int .i64 x.energy] 66)).alloc (.cells #[.string .empty, .int .i64 0, .slice none 0 0, .slice none 0 0, .slice none 0 0, .int .i64 0, .int .i64 0] 71)) 71 #[.string x.name, .int .i64 x.kind, .slice none 0 0, .slice none 0 0, .slice none 0 0, .int .i64 0, .int .i64 0]; simpa using this
  have G0 := hideIt g0
  have S0 := hideIt s0
  have R0 := hideIt r0
  have B0 := hideIt b0
  clear g0 s0 r0 b0
  go_enter Tryz.func40, Tryz.ntmps40
  go_wp2_with fail
  refine (toPins_o _ (H0.out.keep G0.out.keeps) M0.out).mono ?_
  rintro e u0 ⟨A0, c0, y0, rfl, o0, n0, g0⟩
  have s1 := S0.out.grows g0
  have ks0_0 : u0.cell? ⟨w.heap.size, 0, none⟩ = some (.string x.name) := s1.cell 0
  have ks0_1 : u0.cell? ⟨w.heap.size, 1, none⟩ = some (.int .i64 x.kind) := s1.cell 1
  have ks0_2 : u0.cell? ⟨w.heap.size, 2, none⟩ = some (vv2) := s1.cell 2
  have ks0_3 : u0.cell? ⟨w.heap.size, 3, none⟩ = some (vv3) := s1.cell 3
  have ks0_4 : u0.cell? ⟨w.heap.size, 4, none⟩ = some (vv4) := s1.cell 4
  have ks0_5 : u0.cell? ⟨w.heap.size, 5, none⟩ = some (.int .i64 x.leak) := s1.cell 5
  have ks0_6 : u0.cell? ⟨w.heap.size, 6, none⟩ = some (.int .i64 x.energy) := s1.cell 6
  have fs0 := s1.frozen
  have r1 := R0.out.grows g0
  have kr0_0 : u0.cell? ⟨w.heap.size + 1, 0, none⟩ = some (.string .empty) := r1.cell 0
  have kr0_1 : u0.cell? ⟨w.heap.size + 1, 1, none⟩ = some (.int .i64 0) := r1.cell 1
  have kr0_2 : u0.cell? ⟨w.heap.size + 1, 2, none⟩ = some (.slice none 0 0) := r1.cell 2
  have kr0_3 : u0.cell? ⟨w.heap.size + 1, 3, none⟩ = some (.slice none 0 0) := r1.cell 3
  have kr0_4 : u0.cell? ⟨w.heap.size + 1, 4, none⟩ = some (.slice none 0 0) := r1.cell 4
  have kr0_5 : u0.cell? ⟨w.heap.size + 1, 5, none⟩ = some (.int .i64 0) := r1.cell 5
  have kr0_6 : u0.cell? ⟨w.heap.size + 1, 6, none⟩ = some (.int .i64 0) := r1.cell 6
  have fr0 := r1.frozen
  have b1 := B0.out.grows g0
  have kb0_0 : u0.cell? ⟨w.heap.size + 1 + 1, 0, none⟩ = some (.string x.name) := b1.cell 0
  have kb0_1 : u0.cell? ⟨w.heap.size + 1 + 1, 1, none⟩ = some (.int .i64 x.kind) := b1.cell 1
  have kb0_2 : u0.cell? ⟨w.heap.size + 1 + 1, 2, none⟩ = some (.slice none 0 0) := b1.cell 2
  have kb0_3 : u0.cell? ⟨w.heap.size + 1 + 1, 3, none⟩ = some (.slice none 0 0) := b1.cell 3
  have kb0_4 : u0.cell? ⟨w.heap.size + 1 + 1, 4, none⟩ = some (.slice none 0 0) := b1.cell 4
  have kb0_5 : u0.cell? ⟨w.heap.size + 1 + 1, 5, none⟩ = some (.int .i64 0) := b1.cell 5
  have kb0_6 : u0.cell? ⟨w.heap.size + 1 + 1, 6, none⟩ = some (.int .i64 0) := b1.cell 6
  have fb0 := b1.frozen
  have z0 := b1.lt
  have v0 : w.heap.size + 1 + 1 + 1 ≤ u0.heap.size := by have := g0.size; simpa using this
  have G1 := hideIt ((G0.out.trans g0).setCell (p := ⟨w.heap.size + 1 + 1, 2, none⟩) (by simp <;> omega) (.slice A0 x.pins.length c0))
  have S1 := hideIt (s1.far (p := ⟨w.heap.size + 1 + 1, 2, none⟩) (by simp <;> omega) (.slice A0 x.pins.length c0))
  have R1 := hideIt (r1.far (p := ⟨w.heap.size + 1 + 1, 2, none⟩) (by simp <;> omega) (.slice A0 x.pins.length c0))
  have B1 := hideIt (b1.set_ 2 (.slice A0 x.pins.length c0))
  have O0 := hideIt o0
  have N0 := hideIt n0
  have Q0 := hideIt g0
  clear s1 r1 b1 o0 n0 g0
  go_wp2_with fail
  clear ks0_0 kr0_0 kb0_0 ks0_1 kr0_1 kb0_1 ks0_2 kr0_2 kb0_2 ks0_3 kr0_3 kb0_3 ks0_4 kr0_4 kb0_4 ks0_5 kr0_5 kb0_5 ks0_6 kr0_6 kb0_6 fs0 fr0 fb0
  refine (toArcs_o _ (H1.out.keep G1.out.keeps) M1.out).mono ?_
  rintro e u1 ⟨A1, c1, y1, rfl, o1, n1, g1⟩
  have s2 := S1.out.grows g1
  have ks1_0 : u1.cell? ⟨w.heap.size, 0, none⟩ = some (.string x.name) := s2.cell 0
  have ks1_1 : u1.cell? ⟨w.heap.size, 1, none⟩ = some (.int .i64 x.kind) := s2.cell 1
  have ks1_2 : u1.cell? ⟨w.heap.size, 2, none⟩ = some (vv2) := s2.cell 2
  have ks1_3 : u1.cell? ⟨w.heap.size, 3, none⟩ = some (vv3) := s2.cell 3
  have ks1_4 : u1.cell? ⟨w.heap.size, 4, none⟩ = some (vv4) := s2.cell 4
  have ks1_5 : u1.cell? ⟨w.heap.size, 5, none⟩ = some (.int .i64 x.leak) := s2.cell 5
  have ks1_6 : u1.cell? ⟨w.heap.size, 6, none⟩ = some (.int .i64 x.energy) := s2.cell 6
  have fs1 := s2.frozen
  have r2 := R1.out.grows g1
  have kr1_0 : u1.cell? ⟨w.heap.size + 1, 0, none⟩ = some (.string .empty) := r2.cell 0
  have kr1_1 : u1.cell? ⟨w.heap.size + 1, 1, none⟩ = some (.int .i64 0) := r2.cell 1
  have kr1_2 : u1.cell? ⟨w.heap.size + 1, 2, none⟩ = some (.slice none 0 0) := r2.cell 2
  have kr1_3 : u1.cell? ⟨w.heap.size + 1, 3, none⟩ = some (.slice none 0 0) := r2.cell 3
  have kr1_4 : u1.cell? ⟨w.heap.size + 1, 4, none⟩ = some (.slice none 0 0) := r2.cell 4
  have kr1_5 : u1.cell? ⟨w.heap.size + 1, 5, none⟩ = some (.int .i64 0) := r2.cell 5
  have kr1_6 : u1.cell? ⟨w.heap.size + 1, 6, none⟩ = some (.int .i64 0) := r2.cell 6
  have fr1 := r2.frozen
  have b2 := B1.out.grows g1
  have kb1_0 : u1.cell? ⟨w.heap.size + 1 + 1, 0, none⟩ = some (.string x.name) := b2.cell 0
  have kb1_1 : u1.cell? ⟨w.heap.size + 1 + 1, 1, none⟩ = some (.int .i64 x.kind) := b2.cell 1
  have kb1_2 : u1.cell? ⟨w.heap.size + 1 + 1, 2, none⟩ = some (.slice A0 x.pins.length c0) := b2.cell 2
  have kb1_3 : u1.cell? ⟨w.heap.size + 1 + 1, 3, none⟩ = some (.slice none 0 0) := b2.cell 3
  have kb1_4 : u1.cell? ⟨w.heap.size + 1 + 1, 4, none⟩ = some (.slice none 0 0) := b2.cell 4
  have kb1_5 : u1.cell? ⟨w.heap.size + 1 + 1, 5, none⟩ = some (.int .i64 0) := b2.cell 5
  have kb1_6 : u1.cell? ⟨w.heap.size + 1 + 1, 6, none⟩ = some (.int .i64 0) := b2.cell 6
  have fb1 := b2.frozen
  have z1 := b2.lt
  have v1 : u0.heap.size ≤ u1.heap.size := by have := g1.size; simpa using this
  have G2 := hideIt ((G1.out.trans g1).setCell (p := ⟨w.heap.size + 1 + 1, 3, none⟩) (by simp <;> omega) (.slice A1 x.arcs.length c1))
  have S2 := hideIt (s2.far (p := ⟨w.heap.size + 1 + 1, 3, none⟩) (by simp <;> omega) (.slice A1 x.arcs.length c1))
  have R2 := hideIt (r2.far (p := ⟨w.heap.size + 1 + 1, 3, none⟩) (by simp <;> omega) (.slice A1 x.arcs.length c1))
  have B2 := hideIt (b2.set_ 3 (.slice A1 x.arcs.length c1))
  have O1 := hideIt o1
  have N1 := hideIt n1
  have Q1 := hideIt g1
  clear s2 r2 b2 o1 n1 g1
  go_wp2_with fail
  clear ks1_0 kr1_0 kb1_0 ks1_1 kr1_1 kb1_1 ks1_2 kr1_2 kb1_2 ks1_3 kr1_3 kb1_3 ks1_4 kr1_4 kb1_4 ks1_5 kr1_5 kb1_5 ks1_6 kr1_6 kb1_6 fs1 fr1 fb1
  refine (toInts_o _ (H2.out.keep G2.out.keeps) M2.out).mono ?_
  rintro e u2 ⟨A2, c2, y2, rfl, o2, n2, g2⟩
  have s3 := S2.out.grows g2
  have ks2_0 : u2.cell? ⟨w.heap.size, 0, none⟩ = some (.string x.name) := s3.cell 0
  have ks2_1 : u2.cell? ⟨w.heap.size, 1, none⟩ = some (.int .i64 x.kind) := s3.cell 1
  have ks2_2 : u2.cell? ⟨w.heap.size, 2, none⟩ = some (vv2) := s3.cell 2
  have ks2_3 : u2.cell? ⟨w.heap.size, 3, none⟩ = some (vv3) := s3.cell 3
  have ks2_4 : u2.cell? ⟨w.heap.size, 4, none⟩ = some (vv4) := s3.cell 4
  have ks2_5 : u2.cell? ⟨w.heap.size, 5, none⟩ = some (.int .i64 x.leak) := s3.cell 5
  have ks2_6 : u2.cell? ⟨w.heap.size, 6, none⟩ = some (.int .i64 x.energy) := s3.cell 6
  have fs2 := s3.frozen
  have r3 := R2.out.grows g2
  have kr2_0 : u2.cell? ⟨w.heap.size + 1, 0, none⟩ = some (.string .empty) := r3.cell 0
  have kr2_1 : u2.cell? ⟨w.heap.size + 1, 1, none⟩ = some (.int .i64 0) := r3.cell 1
  have kr2_2 : u2.cell? ⟨w.heap.size + 1, 2, none⟩ = some (.slice none 0 0) := r3.cell 2
  have kr2_3 : u2.cell? ⟨w.heap.size + 1, 3, none⟩ = some (.slice none 0 0) := r3.cell 3
  have kr2_4 : u2.cell? ⟨w.heap.size + 1, 4, none⟩ = some (.slice none 0 0) := r3.cell 4
  have kr2_5 : u2.cell? ⟨w.heap.size + 1, 5, none⟩ = some (.int .i64 0) := r3.cell 5
  have kr2_6 : u2.cell? ⟨w.heap.size + 1, 6, none⟩ = some (.int .i64 0) := r3.cell 6
  have fr2 := r3.frozen
  have b3 := B2.out.grows g2
  have kb2_0 : u2.cell? ⟨w.heap.size + 1 + 1, 0, none⟩ = some (.string x.name) := b3.cell 0
  have kb2_1 : u2.cell? ⟨w.heap.size + 1 + 1, 1, none⟩ = some (.int .i64 x.kind) := b3.cell 1
  have kb2_2 : u2.cell? ⟨w.heap.size + 1 + 1, 2, none⟩ = some (.slice A0 x.pins.length c0) := b3.cell 2
  have kb2_3 : u2.cell? ⟨w.heap.size + 1 + 1, 3, none⟩ = some (.slice A1 x.arcs.length c1) := b3.cell 3
  have kb2_4 : u2.cell? ⟨w.heap.size + 1 + 1, 4, none⟩ = some (.slice none 0 0) := b3.cell 4
  have kb2_5 : u2.cell? ⟨w.heap.size + 1 + 1, 5, none⟩ = some (.int .i64 0) := b3.cell 5
  have kb2_6 : u2.cell? ⟨w.heap.size + 1 + 1, 6, none⟩ = some (.int .i64 0) := b3.cell 6
  have fb2 := b3.frozen
  have z2 := b3.lt
  have v2 : u1.heap.size ≤ u2.heap.size := by have := g2.size; simpa using this
  have G3 := hideIt ((((G2.out.trans g2).setCell (p := ⟨w.heap.size + 1 + 1, 4, none⟩) (by simp <;> omega) (.slice A2 x.truth.length c2)).setCell (p := ⟨w.heap.size + 1 + 1, 5, none⟩) (by simp <;> omega) (.int .i64 x.leak)).setCell (p := ⟨w.heap.size + 1 + 1, 6, none⟩) (by simp <;> omega) (.int .i64 x.energy))
  have S3 := hideIt (((s3.far (p := ⟨w.heap.size + 1 + 1, 4, none⟩) (by simp <;> omega) (.slice A2 x.truth.length c2)).far (p := ⟨w.heap.size + 1 + 1, 5, none⟩) (by simp <;> omega) (.int .i64 x.leak)).far (p := ⟨w.heap.size + 1 + 1, 6, none⟩) (by simp <;> omega) (.int .i64 x.energy))
  have R3 := hideIt (((r3.far (p := ⟨w.heap.size + 1 + 1, 4, none⟩) (by simp <;> omega) (.slice A2 x.truth.length c2)).far (p := ⟨w.heap.size + 1 + 1, 5, none⟩) (by simp <;> omega) (.int .i64 x.leak)).far (p := ⟨w.heap.size + 1 + 1, 6, none⟩) (by simp <;> omega) (.int .i64 x.energy))
  have B3 := hideIt (((b3.set_ 4 (.slice A2 x.truth.length c2)).set_ 5 (.int .i64 x.leak)).set_ 6 (.int .i64 x.energy))
  have O2 := hideIt o2
  have N2 := hideIt n2
  have Q2 := hideIt g2
  clear s3 r3 b3 o2 n2 g2
  go_wp2
  refine bodyPost_ret (by simp [*, results, Tryz.results40, go_sem]; try rfl) rfl ?_
  exact ⟨_, _, _, _, _, _, _, _, rfl, ⟨_, _, _, _, _, _, rfl, Z0.out, O0.out.same (((((((((((((((SameOn.refl y0 u0).set (p := ⟨w.heap.size + 1 + 1, 2, none⟩) (fun g hg => by have := (N0.out.2 g hg).1; simp at this ⊢; omega) (.slice A0 x.pins.length c0)).grows (fun g hg => by have := (N0.out.2 g hg).2; simp; omega) Q1.out).set (p := ⟨w.heap.size + 1 + 1, 3, none⟩) (fun g hg => by have := (N0.out.2 g hg).1; simp at this ⊢; omega) (.slice A1 x.arcs.length c1)).grows (fun g hg => by have := (N0.out.2 g hg).2; simp; omega) Q2.out).set (p := ⟨w.heap.size + 1 + 1, 4, none⟩) (fun g hg => by have := (N0.out.2 g hg).1; simp at this ⊢; omega) (.slice A2 x.truth.length c2)).set (p := ⟨w.heap.size + 1 + 1, 5, none⟩) (fun g hg => by have := (N0.out.2 g hg).1; simp at this ⊢; omega) (.int .i64 x.leak)).set (p := ⟨w.heap.size + 1 + 1, 6, none⟩) (fun g hg => by have := (N0.out.2 g hg).1; simp at this ⊢; omega) (.int .i64 x.energy)).set (p := ⟨w.heap.size + 1, 0, none⟩) (fun g hg => by have := (N0.out.2 g hg).1; simp at this ⊢; omega) (.string x.name)).set (p := ⟨w.heap.size + 1, 1, none⟩) (fun g hg => by have := (N0.out.2 g hg).1; simp at this ⊢; omega) (.int .i64 x.kind)).set (p := ⟨w.heap.size + 1, 2, none⟩) (fun g hg => by have := (N0.out.2 g hg).1; simp at this ⊢; omega) (.slice A0 x.pins.length c0)).set (p := ⟨w.heap.size + 1, 3, none⟩) (fun g hg => by have := (N0.out.2 g hg).1; simp at this ⊢; omega) (.slice A1 x.arcs.length c1)).set (p := ⟨w.heap.size + 1, 4, none⟩) (fun g hg => by have := (N0.out.2 g hg).1; simp at this ⊢; omega) (.slice A2 x.truth.length c2)).set (p := ⟨w.heap.size + 1, 5, none⟩) (fun g hg => by have := (N0.out.2 g hg).1; simp at this ⊢; omega) (.int .i64 x.leak)).set (p := ⟨w.heap.size + 1, 6, none⟩) (fun g hg => by have := (N0.out.2 g hg).1; simp at this ⊢; omega) (.int .i64 x.energy)), O1.out.same (((((((((((((SameOn.refl y1 u1).set (p := ⟨w.heap.size + 1 + 1, 3, none⟩) (fun g hg => by have := (N1.out.2 g hg).1; simp at this ⊢; omega) (.slice A1 x.arcs.length c1)).grows (fun g hg => by have := (N1.out.2 g hg).2; simp; omega) Q2.out).set (p := ⟨w.heap.size + 1 + 1, 4, none⟩) (fun g hg => by have := (N1.out.2 g hg).1; simp at this ⊢; omega) (.slice A2 x.truth.length c2)).set (p := ⟨w.heap.size + 1 + 1, 5, none⟩) (fun g hg => by have := (N1.out.2 g hg).1; simp at this ⊢; omega) (.int .i64 x.leak)).set (p := ⟨w.heap.size + 1 + 1, 6, none⟩) (fun g hg => by have := (N1.out.2 g hg).1; simp at this ⊢; omega) (.int .i64 x.energy)).set (p := ⟨w.heap.size + 1, 0, none⟩) (fun g hg => by have := (N1.out.2 g hg).1; simp at this ⊢; omega) (.string x.name)).set (p := ⟨w.heap.size + 1, 1, none⟩) (fun g hg => by have := (N1.out.2 g hg).1; simp at this ⊢; omega) (.int .i64 x.kind)).set (p := ⟨w.heap.size + 1, 2, none⟩) (fun g hg => by have := (N1.out.2 g hg).1; simp at this ⊢; omega) (.slice A0 x.pins.length c0)).set (p := ⟨w.heap.size + 1, 3, none⟩) (fun g hg => by have := (N1.out.2 g hg).1; simp at this ⊢; omega) (.slice A1 x.arcs.length c1)).set (p := ⟨w.heap.size + 1, 4, none⟩) (fun g hg => by have := (N1.out.2 g hg).1; simp at this ⊢; omega) (.slice A2 x.truth.length c2)).set (p := ⟨w.heap.size + 1, 5, none⟩) (fun g hg => by have := (N1.out.2 g hg).1; simp at this ⊢; omega) (.int .i64 x.leak)).set (p := ⟨w.heap.size + 1, 6, none⟩) (fun g hg => by have := (N1.out.2 g hg).1; simp at this ⊢; omega) (.int .i64 x.energy)), O2.out.same (((((((((((SameOn.refl y2 u2).set (p := ⟨w.heap.size + 1 + 1, 4, none⟩) (fun g hg => by have := (N2.out.2 g hg).1; simp at this ⊢; omega) (.slice A2 x.truth.length c2)).set (p := ⟨w.heap.size + 1 + 1, 5, none⟩) (fun g hg => by have := (N2.out.2 g hg).1; simp at this ⊢; omega) (.int .i64 x.leak)).set (p := ⟨w.heap.size + 1 + 1, 6, none⟩) (fun g hg => by have := (N2.out.2 g hg).1; simp at this ⊢; omega) (.int .i64 x.energy)).set (p := ⟨w.heap.size + 1, 0, none⟩) (fun g hg => by have := (N2.out.2 g hg).1; simp at this ⊢; omega) (.string x.name)).set (p := ⟨w.heap.size + 1, 1, none⟩) (fun g hg => by have := (N2.out.2 g hg).1; simp at this ⊢; omega) (.int .i64 x.kind)).set (p := ⟨w.heap.size + 1, 2, none⟩) (fun g hg => by have := (N2.out.2 g hg).1; simp at this ⊢; omega) (.slice A0 x.pins.length c0)).set (p := ⟨w.heap.size + 1, 3, none⟩) (fun g hg => by have := (N2.out.2 g hg).1; simp at this ⊢; omega) (.slice A1 x.arcs.length c1)).set (p := ⟨w.heap.size + 1, 4, none⟩) (fun g hg => by have := (N2.out.2 g hg).1; simp at this ⊢; omega) (.slice A2 x.truth.length c2)).set (p := ⟨w.heap.size + 1, 5, none⟩) (fun g hg => by have := (N2.out.2 g hg).1; simp at this ⊢; omega) (.int .i64 x.leak)).set (p := ⟨w.heap.size + 1, 6, none⟩) (fun g hg => by have := (N2.out.2 g hg).1; simp at this ⊢; omega) (.int .i64 x.energy)), rfl⟩, ((Own.append (Own.append (N0.out.mono (lo' := w.heap.size) (hi' := u0.heap.size) (by simp <;> omega) (Nat.le_refl _)) (N1.out.mono (lo' := u0.heap.size) (hi' := u1.heap.size) (by simp <;> omega) (Nat.le_refl _)) (by omega) (by omega)) (N2.out.mono (lo' := u1.heap.size) (hi' := u2.heap.size) (by simp <;> omega) (Nat.le_refl _)) (by omega) (by omega))).mono (Nat.le_refl _) (by simp), (((((((G3.out.setCell (p := ⟨w.heap.size + 1, 0, none⟩) (by simp <;> omega) (.string x.name)).setCell (p := ⟨w.heap.size + 1, 1, none⟩) (by simp <;> omega) (.int .i64 x.kind)).setCell (p := ⟨w.heap.size + 1, 2, none⟩) (by simp <;> omega) (.slice A0 x.pins.length c0)).setCell (p := ⟨w.heap.size + 1, 3, none⟩) (by simp <;> omega) (.slice A1 x.arcs.length c1)).setCell (p := ⟨w.heap.size + 1, 4, none⟩) (by simp <;> omega) (.slice A2 x.truth.length c2)).setCell (p := ⟨w.heap.size + 1, 5, none⟩) (by simp <;> omega) (.int .i64 x.leak)).setCell (p := ⟨w.heap.size + 1, 6, none⟩) (by simp <;> omega) (.int .i64 x.energy))⟩
set_option maxHeartbeats 1000000 in
theorem eqCell_same {vv0 vv1 vv2 vv3 vv4 vv5 vv6 uu0 uu1 uu2 uu3 uu4 uu5 uu6 : Value} {x : CellD} (w : World) (h : RCell w [vv0, vv1, vv2, vv3, vv4, vv5, vv6] x) (h2 : RCell w [uu0, uu1, uu2, uu3, uu4, uu5, uu6] x) :
    Calls Tryz.prog 49 #[.agg #[vv0, vv1, vv2, vv3, vv4, vv5, vv6], .agg #[uu0, uu1, uu2, uu3, uu4, uu5, uu6]] w fun e w' => e = .returned (.bool true) ∧ Grows w w' := by
  obtain ⟨rfl, rfl, k2, k3, k4, rfl, rfl, kz0⟩ := h.parts
  obtain ⟨rfl, rfl, m2, m3, m4, rfl, rfl, mz0⟩ := h2.parts
  have H0 := hideIt k2
  have M0 := hideIt m2
  have H1 := hideIt k3
  have M1 := hideIt m3
  have H2 := hideIt k4
  have M2 := hideIt m4
  clear k2 m2 k3 m3 k4 m4
  clear kz0 mz0
  have g0 : Grows w ((w.alloc (.cells #[.string x.name, .int .i64 x.kind, vv2, vv3, vv4, .int .i64 x.leak, .int .i64 x.energy] 71)).alloc (.cells #[.string x.name, .int .i64 x.kind, uu2, uu3, uu4, .int .i64 x.leak, .int .i64 x.energy] 71)) := ((Grows.refl w).alloc _).alloc _
  have s0 : Blk ((w.alloc (.cells #[.string x.name, .int .i64 x.kind, vv2, vv3, vv4, .int .i64 x.leak, .int .i64 x.energy] 71)).alloc (.cells #[.string x.name, .int .i64 x.kind, uu2, uu3, uu4, .int .i64 x.leak, .int .i64 x.energy] 71)) (w.heap.size) 71 #[.string x.name, .int .i64 x.kind, vv2, vv3, vv4, .int .i64 x.leak, .int .i64 x.energy] := (Blk.new w _ _).grows ((Grows.refl _).alloc _)
  have r0 : Blk ((w.alloc (.cells #[.string x.name, .int .i64 x.kind, vv2, vv3, vv4, .int .i64 x.leak, .int .i64 x.energy] 71)).alloc (.cells #[.string x.name, .int .i64 x.kind, uu2, uu3, uu4, .int .i64 x.leak, .int .i64 x.energy] 71)) (w.heap.size + 1) 71 #[.string x.name, .int .i64 x.kind, uu2, uu3, uu4, .int .i64 x.leak, .int .i64 x.energy] := by have := Blk.new (w.alloc (.cells #[.string x.name, .int .i64 x.kind, vv2, vv3, vv4, .int .i64 x.leak, .int .i64 x.energy] 71)) 71 #[.string x.name, .int .i64 x.kind, uu2, uu3, uu4, .int .i64 x.leak, .int .i64 x.energy]; simpa using this
  have G0 := hideIt g0
  have S0 := hideIt s0
  have R0 := hideIt r0
  clear g0 s0 r0
  go_enter Tryz.func49, Tryz.ntmps49
  go_wp2_with fail
  refine (eqPins_same _ (H0.out.keep G0.out.keeps) (M0.out.keep G0.out.keeps)).mono ?_
  rintro e u0 ⟨rfl, g0⟩
  have s1 := S0.out.grows g0
  have ks0_0 : u0.cell? ⟨w.heap.size, 0, none⟩ = some (.string x.name) := s1.cell 0
  have ks0_1 : u0.cell? ⟨w.heap.size, 1, none⟩ = some (.int .i64 x.kind) := s1.cell 1
  have ks0_2 : u0.cell? ⟨w.heap.size, 2, none⟩ = some (vv2) := s1.cell 2
  have ks0_3 : u0.cell? ⟨w.heap.size, 3, none⟩ = some (vv3) := s1.cell 3
  have ks0_4 : u0.cell? ⟨w.heap.size, 4, none⟩ = some (vv4) := s1.cell 4
  have ks0_5 : u0.cell? ⟨w.heap.size, 5, none⟩ = some (.int .i64 x.leak) := s1.cell 5
  have ks0_6 : u0.cell? ⟨w.heap.size, 6, none⟩ = some (.int .i64 x.energy) := s1.cell 6
  have r1 := R0.out.grows g0
  have kr0_0 : u0.cell? ⟨w.heap.size + 1, 0, none⟩ = some (.string x.name) := r1.cell 0
  have kr0_1 : u0.cell? ⟨w.heap.size + 1, 1, none⟩ = some (.int .i64 x.kind) := r1.cell 1
  have kr0_2 : u0.cell? ⟨w.heap.size + 1, 2, none⟩ = some (uu2) := r1.cell 2
  have kr0_3 : u0.cell? ⟨w.heap.size + 1, 3, none⟩ = some (uu3) := r1.cell 3
  have kr0_4 : u0.cell? ⟨w.heap.size + 1, 4, none⟩ = some (uu4) := r1.cell 4
  have kr0_5 : u0.cell? ⟨w.heap.size + 1, 5, none⟩ = some (.int .i64 x.leak) := r1.cell 5
  have kr0_6 : u0.cell? ⟨w.heap.size + 1, 6, none⟩ = some (.int .i64 x.energy) := r1.cell 6
  have G1 := hideIt (G0.out.trans g0)
  have S1 := hideIt s1
  have R1 := hideIt r1
  clear s1 r1 g0
  go_wp2_with fail
  clear ks0_0 kr0_0 ks0_1 kr0_1 ks0_2 kr0_2 ks0_3 kr0_3 ks0_4 kr0_4 ks0_5 kr0_5 ks0_6 kr0_6
  refine (eqArcs_same _ (H1.out.keep G1.out.keeps) (M1.out.keep G1.out.keeps)).mono ?_
  rintro e u1 ⟨rfl, g1⟩
  have s2 := S1.out.grows g1
  have ks1_0 : u1.cell? ⟨w.heap.size, 0, none⟩ = some (.string x.name) := s2.cell 0
  have ks1_1 : u1.cell? ⟨w.heap.size, 1, none⟩ = some (.int .i64 x.kind) := s2.cell 1
  have ks1_2 : u1.cell? ⟨w.heap.size, 2, none⟩ = some (vv2) := s2.cell 2
  have ks1_3 : u1.cell? ⟨w.heap.size, 3, none⟩ = some (vv3) := s2.cell 3
  have ks1_4 : u1.cell? ⟨w.heap.size, 4, none⟩ = some (vv4) := s2.cell 4
  have ks1_5 : u1.cell? ⟨w.heap.size, 5, none⟩ = some (.int .i64 x.leak) := s2.cell 5
  have ks1_6 : u1.cell? ⟨w.heap.size, 6, none⟩ = some (.int .i64 x.energy) := s2.cell 6
  have r2 := R1.out.grows g1
  have kr1_0 : u1.cell? ⟨w.heap.size + 1, 0, none⟩ = some (.string x.name) := r2.cell 0
  have kr1_1 : u1.cell? ⟨w.heap.size + 1, 1, none⟩ = some (.int .i64 x.kind) := r2.cell 1
  have kr1_2 : u1.cell? ⟨w.heap.size + 1, 2, none⟩ = some (uu2) := r2.cell 2
  have kr1_3 : u1.cell? ⟨w.heap.size + 1, 3, none⟩ = some (uu3) := r2.cell 3
  have kr1_4 : u1.cell? ⟨w.heap.size + 1, 4, none⟩ = some (uu4) := r2.cell 4
  have kr1_5 : u1.cell? ⟨w.heap.size + 1, 5, none⟩ = some (.int .i64 x.leak) := r2.cell 5
  have kr1_6 : u1.cell? ⟨w.heap.size + 1, 6, none⟩ = some (.int .i64 x.energy) := r2.cell 6
  have G2 := hideIt (G1.out.trans g1)
  have S2 := hideIt s2
  have R2 := hideIt r2
  clear s2 r2 g1
  go_wp2_with fail
  clear ks1_0 kr1_0 ks1_1 kr1_1 ks1_2 kr1_2 ks1_3 kr1_3 ks1_4 kr1_4 ks1_5 kr1_5 ks1_6 kr1_6
  refine (eqInts_same _ (H2.out.keep G2.out.keeps) (M2.out.keep G2.out.keeps)).mono ?_
  rintro e u2 ⟨rfl, g2⟩
  have s3 := S2.out.grows g2
  have ks2_0 : u2.cell? ⟨w.heap.size, 0, none⟩ = some (.string x.name) := s3.cell 0
  have ks2_1 : u2.cell? ⟨w.heap.size, 1, none⟩ = some (.int .i64 x.kind) := s3.cell 1
  have ks2_2 : u2.cell? ⟨w.heap.size, 2, none⟩ = some (vv2) := s3.cell 2
  have ks2_3 : u2.cell? ⟨w.heap.size, 3, none⟩ = some (vv3) := s3.cell 3
  have ks2_4 : u2.cell? ⟨w.heap.size, 4, none⟩ = some (vv4) := s3.cell 4
  have ks2_5 : u2.cell? ⟨w.heap.size, 5, none⟩ = some (.int .i64 x.leak) := s3.cell 5
  have ks2_6 : u2.cell? ⟨w.heap.size, 6, none⟩ = some (.int .i64 x.energy) := s3.cell 6
  have r3 := R2.out.grows g2
  have kr2_0 : u2.cell? ⟨w.heap.size + 1, 0, none⟩ = some (.string x.name) := r3.cell 0
  have kr2_1 : u2.cell? ⟨w.heap.size + 1, 1, none⟩ = some (.int .i64 x.kind) := r3.cell 1
  have kr2_2 : u2.cell? ⟨w.heap.size + 1, 2, none⟩ = some (uu2) := r3.cell 2
  have kr2_3 : u2.cell? ⟨w.heap.size + 1, 3, none⟩ = some (uu3) := r3.cell 3
  have kr2_4 : u2.cell? ⟨w.heap.size + 1, 4, none⟩ = some (uu4) := r3.cell 4
  have kr2_5 : u2.cell? ⟨w.heap.size + 1, 5, none⟩ = some (.int .i64 x.leak) := r3.cell 5
  have kr2_6 : u2.cell? ⟨w.heap.size + 1, 6, none⟩ = some (.int .i64 x.energy) := r3.cell 6
  have G3 := hideIt (G2.out.trans g2)
  have S3 := hideIt s3
  have R3 := hideIt r3
  clear s3 r3 g2
  go_wp2
  go_ret
  exact ⟨rfl, G3.out⟩
def OCells : World → Value → List CellD → List Nat → Prop := OList 7 71 OCell
def SmCells (xs : List CellD) : Prop := SmL xs ∧ ∀ x ∈ xs, SmCell x
def wtCells (xs : List CellD) : Nat := wtL wtCell xs
theorem OCells.reads {w : World} {v : Value} {xs : List CellD} {bs : List Nat} (h : OCells w v xs bs) : RCells w v xs := OList.reads h fun _ _ _ h => h.reads
theorem OCells.same {w w' : World} {v : Value} {xs : List CellD} {bs : List Nat} (h : OCells w v xs bs) (g : SameOn bs w w') : OCells w' v xs bs := OList.same h g fun _ _ _ h g => h.same g
theorem OCells.lt {w : World} {v : Value} {xs : List CellD} {bs : List Nat} (h : OCells w v xs bs) : ∀ g ∈ bs, g < w.heap.size := OList.lt h fun _ _ _ h => h.lt
theorem info_Cell : (Tryz.prog.info? 71).map (fun i => (i.zero, i.size)) = some (some (.agg #[.string .empty, .int .i64 0, .slice none 0 0, .slice none 0 0, .slice none 0 0, .int .i64 0, .int .i64 0]), 7) := by kernel_rfl
theorem bytes_Cell : ∀ i, Tryz.prog.info? 71 = some i → i.bytes ≤ 256 := by
  intro i hi
  have h : (Tryz.prog.info? 71).map (fun i => decide (i.bytes ≤ 256)) = some true := by kernel_rfl
  rw [hi] at h
  simpa using h
set_option maxHeartbeats 4000000 in
theorem toCells_o {v : Value} {xs : List CellD} (w : World) (h : RCells w v xs) (hn : SmCells xs) :
    Calls Tryz.prog 18 #[v] w fun e w' => ∃ (A : Option Addr) (c : Nat) (bs : List Nat), e = .returned (.slice A xs.length c) ∧ OCells w' (.slice A xs.length c) xs bs ∧ Own w.heap.size w'.heap.size bs ∧ Grows w w' := by
  obtain ⟨i0, hi, hzz⟩ := Option.map_eq_some_iff.1 info_Cell
  simp only [Prod.mk.injEq] at hzz
  obtain ⟨hz0, hz1⟩ := hzz
  have hbt := bytes_Cell i0 hi
  obtain ⟨hn1, hn2⟩ := hn
  unfold SmL at hn1
  have hmk : ∀ u : World, (Instr.makeSlice 33 (.int .i64 (xs.length : Int)) (.int .i64 (xs.length : Int))).run Tryz.prog u =
      .ok (.slice (some ⟨u.heap.size, 0, none⟩) xs.length xs.length) (u.alloc (.cells (madeCells #[.string .empty, .int .i64 0, .slice none 0 0, .slice none 0 0, .slice none 0 0, .int .i64 0, .int .i64 0] (xs.length * 7)) 71)) := fun u => by
    have h := run_make (P := Tryz.prog) u 33 71 i0 (.agg #[.string .empty, .int .i64 0, .slice none 0 0, .slice none 0 0, .slice none 0 0, .int .i64 0, .int .i64 0]) Tryz.underlying33 hi hz0 .i64 .i64 (xs.length : Int) (xs.length : Int) (by omega) (Int.le_refl _) (by have h5 := Nat.mul_le_mul hbt hn1; have e : (i0.bytes : Int) * (xs.length : Int) = ((i0.bytes * xs.length : Nat) : Int) := (Int.natCast_mul _ _).symm; rw [e]; omega) (by omega)
    simpa [hz1, Value.cells] using h
  obtain ⟨A, c, rfl, hle, hc, hx⟩ := h.form
  have HX := hideIt hx
  have HN := hideIt hn2
  clear hx hi hz0 hz1 hbt h hn2
  go_enter Tryz.func18, Tryz.ntmps18
  go_wp2
  go_loopw [4] (fun i wr => ∃ k : Nat, k ≤ xs.length ∧ i = .int .i64 k ∧ CopyG 7 71 OCell w wr xs k) (fun i _ => xs.length - (intOf i).toNat)
  case atStart => exact ⟨0, Nat.zero_le _, rfl, CopyG.start _ (Blk.new _ _ _) (by simp [size_madeCells]) ((Grows.refl _).alloc _)⟩
  case round =>
    obtain ⟨k, hk, rfl, hco⟩ := hrel
    by_cases hlt : k < xs.length
    · obtain ⟨x, hx⟩ : ∃ x, xs[k]? = some x := ⟨_, List.getElem?_eq_getElem hlt⟩
      obtain ⟨b, off, rfl, cs, hl1, hcs, hr⟩ := HX.out k x hx
      obtain ⟨c0, c1, c2, c3, c4, c5, c6, rfl⟩ := list7 hl1
      have HST := hideIt (fun u es b => CopyG.step (u := u) (es := es) (b := b) hco (fun _ _ _ _ _ h g => OCell.same h g) hx)
      have SX := hideIt (HN.out x (List.mem_of_getElem? hx))
      obtain ⟨ds, bss, hb, hsz, -, -, hg, -⟩ := hco
      have HR : Hid (RCell wr [c0, c1, c2, c3, c4, c5, c6] x) := hideIt (hr.keep hg.keeps)
      have hs0 : wr.cell? ⟨b, off + k * 7, none⟩ = some c0 := by simpa [Nat.add_assoc] using hg.keeps _ _ (hcs 0 _ rfl)
      have hs1 : wr.cell? ⟨b, off + k * 7 + 1, none⟩ = some c1 := by simpa [Nat.add_assoc] using hg.keeps _ _ (hcs 1 _ rfl)
      have hs2 : wr.cell? ⟨b, off + k * 7 + 2, none⟩ = some c2 := by simpa [Nat.add_assoc] using hg.keeps _ _ (hcs 2 _ rfl)
      have hs3 : wr.cell? ⟨b, off + k * 7 + 3, none⟩ = some c3 := by simpa [Nat.add_assoc] using hg.keeps _ _ (hcs 3 _ rfl)
      have hs4 : wr.cell? ⟨b, off + k * 7 + 4, none⟩ = some c4 := by simpa [Nat.add_assoc] using hg.keeps _ _ (hcs 4 _ rfl)
      have hs5 : wr.cell? ⟨b, off + k * 7 + 5, none⟩ = some c5 := by simpa [Nat.add_assoc] using hg.keeps _ _ (hcs 5 _ rfl)
      have hs6 : wr.cell? ⟨b, off + k * 7 + 6, none⟩ = some c6 := by simpa [Nat.add_assoc] using hg.keeps _ _ (hcs 6 _ rfl)
      have HB := hideIt hb
      have hmul : k * 7 + 7 ≤ ds.size := by rw [hsz]; omega
      clear hcs hl1 hx hr hb hsz hmk hg
      go_wp2_with fail
      refine (toCell_o _ HR.out SX.out).mono ?_
      rintro e u ⟨y0, y1, y2, y3, y4, y5, y6, bb, rfl, ho, ow, g⟩
      obtain ⟨rfl, rfl, ⟨A2, m2, rfl⟩, ⟨A3, m3, rfl⟩, ⟨A4, m4, rfl⟩, rfl, rfl⟩ := ho.shape
      have st := hideIt (HST.out u _ bb g ho ow rfl)
      have hbu := HB.out.grows g
      have hf := hbu.frozen
      obtain ⟨o0, hd0⟩ : ∃ o, u.cell? ⟨w.heap.size, k * 7, none⟩ = some o := ⟨_, by rw [hbu.cell]; exact Array.getElem?_eq_getElem (by omega)⟩
      obtain ⟨o1, hd1⟩ : ∃ o, u.cell? ⟨w.heap.size, k * 7 + 1, none⟩ = some o := ⟨_, by rw [hbu.cell]; exact Array.getElem?_eq_getElem (by omega)⟩
      obtain ⟨o2, hd2⟩ : ∃ o, u.cell? ⟨w.heap.size, k * 7 + 2, none⟩ = some o := ⟨_, by rw [hbu.cell]; exact Array.getElem?_eq_getElem (by omega)⟩
      obtain ⟨o3, hd3⟩ : ∃ o, u.cell? ⟨w.heap.size, k * 7 + 3, none⟩ = some o := ⟨_, by rw [hbu.cell]; exact Array.getElem?_eq_getElem (by omega)⟩
      obtain ⟨o4, hd4⟩ : ∃ o, u.cell? ⟨w.heap.size, k * 7 + 4, none⟩ = some o := ⟨_, by rw [hbu.cell]; exact Array.getElem?_eq_getElem (by omega)⟩
      obtain ⟨o5, hd5⟩ : ∃ o, u.cell? ⟨w.heap.size, k * 7 + 5, none⟩ = some o := ⟨_, by rw [hbu.cell]; exact Array.getElem?_eq_getElem (by omega)⟩
      obtain ⟨o6, hd6⟩ : ∃ o, u.cell? ⟨w.heap.size, k * 7 + 6, none⟩ = some o := ⟨_, by rw [hbu.cell]; exact Array.getElem?_eq_getElem (by omega)⟩
      clear hbu ho ow g HST HB HR
      go_wp2
      go_roundw
      case rel => exact ⟨k + 1, by omega, by go_num, st.out⟩
      case measure => simp [intOf]; omega
    · have hk2 : k = xs.length := by omega
      subst hk2
      have H := hideIt hco
      clear hco hmk
      go_wp2
      go_ret
      obtain ⟨bs, h1, h2, h3⟩ := H.out.done (by unfold maxLen; omega)
      exact ⟨_, _, bs, rfl, h1, h2, h3⟩
theorem toCells_any {v : Value} {xs : List CellD} (w : World) (h : RCells w v xs) (hn : SmCells xs) :
    Calls Tryz.prog 18 #[v] w fun e w' => ∃ (v' : Value) (bs : List Nat), e = .returned v' ∧ OCells w' v' xs bs ∧ Own w.heap.size w'.heap.size bs ∧ Grows w w' :=
  (toCells_o w h hn).mono fun _ _ ⟨_, _, bs, he, h⟩ => ⟨_, bs, he, h⟩
set_option maxHeartbeats 4000000 in
theorem eqCells_same {v1 v2 : Value} {xs : List CellD} (w : World) (h1 : RCells w v1 xs) (h2 : RCells w v2 xs) :
    Calls Tryz.prog 24 #[v1, v2] w fun e w' => e = .returned (.bool true) ∧ Grows w w' := by
  have l1 := h1.len
  obtain ⟨A, c, rfl, hle, hc, hx⟩ := h1.form
  obtain ⟨A2, c2, rfl, hle2, hc2, hy⟩ := h2.form
  have HX := hideIt hx
  have HY := hideIt hy
  have hb : ((xs.length : Int) != (xs.length : Int)) = false := by simp
  clear hx hy h1 h2 hle hle2 hc hc2
  go_enter Tryz.func24, Tryz.ntmps24
  go_wp2
  go_loopw [5] (fun i wr => ∃ k : Nat, k ≤ xs.length ∧ i = .int .i64 k ∧ Grows w wr) (fun i _ => xs.length - (intOf i).toNat)
  case atStart => exact ⟨0, Nat.zero_le _, rfl, Grows.refl _⟩
  case round =>
    obtain ⟨k, hk, rfl, hg⟩ := hrel
    by_cases hlt : k < xs.length
    · obtain ⟨x, hx⟩ : ∃ x, xs[k]? = some x := ⟨_, List.getElem?_eq_getElem hlt⟩
      obtain ⟨b, off, rfl, cs, hl1, hcs, hr⟩ := HX.out k x hx
      obtain ⟨b2, off2, rfl, cs2, hl2, hcs2, hr2⟩ := HY.out k x hx
      obtain ⟨c0, c1, c2, c3, c4, c5, c6, rfl⟩ := list7 hl1
      obtain ⟨d0, d1, d2, d3, d4, d5, d6, rfl⟩ := list7 hl2
      have HR : Hid (RCell wr [c0, c1, c2, c3, c4, c5, c6] x) := hideIt (hr.keep hg.keeps)
      have HR2 : Hid (RCell wr [d0, d1, d2, d3, d4, d5, d6] x) := hideIt (hr2.keep hg.keeps)
      have zc0 : wr.cell? ⟨b, off + k * 7, none⟩ = some c0 := by simpa [Nat.add_assoc] using hg.keeps _ _ (hcs 0 _ rfl)
      have zc1 : wr.cell? ⟨b, off + k * 7 + 1, none⟩ = some c1 := by simpa [Nat.add_assoc] using hg.keeps _ _ (hcs 1 _ rfl)
      have zc2 : wr.cell? ⟨b, off + k * 7 + 2, none⟩ = some c2 := by simpa [Nat.add_assoc] using hg.keeps _ _ (hcs 2 _ rfl)
      have zc3 : wr.cell? ⟨b, off + k * 7 + 3, none⟩ = some c3 := by simpa [Nat.add_assoc] using hg.keeps _ _ (hcs 3 _ rfl)
      have zc4 : wr.cell? ⟨b, off + k * 7 + 4, none⟩ = some c4 := by simpa [Nat.add_assoc] using hg.keeps _ _ (hcs 4 _ rfl)
      have zc5 : wr.cell? ⟨b, off + k * 7 + 5, none⟩ = some c5 := by simpa [Nat.add_assoc] using hg.keeps _ _ (hcs 5 _ rfl)
      have zc6 : wr.cell? ⟨b, off + k * 7 + 6, none⟩ = some c6 := by simpa [Nat.add_assoc] using hg.keeps _ _ (hcs 6 _ rfl)
      have zd0 : wr.cell? ⟨b2, off2 + k * 7, none⟩ = some d0 := by simpa [Nat.add_assoc] using hg.keeps _ _ (hcs2 0 _ rfl)
      have zd1 : wr.cell? ⟨b2, off2 + k * 7 + 1, none⟩ = some d1 := by simpa [Nat.add_assoc] using hg.keeps _ _ (hcs2 1 _ rfl)
      have zd2 : wr.cell? ⟨b2, off2 + k * 7 + 2, none⟩ = some d2 := by simpa [Nat.add_assoc] using hg.keeps _ _ (hcs2 2 _ rfl)
      have zd3 : wr.cell? ⟨b2, off2 + k * 7 + 3, none⟩ = some d3 := by simpa [Nat.add_assoc] using hg.keeps _ _ (hcs2 3 _ rfl)
      have zd4 : wr.cell? ⟨b2, off2 + k * 7 + 4, none⟩ = some d4 := by simpa [Nat.add_assoc] using hg.keeps _ _ (hcs2 4 _ rfl)
      have zd5 : wr.cell? ⟨b2, off2 + k * 7 + 5, none⟩ = some d5 := by simpa [Nat.add_assoc] using hg.keeps _ _ (hcs2 5 _ rfl)
      have zd6 : wr.cell? ⟨b2, off2 + k * 7 + 6, none⟩ = some d6 := by simpa [Nat.add_assoc] using hg.keeps _ _ (hcs2 6 _ rfl)
      have K0 : ∀ w', Grows wr w' → w'.cell? ⟨b, off + k * 7, none⟩ = some c0 ∧ w'.cell? ⟨b, off + k * 7 + 1, none⟩ = some c1 ∧ w'.cell? ⟨b, off + k * 7 + 2, none⟩ = some c2 ∧ w'.cell? ⟨b, off + k * 7 + 3, none⟩ = some c3 ∧ w'.cell? ⟨b, off + k * 7 + 4, none⟩ = some c4 ∧ w'.cell? ⟨b, off + k * 7 + 5, none⟩ = some c5 ∧ w'.cell? ⟨b, off + k * 7 + 6, none⟩ = some c6 ∧ w'.cell? ⟨b2, off2 + k * 7, none⟩ = some d0 ∧ w'.cell? ⟨b2, off2 + k * 7 + 1, none⟩ = some d1 ∧ w'.cell? ⟨b2, off2 + k * 7 + 2, none⟩ = some d2 ∧ w'.cell? ⟨b2, off2 + k * 7 + 3, none⟩ = some d3 ∧ w'.cell? ⟨b2, off2 + k * 7 + 4, none⟩ = some d4 ∧ w'.cell? ⟨b2, off2 + k * 7 + 5, none⟩ = some d5 ∧ w'.cell? ⟨b2, off2 + k * 7 + 6, none⟩ = some d6 ∧ Grows wr w' := fun w' G => ⟨G.keeps _ _ zc0, G.keeps _ _ zc1, G.keeps _ _ zc2, G.keeps _ _ zc3, G.keeps _ _ zc4, G.keeps _ _ zc5, G.keeps _ _ zc6, G.keeps _ _ zd0, G.keeps _ _ zd1, G.keeps _ _ zd2, G.keeps _ _ zd3, G.keeps _ _ zd4, G.keeps _ _ zd5, G.keeps _ _ zd6, G⟩
      have HK := hideIt K0
      have HG := hideIt hg
      have gg : Grows wr wr := Grows.refl _
      clear K0 hcs hcs2 hl1 hl2 hr hr2 hx hg
      go_wp2_with fail
      go_region_held3 (fun w' => w'.cell? ⟨b, off + k * 7, none⟩ = some c0 ∧ w'.cell? ⟨b, off + k * 7 + 1, none⟩ = some c1 ∧ w'.cell? ⟨b, off + k * 7 + 2, none⟩ = some c2 ∧ w'.cell? ⟨b, off + k * 7 + 3, none⟩ = some c3 ∧ w'.cell? ⟨b, off + k * 7 + 4, none⟩ = some c4 ∧ w'.cell? ⟨b, off + k * 7 + 5, none⟩ = some c5 ∧ w'.cell? ⟨b, off + k * 7 + 6, none⟩ = some c6 ∧ w'.cell? ⟨b2, off2 + k * 7, none⟩ = some d0 ∧ w'.cell? ⟨b2, off2 + k * 7 + 1, none⟩ = some d1 ∧ w'.cell? ⟨b2, off2 + k * 7 + 2, none⟩ = some d2 ∧ w'.cell? ⟨b2, off2 + k * 7 + 3, none⟩ = some d3 ∧ w'.cell? ⟨b2, off2 + k * 7 + 4, none⟩ = some d4 ∧ w'.cell? ⟨b2, off2 + k * 7 + 5, none⟩ = some d5 ∧ w'.cell? ⟨b2, off2 + k * 7 + 6, none⟩ = some d6 ∧ Grows wr w')
        ((refine HK.out _ ?_; (repeat (first | exact gg | refine Grows.drew ?_ | refine Grows.alloc ?_ _ | refine Grows.setCell ?_ (by simp <;> omega) _))))
        (first | (go_at_call 49; refine (eqCell_same _ (HR.out.keep (Grows.keeps (by (repeat (first | exact gg | refine Grows.drew ?_))))) (HR2.out.keep (Grows.keeps (by (repeat (first | exact gg | refine Grows.drew ?_)))))).mono ?_; rintro e wx ⟨rfl, g⟩; replace gg : Grows wr wx := Grows.trans (by (repeat (first | exact gg | refine Grows.drew ?_))) g))
      all_goals go_split_ands
      all_goals go_wp2
      all_goals go_roundw
      all_goals first
        | (case rel => exact ⟨k + 1, by omega, by go_num, HG.out.trans (by repeat (first | exact gg | refine Grows.drew ?_))⟩)
        | (simp [intOf]; omega)
    · have hk2 : k = xs.length := by omega
      subst hk2
      go_wp2
      go_ret
      exact ⟨rfl, hg⟩
set_option maxHeartbeats 2000000 in
theorem szCells_w {v : Value} {xs : List CellD} (left : Int) (w : World) (h : RCells w v xs) (h1 : 0 ≤ left) (h2 : left ≤ 1048576) :
    Calls Tryz.prog 13 #[v, .int .i64 left] w (SzPostW (SmCells xs) (wtCells xs) left w) := by
  have hl := h.len
  obtain ⟨A, c, rfl, hle, hc, hx⟩ := h.form
  have HX := hideIt hx
  clear hx h hle hc
  by_cases hlt : left - xs.length < 0
  · go_enter Tryz.func13, Tryz.ntmps13
    go_wp2
    go_ret
    exact ⟨_, rfl, by omega, by omega, fun h => absurd h (by omega), Grows.refl _⟩
  · go_enter Tryz.func13, Tryz.ntmps13
    go_wp2
    go_loopw [1, 5] (fun l i wr => ∃ (k : Nat) (r : Int), k ≤ xs.length ∧ l = .int .i64 r ∧ i = .int .i64 (k : Int) ∧ 0 ≤ r ∧ r ≤ 1048576 ∧ Hid ((((xs.take k).map wtCell).sum : Int) + r ≤ left - xs.length) ∧ Hid (∀ (j : Nat) (x : CellD), j < k → xs[j]? = some x → SmCell x) ∧ Grows w wr) (fun _ i _ => xs.length - (intOf i).toNat)
    case atStart => exact ⟨0, left - xs.length, Nat.zero_le _, rfl, rfl, by omega, by omega, hideIt (by simp), fun j x hj => absurd hj (by omega), Grows.refl _⟩
    case round =>
      obtain ⟨k, r, hk, rfl, rfl, hr0, hr1, hwt, hco, hg⟩ := hrel
      by_cases hk1 : k < xs.length
      · obtain ⟨x, hx⟩ : ∃ x, xs[k]? = some x := ⟨_, List.getElem?_eq_getElem hk1⟩
        obtain ⟨b, off, rfl, cs, hl1, hcs, hr⟩ := HX.out k x hx
        obtain ⟨c0, c1, c2, c3, c4, c5, c6, rfl⟩ := list7 hl1
        have HR : Hid (RCell wr [c0, c1, c2, c3, c4, c5, c6] x) := hideIt (hr.keep hg.keeps)
        have hs0 : wr.cell? ⟨b, off + k * 7, none⟩ = some c0 := by simpa [Nat.add_assoc] using hg.keeps _ _ (hcs 0 _ rfl)
        have hs1 : wr.cell? ⟨b, off + k * 7 + 1, none⟩ = some c1 := by simpa [Nat.add_assoc] using hg.keeps _ _ (hcs 1 _ rfl)
        have hs2 : wr.cell? ⟨b, off + k * 7 + 2, none⟩ = some c2 := by simpa [Nat.add_assoc] using hg.keeps _ _ (hcs 2 _ rfl)
        have hs3 : wr.cell? ⟨b, off + k * 7 + 3, none⟩ = some c3 := by simpa [Nat.add_assoc] using hg.keeps _ _ (hcs 3 _ rfl)
        have hs4 : wr.cell? ⟨b, off + k * 7 + 4, none⟩ = some c4 := by simpa [Nat.add_assoc] using hg.keeps _ _ (hcs 4 _ rfl)
        have hs5 : wr.cell? ⟨b, off + k * 7 + 5, none⟩ = some c5 := by simpa [Nat.add_assoc] using hg.keeps _ _ (hcs 5 _ rfl)
        have hs6 : wr.cell? ⟨b, off + k * 7 + 6, none⟩ = some c6 := by simpa [Nat.add_assoc] using hg.keeps _ _ (hcs 6 _ rfl)
        have X1 := hideIt hx
        have HG := hideIt hg
        clear hcs hl1 hx hr hg
        go_wp2_with fail
        refine (szCell_w _ _ HR.out hr0 hr1).mono ?_
        rintro e u ⟨r2, rfl, p1, p2, sm, g⟩
        have SM := hideIt sm
        have GU := hideIt (HG.out.trans g)
        clear sm g HG HR
        by_cases n1 : r2 < 0
        · go_wp2
          go_ret
          exact ⟨-1, rfl, by omega, by omega, fun h => absurd h (by omega), GU.out⟩
        · go_wp2
          go_roundw
          case rel => exact ⟨k + 1, r2, by omega, rfl, by go_num, by omega, by omega, hideIt (by rw [sum_take_succ X1.out]; have h1 := hwt.out; have h2 := (SM.out (by omega)).2; omega), fun j y hj hy => by
            by_cases e : j = k
            · subst e; rw [X1.out] at hy; injection hy with hy; rw [← hy]; exact (SM.out (by omega)).1
            · exact hco.out j y (by omega) hy, GU.out⟩
          case measure => simp [intOf]; omega
      · have hk2 : k = xs.length := by omega
        subst hk2
        have HC := hideIt hco.out
        clear hco
        go_wp2
        go_ret
        exact ⟨_, rfl, by omega, by omega, fun _ => ⟨⟨by unfold SmL; omega, fun x hx => by obtain ⟨i, hi⟩ := List.getElem?_of_mem hx; exact HC.out i x (lt_of_at hi) hi⟩, by have h1 := hwt.out; rw [List.take_of_length_le (Nat.le_refl _)] at h1; unfold wtCells wtL; omega⟩, hg⟩
theorem szCells_any {v : Value} {xs : List CellD} (left : Int) (w : World) (h : RCells w v xs) (h1 : 0 ≤ left) (h2 : left ≤ 1048576) :
    Calls Tryz.prog 13 #[v, .int .i64 left] w (SzPost (SmCells xs) w) := (szCells_w left w h h1 h2).mono fun _ _ h => h.post
end Go.Proofs.YtocahjbmnkadjaaGreatDoor
/-
  A struct and the slices of it: owned, small, its budget, copy and equality.
-/
namespace Go.Proofs.YtocahjbmnkadjaaGreatDoor
open Go.RowKit

structure LibD where
  cells : List CellD
def RLib (w : World) (cs : List Value) (x : LibD) : Prop := ∃ v : Value, cs = [v] ∧ RCells w v x.cells
theorem RLib.keep {w w' : World} {cs : List Value} {x : LibD} (h : RLib w cs x) (k : Keeps w w') : RLib w' cs x := by
  obtain ⟨v, e, h⟩ := h
  exact ⟨v, e, h.keep k⟩
theorem RLib.mk {w : World} {v : Value} {xs : List CellD} (h : RCells w v xs) : RLib w [v] ⟨xs⟩ := ⟨v, rfl, h⟩
def OLib (w : World) (cs : List Value) (x : LibD) (bs : List Nat) : Prop :=
  ∃ (vv0 : Value) (b0 : List Nat), cs = [vv0] ∧ OCells w vv0 x.cells b0 ∧ bs = b0
theorem OLib.reads {w : World} {cs : List Value} {x : LibD} {bs : List Nat} (h : OLib w cs x bs) : RLib w cs x := by
  obtain ⟨vv0, b0, e, h0, _⟩ := h
  exact ⟨vv0, e, h0.reads⟩
theorem OLib.same {w w' : World} {cs : List Value} {x : LibD} {bs : List Nat} (h : OLib w cs x bs) (g : SameOn bs w w') : OLib w' cs x bs := by
  obtain ⟨vv0, b0, e, h0, rfl⟩ := h
  exact ⟨vv0, _, e, h0.same (g.sub (by simp +contextual)), rfl⟩
theorem OLib.lt {w : World} {cs : List Value} {x : LibD} {bs : List Nat} (h : OLib w cs x bs) : ∀ g ∈ bs, g < w.heap.size := by
  obtain ⟨vv0, b0, e, h0, rfl⟩ := h
  intro g hg
  exact h0.lt g hg
def SmLib (x : LibD) : Prop := SmCells x.cells
theorem RLib.parts {w : World} {vv0 : Value} {x : LibD} (h : RLib w [vv0] x) : RCells w vv0 x.cells := by
  obtain ⟨vv0', he, h0⟩ := h
  injection he with e0 he
  subst e0
  exact h0
theorem OLib.shape {w : World} {vv0 : Value} {x : LibD} {bs : List Nat} (h : OLib w [vv0] x bs) : (∃ (A : Option Addr) (n : Nat), vv0 = .slice A x.cells.length n) := by
  have e0 := h.reads.parts
  exact (by obtain ⟨A, c, h, -⟩ := RList.form e0; exact ⟨A, c, h⟩)
def wtLib (x : LibD) : Nat := wtCells x.cells
set_option maxHeartbeats 1000000 in
theorem szLib_w {vv0 : Value} {x : LibD} (left : Int) (w : World) (h : RLib w [vv0] x) (h1 : 0 ≤ left) (h2 : left ≤ 1048576) :
    Calls Tryz.prog 4 #[.agg #[vv0], .int .i64 left] w (SzPostW (SmLib x) (wtLib x) left w) := by
  have k0 := h.parts
  have g0 := (Grows.refl w).alloc (.cells #[vv0] 24)
  have H0 := hideIt (k0.keep g0.keeps)
  have S := hideIt (Blk.new w 24 #[vv0])
  have G := hideIt g0
  clear g0 k0
  go_enter Tryz.func4, Tryz.ntmps4
  go_wp2_with fail
  refine (szCells_w _ _ H0.out (by omega) (by omega)).mono ?_
  rintro e w0 ⟨r0, rfl, p0, q0, s0, g⟩
  have S0 := hideIt s0
  clear s0
  replace G := hideIt (G.out.trans g)
  replace S := hideIt (S.out.grows g)
  clear g
  have c0 : w0.cell? ⟨w.heap.size, 0, none⟩ = some (vv0) := S.out.cell 0
  by_cases n0 : r0 < 0
  · go_wp2
    go_ret
    exact ⟨-1, rfl, by omega, by omega, fun h => by omega, G.out⟩
  go_wp2
  go_ret
  exact ⟨_, rfl, by omega, by omega, fun _ => ⟨(S0.out (by omega)).1, (by have h0 := (S0.out (by omega)).2; unfold wtLib; omega)⟩, G.out⟩
theorem szLib_any {vv0 : Value} {x : LibD} (left : Int) (w : World) (h : RLib w [vv0] x) (h1 : 0 ≤ left) (h2 : left ≤ 1048576) :
    Calls Tryz.prog 4 #[.agg #[vv0], .int .i64 left] w (SzPost (SmLib x) w) := (szLib_w left w h h1 h2).mono fun _ _ h => h.post
set_option maxHeartbeats 2000000 in
theorem toLib_o {vv0 : Value} {x : LibD} (w : World) (h : RLib w [vv0] x) (hs : SmLib x) :
    Calls Tryz.prog 6 #[.agg #[vv0]] w fun e w' => ∃ (y0_ : Value) (bs : List Nat), e = .returned (.agg #[y0_]) ∧ OLib w' [y0_] x bs ∧ Own w.heap.size w'.heap.size bs ∧ Grows w w' := by
  have k0 := h.parts
  have s0 := hs
  have H0 := hideIt k0
  have M0 := hideIt s0
  clear k0 s0
  have g0 : Grows w (((w.alloc (.cells #[vv0] 24)).alloc (.cells #[.slice none 0 0] 35)).alloc (.cells #[.slice none 0 0] 35)) := (((Grows.refl w).alloc _).alloc _).alloc _
  have s0 : Blk (((w.alloc (.cells #[vv0] 24)).alloc (.cells #[.slice none 0 0] 35)).alloc (.cells #[.slice none 0 0] 35)) (w.heap.size) 24 #[vv0] := ((Blk.new w _ _).grows ((Grows.refl _).alloc _)).grows ((Grows.refl _).alloc _)
  have r0 : Blk (((w.alloc (.cells #[vv0] 24)).alloc (.cells #[.slice none 0 0] 35)).alloc (.cells #[.slice none 0 0] 35)) (w.heap.size + 1) 35 #[.slice none 0 0] := by have := (Blk.new (w.alloc (.cells #[vv0] 24)) 35 #[.slice none 0 0]).grows ((Grows.refl _).alloc (.cells #[.slice none 0 0] 35)); simpa using this
  have b0 : Blk (((w.alloc (.cells #[vv0] 24)).alloc (.cells #[.slice none 0 0] 35)).alloc (.cells #[.slice none 0 0] 35)) (w.heap.size + 1 + 1) 35 #[.slice none 0 0] := by have := Blk.new ((w.alloc (.cells #[vv0] 24)).alloc (.cells #[.slice none 0 0] 35)) 35 #[.slice none 0 0]; simpa using this
  have G0 := hideIt g0
  have S0 := hideIt s0
  have R0 := hideIt r0
  have B0 := hideIt b0
  clear g0 s0 r0 b0
  go_enter Tryz.func6, Tryz.ntmps6
  go_wp2_with fail
  refine (toCells_o _ (H0.out.keep G0.out.keeps) M0.out).mono ?_
  rintro e u0 ⟨A0, c0, y0, rfl, o0, n0, g0⟩
  have s1 := S0.out.grows g0
  have ks0_0 : u0.cell? ⟨w.heap.size, 0, none⟩ = some (vv0) := s1.cell 0
  have fs0 := s1.frozen
  have r1 := R0.out.grows g0
  have kr0_0 : u0.cell? ⟨w.heap.size + 1, 0, none⟩ = some (.slice none 0 0) := r1.cell 0
  have fr0 := r1.frozen
  have b1 := B0.out.grows g0
  have kb0_0 : u0.cell? ⟨w.heap.size + 1 + 1, 0, none⟩ = some (.slice none 0 0) := b1.cell 0
  have fb0 := b1.frozen
  have z0 := b1.lt
  have v0 : w.heap.size + 1 + 1 + 1 ≤ u0.heap.size := by have := g0.size; simpa using this
  have G1 := hideIt ((G0.out.trans g0).setCell (p := ⟨w.heap.size + 1 + 1, 0, none⟩) (by simp <;> omega) (.slice A0 x.cells.length c0))
  have S1 := hideIt (s1.far (p := ⟨w.heap.size + 1 + 1, 0, none⟩) (by simp <;> omega) (.slice A0 x.cells.length c0))
  have R1 := hideIt (r1.far (p := ⟨w.heap.size + 1 + 1, 0, none⟩) (by simp <;> omega) (.slice A0 x.cells.length c0))
  have B1 := hideIt (b1.set_ 0 (.slice A0 x.cells.length c0))
  have O0 := hideIt o0
  have N0 := hideIt n0
  have Q0 := hideIt g0
  clear s1 r1 b1 o0 n0 g0
  go_wp2
  refine bodyPost_ret (by simp [*, results, Tryz.results6, go_sem]; try rfl) rfl ?_
  exact ⟨_, _, rfl, ⟨_, _, rfl, O0.out.same (((SameOn.refl y0 u0).set (p := ⟨w.heap.size + 1 + 1, 0, none⟩) (fun g hg => by have := (N0.out.2 g hg).1; simp at this ⊢; omega) (.slice A0 x.cells.length c0)).set (p := ⟨w.heap.size + 1, 0, none⟩) (fun g hg => by have := (N0.out.2 g hg).1; simp at this ⊢; omega) (.slice A0 x.cells.length c0)), rfl⟩, ((N0.out.mono (lo' := w.heap.size) (hi' := u0.heap.size) (by simp <;> omega) (Nat.le_refl _))).mono (Nat.le_refl _) (by simp), (G1.out.setCell (p := ⟨w.heap.size + 1, 0, none⟩) (by simp <;> omega) (.slice A0 x.cells.length c0))⟩
set_option maxHeartbeats 1000000 in
theorem eqLib_same {vv0 uu0 : Value} {x : LibD} (w : World) (h : RLib w [vv0] x) (h2 : RLib w [uu0] x) :
    Calls Tryz.prog 9 #[.agg #[vv0], .agg #[uu0]] w fun e w' => e = .returned (.bool true) ∧ Grows w w' := by
  have k0 := h.parts
  have m0 := h2.parts
  have H0 := hideIt k0
  have M0 := hideIt m0
  clear k0 m0
  have g0 : Grows w ((w.alloc (.cells #[vv0] 35)).alloc (.cells #[uu0] 35)) := ((Grows.refl w).alloc _).alloc _
  have s0 : Blk ((w.alloc (.cells #[vv0] 35)).alloc (.cells #[uu0] 35)) (w.heap.size) 35 #[vv0] := (Blk.new w _ _).grows ((Grows.refl _).alloc _)
  have r0 : Blk ((w.alloc (.cells #[vv0] 35)).alloc (.cells #[uu0] 35)) (w.heap.size + 1) 35 #[uu0] := by have := Blk.new (w.alloc (.cells #[vv0] 35)) 35 #[uu0]; simpa using this
  have G0 := hideIt g0
  have S0 := hideIt s0
  have R0 := hideIt r0
  clear g0 s0 r0
  go_enter Tryz.func9, Tryz.ntmps9
  go_wp2_with fail
  refine (eqCells_same _ (H0.out.keep G0.out.keeps) (M0.out.keep G0.out.keeps)).mono ?_
  rintro e u0 ⟨rfl, g0⟩
  have s1 := S0.out.grows g0
  have ks0_0 : u0.cell? ⟨w.heap.size, 0, none⟩ = some (vv0) := s1.cell 0
  have r1 := R0.out.grows g0
  have kr0_0 : u0.cell? ⟨w.heap.size + 1, 0, none⟩ = some (uu0) := r1.cell 0
  have G1 := hideIt (G0.out.trans g0)
  have S1 := hideIt s1
  have R1 := hideIt r1
  clear s1 r1 g0
  go_wp2
  go_ret
  exact ⟨rfl, G1.out⟩
end Go.Proofs.YtocahjbmnkadjaaGreatDoor
