/-
  A struct and the slices of it: owned, small, its budget, copy and equality.
-/
import Derived.Test.YtcaklodecejkhaaDoorIntsS
namespace Go.Proofs.YtcaklodecejkhaaDoor
open Go.RowKit

def OPin (_ : World) (cs : List Value) (x : PinD) (bs : List Nat) : Prop :=
  cs = [.string x.name, .int .i64 x.dir, .int .i64 x.cap, .bool x.clock] ∧ x.name.size ≤ maxLen ∧ bs = []
theorem OPin.reads {w : World} {cs : List Value} {x : PinD} {bs : List Nat} (h : OPin w cs x bs) : RPin w cs x := by
  obtain ⟨e, z0, _⟩ := h
  exact ⟨e, z0⟩
theorem OPin.same {w w' : World} {cs : List Value} {x : PinD} {bs : List Nat} (h : OPin w cs x bs) (_ : SameOn bs w w') : OPin w' cs x bs := by
  exact h
theorem OPin.lt {w : World} {cs : List Value} {x : PinD} {bs : List Nat} (h : OPin w cs x bs) : ∀ g ∈ bs, g < w.heap.size := by
  obtain ⟨e, z0, rfl⟩ := h
  intro g hg
  cases hg
def SmPin (x : PinD) : Prop := x.name.size ≤ 1048576
theorem RPin.parts {w : World} {vv0 vv1 vv2 vv3 : Value} {x : PinD} (h : RPin w [vv0, vv1, vv2, vv3] x) : (vv0 = .string x.name) ∧ (vv1 = .int .i64 x.dir) ∧ (vv2 = .int .i64 x.cap) ∧ (vv3 = .bool x.clock) ∧ x.name.size ≤ maxLen := by
  obtain ⟨he, z0⟩ := h
  injection he with e0 he
  injection he with e1 he
  injection he with e2 he
  injection he with e3 he
  exact ⟨e0, e1, e2, e3, z0⟩
theorem OPin.shape {w : World} {vv0 vv1 vv2 vv3 : Value} {x : PinD} {bs : List Nat} (h : OPin w [vv0, vv1, vv2, vv3] x bs) : vv0 = .string x.name ∧ vv1 = .int .i64 x.dir ∧ vv2 = .int .i64 x.cap ∧ vv3 = .bool x.clock := by
  obtain ⟨e0, e1, e2, e3, -⟩ := h.reads.parts
  exact ⟨e0, e1, e2, e3⟩
set_option maxHeartbeats 1000000 in
theorem szPin_any {vv0 vv1 vv2 vv3 : Value} {x : PinD} (left : Int) (w : World) (h : RPin w [vv0, vv1, vv2, vv3] x) (h1 : 0 ≤ left) (h2 : left ≤ 1048576) :
    Calls Tryd.prog 55 #[.agg #[vv0, vv1, vv2, vv3], .int .i64 left] w (SzPost (SmPin x) w) := by
  obtain ⟨rfl, rfl, rfl, rfl, kz0⟩ := h.parts
  have g0 := (Grows.refl w).alloc (.cells #[.string x.name, .int .i64 x.dir, .int .i64 x.cap, .bool x.clock] 75)
  have zs0 : (x.name.size : Int) ≤ 9223372036854775807 := by unfold maxLen at kz0; omega
  clear kz0
  have S := hideIt (Blk.new w 75 #[.string x.name, .int .i64 x.dir, .int .i64 x.cap, .bool x.clock])
  have G := hideIt g0
  clear g0 
  go_enter Tryd.func55, Tryd.ntmps55
  by_cases n0 : left - (x.name.size : Int) < 0
  · go_wp2
    go_ret
    exact ⟨-1, rfl, by omega, by omega, fun h => by omega, G.out⟩
  obtain ⟨r0, er0⟩ : ∃ r : Int, r = left - (x.name.size : Int) := ⟨_, rfl⟩
  go_wp2
  go_ret
  exact ⟨_, rfl, by omega, by omega, fun _ => (by unfold SmPin; omega), G.out⟩
set_option maxHeartbeats 2000000 in
theorem toPin_o {vv0 vv1 vv2 vv3 : Value} {x : PinD} (w : World) (h : RPin w [vv0, vv1, vv2, vv3] x) (_ : SmPin x) :
    Calls Tryd.prog 58 #[.agg #[vv0, vv1, vv2, vv3]] w fun e w' => ∃ (y0_ y1_ y2_ y3_ : Value) (bs : List Nat), e = .returned (.agg #[y0_, y1_, y2_, y3_]) ∧ OPin w' [y0_, y1_, y2_, y3_] x bs ∧ Own w.heap.size w'.heap.size bs ∧ Grows w w' := by
  obtain ⟨rfl, rfl, rfl, rfl, kz0⟩ := h.parts
  have Z0 := hideIt kz0
  clear kz0
  have g0 : Grows w (((w.alloc (.cells #[.string x.name, .int .i64 x.dir, .int .i64 x.cap, .bool x.clock] 75)).alloc (.cells #[.string .empty, .int .i64 0, .int .i64 0, .bool false] 80)).alloc (.cells #[.string x.name, .int .i64 x.dir, .int .i64 x.cap, .bool x.clock] 80)) := (((Grows.refl w).alloc _).alloc _).alloc _
  have s0 : Blk (((w.alloc (.cells #[.string x.name, .int .i64 x.dir, .int .i64 x.cap, .bool x.clock] 75)).alloc (.cells #[.string .empty, .int .i64 0, .int .i64 0, .bool false] 80)).alloc (.cells #[.string x.name, .int .i64 x.dir, .int .i64 x.cap, .bool x.clock] 80)) (w.heap.size) 75 #[.string x.name, .int .i64 x.dir, .int .i64 x.cap, .bool x.clock] := ((Blk.new w _ _).grows ((Grows.refl _).alloc _)).grows ((Grows.refl _).alloc _)
  have r0 : Blk (((w.alloc (.cells #[.string x.name, .int .i64 x.dir, .int .i64 x.cap, .bool x.clock] 75)).alloc (.cells #[.string .empty, .int .i64 0, .int .i64 0, .bool false] 80)).alloc (.cells #[.string x.name, .int .i64 x.dir, .int .i64 x.cap, .bool x.clock] 80)) (w.heap.size + 1) 80 #[.string .empty, .int .i64 0, .int .i64 0, .bool false] := by have := (Blk.new (w.alloc (.cells #[.string x.name, .int .i64 x.dir, .int .i64 x.cap, .bool x.clock] 75)) 80 #[.string .empty, .int .i64 0, .int .i64 0, .bool false]).grows ((Grows.refl _).alloc (.cells #[.string x.name, .int .i64 x.dir, .int .i64 x.cap, .bool x.clock] 80)); simpa using this
  have b0 : Blk (((w.alloc (.cells #[.string x.name, .int .i64 x.dir, .int .i64 x.cap, .bool x.clock] 75)).alloc (.cells #[.string .empty, .int .i64 0, .int .i64 0, .bool false] 80)).alloc (.cells #[.string x.name, .int .i64 x.dir, .int .i64 x.cap, .bool x.clock] 80)) (w.heap.size + 1 + 1) 80 #[.string x.name, .int .i64 x.dir, .int .i64 x.cap, .bool x.clock] := by have := Blk.new ((w.alloc (.cells #[.string x.name, .int .i64 x.dir, .int .i64 x.cap, .bool x.clock] 75)).alloc (.cells #[.string .empty, .int .i64 0, .int .i64 0, .bool false] 80)) 80 #[.string x.name, .int .i64 x.dir, .int .i64 x.cap, .bool x.clock]; simpa using this
  have G0 := hideIt g0
  have S0 := hideIt s0
  have R0 := hideIt r0
  have B0 := hideIt b0
  clear g0 s0 r0 b0
  go_enter Tryd.func58, Tryd.ntmps58
  go_wp2
  refine bodyPost_ret (by simp [*, results, Tryd.results58, go_sem]; try rfl) rfl ?_
  exact ⟨_, _, _, _, _, rfl, ⟨rfl, Z0.out, rfl⟩, Own.nil, by repeat (first | exact Grows.refl _ | refine Grows.setCell ?_ (by simp <;> omega) _ | refine Grows.alloc ?_ _)⟩
set_option maxHeartbeats 1000000 in
theorem eqPin_same {vv0 vv1 vv2 vv3 uu0 uu1 uu2 uu3 : Value} {x : PinD} (w : World) (h : RPin w [vv0, vv1, vv2, vv3] x) (h2 : RPin w [uu0, uu1, uu2, uu3] x) :
    Calls Tryd.prog 67 #[.agg #[vv0, vv1, vv2, vv3], .agg #[uu0, uu1, uu2, uu3]] w fun e w' => e = .returned (.bool true) ∧ Grows w w' := by
  obtain ⟨rfl, rfl, rfl, rfl, kz0⟩ := h.parts
  obtain ⟨rfl, rfl, rfl, rfl, mz0⟩ := h2.parts
  clear kz0 mz0
  have g0 : Grows w ((w.alloc (.cells #[.string x.name, .int .i64 x.dir, .int .i64 x.cap, .bool x.clock] 80)).alloc (.cells #[.string x.name, .int .i64 x.dir, .int .i64 x.cap, .bool x.clock] 80)) := ((Grows.refl w).alloc _).alloc _
  have s0 : Blk ((w.alloc (.cells #[.string x.name, .int .i64 x.dir, .int .i64 x.cap, .bool x.clock] 80)).alloc (.cells #[.string x.name, .int .i64 x.dir, .int .i64 x.cap, .bool x.clock] 80)) (w.heap.size) 80 #[.string x.name, .int .i64 x.dir, .int .i64 x.cap, .bool x.clock] := (Blk.new w _ _).grows ((Grows.refl _).alloc _)
  have r0 : Blk ((w.alloc (.cells #[.string x.name, .int .i64 x.dir, .int .i64 x.cap, .bool x.clock] 80)).alloc (.cells #[.string x.name, .int .i64 x.dir, .int .i64 x.cap, .bool x.clock] 80)) (w.heap.size + 1) 80 #[.string x.name, .int .i64 x.dir, .int .i64 x.cap, .bool x.clock] := by have := Blk.new (w.alloc (.cells #[.string x.name, .int .i64 x.dir, .int .i64 x.cap, .bool x.clock] 80)) 80 #[.string x.name, .int .i64 x.dir, .int .i64 x.cap, .bool x.clock]; simpa using this
  have G0 := hideIt g0
  have S0 := hideIt s0
  have R0 := hideIt r0
  clear g0 s0 r0
  go_enter Tryd.func67, Tryd.ntmps67
  go_wp2
  go_ret
  exact ⟨rfl, G0.out⟩
def OPins : World → Value → List PinD → List Nat → Prop := OList 4 80 OPin
def SmPins (xs : List PinD) : Prop := SmL xs ∧ ∀ x ∈ xs, SmPin x
theorem OPins.reads {w : World} {v : Value} {xs : List PinD} {bs : List Nat} (h : OPins w v xs bs) : RPins w v xs := OList.reads h fun _ _ _ h => h.reads
theorem OPins.same {w w' : World} {v : Value} {xs : List PinD} {bs : List Nat} (h : OPins w v xs bs) (g : SameOn bs w w') : OPins w' v xs bs := OList.same h g fun _ _ _ h g => h.same g
theorem OPins.lt {w : World} {v : Value} {xs : List PinD} {bs : List Nat} (h : OPins w v xs bs) : ∀ g ∈ bs, g < w.heap.size := OList.lt h fun _ _ _ h => h.lt
theorem info_Pin : (Tryd.prog.info? 80).map (fun i => (i.zero, i.size)) = some (some (.agg #[.string .empty, .int .i64 0, .int .i64 0, .bool false]), 4) := by kernel_rfl
theorem bytes_Pin : ∀ i, Tryd.prog.info? 80 = some i → i.bytes ≤ 256 := by
  intro i hi
  have h : (Tryd.prog.info? 80).map (fun i => decide (i.bytes ≤ 256)) = some true := by kernel_rfl
  rw [hi] at h
  simpa using h
set_option maxHeartbeats 4000000 in
theorem toPins_o {v : Value} {xs : List PinD} (w : World) (h : RPins w v xs) (hn : SmPins xs) :
    Calls Tryd.prog 34 #[v] w fun e w' => ∃ (A : Option Addr) (c : Nat) (bs : List Nat), e = .returned (.slice A xs.length c) ∧ OPins w' (.slice A xs.length c) xs bs ∧ Own w.heap.size w'.heap.size bs ∧ Grows w w' := by
  obtain ⟨i0, hi, hzz⟩ := Option.map_eq_some_iff.1 info_Pin
  simp only [Prod.mk.injEq] at hzz
  obtain ⟨hz0, hz1⟩ := hzz
  have hbt := bytes_Pin i0 hi
  obtain ⟨hn1, hn2⟩ := hn
  unfold SmL at hn1
  have hmk : ∀ u : World, (Instr.makeSlice 29 (.int .i64 (xs.length : Int)) (.int .i64 (xs.length : Int))).run Tryd.prog u =
      .ok (.slice (some ⟨u.heap.size, 0, none⟩) xs.length xs.length) (u.alloc (.cells (madeCells #[.string .empty, .int .i64 0, .int .i64 0, .bool false] (xs.length * 4)) 80)) := fun u => by
    have h := run_make (P := Tryd.prog) u 29 80 i0 (.agg #[.string .empty, .int .i64 0, .int .i64 0, .bool false]) Tryd.underlying29 hi hz0 .i64 .i64 (xs.length : Int) (xs.length : Int) (by omega) (Int.le_refl _) (by have h5 := Nat.mul_le_mul hbt hn1; have e : (i0.bytes : Int) * (xs.length : Int) = ((i0.bytes * xs.length : Nat) : Int) := (Int.natCast_mul _ _).symm; rw [e]; omega) (by omega)
    simpa [hz1, Value.cells] using h
  obtain ⟨A, c, rfl, hle, hc, hx⟩ := h.form
  have HX := hideIt hx
  have HN := hideIt hn2
  clear hx hi hz0 hz1 hbt h hn2
  go_enter Tryd.func34, Tryd.ntmps34
  go_wp2
  go_loopw [4] (fun i wr => ∃ k : Nat, k ≤ xs.length ∧ i = .int .i64 k ∧ CopyG 4 80 OPin w wr xs k) (fun i _ => xs.length - (intOf i).toNat)
  case atStart => exact ⟨0, Nat.zero_le _, rfl, CopyG.start _ (Blk.new _ _ _) (by simp [size_madeCells]) ((Grows.refl _).alloc _)⟩
  case round =>
    obtain ⟨k, hk, rfl, hco⟩ := hrel
    by_cases hlt : k < xs.length
    · obtain ⟨x, hx⟩ : ∃ x, xs[k]? = some x := ⟨_, List.getElem?_eq_getElem hlt⟩
      obtain ⟨b, off, rfl, cs, hl1, hcs, hr⟩ := HX.out k x hx
      obtain ⟨c0, c1, c2, c3, rfl⟩ := list4 hl1
      have HST := hideIt (fun u es b => CopyG.step (u := u) (es := es) (b := b) hco (fun _ _ _ _ _ h g => OPin.same h g) hx)
      have SX := hideIt (HN.out x (List.mem_of_getElem? hx))
      obtain ⟨ds, bss, hb, hsz, -, -, hg, -⟩ := hco
      have HR : Hid (RPin wr [c0, c1, c2, c3] x) := hideIt (hr.keep hg.keeps)
      have hs0 : wr.cell? ⟨b, off + k * 4, none⟩ = some c0 := by simpa [Nat.add_assoc] using hg.keeps _ _ (hcs 0 _ rfl)
      have hs1 : wr.cell? ⟨b, off + k * 4 + 1, none⟩ = some c1 := by simpa [Nat.add_assoc] using hg.keeps _ _ (hcs 1 _ rfl)
      have hs2 : wr.cell? ⟨b, off + k * 4 + 2, none⟩ = some c2 := by simpa [Nat.add_assoc] using hg.keeps _ _ (hcs 2 _ rfl)
      have hs3 : wr.cell? ⟨b, off + k * 4 + 3, none⟩ = some c3 := by simpa [Nat.add_assoc] using hg.keeps _ _ (hcs 3 _ rfl)
      have HB := hideIt hb
      have hmul : k * 4 + 4 ≤ ds.size := by rw [hsz]; omega
      clear hcs hl1 hx hr hb hsz hmk hg
      go_wp2_with fail
      refine (toPin_o _ HR.out SX.out).mono ?_
      rintro e u ⟨y0, y1, y2, y3, bb, rfl, ho, ow, g⟩
      obtain ⟨rfl, rfl, rfl, rfl⟩ := ho.shape
      have st := hideIt (HST.out u _ bb g ho ow rfl)
      have hbu := HB.out.grows g
      have hf := hbu.frozen
      obtain ⟨o0, hd0⟩ : ∃ o, u.cell? ⟨w.heap.size, k * 4, none⟩ = some o := ⟨_, by rw [hbu.cell]; exact Array.getElem?_eq_getElem (by omega)⟩
      obtain ⟨o1, hd1⟩ : ∃ o, u.cell? ⟨w.heap.size, k * 4 + 1, none⟩ = some o := ⟨_, by rw [hbu.cell]; exact Array.getElem?_eq_getElem (by omega)⟩
      obtain ⟨o2, hd2⟩ : ∃ o, u.cell? ⟨w.heap.size, k * 4 + 2, none⟩ = some o := ⟨_, by rw [hbu.cell]; exact Array.getElem?_eq_getElem (by omega)⟩
      obtain ⟨o3, hd3⟩ : ∃ o, u.cell? ⟨w.heap.size, k * 4 + 3, none⟩ = some o := ⟨_, by rw [hbu.cell]; exact Array.getElem?_eq_getElem (by omega)⟩
      clear hbu ho ow g HST HB HR
      go_wp2
      go_roundw
      case rel => exact ⟨k + 1, by omega, by go_num, st.out⟩
      case measure => simp [intOf]; omega
    · have hk2 : k = xs.length := by omega
      subst hk2
      have H := hideIt hco
      clear hco hmk
      go_wp2
      go_ret
      obtain ⟨bs, h1, h2, h3⟩ := H.out.done (by unfold maxLen; omega)
      exact ⟨_, _, bs, rfl, h1, h2, h3⟩
theorem toPins_any {v : Value} {xs : List PinD} (w : World) (h : RPins w v xs) (hn : SmPins xs) :
    Calls Tryd.prog 34 #[v] w fun e w' => ∃ (v' : Value) (bs : List Nat), e = .returned v' ∧ OPins w' v' xs bs ∧ Own w.heap.size w'.heap.size bs ∧ Grows w w' :=
  (toPins_o w h hn).mono fun _ _ ⟨_, _, bs, he, h⟩ => ⟨_, bs, he, h⟩
set_option maxHeartbeats 4000000 in
theorem eqPins_same {v1 v2 : Value} {xs : List PinD} (w : World) (h1 : RPins w v1 xs) (h2 : RPins w v2 xs) :
    Calls Tryd.prog 41 #[v1, v2] w fun e w' => e = .returned (.bool true) ∧ Grows w w' := by
  have l1 := h1.len
  obtain ⟨A, c, rfl, hle, hc, hx⟩ := h1.form
  obtain ⟨A2, c2, rfl, hle2, hc2, hy⟩ := h2.form
  have HX := hideIt hx
  have HY := hideIt hy
  have hb : ((xs.length : Int) != (xs.length : Int)) = false := by simp
  clear hx hy h1 h2 hle hle2 hc hc2
  go_enter Tryd.func41, Tryd.ntmps41
  go_wp2
  go_loopw [5] (fun i wr => ∃ k : Nat, k ≤ xs.length ∧ i = .int .i64 k ∧ Grows w wr) (fun i _ => xs.length - (intOf i).toNat)
  case atStart => exact ⟨0, Nat.zero_le _, rfl, Grows.refl _⟩
  case round =>
    obtain ⟨k, hk, rfl, hg⟩ := hrel
    by_cases hlt : k < xs.length
    · obtain ⟨x, hx⟩ : ∃ x, xs[k]? = some x := ⟨_, List.getElem?_eq_getElem hlt⟩
      obtain ⟨b, off, rfl, cs, hl1, hcs, hr⟩ := HX.out k x hx
      obtain ⟨b2, off2, rfl, cs2, hl2, hcs2, hr2⟩ := HY.out k x hx
      obtain ⟨c0, c1, c2, c3, rfl⟩ := list4 hl1
      obtain ⟨d0, d1, d2, d3, rfl⟩ := list4 hl2
      have HR : Hid (RPin wr [c0, c1, c2, c3] x) := hideIt (hr.keep hg.keeps)
      have HR2 : Hid (RPin wr [d0, d1, d2, d3] x) := hideIt (hr2.keep hg.keeps)
      have zc0 : wr.cell? ⟨b, off + k * 4, none⟩ = some c0 := by simpa [Nat.add_assoc] using hg.keeps _ _ (hcs 0 _ rfl)
      have zc1 : wr.cell? ⟨b, off + k * 4 + 1, none⟩ = some c1 := by simpa [Nat.add_assoc] using hg.keeps _ _ (hcs 1 _ rfl)
      have zc2 : wr.cell? ⟨b, off + k * 4 + 2, none⟩ = some c2 := by simpa [Nat.add_assoc] using hg.keeps _ _ (hcs 2 _ rfl)
      have zc3 : wr.cell? ⟨b, off + k * 4 + 3, none⟩ = some c3 := by simpa [Nat.add_assoc] using hg.keeps _ _ (hcs 3 _ rfl)
      have zd0 : wr.cell? ⟨b2, off2 + k * 4, none⟩ = some d0 := by simpa [Nat.add_assoc] using hg.keeps _ _ (hcs2 0 _ rfl)
      have zd1 : wr.cell? ⟨b2, off2 + k * 4 + 1, none⟩ = some d1 := by simpa [Nat.add_assoc] using hg.keeps _ _ (hcs2 1 _ rfl)
      have zd2 : wr.cell? ⟨b2, off2 + k * 4 + 2, none⟩ = some d2 := by simpa [Nat.add_assoc] using hg.keeps _ _ (hcs2 2 _ rfl)
      have zd3 : wr.cell? ⟨b2, off2 + k * 4 + 3, none⟩ = some d3 := by simpa [Nat.add_assoc] using hg.keeps _ _ (hcs2 3 _ rfl)
      have K0 : ∀ w', Grows wr w' → w'.cell? ⟨b, off + k * 4, none⟩ = some c0 ∧ w'.cell? ⟨b, off + k * 4 + 1, none⟩ = some c1 ∧ w'.cell? ⟨b, off + k * 4 + 2, none⟩ = some c2 ∧ w'.cell? ⟨b, off + k * 4 + 3, none⟩ = some c3 ∧ w'.cell? ⟨b2, off2 + k * 4, none⟩ = some d0 ∧ w'.cell? ⟨b2, off2 + k * 4 + 1, none⟩ = some d1 ∧ w'.cell? ⟨b2, off2 + k * 4 + 2, none⟩ = some d2 ∧ w'.cell? ⟨b2, off2 + k * 4 + 3, none⟩ = some d3 ∧ Grows wr w' := fun w' G => ⟨G.keeps _ _ zc0, G.keeps _ _ zc1, G.keeps _ _ zc2, G.keeps _ _ zc3, G.keeps _ _ zd0, G.keeps _ _ zd1, G.keeps _ _ zd2, G.keeps _ _ zd3, G⟩
      have HK := hideIt K0
      have HG := hideIt hg
      have gg : Grows wr wr := Grows.refl _
      clear K0 hcs hcs2 hl1 hl2 hr hr2 hx hg
      go_wp2_with fail
      go_region_held3 (fun w' => w'.cell? ⟨b, off + k * 4, none⟩ = some c0 ∧ w'.cell? ⟨b, off + k * 4 + 1, none⟩ = some c1 ∧ w'.cell? ⟨b, off + k * 4 + 2, none⟩ = some c2 ∧ w'.cell? ⟨b, off + k * 4 + 3, none⟩ = some c3 ∧ w'.cell? ⟨b2, off2 + k * 4, none⟩ = some d0 ∧ w'.cell? ⟨b2, off2 + k * 4 + 1, none⟩ = some d1 ∧ w'.cell? ⟨b2, off2 + k * 4 + 2, none⟩ = some d2 ∧ w'.cell? ⟨b2, off2 + k * 4 + 3, none⟩ = some d3 ∧ Grows wr w')
        ((refine HK.out _ ?_; (repeat (first | exact gg | refine Grows.drew ?_ | refine Grows.alloc ?_ _ | refine Grows.setCell ?_ (by simp <;> omega) _))))
        (first | (go_at_call 67; refine (eqPin_same _ (HR.out.keep (Grows.keeps (by (repeat (first | exact gg | refine Grows.drew ?_))))) (HR2.out.keep (Grows.keeps (by (repeat (first | exact gg | refine Grows.drew ?_)))))).mono ?_; rintro e wx ⟨rfl, g⟩; replace gg : Grows wr wx := Grows.trans (by (repeat (first | exact gg | refine Grows.drew ?_))) g))
      all_goals go_split_ands
      all_goals go_wp2
      all_goals go_roundw
      all_goals first
        | (case rel => exact ⟨k + 1, by omega, by go_num, HG.out.trans (by repeat (first | exact gg | refine Grows.drew ?_))⟩)
        | (simp [intOf]; omega)
    · have hk2 : k = xs.length := by omega
      subst hk2
      go_wp2
      go_ret
      exact ⟨rfl, hg⟩
set_option maxHeartbeats 2000000 in
theorem szPins_any {v : Value} {xs : List PinD} (left : Int) (w : World) (h : RPins w v xs) (h1 : 0 ≤ left) (h2 : left ≤ 1048576) :
    Calls Tryd.prog 26 #[v, .int .i64 left] w (SzPost (SmPins xs) w) := by
  have hl := h.len
  obtain ⟨A, c, rfl, hle, hc, hx⟩ := h.form
  have HX := hideIt hx
  clear hx h hle hc
  by_cases hlt : left - xs.length < 0
  · go_enter Tryd.func26, Tryd.ntmps26
    go_wp2
    go_ret
    exact ⟨_, rfl, by omega, by omega, fun h => absurd h (by omega), Grows.refl _⟩
  · go_enter Tryd.func26, Tryd.ntmps26
    go_wp2
    go_loopw [1, 5] (fun l i wr => ∃ (k : Nat) (r : Int), k ≤ xs.length ∧ l = .int .i64 r ∧ i = .int .i64 (k : Int) ∧ 0 ≤ r ∧ r ≤ 1048576 ∧ Hid (∀ (j : Nat) (x : PinD), j < k → xs[j]? = some x → SmPin x) ∧ Grows w wr) (fun _ i _ => xs.length - (intOf i).toNat)
    case atStart => exact ⟨0, left - xs.length, Nat.zero_le _, rfl, rfl, by omega, by omega, fun j x hj => absurd hj (by omega), Grows.refl _⟩
    case round =>
      obtain ⟨k, r, hk, rfl, rfl, hr0, hr1, hco, hg⟩ := hrel
      by_cases hk1 : k < xs.length
      · obtain ⟨x, hx⟩ : ∃ x, xs[k]? = some x := ⟨_, List.getElem?_eq_getElem hk1⟩
        obtain ⟨b, off, rfl, cs, hl1, hcs, hr⟩ := HX.out k x hx
        obtain ⟨c0, c1, c2, c3, rfl⟩ := list4 hl1
        have HR : Hid (RPin wr [c0, c1, c2, c3] x) := hideIt (hr.keep hg.keeps)
        have hs0 : wr.cell? ⟨b, off + k * 4, none⟩ = some c0 := by simpa [Nat.add_assoc] using hg.keeps _ _ (hcs 0 _ rfl)
        have hs1 : wr.cell? ⟨b, off + k * 4 + 1, none⟩ = some c1 := by simpa [Nat.add_assoc] using hg.keeps _ _ (hcs 1 _ rfl)
        have hs2 : wr.cell? ⟨b, off + k * 4 + 2, none⟩ = some c2 := by simpa [Nat.add_assoc] using hg.keeps _ _ (hcs 2 _ rfl)
        have hs3 : wr.cell? ⟨b, off + k * 4 + 3, none⟩ = some c3 := by simpa [Nat.add_assoc] using hg.keeps _ _ (hcs 3 _ rfl)
        have X1 := hideIt hx
        have HG := hideIt hg
        clear hcs hl1 hx hr hg
        go_wp2_with fail
        refine (szPin_any _ _ HR.out hr0 hr1).mono ?_
        rintro e u ⟨r2, rfl, p1, p2, sm, g⟩
        have SM := hideIt sm
        have GU := hideIt (HG.out.trans g)
        clear sm g HG HR
        by_cases n1 : r2 < 0
        · go_wp2
          go_ret
          exact ⟨-1, rfl, by omega, by omega, fun h => absurd h (by omega), GU.out⟩
        · go_wp2
          go_roundw
          case rel => exact ⟨k + 1, r2, by omega, rfl, by go_num, by omega, by omega, fun j y hj hy => by
            by_cases e : j = k
            · subst e; rw [X1.out] at hy; injection hy with hy; rw [← hy]; exact SM.out (by omega)
            · exact hco.out j y (by omega) hy, GU.out⟩
          case measure => simp [intOf]; omega
      · have hk2 : k = xs.length := by omega
        subst hk2
        have HC := hideIt hco.out
        clear hco
        go_wp2
        go_ret
        exact ⟨_, rfl, by omega, by omega, fun _ => ⟨by unfold SmL; omega, fun x hx => by obtain ⟨i, hi⟩ := List.getElem?_of_mem hx; exact HC.out i x (lt_of_at hi) hi⟩, hg⟩
end Go.Proofs.YtcaklodecejkhaaDoor
