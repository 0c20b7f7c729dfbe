/-
  Slices of strings: owned, small, budget, copy, equality.
-/
import Derived.Test.YtpppobomekebdaaGreatDoorGB
namespace Go.Proofs.YtpppobomekebdaaGreatDoor
open Go.RowKit
def OS (_ : World) (cs : List Value) (x : ByteArray) (b : List Nat) : Prop := cs = [.string x] ∧ x.size ≤ maxLen ∧ b = []
def OStrs : World → Value → List ByteArray → List Nat → Prop := OList 1 9 OS
def SmStr (s : ByteArray) : Prop := s.size ≤ 1048576
def SmStrs (xs : List ByteArray) : Prop := SmL xs ∧ ∀ x ∈ xs, SmStr x
theorem OStrs.reads {w : World} {v : Value} {xs : List ByteArray} {bs : List Nat} (h : OStrs w v xs bs) : RStrs w v xs := OList.reads h fun _ _ _ h => ⟨h.1, h.2.1⟩
theorem OStrs.same {w w' : World} {v : Value} {xs : List ByteArray} {bs : List Nat} (h : OStrs w v xs bs) (g : SameOn bs w w') : OStrs w' v xs bs := OList.same h g fun _ _ _ h _ => h
theorem OStrs.lt {w : World} {v : Value} {xs : List ByteArray} {bs : List Nat} (h : OStrs w v xs bs) : ∀ g ∈ bs, g < w.heap.size := OList.lt h fun _ _ _ h g hg => by rw [h.2.2] at hg; cases hg
theorem info_str : (Tryz.prog.info? 9).map (fun i => (i.zero, i.size, i.bytes)) = some (some (.string .empty), 1, 16) := by kernel_rfl
set_option maxHeartbeats 2000000 in
theorem toStrs_o {v : Value} {xs : List ByteArray} (w : World) (h : RStrs w v xs) (hn : SmStrs xs) :
    Calls Tryz.prog 87 #[v] w fun e w' => ∃ (A : Option Addr) (c : Nat) (bs : List Nat), e = .returned (.slice A xs.length c) ∧ OStrs w' (.slice A xs.length c) xs bs ∧ Own w.heap.size w'.heap.size bs ∧ Grows w w' := by
  obtain ⟨i0, hi, hz0, hz1, hz2⟩ := info_parts info_str
  obtain ⟨hn1, -⟩ := hn
  unfold SmL at hn1
  have hmk : ∀ u : World, (Instr.makeSlice 26 (.int .i64 (xs.length : Int)) (.int .i64 (xs.length : Int))).run Tryz.prog u =
      .ok (.slice (some ⟨u.heap.size, 0, none⟩) xs.length xs.length) (u.alloc (.cells (madeCells #[.string .empty] xs.length) 9)) := fun u => by
    have h := run_make (P := Tryz.prog) u 26 9 i0 (.string .empty) Tryz.underlying26 hi hz0 .i64 .i64 (xs.length : Int) (xs.length : Int) (by omega) (Int.le_refl _) (by rw [hz2]; omega) (by omega)
    simpa [hz1, Value.cells] using h
  obtain ⟨A, c, rfl, hle, hc, hx⟩ := h.form
  have HX := hideIt hx
  clear hx hi hz0 hz1 hz2 h
  go_enter Tryz.func87, Tryz.ntmps87
  go_wp2
  go_loopw [4] (fun i wr => ∃ k : Nat, k ≤ xs.length ∧ i = .int .i64 k ∧ CopyG 1 9 OS w wr xs k) (fun i _ => xs.length - (intOf i).toNat)
  case atStart => exact ⟨0, Nat.zero_le _, rfl, CopyG.start _ (Blk.new _ _ _) (by simp [size_madeCells]) ((Grows.refl _).alloc _)⟩
  case round =>
    obtain ⟨k, hk, rfl, hco⟩ := hrel
    by_cases hlt : k < xs.length
    · obtain ⟨x, hx⟩ : ∃ x, xs[k]? = some x := ⟨_, List.getElem?_eq_getElem hlt⟩
      obtain ⟨b, off, rfl, cs, hl1, hcs, hr⟩ := HX.out k x hx
      obtain ⟨rfl, hsl⟩ := hr
      have st0 := CopyG.step (u := wr) (es := [.string x]) (b := []) hco (fun _ _ _ _ _ h _ => h) hx (Grows.refl _) ⟨rfl, hsl, rfl⟩ Own.nil rfl
      rw [Nat.mul_one] at st0
      have st := hideIt st0
      obtain ⟨ds, bss, hb, hsz, -, -, hg, -⟩ := hco
      have hs : wr.cell? ⟨b, off + k, none⟩ = some (.string x) := by simpa using hg.keeps _ _ (hcs 0 _ rfl)
      obtain ⟨old, hd⟩ : ∃ old, wr.cell? ⟨w.heap.size, k, none⟩ = some old := ⟨_, by rw [hb.cell]; exact Array.getElem?_eq_getElem (by omega)⟩
      have hf : wr.frozen? ⟨w.heap.size, k, none⟩ = false := hb.frozen k
      clear hcs hl1 hx hb hsz hmk st0 hg
      go_wp2
      go_roundw
      case rel => exact ⟨k + 1, by omega, by go_num, st.out⟩
      case measure => simp [intOf]; omega
    · have hk2 : k = xs.length := by omega
      subst hk2
      have H := hideIt hco
      clear hco hmk
      go_wp2
      go_ret
      obtain ⟨bs, h1, h2, h3⟩ := H.out.done (by unfold maxLen; omega)
      exact ⟨_, _, bs, rfl, h1, h2, h3⟩
set_option maxHeartbeats 1000000 in
theorem eqStrs_same {v1 v2 : Value} {xs : List ByteArray} (w : World) (h1 : RStrs w v1 xs) (h2 : RStrs w v2 xs) :
    Calls Tryz.prog 100 #[v1, v2] w fun e w' => e = .returned (.bool true) ∧ Grows w w' := by
  have l1 := h1.len
  obtain ⟨A, c, rfl, hle, hc, hx⟩ := h1.form
  obtain ⟨A2, c2, rfl, hle2, hc2, hy⟩ := h2.form
  have HX := hideIt hx
  have HY := hideIt hy
  have hb : ((xs.length : Int) != (xs.length : Int)) = false := by simp
  clear hx hy h1 h2 hle hle2 hc hc2
  go_enter Tryz.func100, Tryz.ntmps100
  go_wp2
  go_loopw [5] (fun i wr => ∃ k : Nat, k ≤ xs.length ∧ i = .int .i64 k ∧ Grows w wr) (fun i _ => xs.length - (intOf i).toNat)
  case atStart => exact ⟨0, Nat.zero_le _, rfl, Grows.refl _⟩
  case round =>
    obtain ⟨k, hk, rfl, hg⟩ := hrel
    by_cases hlt : k < xs.length
    · obtain ⟨x, hx⟩ : ∃ x, xs[k]? = some x := ⟨_, List.getElem?_eq_getElem hlt⟩
      obtain ⟨b, off, rfl, cs, hl1, hcs, hr, -⟩ := HX.out k x hx
      obtain ⟨b2, off2, rfl, cs2, hl2, hcs2, hr2, -⟩ := HY.out k x hx
      subst hr hr2
      have hs : wr.cell? ⟨b, off + k, none⟩ = some (.string x) := by simpa using hg.keeps _ _ (hcs 0 _ rfl)
      have hs2 : wr.cell? ⟨b2, off2 + k, none⟩ = some (.string x) := by simpa using hg.keeps _ _ (hcs2 0 _ rfl)
      clear hcs hcs2 hl1 hl2 hx
      go_wp2
      go_quiet (fail)
      go_wp2
      go_roundw
      case rel => exact ⟨k + 1, by omega, by go_num, by first | exact hg.drewN _ | exact (hg.drewN _).drewN _⟩
      case measure => simp [intOf]; omega
    · have hk2 : k = xs.length := by omega
      subst hk2
      go_wp2
      go_ret
      exact ⟨rfl, hg⟩
set_option maxHeartbeats 2000000 in
theorem szStrs_w {v : Value} {xs : List ByteArray} (left : Int) (w : World) (h : RStrs w v xs) (h1 : 0 ≤ left) (h2 : left ≤ 1048576) :
    Calls Tryz.prog 78 #[v, .int .i64 left] w (SzPostW (SmStrs xs) xs.length left w) := by
  have hl := h.len
  obtain ⟨A, c, rfl, hle, hc, hx⟩ := h.form
  have HX := hideIt hx
  clear hx h hle hc
  by_cases hlt : left - xs.length < 0
  · go_enter Tryz.func78, Tryz.ntmps78
    go_wp2
    go_ret
    exact ⟨_, rfl, by omega, by omega, fun h => absurd h (by omega), Grows.refl _⟩
  · go_enter Tryz.func78, Tryz.ntmps78
    go_wp2
    go_loopw [1, 5] (fun l i wr => ∃ (k : Nat) (r : Int), k ≤ xs.length ∧ l = .int .i64 r ∧ i = .int .i64 (k : Int) ∧ 0 ≤ r ∧ r ≤ 1048576 ∧ r ≤ left - xs.length ∧ Hid (∀ (j : Nat) (x : ByteArray), j < k → xs[j]? = some x → SmStr x) ∧ Grows w wr) (fun _ i _ => xs.length - (intOf i).toNat)
    case atStart => exact ⟨0, left - xs.length, Nat.zero_le _, rfl, rfl, by omega, by omega, by omega, fun j x hj => absurd hj (by omega), Grows.refl _⟩
    case round =>
      obtain ⟨k, r, hk, rfl, rfl, hr0, hr1, hr2, hco, hg⟩ := hrel
      by_cases hk1 : k < xs.length
      · obtain ⟨x, hx⟩ : ∃ x, xs[k]? = some x := ⟨_, List.getElem?_eq_getElem hk1⟩
        obtain ⟨b, off, rfl, cs, hl1, hcs, hr, hsl⟩ := HX.out k x hx
        subst hr
        have hs : wr.cell? ⟨b, off + k, none⟩ = some (.string x) := by simpa using hg.keeps _ _ (hcs 0 _ rfl)
        have hsl2 : (x.size : Int) ≤ 9223372036854775807 := by unfold maxLen at hsl; omega
        have X1 := hideIt hx
        clear hcs hl1 hx hsl
        by_cases n1 : r - (x.size : Int) < 0
        · go_wp2
          go_ret
          exact ⟨-1, rfl, by omega, by omega, fun h => absurd h (by omega), by repeat (first | exact hg | exact hg.drewN _ | refine Grows.drew ?_)⟩
        · go_wp2
          go_roundw
          case rel => exact ⟨k + 1, r - (x.size : Int), by omega, rfl, by go_num, by omega, by omega, by omega, fun j y hj hy => by
            by_cases e : j = k
            · subst e; rw [X1.out] at hy; injection hy with hy; rw [← hy]; unfold SmStr; omega
            · exact hco.out j y (by omega) hy, by repeat (first | exact hg | exact hg.drewN _ | refine Grows.drew ?_)⟩
          case measure => simp [intOf]; omega
      · have hk2 : k = xs.length := by omega
        subst hk2
        have HC := hideIt hco.out
        clear hco
        go_wp2
        go_ret
        exact ⟨_, rfl, by omega, by omega, fun _ => ⟨⟨by unfold SmL; omega, fun x hx => by obtain ⟨i, hi⟩ := List.getElem?_of_mem hx; exact HC.out i x (lt_of_at hi) hi⟩, by omega⟩, hg⟩
theorem szStrs_any {v : Value} {xs : List ByteArray} (left : Int) (w : World) (h : RStrs w v xs) (h1 : 0 ≤ left) (h2 : left ≤ 1048576) :
    Calls Tryz.prog 78 #[v, .int .i64 left] w (SzPost (SmStrs xs) w) := (szStrs_w left w h h1 h2).mono fun _ _ h => h.post
end Go.Proofs.YtpppobomekebdaaGreatDoor
/-
  A struct and the slices of it: owned, small, its budget, copy and equality.
-/
namespace Go.Proofs.YtpppobomekebdaaGreatDoor
open Go.RowKit

def OPort (_ : World) (cs : List Value) (x : PortD) (bs : List Nat) : Prop :=
  cs = [.string x.name, .int .i64 x.dir, .int .i64 x.net] ∧ x.name.size ≤ maxLen ∧ bs = []
theorem OPort.reads {w : World} {cs : List Value} {x : PortD} {bs : List Nat} (h : OPort w cs x bs) : RPort w cs x := by
  obtain ⟨e, z0, _⟩ := h
  exact ⟨e, z0⟩
theorem OPort.same {w w' : World} {cs : List Value} {x : PortD} {bs : List Nat} (h : OPort w cs x bs) (_ : SameOn bs w w') : OPort w' cs x bs := by
  exact h
theorem OPort.lt {w : World} {cs : List Value} {x : PortD} {bs : List Nat} (h : OPort w cs x bs) : ∀ g ∈ bs, g < w.heap.size := by
  obtain ⟨e, z0, rfl⟩ := h
  intro g hg
  cases hg
def SmPort (x : PortD) : Prop := x.name.size ≤ 1048576
theorem RPort.parts {w : World} {vv0 vv1 vv2 : Value} {x : PortD} (h : RPort w [vv0, vv1, vv2] x) : (vv0 = .string x.name) ∧ (vv1 = .int .i64 x.dir) ∧ (vv2 = .int .i64 x.net) ∧ x.name.size ≤ maxLen := by
  obtain ⟨he, z0⟩ := h
  injection he with e0 he
  injection he with e1 he
  injection he with e2 he
  exact ⟨e0, e1, e2, z0⟩
theorem OPort.shape {w : World} {vv0 vv1 vv2 : Value} {x : PortD} {bs : List Nat} (h : OPort w [vv0, vv1, vv2] x bs) : vv0 = .string x.name ∧ vv1 = .int .i64 x.dir ∧ vv2 = .int .i64 x.net := by
  obtain ⟨e0, e1, e2, -⟩ := h.reads.parts
  exact ⟨e0, e1, e2⟩
def wtPort (_ : PortD) : Nat := 0
set_option maxHeartbeats 1000000 in
theorem szPort_w {vv0 vv1 vv2 : Value} {x : PortD} (left : Int) (w : World) (h : RPort w [vv0, vv1, vv2] x) (h1 : 0 ≤ left) (h2 : left ≤ 1048576) :
    Calls Tryz.prog 133 #[.agg #[vv0, vv1, vv2], .int .i64 left] w (SzPostW (SmPort x) (wtPort x) left w) := by
  obtain ⟨rfl, rfl, rfl, kz0⟩ := h.parts
  have g0 := (Grows.refl w).alloc (.cells #[.string x.name, .int .i64 x.dir, .int .i64 x.net] 178)
  have zs0 : (x.name.size : Int) ≤ 9223372036854775807 := by unfold maxLen at kz0; omega
  clear kz0
  have S := hideIt (Blk.new w 178 #[.string x.name, .int .i64 x.dir, .int .i64 x.net])
  have G := hideIt g0
  clear g0 
  go_enter Tryz.func133, Tryz.ntmps133
  by_cases n0 : left - (x.name.size : Int) < 0
  · go_wp2
    go_ret
    exact ⟨-1, rfl, by omega, by omega, fun h => by omega, G.out⟩
  obtain ⟨r0, er0⟩ : ∃ r : Int, r = left - (x.name.size : Int) := ⟨_, rfl⟩
  go_wp2
  go_ret
  exact ⟨_, rfl, by omega, by omega, fun _ => ⟨(by unfold SmPort; omega), (by unfold wtPort; omega)⟩, G.out⟩
theorem szPort_any {vv0 vv1 vv2 : Value} {x : PortD} (left : Int) (w : World) (h : RPort w [vv0, vv1, vv2] x) (h1 : 0 ≤ left) (h2 : left ≤ 1048576) :
    Calls Tryz.prog 133 #[.agg #[vv0, vv1, vv2], .int .i64 left] w (SzPost (SmPort x) w) := (szPort_w left w h h1 h2).mono fun _ _ h => h.post
set_option maxHeartbeats 2000000 in
theorem toPort_o {vv0 vv1 vv2 : Value} {x : PortD} (w : World) (h : RPort w [vv0, vv1, vv2] x) (_ : SmPort x) :
    Calls Tryz.prog 135 #[.agg #[vv0, vv1, vv2]] w fun e w' => ∃ (y0_ y1_ y2_ : Value) (bs : List Nat), e = .returned (.agg #[y0_, y1_, y2_]) ∧ OPort w' [y0_, y1_, y2_] x bs ∧ Own w.heap.size w'.heap.size bs ∧ Grows w w' := by
  obtain ⟨rfl, rfl, rfl, kz0⟩ := h.parts
  have Z0 := hideIt kz0
  clear kz0
  have g0 : Grows w (((w.alloc (.cells #[.string x.name, .int .i64 x.dir, .int .i64 x.net] 178)).alloc (.cells #[.string .empty, .int .i64 0, .int .i64 0] 125)).alloc (.cells #[.string x.name, .int .i64 x.dir, .int .i64 x.net] 125)) := (((Grows.refl w).alloc _).alloc _).alloc _
  have s0 : Blk (((w.alloc (.cells #[.string x.name, .int .i64 x.dir, .int .i64 x.net] 178)).alloc (.cells #[.string .empty, .int .i64 0, .int .i64 0] 125)).alloc (.cells #[.string x.name, .int .i64 x.dir, .int .i64 x.net] 125)) (w.heap.size) 178 #[.string x.name, .int .i64 x.dir, .int .i64 x.net] := ((Blk.new w _ _).grows ((Grows.refl _).alloc _)).grows ((Grows.refl _).alloc _)
  have r0 : Blk (((w.alloc (.cells #[.string x.name, .int .i64 x.dir, .int .i64 x.net] 178)).alloc (.cells #[.string .empty, .int .i64 0, .int .i64 0] 125)).alloc (.cells #[.string x.name, .int .i64 x.dir, .int .i64 x.net] 125)) (w.heap.size + 1) 125 #[.string .empty, .int .i64 0, .int .i64 0] := by have := (Blk.new (w.alloc (.cells #[.string x.name, .int .i64 x.dir, .int .i64 x.net] 178)) 125 #[.string .empty, .int .i64 0, .int .i64 0]).grows ((Grows.refl _).alloc (.cells #[.string x.name, .int .i64 x.dir, .int .i64 x.net] 125)); simpa using this
  have b0 : Blk (((w.alloc (.cells #[.string x.name, .int .i64 x.dir, .int .i64 x.net] 178)).alloc (.cells #[.string .empty, .int .i64 0, .int .i64 0] 125)).alloc (.cells #[.string x.name, .int .i64 x.dir, .int .i64 x.net] 125)) (w.heap.size + 1 + 1) 125 #[.string x.name, .int .i64 x.dir, .int .i64 x.net] := by have := Blk.new ((w.alloc (.cells #[.string x.name, .int .i64 x.dir, .int .i64 x.net] 178)).alloc (.cells #[.string .empty, .int .i64 0, .int .i64 0] 125)) 125 #[.string x.name, .int .i64 x.dir, .int .i64 x.net]; simpa using this
  have G0 := hideIt g0
  have S0 := hideIt s0
  have R0 := hideIt r0
  have B0 := hideIt b0
  clear g0 s0 r0 b0
  go_enter Tryz.func135, Tryz.ntmps135
  go_wp2
  refine bodyPost_ret (by simp [*, results, Tryz.results135, go_sem]; try rfl) rfl ?_
  exact ⟨_, _, _, _, rfl, ⟨rfl, Z0.out, rfl⟩, Own.nil, by repeat (first | exact Grows.refl _ | refine Grows.setCell ?_ (by simp <;> omega) _ | refine Grows.alloc ?_ _)⟩
set_option maxHeartbeats 1000000 in
theorem eqPort_same {vv0 vv1 vv2 uu0 uu1 uu2 : Value} {x : PortD} (w : World) (h : RPort w [vv0, vv1, vv2] x) (h2 : RPort w [uu0, uu1, uu2] x) :
    Calls Tryz.prog 144 #[.agg #[vv0, vv1, vv2], .agg #[uu0, uu1, uu2]] w fun e w' => e = .returned (.bool true) ∧ Grows w w' := by
  obtain ⟨rfl, rfl, rfl, kz0⟩ := h.parts
  obtain ⟨rfl, rfl, rfl, mz0⟩ := h2.parts
  clear kz0 mz0
  have g0 : Grows w ((w.alloc (.cells #[.string x.name, .int .i64 x.dir, .int .i64 x.net] 125)).alloc (.cells #[.string x.name, .int .i64 x.dir, .int .i64 x.net] 125)) := ((Grows.refl w).alloc _).alloc _
  have s0 : Blk ((w.alloc (.cells #[.string x.name, .int .i64 x.dir, .int .i64 x.net] 125)).alloc (.cells #[.string x.name, .int .i64 x.dir, .int .i64 x.net] 125)) (w.heap.size) 125 #[.string x.name, .int .i64 x.dir, .int .i64 x.net] := (Blk.new w _ _).grows ((Grows.refl _).alloc _)
  have r0 : Blk ((w.alloc (.cells #[.string x.name, .int .i64 x.dir, .int .i64 x.net] 125)).alloc (.cells #[.string x.name, .int .i64 x.dir, .int .i64 x.net] 125)) (w.heap.size + 1) 125 #[.string x.name, .int .i64 x.dir, .int .i64 x.net] := by have := Blk.new (w.alloc (.cells #[.string x.name, .int .i64 x.dir, .int .i64 x.net] 125)) 125 #[.string x.name, .int .i64 x.dir, .int .i64 x.net]; simpa using this
  have G0 := hideIt g0
  have S0 := hideIt s0
  have R0 := hideIt r0
  clear g0 s0 r0
  go_enter Tryz.func144, Tryz.ntmps144
  go_wp2
  go_ret
  exact ⟨rfl, G0.out⟩
def OPorts : World → Value → List PortD → List Nat → Prop := OList 3 125 OPort
def SmPorts (xs : List PortD) : Prop := SmL xs ∧ ∀ x ∈ xs, SmPort x
def wtPorts (xs : List PortD) : Nat := wtL wtPort xs
theorem OPorts.reads {w : World} {v : Value} {xs : List PortD} {bs : List Nat} (h : OPorts w v xs bs) : RPorts w v xs := OList.reads h fun _ _ _ h => h.reads
theorem OPorts.same {w w' : World} {v : Value} {xs : List PortD} {bs : List Nat} (h : OPorts w v xs bs) (g : SameOn bs w w') : OPorts w' v xs bs := OList.same h g fun _ _ _ h g => h.same g
theorem OPorts.lt {w : World} {v : Value} {xs : List PortD} {bs : List Nat} (h : OPorts w v xs bs) : ∀ g ∈ bs, g < w.heap.size := OList.lt h fun _ _ _ h => h.lt
theorem info_Port : (Tryz.prog.info? 125).map (fun i => (i.zero, i.size)) = some (some (.agg #[.string .empty, .int .i64 0, .int .i64 0]), 3) := by kernel_rfl
theorem bytes_Port : ∀ i, Tryz.prog.info? 125 = some i → i.bytes ≤ 256 := by
  intro i hi
  have h : (Tryz.prog.info? 125).map (fun i => decide (i.bytes ≤ 256)) = some true := by kernel_rfl
  rw [hi] at h
  simpa using h
set_option maxHeartbeats 4000000 in
theorem toPorts_o {v : Value} {xs : List PortD} (w : World) (h : RPorts w v xs) (hn : SmPorts xs) :
    Calls Tryz.prog 88 #[v] w fun e w' => ∃ (A : Option Addr) (c : Nat) (bs : List Nat), e = .returned (.slice A xs.length c) ∧ OPorts w' (.slice A xs.length c) xs bs ∧ Own w.heap.size w'.heap.size bs ∧ Grows w w' := by
  obtain ⟨i0, hi, hzz⟩ := Option.map_eq_some_iff.1 info_Port
  simp only [Prod.mk.injEq] at hzz
  obtain ⟨hz0, hz1⟩ := hzz
  have hbt := bytes_Port i0 hi
  obtain ⟨hn1, hn2⟩ := hn
  unfold SmL at hn1
  have hmk : ∀ u : World, (Instr.makeSlice 39 (.int .i64 (xs.length : Int)) (.int .i64 (xs.length : Int))).run Tryz.prog u =
      .ok (.slice (some ⟨u.heap.size, 0, none⟩) xs.length xs.length) (u.alloc (.cells (madeCells #[.string .empty, .int .i64 0, .int .i64 0] (xs.length * 3)) 125)) := fun u => by
    have h := run_make (P := Tryz.prog) u 39 125 i0 (.agg #[.string .empty, .int .i64 0, .int .i64 0]) Tryz.underlying39 hi hz0 .i64 .i64 (xs.length : Int) (xs.length : Int) (by omega) (Int.le_refl _) (by have h5 := Nat.mul_le_mul hbt hn1; have e : (i0.bytes : Int) * (xs.length : Int) = ((i0.bytes * xs.length : Nat) : Int) := (Int.natCast_mul _ _).symm; rw [e]; omega) (by omega)
    simpa [hz1, Value.cells] using h
  obtain ⟨A, c, rfl, hle, hc, hx⟩ := h.form
  have HX := hideIt hx
  have HN := hideIt hn2
  clear hx hi hz0 hz1 hbt h hn2
  go_enter Tryz.func88, Tryz.ntmps88
  go_wp2
  go_loopw [4] (fun i wr => ∃ k : Nat, k ≤ xs.length ∧ i = .int .i64 k ∧ CopyG 3 125 OPort w wr xs k) (fun i _ => xs.length - (intOf i).toNat)
  case atStart => exact ⟨0, Nat.zero_le _, rfl, CopyG.start _ (Blk.new _ _ _) (by simp [size_madeCells]) ((Grows.refl _).alloc _)⟩
  case round =>
    obtain ⟨k, hk, rfl, hco⟩ := hrel
    by_cases hlt : k < xs.length
    · obtain ⟨x, hx⟩ : ∃ x, xs[k]? = some x := ⟨_, List.getElem?_eq_getElem hlt⟩
      obtain ⟨b, off, rfl, cs, hl1, hcs, hr⟩ := HX.out k x hx
      obtain ⟨c0, c1, c2, rfl⟩ := list3 hl1
      have HST := hideIt (fun u es b => CopyG.step (u := u) (es := es) (b := b) hco (fun _ _ _ _ _ h g => OPort.same h g) hx)
      have SX := hideIt (HN.out x (List.mem_of_getElem? hx))
      obtain ⟨ds, bss, hb, hsz, -, -, hg, -⟩ := hco
      have HR : Hid (RPort wr [c0, c1, c2] x) := hideIt (hr.keep hg.keeps)
      have hs0 : wr.cell? ⟨b, off + k * 3, none⟩ = some c0 := by simpa [Nat.add_assoc] using hg.keeps _ _ (hcs 0 _ rfl)
      have hs1 : wr.cell? ⟨b, off + k * 3 + 1, none⟩ = some c1 := by simpa [Nat.add_assoc] using hg.keeps _ _ (hcs 1 _ rfl)
      have hs2 : wr.cell? ⟨b, off + k * 3 + 2, none⟩ = some c2 := by simpa [Nat.add_assoc] using hg.keeps _ _ (hcs 2 _ rfl)
      have HB := hideIt hb
      have hmul : k * 3 + 3 ≤ ds.size := by rw [hsz]; omega
      clear hcs hl1 hx hr hb hsz hmk hg
      go_wp2_with fail
      refine (toPort_o _ HR.out SX.out).mono ?_
      rintro e u ⟨y0, y1, y2, bb, rfl, ho, ow, g⟩
      obtain ⟨rfl, rfl, rfl⟩ := ho.shape
      have st := hideIt (HST.out u _ bb g ho ow rfl)
      have hbu := HB.out.grows g
      have hf := hbu.frozen
      obtain ⟨o0, hd0⟩ : ∃ o, u.cell? ⟨w.heap.size, k * 3, none⟩ = some o := ⟨_, by rw [hbu.cell]; exact Array.getElem?_eq_getElem (by omega)⟩
      obtain ⟨o1, hd1⟩ : ∃ o, u.cell? ⟨w.heap.size, k * 3 + 1, none⟩ = some o := ⟨_, by rw [hbu.cell]; exact Array.getElem?_eq_getElem (by omega)⟩
      obtain ⟨o2, hd2⟩ : ∃ o, u.cell? ⟨w.heap.size, k * 3 + 2, none⟩ = some o := ⟨_, by rw [hbu.cell]; exact Array.getElem?_eq_getElem (by omega)⟩
      clear hbu ho ow g HST HB HR
      go_wp2
      go_roundw
      case rel => exact ⟨k + 1, by omega, by go_num, st.out⟩
      case measure => simp [intOf]; omega
    · have hk2 : k = xs.length := by omega
      subst hk2
      have H := hideIt hco
      clear hco hmk
      go_wp2
      go_ret
      obtain ⟨bs, h1, h2, h3⟩ := H.out.done (by unfold maxLen; omega)
      exact ⟨_, _, bs, rfl, h1, h2, h3⟩
theorem toPorts_any {v : Value} {xs : List PortD} (w : World) (h : RPorts w v xs) (hn : SmPorts xs) :
    Calls Tryz.prog 88 #[v] w fun e w' => ∃ (v' : Value) (bs : List Nat), e = .returned v' ∧ OPorts w' v' xs bs ∧ Own w.heap.size w'.heap.size bs ∧ Grows w w' :=
  (toPorts_o w h hn).mono fun _ _ ⟨_, _, bs, he, h⟩ => ⟨_, bs, he, h⟩
set_option maxHeartbeats 4000000 in
theorem eqPorts_same {v1 v2 : Value} {xs : List PortD} (w : World) (h1 : RPorts w v1 xs) (h2 : RPorts w v2 xs) :
    Calls Tryz.prog 101 #[v1, v2] w fun e w' => e = .returned (.bool true) ∧ Grows w w' := by
  have l1 := h1.len
  obtain ⟨A, c, rfl, hle, hc, hx⟩ := h1.form
  obtain ⟨A2, c2, rfl, hle2, hc2, hy⟩ := h2.form
  have HX := hideIt hx
  have HY := hideIt hy
  have hb : ((xs.length : Int) != (xs.length : Int)) = false := by simp
  clear hx hy h1 h2 hle hle2 hc hc2
  go_enter Tryz.func101, Tryz.ntmps101
  go_wp2
  go_loopw [5] (fun i wr => ∃ k : Nat, k ≤ xs.length ∧ i = .int .i64 k ∧ Grows w wr) (fun i _ => xs.length - (intOf i).toNat)
  case atStart => exact ⟨0, Nat.zero_le _, rfl, Grows.refl _⟩
  case round =>
    obtain ⟨k, hk, rfl, hg⟩ := hrel
    by_cases hlt : k < xs.length
    · obtain ⟨x, hx⟩ : ∃ x, xs[k]? = some x := ⟨_, List.getElem?_eq_getElem hlt⟩
      obtain ⟨b, off, rfl, cs, hl1, hcs, hr⟩ := HX.out k x hx
      obtain ⟨b2, off2, rfl, cs2, hl2, hcs2, hr2⟩ := HY.out k x hx
      obtain ⟨c0, c1, c2, rfl⟩ := list3 hl1
      obtain ⟨d0, d1, d2, rfl⟩ := list3 hl2
      have HR : Hid (RPort wr [c0, c1, c2] x) := hideIt (hr.keep hg.keeps)
      have HR2 : Hid (RPort wr [d0, d1, d2] x) := hideIt (hr2.keep hg.keeps)
      have zc0 : wr.cell? ⟨b, off + k * 3, none⟩ = some c0 := by simpa [Nat.add_assoc] using hg.keeps _ _ (hcs 0 _ rfl)
      have zc1 : wr.cell? ⟨b, off + k * 3 + 1, none⟩ = some c1 := by simpa [Nat.add_assoc] using hg.keeps _ _ (hcs 1 _ rfl)
      have zc2 : wr.cell? ⟨b, off + k * 3 + 2, none⟩ = some c2 := by simpa [Nat.add_assoc] using hg.keeps _ _ (hcs 2 _ rfl)
      have zd0 : wr.cell? ⟨b2, off2 + k * 3, none⟩ = some d0 := by simpa [Nat.add_assoc] using hg.keeps _ _ (hcs2 0 _ rfl)
      have zd1 : wr.cell? ⟨b2, off2 + k * 3 + 1, none⟩ = some d1 := by simpa [Nat.add_assoc] using hg.keeps _ _ (hcs2 1 _ rfl)
      have zd2 : wr.cell? ⟨b2, off2 + k * 3 + 2, none⟩ = some d2 := by simpa [Nat.add_assoc] using hg.keeps _ _ (hcs2 2 _ rfl)
      have K0 : ∀ w', Grows wr w' → w'.cell? ⟨b, off + k * 3, none⟩ = some c0 ∧ w'.cell? ⟨b, off + k * 3 + 1, none⟩ = some c1 ∧ w'.cell? ⟨b, off + k * 3 + 2, none⟩ = some c2 ∧ w'.cell? ⟨b2, off2 + k * 3, none⟩ = some d0 ∧ w'.cell? ⟨b2, off2 + k * 3 + 1, none⟩ = some d1 ∧ w'.cell? ⟨b2, off2 + k * 3 + 2, none⟩ = some d2 ∧ Grows wr w' := fun w' G => ⟨G.keeps _ _ zc0, G.keeps _ _ zc1, G.keeps _ _ zc2, G.keeps _ _ zd0, G.keeps _ _ zd1, G.keeps _ _ zd2, G⟩
      have HK := hideIt K0
      have HG := hideIt hg
      have gg : Grows wr wr := Grows.refl _
      clear K0 hcs hcs2 hl1 hl2 hr hr2 hx hg
      go_wp2_with fail
      go_region_held3 (fun w' => w'.cell? ⟨b, off + k * 3, none⟩ = some c0 ∧ w'.cell? ⟨b, off + k * 3 + 1, none⟩ = some c1 ∧ w'.cell? ⟨b, off + k * 3 + 2, none⟩ = some c2 ∧ w'.cell? ⟨b2, off2 + k * 3, none⟩ = some d0 ∧ w'.cell? ⟨b2, off2 + k * 3 + 1, none⟩ = some d1 ∧ w'.cell? ⟨b2, off2 + k * 3 + 2, none⟩ = some d2 ∧ Grows wr w')
        ((refine HK.out _ ?_; (repeat (first | exact gg | refine Grows.drew ?_ | refine Grows.alloc ?_ _ | refine Grows.setCell ?_ (by simp <;> omega) _))))
        (first | (go_at_call 144; refine (eqPort_same _ (HR.out.keep (Grows.keeps (by (repeat (first | exact gg | refine Grows.drew ?_))))) (HR2.out.keep (Grows.keeps (by (repeat (first | exact gg | refine Grows.drew ?_)))))).mono ?_; rintro e wx ⟨rfl, g⟩; replace gg : Grows wr wx := Grows.trans (by (repeat (first | exact gg | refine Grows.drew ?_))) g))
      all_goals go_split_ands
      all_goals go_wp2
      all_goals go_roundw
      all_goals first
        | (case rel => exact ⟨k + 1, by omega, by go_num, HG.out.trans (by repeat (first | exact gg | refine Grows.drew ?_))⟩)
        | (simp [intOf]; omega)
    · have hk2 : k = xs.length := by omega
      subst hk2
      go_wp2
      go_ret
      exact ⟨rfl, hg⟩
set_option maxHeartbeats 2000000 in
theorem szPorts_w {v : Value} {xs : List PortD} (left : Int) (w : World) (h : RPorts w v xs) (h1 : 0 ≤ left) (h2 : left ≤ 1048576) :
    Calls Tryz.prog 79 #[v, .int .i64 left] w (SzPostW (SmPorts xs) (wtPorts xs) left w) := by
  have hl := h.len
  obtain ⟨A, c, rfl, hle, hc, hx⟩ := h.form
  have HX := hideIt hx
  clear hx h hle hc
  by_cases hlt : left - xs.length < 0
  · go_enter Tryz.func79, Tryz.ntmps79
    go_wp2
    go_ret
    exact ⟨_, rfl, by omega, by omega, fun h => absurd h (by omega), Grows.refl _⟩
  · go_enter Tryz.func79, Tryz.ntmps79
    go_wp2
    go_loopw [1, 5] (fun l i wr => ∃ (k : Nat) (r : Int), k ≤ xs.length ∧ l = .int .i64 r ∧ i = .int .i64 (k : Int) ∧ 0 ≤ r ∧ r ≤ 1048576 ∧ Hid ((((xs.take k).map wtPort).sum : Int) + r ≤ left - xs.length) ∧ Hid (∀ (j : Nat) (x : PortD), j < k → xs[j]? = some x → SmPort x) ∧ Grows w wr) (fun _ i _ => xs.length - (intOf i).toNat)
    case atStart => exact ⟨0, left - xs.length, Nat.zero_le _, rfl, rfl, by omega, by omega, hideIt (by simp), fun j x hj => absurd hj (by omega), Grows.refl _⟩
    case round =>
      obtain ⟨k, r, hk, rfl, rfl, hr0, hr1, hwt, hco, hg⟩ := hrel
      by_cases hk1 : k < xs.length
      · obtain ⟨x, hx⟩ : ∃ x, xs[k]? = some x := ⟨_, List.getElem?_eq_getElem hk1⟩
        obtain ⟨b, off, rfl, cs, hl1, hcs, hr⟩ := HX.out k x hx
        obtain ⟨c0, c1, c2, rfl⟩ := list3 hl1
        have HR : Hid (RPort wr [c0, c1, c2] x) := hideIt (hr.keep hg.keeps)
        have hs0 : wr.cell? ⟨b, off + k * 3, none⟩ = some c0 := by simpa [Nat.add_assoc] using hg.keeps _ _ (hcs 0 _ rfl)
        have hs1 : wr.cell? ⟨b, off + k * 3 + 1, none⟩ = some c1 := by simpa [Nat.add_assoc] using hg.keeps _ _ (hcs 1 _ rfl)
        have hs2 : wr.cell? ⟨b, off + k * 3 + 2, none⟩ = some c2 := by simpa [Nat.add_assoc] using hg.keeps _ _ (hcs 2 _ rfl)
        have X1 := hideIt hx
        have HG := hideIt hg
        clear hcs hl1 hx hr hg
        go_wp2_with fail
        refine (szPort_w _ _ HR.out hr0 hr1).mono ?_
        rintro e u ⟨r2, rfl, p1, p2, sm, g⟩
        have SM := hideIt sm
        have GU := hideIt (HG.out.trans g)
        clear sm g HG HR
        by_cases n1 : r2 < 0
        · go_wp2
          go_ret
          exact ⟨-1, rfl, by omega, by omega, fun h => absurd h (by omega), GU.out⟩
        · go_wp2
          go_roundw
          case rel => exact ⟨k + 1, r2, by omega, rfl, by go_num, by omega, by omega, hideIt (by rw [sum_take_succ X1.out]; have h1 := hwt.out; have h2 := (SM.out (by omega)).2; omega), fun j y hj hy => by
            by_cases e : j = k
            · subst e; rw [X1.out] at hy; injection hy with hy; rw [← hy]; exact (SM.out (by omega)).1
            · exact hco.out j y (by omega) hy, GU.out⟩
          case measure => simp [intOf]; omega
      · have hk2 : k = xs.length := by omega
        subst hk2
        have HC := hideIt hco.out
        clear hco
        go_wp2
        go_ret
        exact ⟨_, rfl, by omega, by omega, fun _ => ⟨⟨by unfold SmL; omega, fun x hx => by obtain ⟨i, hi⟩ := List.getElem?_of_mem hx; exact HC.out i x (lt_of_at hi) hi⟩, by have h1 := hwt.out; rw [List.take_of_length_le (Nat.le_refl _)] at h1; unfold wtPorts wtL; omega⟩, hg⟩
theorem szPorts_any {v : Value} {xs : List PortD} (left : Int) (w : World) (h : RPorts w v xs) (h1 : 0 ≤ left) (h2 : left ≤ 1048576) :
    Calls Tryz.prog 79 #[v, .int .i64 left] w (SzPost (SmPorts xs) w) := (szPorts_w left w h h1 h2).mono fun _ _ h => h.post
end Go.Proofs.YtpppobomekebdaaGreatDoor
/-
  A struct and the slices of it: owned, small, its budget, copy and equality.
-/
namespace Go.Proofs.YtpppobomekebdaaGreatDoor
open Go.RowKit

def OInst (w : World) (cs : List Value) (x : InstD) (bs : List Nat) : Prop :=
  ∃ (vv2 : Value) (b2 : List Nat), cs = [.string x.name, .int .i64 x.cell, vv2] ∧ x.name.size ≤ maxLen ∧ OInts w vv2 x.nets b2 ∧ bs = b2
theorem OInst.reads {w : World} {cs : List Value} {x : InstD} {bs : List Nat} (h : OInst w cs x bs) : RInst w cs x := by
  obtain ⟨vv2, b2, e, z0, h2, _⟩ := h
  exact ⟨vv2, e, z0, h2.reads⟩
theorem OInst.same {w w' : World} {cs : List Value} {x : InstD} {bs : List Nat} (h : OInst w cs x bs) (g : SameOn bs w w') : OInst w' cs x bs := by
  obtain ⟨vv2, b2, e, z0, h2, rfl⟩ := h
  exact ⟨vv2, _, e, z0, h2.same (g.sub (by simp +contextual)), rfl⟩
theorem OInst.lt {w : World} {cs : List Value} {x : InstD} {bs : List Nat} (h : OInst w cs x bs) : ∀ g ∈ bs, g < w.heap.size := by
  obtain ⟨vv2, b2, e, z0, h2, rfl⟩ := h
  intro g hg
  exact h2.lt g hg
def SmInst (x : InstD) : Prop := x.name.size ≤ 1048576 ∧ SmL x.nets
theorem RInst.parts {w : World} {vv0 vv1 vv2 : Value} {x : InstD} (h : RInst w [vv0, vv1, vv2] x) : (vv0 = .string x.name) ∧ (vv1 = .int .i64 x.cell) ∧ RInts w vv2 x.nets ∧ x.name.size ≤ maxLen := by
  obtain ⟨vv2', he, z0, h2⟩ := h
  injection he with e0 he
  injection he with e1 he
  injection he with e2 he
  subst e2
  exact ⟨e0, e1, h2, z0⟩
theorem OInst.shape {w : World} {vv0 vv1 vv2 : Value} {x : InstD} {bs : List Nat} (h : OInst w [vv0, vv1, vv2] x bs) : vv0 = .string x.name ∧ vv1 = .int .i64 x.cell ∧ (∃ (A : Option Addr) (n : Nat), vv2 = .slice A x.nets.length n) := by
  obtain ⟨e0, e1, e2, -⟩ := h.reads.parts
  exact ⟨e0, e1, (by obtain ⟨A, c, h, -⟩ := RList.form e2; exact ⟨A, c, h⟩)⟩
def wtInst (x : InstD) : Nat := List.length x.nets
set_option maxHeartbeats 1000000 in
theorem szInst_w {vv0 vv1 vv2 : Value} {x : InstD} (left : Int) (w : World) (h : RInst w [vv0, vv1, vv2] x) (h1 : 0 ≤ left) (h2 : left ≤ 1048576) :
    Calls Tryz.prog 132 #[.agg #[vv0, vv1, vv2], .int .i64 left] w (SzPostW (SmInst x) (wtInst x) left w) := by
  obtain ⟨rfl, rfl, k2, kz0⟩ := h.parts
  have g0 := (Grows.refl w).alloc (.cells #[.string x.name, .int .i64 x.cell, vv2] 176)
  have zs0 : (x.name.size : Int) ≤ 9223372036854775807 := by unfold maxLen at kz0; omega
  clear kz0
  have H2 := hideIt (k2.keep g0.keeps)
  have S := hideIt (Blk.new w 176 #[.string x.name, .int .i64 x.cell, vv2])
  have G := hideIt g0
  clear g0 k2
  go_enter Tryz.func132, Tryz.ntmps132
  by_cases n0 : left - (x.name.size : Int) < 0
  · go_wp2
    go_ret
    exact ⟨-1, rfl, by omega, by omega, fun h => by omega, G.out⟩
  obtain ⟨r0, er0⟩ : ∃ r : Int, r = left - (x.name.size : Int) := ⟨_, rfl⟩
  go_wp2_with fail
  refine (szInts_w _ _ H2.out (by omega) (by omega)).mono ?_
  rintro e w2 ⟨r2, rfl, p2, q2, s2, g⟩
  have S2 := hideIt s2
  clear s2
  replace G := hideIt (G.out.trans g)
  replace S := hideIt (S.out.grows g)
  clear g
  have c0 : w2.cell? ⟨w.heap.size, 0, none⟩ = some (.string x.name) := S.out.cell 0
  have c1 : w2.cell? ⟨w.heap.size, 1, none⟩ = some (.int .i64 x.cell) := S.out.cell 1
  have c2 : w2.cell? ⟨w.heap.size, 2, none⟩ = some (vv2) := S.out.cell 2
  by_cases n2 : r2 < 0
  · go_wp2
    go_ret
    exact ⟨-1, rfl, by omega, by omega, fun h => by omega, G.out⟩
  go_wp2
  go_ret
  exact ⟨_, rfl, by omega, by omega, fun _ => ⟨⟨(by omega), (S2.out (by omega)).1⟩, (by have h2 := (S2.out (by omega)).2; unfold wtInst; omega)⟩, G.out⟩
theorem szInst_any {vv0 vv1 vv2 : Value} {x : InstD} (left : Int) (w : World) (h : RInst w [vv0, vv1, vv2] x) (h1 : 0 ≤ left) (h2 : left ≤ 1048576) :
    Calls Tryz.prog 132 #[.agg #[vv0, vv1, vv2], .int .i64 left] w (SzPost (SmInst x) w) := (szInst_w left w h h1 h2).mono fun _ _ h => h.post
set_option maxHeartbeats 2000000 in
theorem toInst_o {vv0 vv1 vv2 : Value} {x : InstD} (w : World) (h : RInst w [vv0, vv1, vv2] x) (hs : SmInst x) :
    Calls Tryz.prog 134 #[.agg #[vv0, vv1, vv2]] w fun e w' => ∃ (y0_ y1_ y2_ : Value) (bs : List Nat), e = .returned (.agg #[y0_, y1_, y2_]) ∧ OInst w' [y0_, y1_, y2_] x bs ∧ Own w.heap.size w'.heap.size bs ∧ Grows w w' := by
  obtain ⟨rfl, rfl, k2, kz0⟩ := h.parts
  obtain ⟨-, s2⟩ := hs
  have H0 := hideIt k2
  have M0 := hideIt s2
  clear k2 s2
  have Z0 := hideIt kz0
  clear kz0
  have g0 : Grows w (((w.alloc (.cells #[.string x.name, .int .i64 x.cell, vv2] 176)).alloc (.cells #[.string .empty, .int .i64 0, .slice none 0 0] 123)).alloc (.cells #[.string x.name, .int .i64 x.cell, .slice none 0 0] 123)) := (((Grows.refl w).alloc _).alloc _).alloc _
  have s0 : Blk (((w.alloc (.cells #[.string x.name, .int .i64 x.cell, vv2] 176)).alloc (.cells #[.string .empty, .int .i64 0, .slice none 0 0] 123)).alloc (.cells #[.string x.name, .int .i64 x.cell, .slice none 0 0] 123)) (w.heap.size) 176 #[.string x.name, .int .i64 x.cell, vv2] := ((Blk.new w _ _).grows ((Grows.refl _).alloc _)).grows ((Grows.refl _).alloc _)
  have r0 : Blk (((w.alloc (.cells #[.string x.name, .int .i64 x.cell, vv2] 176)).alloc (.cells #[.string .empty, .int .i64 0, .slice none 0 0] 123)).alloc (.cells #[.string x.name, .int .i64 x.cell, .slice none 0 0] 123)) (w.heap.size + 1) 123 #[.string .empty, .int .i64 0, .slice none 0 0] := by have := (Blk.new (w.alloc (.cells #[.string x.name, .int .i64 x.cell, vv2] 176)) 123 #[.string .empty, .int .i64 0, .slice none 0 0]).grows ((Grows.refl _).alloc (.cells #[.string x.name, .int .i64 x.cell, .slice none 0 0] 123)); simpa using this
  have b0 : Blk (((w.alloc (.cells #[.string x.name, .int .i64 x.cell, vv2] 176)).alloc (.cells #[.string .empty, .int .i64 0, .slice none 0 0] 123)).alloc (.cells #[.string x.name, .int .i64 x.cell, .slice none 0 0] 123)) (w.heap.size + 1 + 1) 123 #[.string x.name, .int .i64 x.cell, .slice none 0 0] := by have := Blk.new ((w.alloc (.cells #[.string x.name, .int .i64 x.cell, vv2] 176)).alloc (.cells #[.string .empty, .int .i64 0, .slice none 0 0] 123)) 123 #[.string x.name, .int .i64 x.cell, .slice none 0 0]; simpa using this
  have G0 := hideIt g0
  have S0 := hideIt s0
  have R0 := hideIt r0
  have B0 := hideIt b0
  clear g0 s0 r0 b0
  go_enter Tryz.func134, Tryz.ntmps134
  go_wp2_with fail
  refine (toInts_o _ (H0.out.keep G0.out.keeps) M0.out).mono ?_
  rintro e u0 ⟨A0, c0, y0, rfl, o0, n0, g0⟩
  have s1 := S0.out.grows g0
  have ks0_0 : u0.cell? ⟨w.heap.size, 0, none⟩ = some (.string x.name) := s1.cell 0
  have ks0_1 : u0.cell? ⟨w.heap.size, 1, none⟩ = some (.int .i64 x.cell) := s1.cell 1
  have ks0_2 : u0.cell? ⟨w.heap.size, 2, none⟩ = some (vv2) := s1.cell 2
  have fs0 := s1.frozen
  have r1 := R0.out.grows g0
  have kr0_0 : u0.cell? ⟨w.heap.size + 1, 0, none⟩ = some (.string .empty) := r1.cell 0
  have kr0_1 : u0.cell? ⟨w.heap.size + 1, 1, none⟩ = some (.int .i64 0) := r1.cell 1
  have kr0_2 : u0.cell? ⟨w.heap.size + 1, 2, none⟩ = some (.slice none 0 0) := r1.cell 2
  have fr0 := r1.frozen
  have b1 := B0.out.grows g0
  have kb0_0 : u0.cell? ⟨w.heap.size + 1 + 1, 0, none⟩ = some (.string x.name) := b1.cell 0
  have kb0_1 : u0.cell? ⟨w.heap.size + 1 + 1, 1, none⟩ = some (.int .i64 x.cell) := b1.cell 1
  have kb0_2 : u0.cell? ⟨w.heap.size + 1 + 1, 2, none⟩ = some (.slice none 0 0) := b1.cell 2
  have fb0 := b1.frozen
  have z0 := b1.lt
  have v0 : w.heap.size + 1 + 1 + 1 ≤ u0.heap.size := by have := g0.size; simpa using this
  have G1 := hideIt ((G0.out.trans g0).setCell (p := ⟨w.heap.size + 1 + 1, 2, none⟩) (by simp <;> omega) (.slice A0 x.nets.length c0))
  have S1 := hideIt (s1.far (p := ⟨w.heap.size + 1 + 1, 2, none⟩) (by simp <;> omega) (.slice A0 x.nets.length c0))
  have R1 := hideIt (r1.far (p := ⟨w.heap.size + 1 + 1, 2, none⟩) (by simp <;> omega) (.slice A0 x.nets.length c0))
  have B1 := hideIt (b1.set_ 2 (.slice A0 x.nets.length c0))
  have O0 := hideIt o0
  have N0 := hideIt n0
  have Q0 := hideIt g0
  clear s1 r1 b1 o0 n0 g0
  go_wp2
  refine bodyPost_ret (by simp [*, results, Tryz.results134, go_sem]; try rfl) rfl ?_
  exact ⟨_, _, _, _, rfl, ⟨_, _, rfl, Z0.out, O0.out.same (((((SameOn.refl y0 u0).set (p := ⟨w.heap.size + 1 + 1, 2, none⟩) (fun g hg => by have := (N0.out.2 g hg).1; simp at this ⊢; omega) (.slice A0 x.nets.length c0)).set (p := ⟨w.heap.size + 1, 0, none⟩) (fun g hg => by have := (N0.out.2 g hg).1; simp at this ⊢; omega) (.string x.name)).set (p := ⟨w.heap.size + 1, 1, none⟩) (fun g hg => by have := (N0.out.2 g hg).1; simp at this ⊢; omega) (.int .i64 x.cell)).set (p := ⟨w.heap.size + 1, 2, none⟩) (fun g hg => by have := (N0.out.2 g hg).1; simp at this ⊢; omega) (.slice A0 x.nets.length c0)), rfl⟩, ((N0.out.mono (lo' := w.heap.size) (hi' := u0.heap.size) (by simp <;> omega) (Nat.le_refl _))).mono (Nat.le_refl _) (by simp), (((G1.out.setCell (p := ⟨w.heap.size + 1, 0, none⟩) (by simp <;> omega) (.string x.name)).setCell (p := ⟨w.heap.size + 1, 1, none⟩) (by simp <;> omega) (.int .i64 x.cell)).setCell (p := ⟨w.heap.size + 1, 2, none⟩) (by simp <;> omega) (.slice A0 x.nets.length c0))⟩
set_option maxHeartbeats 1000000 in
theorem eqInst_same {vv0 vv1 vv2 uu0 uu1 uu2 : Value} {x : InstD} (w : World) (h : RInst w [vv0, vv1, vv2] x) (h2 : RInst w [uu0, uu1, uu2] x) :
    Calls Tryz.prog 143 #[.agg #[vv0, vv1, vv2], .agg #[uu0, uu1, uu2]] w fun e w' => e = .returned (.bool true) ∧ Grows w w' := by
  obtain ⟨rfl, rfl, k2, kz0⟩ := h.parts
  obtain ⟨rfl, rfl, m2, mz0⟩ := h2.parts
  have H0 := hideIt k2
  have M0 := hideIt m2
  clear k2 m2
  clear kz0 mz0
  have g0 : Grows w ((w.alloc (.cells #[.string x.name, .int .i64 x.cell, vv2] 123)).alloc (.cells #[.string x.name, .int .i64 x.cell, uu2] 123)) := ((Grows.refl w).alloc _).alloc _
  have s0 : Blk ((w.alloc (.cells #[.string x.name, .int .i64 x.cell, vv2] 123)).alloc (.cells #[.string x.name, .int .i64 x.cell, uu2] 123)) (w.heap.size) 123 #[.string x.name, .int .i64 x.cell, vv2] := (Blk.new w _ _).grows ((Grows.refl _).alloc _)
  have r0 : Blk ((w.alloc (.cells #[.string x.name, .int .i64 x.cell, vv2] 123)).alloc (.cells #[.string x.name, .int .i64 x.cell, uu2] 123)) (w.heap.size + 1) 123 #[.string x.name, .int .i64 x.cell, uu2] := by have := Blk.new (w.alloc (.cells #[.string x.name, .int .i64 x.cell, vv2] 123)) 123 #[.string x.name, .int .i64 x.cell, uu2]; simpa using this
  have G0 := hideIt g0
  have S0 := hideIt s0
  have R0 := hideIt r0
  clear g0 s0 r0
  go_enter Tryz.func143, Tryz.ntmps143
  go_wp2_with fail
  refine (eqInts_same _ (H0.out.keep G0.out.keeps) (M0.out.keep G0.out.keeps)).mono ?_
  rintro e u0 ⟨rfl, g0⟩
  have s1 := S0.out.grows g0
  have ks0_0 : u0.cell? ⟨w.heap.size, 0, none⟩ = some (.string x.name) := s1.cell 0
  have ks0_1 : u0.cell? ⟨w.heap.size, 1, none⟩ = some (.int .i64 x.cell) := s1.cell 1
  have ks0_2 : u0.cell? ⟨w.heap.size, 2, none⟩ = some (vv2) := s1.cell 2
  have r1 := R0.out.grows g0
  have kr0_0 : u0.cell? ⟨w.heap.size + 1, 0, none⟩ = some (.string x.name) := r1.cell 0
  have kr0_1 : u0.cell? ⟨w.heap.size + 1, 1, none⟩ = some (.int .i64 x.cell) := r1.cell 1
  have kr0_2 : u0.cell? ⟨w.heap.size + 1, 2, none⟩ = some (uu2) := r1.cell 2
  have G1 := hideIt (G0.out.trans g0)
  have S1 := hideIt s1
  have R1 := hideIt r1
  clear s1 r1 g0
  go_wp2
  go_ret
  exact ⟨rfl, G1.out⟩
def OInsts : World → Value → List InstD → List Nat → Prop := OList 3 123 OInst
def SmInsts (xs : List InstD) : Prop := SmL xs ∧ ∀ x ∈ xs, SmInst x
def wtInsts (xs : List InstD) : Nat := wtL wtInst xs
theorem OInsts.reads {w : World} {v : Value} {xs : List InstD} {bs : List Nat} (h : OInsts w v xs bs) : RInsts w v xs := OList.reads h fun _ _ _ h => h.reads
theorem OInsts.same {w w' : World} {v : Value} {xs : List InstD} {bs : List Nat} (h : OInsts w v xs bs) (g : SameOn bs w w') : OInsts w' v xs bs := OList.same h g fun _ _ _ h g => h.same g
theorem OInsts.lt {w : World} {v : Value} {xs : List InstD} {bs : List Nat} (h : OInsts w v xs bs) : ∀ g ∈ bs, g < w.heap.size := OList.lt h fun _ _ _ h => h.lt
theorem info_Inst : (Tryz.prog.info? 123).map (fun i => (i.zero, i.size)) = some (some (.agg #[.string .empty, .int .i64 0, .slice none 0 0]), 3) := by kernel_rfl
theorem bytes_Inst : ∀ i, Tryz.prog.info? 123 = some i → i.bytes ≤ 256 := by
  intro i hi
  have h : (Tryz.prog.info? 123).map (fun i => decide (i.bytes ≤ 256)) = some true := by kernel_rfl
  rw [hi] at h
  simpa using h
set_option maxHeartbeats 4000000 in
theorem toInsts_o {v : Value} {xs : List InstD} (w : World) (h : RInsts w v xs) (hn : SmInsts xs) :
    Calls Tryz.prog 86 #[v] w fun e w' => ∃ (A : Option Addr) (c : Nat) (bs : List Nat), e = .returned (.slice A xs.length c) ∧ OInsts w' (.slice A xs.length c) xs bs ∧ Own w.heap.size w'.heap.size bs ∧ Grows w w' := by
  obtain ⟨i0, hi, hzz⟩ := Option.map_eq_some_iff.1 info_Inst
  simp only [Prod.mk.injEq] at hzz
  obtain ⟨hz0, hz1⟩ := hzz
  have hbt := bytes_Inst i0 hi
  obtain ⟨hn1, hn2⟩ := hn
  unfold SmL at hn1
  have hmk : ∀ u : World, (Instr.makeSlice 38 (.int .i64 (xs.length : Int)) (.int .i64 (xs.length : Int))).run Tryz.prog u =
      .ok (.slice (some ⟨u.heap.size, 0, none⟩) xs.length xs.length) (u.alloc (.cells (madeCells #[.string .empty, .int .i64 0, .slice none 0 0] (xs.length * 3)) 123)) := fun u => by
    have h := run_make (P := Tryz.prog) u 38 123 i0 (.agg #[.string .empty, .int .i64 0, .slice none 0 0]) Tryz.underlying38 hi hz0 .i64 .i64 (xs.length : Int) (xs.length : Int) (by omega) (Int.le_refl _) (by have h5 := Nat.mul_le_mul hbt hn1; have e : (i0.bytes : Int) * (xs.length : Int) = ((i0.bytes * xs.length : Nat) : Int) := (Int.natCast_mul _ _).symm; rw [e]; omega) (by omega)
    simpa [hz1, Value.cells] using h
  obtain ⟨A, c, rfl, hle, hc, hx⟩ := h.form
  have HX := hideIt hx
  have HN := hideIt hn2
  clear hx hi hz0 hz1 hbt h hn2
  go_enter Tryz.func86, Tryz.ntmps86
  go_wp2
  go_loopw [4] (fun i wr => ∃ k : Nat, k ≤ xs.length ∧ i = .int .i64 k ∧ CopyG 3 123 OInst w wr xs k) (fun i _ => xs.length - (intOf i).toNat)
  case atStart => exact ⟨0, Nat.zero_le _, rfl, CopyG.start _ (Blk.new _ _ _) (by simp [size_madeCells]) ((Grows.refl _).alloc _)⟩
  case round =>
    obtain ⟨k, hk, rfl, hco⟩ := hrel
    by_cases hlt : k < xs.length
    · obtain ⟨x, hx⟩ : ∃ x, xs[k]? = some x := ⟨_, List.getElem?_eq_getElem hlt⟩
      obtain ⟨b, off, rfl, cs, hl1, hcs, hr⟩ := HX.out k x hx
      obtain ⟨c0, c1, c2, rfl⟩ := list3 hl1
      have HST := hideIt (fun u es b => CopyG.step (u := u) (es := es) (b := b) hco (fun _ _ _ _ _ h g => OInst.same h g) hx)
      have SX := hideIt (HN.out x (List.mem_of_getElem? hx))
      obtain ⟨ds, bss, hb, hsz, -, -, hg, -⟩ := hco
      have HR : Hid (RInst wr [c0, c1, c2] x) := hideIt (hr.keep hg.keeps)
      have hs0 : wr.cell? ⟨b, off + k * 3, none⟩ = some c0 := by simpa [Nat.add_assoc] using hg.keeps _ _ (hcs 0 _ rfl)
      have hs1 : wr.cell? ⟨b, off + k * 3 + 1, none⟩ = some c1 := by simpa [Nat.add_assoc] using hg.keeps _ _ (hcs 1 _ rfl)
      have hs2 : wr.cell? ⟨b, off + k * 3 + 2, none⟩ = some c2 := by simpa [Nat.add_assoc] using hg.keeps _ _ (hcs 2 _ rfl)
      have HB := hideIt hb
      have hmul : k * 3 + 3 ≤ ds.size := by rw [hsz]; omega
      clear hcs hl1 hx hr hb hsz hmk hg
      go_wp2_with fail
      refine (toInst_o _ HR.out SX.out).mono ?_
      rintro e u ⟨y0, y1, y2, bb, rfl, ho, ow, g⟩
      obtain ⟨rfl, rfl, ⟨A2, m2, rfl⟩⟩ := ho.shape
      have st := hideIt (HST.out u _ bb g ho ow rfl)
      have hbu := HB.out.grows g
      have hf := hbu.frozen
      obtain ⟨o0, hd0⟩ : ∃ o, u.cell? ⟨w.heap.size, k * 3, none⟩ = some o := ⟨_, by rw [hbu.cell]; exact Array.getElem?_eq_getElem (by omega)⟩
      obtain ⟨o1, hd1⟩ : ∃ o, u.cell? ⟨w.heap.size, k * 3 + 1, none⟩ = some o := ⟨_, by rw [hbu.cell]; exact Array.getElem?_eq_getElem (by omega)⟩
      obtain ⟨o2, hd2⟩ : ∃ o, u.cell? ⟨w.heap.size, k * 3 + 2, none⟩ = some o := ⟨_, by rw [hbu.cell]; exact Array.getElem?_eq_getElem (by omega)⟩
      clear hbu ho ow g HST HB HR
      go_wp2
      go_roundw
      case rel => exact ⟨k + 1, by omega, by go_num, st.out⟩
      case measure => simp [intOf]; omega
    · have hk2 : k = xs.length := by omega
      subst hk2
      have H := hideIt hco
      clear hco hmk
      go_wp2
      go_ret
      obtain ⟨bs, h1, h2, h3⟩ := H.out.done (by unfold maxLen; omega)
      exact ⟨_, _, bs, rfl, h1, h2, h3⟩
theorem toInsts_any {v : Value} {xs : List InstD} (w : World) (h : RInsts w v xs) (hn : SmInsts xs) :
    Calls Tryz.prog 86 #[v] w fun e w' => ∃ (v' : Value) (bs : List Nat), e = .returned v' ∧ OInsts w' v' xs bs ∧ Own w.heap.size w'.heap.size bs ∧ Grows w w' :=
  (toInsts_o w h hn).mono fun _ _ ⟨_, _, bs, he, h⟩ => ⟨_, bs, he, h⟩
set_option maxHeartbeats 4000000 in
theorem eqInsts_same {v1 v2 : Value} {xs : List InstD} (w : World) (h1 : RInsts w v1 xs) (h2 : RInsts w v2 xs) :
    Calls Tryz.prog 99 #[v1, v2] w fun e w' => e = .returned (.bool true) ∧ Grows w w' := by
  have l1 := h1.len
  obtain ⟨A, c, rfl, hle, hc, hx⟩ := h1.form
  obtain ⟨A2, c2, rfl, hle2, hc2, hy⟩ := h2.form
  have HX := hideIt hx
  have HY := hideIt hy
  have hb : ((xs.length : Int) != (xs.length : Int)) = false := by simp
  clear hx hy h1 h2 hle hle2 hc hc2
  go_enter Tryz.func99, Tryz.ntmps99
  go_wp2
  go_loopw [5] (fun i wr => ∃ k : Nat, k ≤ xs.length ∧ i = .int .i64 k ∧ Grows w wr) (fun i _ => xs.length - (intOf i).toNat)
  case atStart => exact ⟨0, Nat.zero_le _, rfl, Grows.refl _⟩
  case round =>
    obtain ⟨k, hk, rfl, hg⟩ := hrel
    by_cases hlt : k < xs.length
    · obtain ⟨x, hx⟩ : ∃ x, xs[k]? = some x := ⟨_, List.getElem?_eq_getElem hlt⟩
      obtain ⟨b, off, rfl, cs, hl1, hcs, hr⟩ := HX.out k x hx
      obtain ⟨b2, off2, rfl, cs2, hl2, hcs2, hr2⟩ := HY.out k x hx
      obtain ⟨c0, c1, c2, rfl⟩ := list3 hl1
      obtain ⟨d0, d1, d2, rfl⟩ := list3 hl2
      have HR : Hid (RInst wr [c0, c1, c2] x) := hideIt (hr.keep hg.keeps)
      have HR2 : Hid (RInst wr [d0, d1, d2] x) := hideIt (hr2.keep hg.keeps)
      have zc0 : wr.cell? ⟨b, off + k * 3, none⟩ = some c0 := by simpa [Nat.add_assoc] using hg.keeps _ _ (hcs 0 _ rfl)
      have zc1 : wr.cell? ⟨b, off + k * 3 + 1, none⟩ = some c1 := by simpa [Nat.add_assoc] using hg.keeps _ _ (hcs 1 _ rfl)
      have zc2 : wr.cell? ⟨b, off + k * 3 + 2, none⟩ = some c2 := by simpa [Nat.add_assoc] using hg.keeps _ _ (hcs 2 _ rfl)
      have zd0 : wr.cell? ⟨b2, off2 + k * 3, none⟩ = some d0 := by simpa [Nat.add_assoc] using hg.keeps _ _ (hcs2 0 _ rfl)
      have zd1 : wr.cell? ⟨b2, off2 + k * 3 + 1, none⟩ = some d1 := by simpa [Nat.add_assoc] using hg.keeps _ _ (hcs2 1 _ rfl)
      have zd2 : wr.cell? ⟨b2, off2 + k * 3 + 2, none⟩ = some d2 := by simpa [Nat.add_assoc] using hg.keeps _ _ (hcs2 2 _ rfl)
      have K0 : ∀ w', Grows wr w' → w'.cell? ⟨b, off + k * 3, none⟩ = some c0 ∧ w'.cell? ⟨b, off + k * 3 + 1, none⟩ = some c1 ∧ w'.cell? ⟨b, off + k * 3 + 2, none⟩ = some c2 ∧ w'.cell? ⟨b2, off2 + k * 3, none⟩ = some d0 ∧ w'.cell? ⟨b2, off2 + k * 3 + 1, none⟩ = some d1 ∧ w'.cell? ⟨b2, off2 + k * 3 + 2, none⟩ = some d2 ∧ Grows wr w' := fun w' G => ⟨G.keeps _ _ zc0, G.keeps _ _ zc1, G.keeps _ _ zc2, G.keeps _ _ zd0, G.keeps _ _ zd1, G.keeps _ _ zd2, G⟩
      have HK := hideIt K0
      have HG := hideIt hg
      have gg : Grows wr wr := Grows.refl _
      clear K0 hcs hcs2 hl1 hl2 hr hr2 hx hg
      go_wp2_with fail
      go_region_held3 (fun w' => w'.cell? ⟨b, off + k * 3, none⟩ = some c0 ∧ w'.cell? ⟨b, off + k * 3 + 1, none⟩ = some c1 ∧ w'.cell? ⟨b, off + k * 3 + 2, none⟩ = some c2 ∧ w'.cell? ⟨b2, off2 + k * 3, none⟩ = some d0 ∧ w'.cell? ⟨b2, off2 + k * 3 + 1, none⟩ = some d1 ∧ w'.cell? ⟨b2, off2 + k * 3 + 2, none⟩ = some d2 ∧ Grows wr w')
        ((refine HK.out _ ?_; (repeat (first | exact gg | refine Grows.drew ?_ | refine Grows.alloc ?_ _ | refine Grows.setCell ?_ (by simp <;> omega) _))))
        (first | (go_at_call 143; refine (eqInst_same _ (HR.out.keep (Grows.keeps (by (repeat (first | exact gg | refine Grows.drew ?_))))) (HR2.out.keep (Grows.keeps (by (repeat (first | exact gg | refine Grows.drew ?_)))))).mono ?_; rintro e wx ⟨rfl, g⟩; replace gg : Grows wr wx := Grows.trans (by (repeat (first | exact gg | refine Grows.drew ?_))) g))
      all_goals go_split_ands
      all_goals go_wp2
      all_goals go_roundw
      all_goals first
        | (case rel => exact ⟨k + 1, by omega, by go_num, HG.out.trans (by repeat (first | exact gg | refine Grows.drew ?_))⟩)
        | (simp [intOf]; omega)
    · have hk2 : k = xs.length := by omega
      subst hk2
      go_wp2
      go_ret
      exact ⟨rfl, hg⟩
set_option maxHeartbeats 2000000 in
theorem szInsts_w {v : Value} {xs : List InstD} (left : Int) (w : World) (h : RInsts w v xs) (h1 : 0 ≤ left) (h2 : left ≤ 1048576) :
    Calls Tryz.prog 77 #[v, .int .i64 left] w (SzPostW (SmInsts xs) (wtInsts xs) left w) := by
  have hl := h.len
  obtain ⟨A, c, rfl, hle, hc, hx⟩ := h.form
  have HX := hideIt hx
  clear hx h hle hc
  by_cases hlt : left - xs.length < 0
  · go_enter Tryz.func77, Tryz.ntmps77
    go_wp2
    go_ret
    exact ⟨_, rfl, by omega, by omega, fun h => absurd h (by omega), Grows.refl _⟩
  · go_enter Tryz.func77, Tryz.ntmps77
    go_wp2
    go_loopw [1, 5] (fun l i wr => ∃ (k : Nat) (r : Int), k ≤ xs.length ∧ l = .int .i64 r ∧ i = .int .i64 (k : Int) ∧ 0 ≤ r ∧ r ≤ 1048576 ∧ Hid ((((xs.take k).map wtInst).sum : Int) + r ≤ left - xs.length) ∧ Hid (∀ (j : Nat) (x : InstD), j < k → xs[j]? = some x → SmInst x) ∧ Grows w wr) (fun _ i _ => xs.length - (intOf i).toNat)
    case atStart => exact ⟨0, left - xs.length, Nat.zero_le _, rfl, rfl, by omega, by omega, hideIt (by simp), fun j x hj => absurd hj (by omega), Grows.refl _⟩
    case round =>
      obtain ⟨k, r, hk, rfl, rfl, hr0, hr1, hwt, hco, hg⟩ := hrel
      by_cases hk1 : k < xs.length
      · obtain ⟨x, hx⟩ : ∃ x, xs[k]? = some x := ⟨_, List.getElem?_eq_getElem hk1⟩
        obtain ⟨b, off, rfl, cs, hl1, hcs, hr⟩ := HX.out k x hx
        obtain ⟨c0, c1, c2, rfl⟩ := list3 hl1
        have HR : Hid (RInst wr [c0, c1, c2] x) := hideIt (hr.keep hg.keeps)
        have hs0 : wr.cell? ⟨b, off + k * 3, none⟩ = some c0 := by simpa [Nat.add_assoc] using hg.keeps _ _ (hcs 0 _ rfl)
        have hs1 : wr.cell? ⟨b, off + k * 3 + 1, none⟩ = some c1 := by simpa [Nat.add_assoc] using hg.keeps _ _ (hcs 1 _ rfl)
        have hs2 : wr.cell? ⟨b, off + k * 3 + 2, none⟩ = some c2 := by simpa [Nat.add_assoc] using hg.keeps _ _ (hcs 2 _ rfl)
        have X1 := hideIt hx
        have HG := hideIt hg
        clear hcs hl1 hx hr hg
        go_wp2_with fail
        refine (szInst_w _ _ HR.out hr0 hr1).mono ?_
        rintro e u ⟨r2, rfl, p1, p2, sm, g⟩
        have SM := hideIt sm
        have GU := hideIt (HG.out.trans g)
        clear sm g HG HR
        by_cases n1 : r2 < 0
        · go_wp2
          go_ret
          exact ⟨-1, rfl, by omega, by omega, fun h => absurd h (by omega), GU.out⟩
        · go_wp2
          go_roundw
          case rel => exact ⟨k + 1, r2, by omega, rfl, by go_num, by omega, by omega, hideIt (by rw [sum_take_succ X1.out]; have h1 := hwt.out; have h2 := (SM.out (by omega)).2; omega), fun j y hj hy => by
            by_cases e : j = k
            · subst e; rw [X1.out] at hy; injection hy with hy; rw [← hy]; exact (SM.out (by omega)).1
            · exact hco.out j y (by omega) hy, GU.out⟩
          case measure => simp [intOf]; omega
      · have hk2 : k = xs.length := by omega
        subst hk2
        have HC := hideIt hco.out
        clear hco
        go_wp2
        go_ret
        exact ⟨_, rfl, by omega, by omega, fun _ => ⟨⟨by unfold SmL; omega, fun x hx => by obtain ⟨i, hi⟩ := List.getElem?_of_mem hx; exact HC.out i x (lt_of_at hi) hi⟩, by have h1 := hwt.out; rw [List.take_of_length_le (Nat.le_refl _)] at h1; unfold wtInsts wtL; omega⟩, hg⟩
theorem szInsts_any {v : Value} {xs : List InstD} (left : Int) (w : World) (h : RInsts w v xs) (h1 : 0 ≤ left) (h2 : left ≤ 1048576) :
    Calls Tryz.prog 77 #[v, .int .i64 left] w (SzPost (SmInsts xs) w) := (szInsts_w left w h h1 h2).mono fun _ _ h => h.post
end Go.Proofs.YtpppobomekebdaaGreatDoor
/-
  A struct and the slices of it: owned, small, its budget, copy and equality.
-/
namespace Go.Proofs.YtpppobomekebdaaGreatDoor
open Go.RowKit

def ODesign (w : World) (cs : List Value) (x : DesignD) (bs : List Nat) : Prop :=
  ∃ (vv0 vv1 vv2 : Value) (b0 b1 b2 : List Nat), cs = [vv0, vv1, vv2] ∧ OInsts w vv0 x.insts b0 ∧ OStrs w vv1 x.nets b1 ∧ OPorts w vv2 x.ports b2 ∧ bs = b0 ++ b1 ++ b2
theorem ODesign.reads {w : World} {cs : List Value} {x : DesignD} {bs : List Nat} (h : ODesign w cs x bs) : RDesign w cs x := by
  obtain ⟨vv0, vv1, vv2, b0, b1, b2, e, h0, h1, h2, _⟩ := h
  exact ⟨vv0, vv1, vv2, e, h0.reads, h1.reads, h2.reads⟩
theorem ODesign.same {w w' : World} {cs : List Value} {x : DesignD} {bs : List Nat} (h : ODesign w cs x bs) (g : SameOn bs w w') : ODesign w' cs x bs := by
  obtain ⟨vv0, vv1, vv2, b0, b1, b2, e, h0, h1, h2, rfl⟩ := h
  exact ⟨vv0, vv1, vv2, _, _, _, e, h0.same (g.sub (by simp +contextual)), h1.same (g.sub (by simp +contextual)), h2.same (g.sub (by simp +contextual)), rfl⟩
theorem ODesign.lt {w : World} {cs : List Value} {x : DesignD} {bs : List Nat} (h : ODesign w cs x bs) : ∀ g ∈ bs, g < w.heap.size := by
  obtain ⟨vv0, vv1, vv2, b0, b1, b2, e, h0, h1, h2, rfl⟩ := h
  intro g hg
  simp only [List.mem_append] at hg
  rcases hg with ((hg | hg) | hg)
  · exact h0.lt g hg
  · exact h1.lt g hg
  · exact h2.lt g hg
def SmDesign (x : DesignD) : Prop := SmInsts x.insts ∧ SmStrs x.nets ∧ SmPorts x.ports
theorem RDesign.parts {w : World} {vv0 vv1 vv2 : Value} {x : DesignD} (h : RDesign w [vv0, vv1, vv2] x) : RInsts w vv0 x.insts ∧ RStrs w vv1 x.nets ∧ RPorts w vv2 x.ports := by
  obtain ⟨vv0', vv1', vv2', he, h0, h1, h2⟩ := h
  injection he with e0 he
  injection he with e1 he
  injection he with e2 he
  subst e0 e1 e2
  exact ⟨h0, h1, h2⟩
theorem ODesign.shape {w : World} {vv0 vv1 vv2 : Value} {x : DesignD} {bs : List Nat} (h : ODesign w [vv0, vv1, vv2] x bs) : (∃ (A : Option Addr) (n : Nat), vv0 = .slice A x.insts.length n) ∧ (∃ (A : Option Addr) (n : Nat), vv1 = .slice A x.nets.length n) ∧ (∃ (A : Option Addr) (n : Nat), vv2 = .slice A x.ports.length n) := by
  obtain ⟨e0, e1, e2⟩ := h.reads.parts
  exact ⟨(by obtain ⟨A, c, h, -⟩ := RList.form e0; exact ⟨A, c, h⟩), (by obtain ⟨A, c, h, -⟩ := RList.form e1; exact ⟨A, c, h⟩), (by obtain ⟨A, c, h, -⟩ := RList.form e2; exact ⟨A, c, h⟩)⟩
def wtDesign (x : DesignD) : Nat := wtInsts x.insts + List.length x.nets + wtPorts x.ports
set_option maxHeartbeats 1000000 in
theorem szDesign_w {vv0 vv1 vv2 : Value} {x : DesignD} (left : Int) (w : World) (h : RDesign w [vv0, vv1, vv2] x) (h1 : 0 ≤ left) (h2 : left ≤ 1048576) :
    Calls Tryz.prog 33 #[.agg #[vv0, vv1, vv2], .int .i64 left] w (SzPostW (SmDesign x) (wtDesign x) left w) := by
  obtain ⟨k0, k1, k2⟩ := h.parts
  have g0 := (Grows.refl w).alloc (.cells #[vv0, vv1, vv2] 29)
  have H0 := hideIt (k0.keep g0.keeps)
  have H1 := hideIt (k1.keep g0.keeps)
  have H2 := hideIt (k2.keep g0.keeps)
  have S := hideIt (Blk.new w 29 #[vv0, vv1, vv2])
  have G := hideIt g0
  clear g0 k0 k1 k2
  go_enter Tryz.func33, Tryz.ntmps33
  go_wp2_with fail
  refine (szInsts_w _ _ H0.out (by omega) (by omega)).mono ?_
  rintro e w0 ⟨r0, rfl, p0, q0, s0, g⟩
  have S0 := hideIt s0
  clear s0
  replace G := hideIt (G.out.trans g)
  replace S := hideIt (S.out.grows g)
  replace H1 := hideIt (H1.out.keep g.keeps)
  replace H2 := hideIt (H2.out.keep g.keeps)
  clear g
  have c0 : w0.cell? ⟨w.heap.size, 0, none⟩ = some (vv0) := S.out.cell 0
  have c1 : w0.cell? ⟨w.heap.size, 1, none⟩ = some (vv1) := S.out.cell 1
  have c2 : w0.cell? ⟨w.heap.size, 2, none⟩ = some (vv2) := S.out.cell 2
  by_cases n0 : r0 < 0
  · go_wp2
    go_ret
    exact ⟨-1, rfl, by omega, by omega, fun h => by omega, G.out⟩
  go_wp2_with fail
  clear c0 c1 c2
  refine (szStrs_w _ _ H1.out (by omega) (by omega)).mono ?_
  rintro e w1 ⟨r1, rfl, p1, q1, s1, g⟩
  have S1 := hideIt s1
  clear s1
  replace G := hideIt (G.out.trans g)
  replace S := hideIt (S.out.grows g)
  replace H2 := hideIt (H2.out.keep g.keeps)
  clear g
  have c0 : w1.cell? ⟨w.heap.size, 0, none⟩ = some (vv0) := S.out.cell 0
  have c1 : w1.cell? ⟨w.heap.size, 1, none⟩ = some (vv1) := S.out.cell 1
  have c2 : w1.cell? ⟨w.heap.size, 2, none⟩ = some (vv2) := S.out.cell 2
  by_cases n1 : r1 < 0
  · go_wp2
    go_ret
    exact ⟨-1, rfl, by omega, by omega, fun h => by omega, G.out⟩
  go_wp2_with fail
  clear c0 c1 c2
  refine (szPorts_w _ _ H2.out (by omega) (by omega)).mono ?_
  rintro e w2 ⟨r2, rfl, p2, q2, s2, g⟩
  have S2 := hideIt s2
  clear s2
  replace G := hideIt (G.out.trans g)
  replace S := hideIt (S.out.grows g)
  clear g
  have c0 : w2.cell? ⟨w.heap.size, 0, none⟩ = some (vv0) := S.out.cell 0
  have c1 : w2.cell? ⟨w.heap.size, 1, none⟩ = some (vv1) := S.out.cell 1
  have c2 : w2.cell? ⟨w.heap.size, 2, none⟩ = some (vv2) := S.out.cell 2
  by_cases n2 : r2 < 0
  · go_wp2
    go_ret
    exact ⟨-1, rfl, by omega, by omega, fun h => by omega, G.out⟩
  go_wp2
  go_ret
  exact ⟨_, rfl, by omega, by omega, fun _ => ⟨⟨(S0.out (by omega)).1, (S1.out (by omega)).1, (S2.out (by omega)).1⟩, (by have h0 := (S0.out (by omega)).2; have h1 := (S1.out (by omega)).2; have h2 := (S2.out (by omega)).2; unfold wtDesign; omega)⟩, G.out⟩
theorem szDesign_any {vv0 vv1 vv2 : Value} {x : DesignD} (left : Int) (w : World) (h : RDesign w [vv0, vv1, vv2] x) (h1 : 0 ≤ left) (h2 : left ≤ 1048576) :
    Calls Tryz.prog 33 #[.agg #[vv0, vv1, vv2], .int .i64 left] w (SzPost (SmDesign x) w) := (szDesign_w left w h h1 h2).mono fun _ _ h => h.post
set_option maxHeartbeats 2000000 in
theorem toDesign_o {vv0 vv1 vv2 : Value} {x : DesignD} (w : World) (h : RDesign w [vv0, vv1, vv2] x) (hs : SmDesign x) :
    Calls Tryz.prog 39 #[.agg #[vv0, vv1, vv2]] w fun e w' => ∃ (y0_ y1_ y2_ : Value) (bs : List Nat), e = .returned (.agg #[y0_, y1_, y2_]) ∧ ODesign w' [y0_, y1_, y2_] x bs ∧ Own w.heap.size w'.heap.size bs ∧ Grows w w' := by
  obtain ⟨k0, k1, k2⟩ := h.parts
  obtain ⟨s0, s1, s2⟩ := hs
  have H0 := hideIt k0
  have M0 := hideIt s0
  have H1 := hideIt k1
  have M1 := hideIt s1
  have H2 := hideIt k2
  have M2 := hideIt s2
  clear k0 s0 k1 s1 k2 s2
  have g0 : Grows w (((w.alloc (.cells #[vv0, vv1, vv2] 29)).alloc (.cells #[.slice none 0 0, .slice none 0 0, .slice none 0 0] 41)).alloc (.cells #[.slice none 0 0, .slice none 0 0, .slice none 0 0] 41)) := (((Grows.refl w).alloc _).alloc _).alloc _
  have s0 : Blk (((w.alloc (.cells #[vv0, vv1, vv2] 29)).alloc (.cells #[.slice none 0 0, .slice none 0 0, .slice none 0 0] 41)).alloc (.cells #[.slice none 0 0, .slice none 0 0, .slice none 0 0] 41)) (w.heap.size) 29 #[vv0, vv1, vv2] := ((Blk.new w _ _).grows ((Grows.refl _).alloc _)).grows ((Grows.refl _).alloc _)
  have r0 : Blk (((w.alloc (.cells #[vv0, vv1, vv2] 29)).alloc (.cells #[.slice none 0 0, .slice none 0 0, .slice none 0 0] 41)).alloc (.cells #[.slice none 0 0, .slice none 0 0, .slice none 0 0] 41)) (w.heap.size + 1) 41 #[.slice none 0 0, .slice none 0 0, .slice none 0 0] := by have := (Blk.new (w.alloc (.cells #[vv0, vv1, vv2] 29)) 41 #[.slice none 0 0, .slice none 0 0, .slice none 0 0]).grows ((Grows.refl _).alloc (.cells #[.slice none 0 0, .slice none 0 0, .slice none 0 0] 41)); simpa using this
  have b0 : Blk (((w.alloc (.cells #[vv0, vv1, vv2] 29)).alloc (.cells #[.slice none 0 0, .slice none 0 0, .slice none 0 0] 41)).alloc (.cells #[.slice none 0 0, .slice none 0 0, .slice none 0 0] 41)) (w.heap.size + 1 + 1) 41 #[.slice none 0 0, .slice none 0 0, .slice none 0 0] := by have := Blk.new ((w.alloc (.cells #[vv0, vv1, vv2] 29)).alloc (.cells #[.slice none 0 0, .slice none 0 0, .slice none 0 0] 41)) 41 #[.slice none 0 0, .slice none 0 0, .slice none 0 0]; simpa using this
  have G0 := hideIt g0
  have S0 := hideIt s0
  have R0 := hideIt r0
  have B0 := hideIt b0
  clear g0 s0 r0 b0
  go_enter Tryz.func39, Tryz.ntmps39
  go_wp2_with fail
  refine (toInsts_o _ (H0.out.keep G0.out.keeps) M0.out).mono ?_
  rintro e u0 ⟨A0, c0, y0, rfl, o0, n0, g0⟩
  have s1 := S0.out.grows g0
  have ks0_0 : u0.cell? ⟨w.heap.size, 0, none⟩ = some (vv0) := s1.cell 0
  have ks0_1 : u0.cell? ⟨w.heap.size, 1, none⟩ = some (vv1) := s1.cell 1
  have ks0_2 : u0.cell? ⟨w.heap.size, 2, none⟩ = some (vv2) := s1.cell 2
  have fs0 := s1.frozen
  have r1 := R0.out.grows g0
  have kr0_0 : u0.cell? ⟨w.heap.size + 1, 0, none⟩ = some (.slice none 0 0) := r1.cell 0
  have kr0_1 : u0.cell? ⟨w.heap.size + 1, 1, none⟩ = some (.slice none 0 0) := r1.cell 1
  have kr0_2 : u0.cell? ⟨w.heap.size + 1, 2, none⟩ = some (.slice none 0 0) := r1.cell 2
  have fr0 := r1.frozen
  have b1 := B0.out.grows g0
  have kb0_0 : u0.cell? ⟨w.heap.size + 1 + 1, 0, none⟩ = some (.slice none 0 0) := b1.cell 0
  have kb0_1 : u0.cell? ⟨w.heap.size + 1 + 1, 1, none⟩ = some (.slice none 0 0) := b1.cell 1
  have kb0_2 : u0.cell? ⟨w.heap.size + 1 + 1, 2, none⟩ = some (.slice none 0 0) := b1.cell 2
  have fb0 := b1.frozen
  have z0 := b1.lt
  have v0 : w.heap.size + 1 + 1 + 1 ≤ u0.heap.size := by have := g0.size; simpa using this
  have G1 := hideIt ((G0.out.trans g0).setCell (p := ⟨w.heap.size + 1 + 1, 0, none⟩) (by simp <;> omega) (.slice A0 x.insts.length c0))
  have S1 := hideIt (s1.far (p := ⟨w.heap.size + 1 + 1, 0, none⟩) (by simp <;> omega) (.slice A0 x.insts.length c0))
  have R1 := hideIt (r1.far (p := ⟨w.heap.size + 1 + 1, 0, none⟩) (by simp <;> omega) (.slice A0 x.insts.length c0))
  have B1 := hideIt (b1.set_ 0 (.slice A0 x.insts.length c0))
  have O0 := hideIt o0
  have N0 := hideIt n0
  have Q0 := hideIt g0
  clear s1 r1 b1 o0 n0 g0
  go_wp2_with fail
  clear ks0_0 kr0_0 kb0_0 ks0_1 kr0_1 kb0_1 ks0_2 kr0_2 kb0_2 fs0 fr0 fb0
  refine (toStrs_o _ (H1.out.keep G1.out.keeps) M1.out).mono ?_
  rintro e u1 ⟨A1, c1, y1, rfl, o1, n1, g1⟩
  have s2 := S1.out.grows g1
  have ks1_0 : u1.cell? ⟨w.heap.size, 0, none⟩ = some (vv0) := s2.cell 0
  have ks1_1 : u1.cell? ⟨w.heap.size, 1, none⟩ = some (vv1) := s2.cell 1
  have ks1_2 : u1.cell? ⟨w.heap.size, 2, none⟩ = some (vv2) := s2.cell 2
  have fs1 := s2.frozen
  have r2 := R1.out.grows g1
  have kr1_0 : u1.cell? ⟨w.heap.size + 1, 0, none⟩ = some (.slice none 0 0) := r2.cell 0
  have kr1_1 : u1.cell? ⟨w.heap.size + 1, 1, none⟩ = some (.slice none 0 0) := r2.cell 1
  have kr1_2 : u1.cell? ⟨w.heap.size + 1, 2, none⟩ = some (.slice none 0 0) := r2.cell 2
  have fr1 := r2.frozen
  have b2 := B1.out.grows g1
  have kb1_0 : u1.cell? ⟨w.heap.size + 1 + 1, 0, none⟩ = some (.slice A0 x.insts.length c0) := b2.cell 0
  have kb1_1 : u1.cell? ⟨w.heap.size + 1 + 1, 1, none⟩ = some (.slice none 0 0) := b2.cell 1
  have kb1_2 : u1.cell? ⟨w.heap.size + 1 + 1, 2, none⟩ = some (.slice none 0 0) := b2.cell 2
  have fb1 := b2.frozen
  have z1 := b2.lt
  have v1 : u0.heap.size ≤ u1.heap.size := by have := g1.size; simpa using this
  have G2 := hideIt ((G1.out.trans g1).setCell (p := ⟨w.heap.size + 1 + 1, 1, none⟩) (by simp <;> omega) (.slice A1 x.nets.length c1))
  have S2 := hideIt (s2.far (p := ⟨w.heap.size + 1 + 1, 1, none⟩) (by simp <;> omega) (.slice A1 x.nets.length c1))
  have R2 := hideIt (r2.far (p := ⟨w.heap.size + 1 + 1, 1, none⟩) (by simp <;> omega) (.slice A1 x.nets.length c1))
  have B2 := hideIt (b2.set_ 1 (.slice A1 x.nets.length c1))
  have O1 := hideIt o1
  have N1 := hideIt n1
  have Q1 := hideIt g1
  clear s2 r2 b2 o1 n1 g1
  go_wp2_with fail
  clear ks1_0 kr1_0 kb1_0 ks1_1 kr1_1 kb1_1 ks1_2 kr1_2 kb1_2 fs1 fr1 fb1
  refine (toPorts_o _ (H2.out.keep G2.out.keeps) M2.out).mono ?_
  rintro e u2 ⟨A2, c2, y2, rfl, o2, n2, g2⟩
  have s3 := S2.out.grows g2
  have ks2_0 : u2.cell? ⟨w.heap.size, 0, none⟩ = some (vv0) := s3.cell 0
  have ks2_1 : u2.cell? ⟨w.heap.size, 1, none⟩ = some (vv1) := s3.cell 1
  have ks2_2 : u2.cell? ⟨w.heap.size, 2, none⟩ = some (vv2) := s3.cell 2
  have fs2 := s3.frozen
  have r3 := R2.out.grows g2
  have kr2_0 : u2.cell? ⟨w.heap.size + 1, 0, none⟩ = some (.slice none 0 0) := r3.cell 0
  have kr2_1 : u2.cell? ⟨w.heap.size + 1, 1, none⟩ = some (.slice none 0 0) := r3.cell 1
  have kr2_2 : u2.cell? ⟨w.heap.size + 1, 2, none⟩ = some (.slice none 0 0) := r3.cell 2
  have fr2 := r3.frozen
  have b3 := B2.out.grows g2
  have kb2_0 : u2.cell? ⟨w.heap.size + 1 + 1, 0, none⟩ = some (.slice A0 x.insts.length c0) := b3.cell 0
  have kb2_1 : u2.cell? ⟨w.heap.size + 1 + 1, 1, none⟩ = some (.slice A1 x.nets.length c1) := b3.cell 1
  have kb2_2 : u2.cell? ⟨w.heap.size + 1 + 1, 2, none⟩ = some (.slice none 0 0) := b3.cell 2
  have fb2 := b3.frozen
  have z2 := b3.lt
  have v2 : u1.heap.size ≤ u2.heap.size := by have := g2.size; simpa using this
  have G3 := hideIt ((G2.out.trans g2).setCell (p := ⟨w.heap.size + 1 + 1, 2, none⟩) (by simp <;> omega) (.slice A2 x.ports.length c2))
  have S3 := hideIt (s3.far (p := ⟨w.heap.size + 1 + 1, 2, none⟩) (by simp <;> omega) (.slice A2 x.ports.length c2))
  have R3 := hideIt (r3.far (p := ⟨w.heap.size + 1 + 1, 2, none⟩) (by simp <;> omega) (.slice A2 x.ports.length c2))
  have B3 := hideIt (b3.set_ 2 (.slice A2 x.ports.length c2))
  have O2 := hideIt o2
  have N2 := hideIt n2
  have Q2 := hideIt g2
  clear s3 r3 b3 o2 n2 g2
  go_wp2
  refine bodyPost_ret (by simp [*, results, Tryz.results39, go_sem]; try rfl) rfl ?_
  exact ⟨_, _, _, _, rfl, ⟨_, _, _, _, _, _, rfl, O0.out.same (((((((((SameOn.refl y0 u0).set (p := ⟨w.heap.size + 1 + 1, 0, none⟩) (fun g hg => by have := (N0.out.2 g hg).1; simp at this ⊢; omega) (.slice A0 x.insts.length c0)).grows (fun g hg => by have := (N0.out.2 g hg).2; simp; omega) Q1.out).set (p := ⟨w.heap.size + 1 + 1, 1, none⟩) (fun g hg => by have := (N0.out.2 g hg).1; simp at this ⊢; omega) (.slice A1 x.nets.length c1)).grows (fun g hg => by have := (N0.out.2 g hg).2; simp; omega) Q2.out).set (p := ⟨w.heap.size + 1 + 1, 2, none⟩) (fun g hg => by have := (N0.out.2 g hg).1; simp at this ⊢; omega) (.slice A2 x.ports.length c2)).set (p := ⟨w.heap.size + 1, 0, none⟩) (fun g hg => by have := (N0.out.2 g hg).1; simp at this ⊢; omega) (.slice A0 x.insts.length c0)).set (p := ⟨w.heap.size + 1, 1, none⟩) (fun g hg => by have := (N0.out.2 g hg).1; simp at this ⊢; omega) (.slice A1 x.nets.length c1)).set (p := ⟨w.heap.size + 1, 2, none⟩) (fun g hg => by have := (N0.out.2 g hg).1; simp at this ⊢; omega) (.slice A2 x.ports.length c2)), O1.out.same (((((((SameOn.refl y1 u1).set (p := ⟨w.heap.size + 1 + 1, 1, none⟩) (fun g hg => by have := (N1.out.2 g hg).1; simp at this ⊢; omega) (.slice A1 x.nets.length c1)).grows (fun g hg => by have := (N1.out.2 g hg).2; simp; omega) Q2.out).set (p := ⟨w.heap.size + 1 + 1, 2, none⟩) (fun g hg => by have := (N1.out.2 g hg).1; simp at this ⊢; omega) (.slice A2 x.ports.length c2)).set (p := ⟨w.heap.size + 1, 0, none⟩) (fun g hg => by have := (N1.out.2 g hg).1; simp at this ⊢; omega) (.slice A0 x.insts.length c0)).set (p := ⟨w.heap.size + 1, 1, none⟩) (fun g hg => by have := (N1.out.2 g hg).1; simp at this ⊢; omega) (.slice A1 x.nets.length c1)).set (p := ⟨w.heap.size + 1, 2, none⟩) (fun g hg => by have := (N1.out.2 g hg).1; simp at this ⊢; omega) (.slice A2 x.ports.length c2)), O2.out.same (((((SameOn.refl y2 u2).set (p := ⟨w.heap.size + 1 + 1, 2, none⟩) (fun g hg => by have := (N2.out.2 g hg).1; simp at this ⊢; omega) (.slice A2 x.ports.length c2)).set (p := ⟨w.heap.size + 1, 0, none⟩) (fun g hg => by have := (N2.out.2 g hg).1; simp at this ⊢; omega) (.slice A0 x.insts.length c0)).set (p := ⟨w.heap.size + 1, 1, none⟩) (fun g hg => by have := (N2.out.2 g hg).1; simp at this ⊢; omega) (.slice A1 x.nets.length c1)).set (p := ⟨w.heap.size + 1, 2, none⟩) (fun g hg => by have := (N2.out.2 g hg).1; simp at this ⊢; omega) (.slice A2 x.ports.length c2)), rfl⟩, ((Own.append (Own.append (N0.out.mono (lo' := w.heap.size) (hi' := u0.heap.size) (by simp <;> omega) (Nat.le_refl _)) (N1.out.mono (lo' := u0.heap.size) (hi' := u1.heap.size) (by simp <;> omega) (Nat.le_refl _)) (by omega) (by omega)) (N2.out.mono (lo' := u1.heap.size) (hi' := u2.heap.size) (by simp <;> omega) (Nat.le_refl _)) (by omega) (by omega))).mono (Nat.le_refl _) (by simp), (((G3.out.setCell (p := ⟨w.heap.size + 1, 0, none⟩) (by simp <;> omega) (.slice A0 x.insts.length c0)).setCell (p := ⟨w.heap.size + 1, 1, none⟩) (by simp <;> omega) (.slice A1 x.nets.length c1)).setCell (p := ⟨w.heap.size + 1, 2, none⟩) (by simp <;> omega) (.slice A2 x.ports.length c2))⟩
set_option maxHeartbeats 1000000 in
theorem eqDesign_same {vv0 vv1 vv2 uu0 uu1 uu2 : Value} {x : DesignD} (w : World) (h : RDesign w [vv0, vv1, vv2] x) (h2 : RDesign w [uu0, uu1, uu2] x) :
    Calls Tryz.prog 45 #[.agg #[vv0, vv1, vv2], .agg #[uu0, uu1, uu2]] w fun e w' => e = .returned (.bool true) ∧ Grows w w' := by
  obtain ⟨k0, k1, k2⟩ := h.parts
  obtain ⟨m0, m1, m2⟩ := h2.parts
  have H0 := hideIt k0
  have M0 := hideIt m0
  have H1 := hideIt k1
  have M1 := hideIt m1
  have H2 := hideIt k2
  have M2 := hideIt m2
  clear k0 m0 k1 m1 k2 m2
  have g0 : Grows w ((w.alloc (.cells #[vv0, vv1, vv2] 41)).alloc (.cells #[uu0, uu1, uu2] 41)) := ((Grows.refl w).alloc _).alloc _
  have s0 : Blk ((w.alloc (.cells #[vv0, vv1, vv2] 41)).alloc (.cells #[uu0, uu1, uu2] 41)) (w.heap.size) 41 #[vv0, vv1, vv2] := (Blk.new w _ _).grows ((Grows.refl _).alloc _)
  have r0 : Blk ((w.alloc (.cells #[vv0, vv1, vv2] 41)).alloc (.cells #[uu0, uu1, uu2] 41)) (w.heap.size + 1) 41 #[uu0, uu1, uu2] := by have := Blk.new (w.alloc (.cells #[vv0, vv1, vv2] 41)) 41 #[uu0, uu1, uu2]; simpa using this
  have G0 := hideIt g0
  have S0 := hideIt s0
  have R0 := hideIt r0
  clear g0 s0 r0
  go_enter Tryz.func45, Tryz.ntmps45
  go_wp2_with fail
  refine (eqInsts_same _ (H0.out.keep G0.out.keeps) (M0.out.keep G0.out.keeps)).mono ?_
  rintro e u0 ⟨rfl, g0⟩
  have s1 := S0.out.grows g0
  have ks0_0 : u0.cell? ⟨w.heap.size, 0, none⟩ = some (vv0) := s1.cell 0
  have ks0_1 : u0.cell? ⟨w.heap.size, 1, none⟩ = some (vv1) := s1.cell 1
  have ks0_2 : u0.cell? ⟨w.heap.size, 2, none⟩ = some (vv2) := s1.cell 2
  have r1 := R0.out.grows g0
  have kr0_0 : u0.cell? ⟨w.heap.size + 1, 0, none⟩ = some (uu0) := r1.cell 0
  have kr0_1 : u0.cell? ⟨w.heap.size + 1, 1, none⟩ = some (uu1) := r1.cell 1
  have kr0_2 : u0.cell? ⟨w.heap.size + 1, 2, none⟩ = some (uu2) := r1.cell 2
  have G1 := hideIt (G0.out.trans g0)
  have S1 := hideIt s1
  have R1 := hideIt r1
  clear s1 r1 g0
  go_wp2_with fail
  clear ks0_0 kr0_0 ks0_1 kr0_1 ks0_2 kr0_2
  refine (eqStrs_same _ (H1.out.keep G1.out.keeps) (M1.out.keep G1.out.keeps)).mono ?_
  rintro e u1 ⟨rfl, g1⟩
  have s2 := S1.out.grows g1
  have ks1_0 : u1.cell? ⟨w.heap.size, 0, none⟩ = some (vv0) := s2.cell 0
  have ks1_1 : u1.cell? ⟨w.heap.size, 1, none⟩ = some (vv1) := s2.cell 1
  have ks1_2 : u1.cell? ⟨w.heap.size, 2, none⟩ = some (vv2) := s2.cell 2
  have r2 := R1.out.grows g1
  have kr1_0 : u1.cell? ⟨w.heap.size + 1, 0, none⟩ = some (uu0) := r2.cell 0
  have kr1_1 : u1.cell? ⟨w.heap.size + 1, 1, none⟩ = some (uu1) := r2.cell 1
  have kr1_2 : u1.cell? ⟨w.heap.size + 1, 2, none⟩ = some (uu2) := r2.cell 2
  have G2 := hideIt (G1.out.trans g1)
  have S2 := hideIt s2
  have R2 := hideIt r2
  clear s2 r2 g1
  go_wp2_with fail
  clear ks1_0 kr1_0 ks1_1 kr1_1 ks1_2 kr1_2
  refine (eqPorts_same _ (H2.out.keep G2.out.keeps) (M2.out.keep G2.out.keeps)).mono ?_
  rintro e u2 ⟨rfl, g2⟩
  have s3 := S2.out.grows g2
  have ks2_0 : u2.cell? ⟨w.heap.size, 0, none⟩ = some (vv0) := s3.cell 0
  have ks2_1 : u2.cell? ⟨w.heap.size, 1, none⟩ = some (vv1) := s3.cell 1
  have ks2_2 : u2.cell? ⟨w.heap.size, 2, none⟩ = some (vv2) := s3.cell 2
  have r3 := R2.out.grows g2
  have kr2_0 : u2.cell? ⟨w.heap.size + 1, 0, none⟩ = some (uu0) := r3.cell 0
  have kr2_1 : u2.cell? ⟨w.heap.size + 1, 1, none⟩ = some (uu1) := r3.cell 1
  have kr2_2 : u2.cell? ⟨w.heap.size + 1, 2, none⟩ = some (uu2) := r3.cell 2
  have G3 := hideIt (G2.out.trans g2)
  have S3 := hideIt s3
  have R3 := hideIt r3
  clear s3 r3 g2
  go_wp2
  go_ret
  exact ⟨rfl, G3.out⟩
end Go.Proofs.YtpppobomekebdaaGreatDoor
