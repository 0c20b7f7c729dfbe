/-
  Contracts of the functions that mark lists of structs: only the list's own blocks turn; the counter goes up by at most four times the weight.
-/
import Derived.Test.YtocahjbmnkadjaaGreatDoorGO
import Derived.Laws.BytesArg
import Derived.Test.YtocahjbmnkadjaaGreatDoorGC
import Derived.Test.YtocahjbmnkadjaaGreatDoorGD
namespace Go.Proofs.YtocahjbmnkadjaaGreatDoor
open Go.RowKit
theorem MkSt.part {sz : Nat} {t : TypeId} {fs : List Nat} {w wr : World} {g i : Nat} {cs : Array Value} {bss : List (List Nat)} {b : List Nat} (st : MkSt sz t fs w g cs (bss.take i).flatten wr) (hn : (g :: bss.flatten).Nodup) (hb : bss[i]? = some b) (hl : ∀ q ∈ b, q < w.heap.size) : SameOn b w wr :=
  st.chg.same hl fun q hq hm => by
    obtain ⟨h1, _, _, h4⟩ := part_of hn hb
    rcases List.mem_cons.1 hm with rfl | hm
    · exact h1 hq
    · exact h4 q hq hm
theorem MarkW.bump {wt wt' : Nat} {k : Int} {bs : List Nat} {w w' : World} {e : Ending} (h : MarkW wt k bs w e w') (hw : wt ≤ wt') : MarkW wt' k bs w e w' := by
  obtain ⟨r, he, h1, h2, h3⟩ := h
  exact ⟨r, he, h1, by omega, h3⟩
def SomeStr (w : World) (e : Ending) (w' : World) : Prop := ∃ s : ByteArray, e = .returned (.string s) ∧ Grows w w'
set_option maxHeartbeats 2000000 in
set_option maxRecDepth 100000 in
theorem markText_any (k : Int) (w : World) (h0 : 0 ≤ k) (h1 : k ≤ 2000000000000) :
    Calls Tryz.prog 50 #[.int .i64 k] w (SomeStr w) := by
  by_cases hz : k ≤ 0
  · go_enter Tryz.func50, Tryz.ntmps50
    go_wp2
    go_ret
    exact ⟨_, rfl, Grows.refl _⟩
  · go_enter Tryz.func50, Tryz.ntmps50
    go_wp2
    go_loopw [0, 3] (fun q s wr => ∃ (n : Int) (z : ByteArray), 0 ≤ n ∧ n ≤ 2000000000000 ∧ q = .int .i64 n ∧ s = .string z ∧ (z.size : Int) + n ≤ 2000000000000 ∧ Grows w wr) (fun q _ _ => (intOf q).toNat)
    case atStart => exact ⟨k, _, h0, h1, rfl, rfl, by have e : (⟨#[]⟩ : ByteArray).size = 0 := rfl; rw [e]; omega, Grows.refl _⟩
    case round =>
      obtain ⟨n, z, hn0, hn1, rfl, rfl, hzn, hg⟩ := hrel
      have hz1 : z.size ≤ 2000000000000 := by omega
      have sz1 : (strOfNums [48 + n % 10]).size = 1 := strOfNums_size [48 + n % 10]
      have HG := hideIt hg
      clear hg
      by_cases hn : 0 < n
      · have d1 : 0 ≤ n % 10 := by omega
        have d2 : n % 10 < 10 := by omega
        have d3 : 0 ≤ n / 10 := by omega
        have d4 : n / 10 < n := by omega
        have hcv : (convert 123 9 (.slice (some ⟨wr.heap.size, 0, none⟩) 1 1)).run Tryz.prog (wr.alloc (.cells #[.int .u8 (48 + n % 10)] 5)) = .ok (.string (strOfNums [48 + n % 10])) (wr.alloc (.cells #[.int .u8 (48 + n % 10)] 5)) :=
          run_convert_bytes_arg _ 123 5 Tryz.underlying123 Tryz.underlying5 _ 0 1 1 [48 + n % 10] rfl (fun i hi => by cases i with | zero => simp | succ m => omega) 9 Tryz.underlying9
        go_wp2
        go_roundw
        case rel => exact ⟨_, _, by omega, by omega, rfl, rfl, by rw [ByteArray.size_append, sz1]; omega, by repeat (first | exact HG.out | refine Grows.drew ?_ | refine Grows.alloc ?_ _)⟩
        case measure => simp [intOf]; omega
      · go_wp2
        go_ret
        exact ⟨_, rfl, HG.out⟩
set_option maxHeartbeats 4000000 in
set_option maxRecDepth 10000 in
theorem markStrsG {v : Value} {xs : List ByteArray} {bs : List Nat} (k : Int) (w : World) (h : OStrs w v xs bs) (hnd : bs.Nodup) (hw : xs.length ≤ 1048576) (hk : 0 ≤ k) (hk2 : k + 4 * (xs.length : Int) ≤ 1000000000000) :
    Calls Tryz.prog 27 #[v, .int .i64 k] w (MarkW (xs.length) k bs w) := by
  rcases h with ⟨rfl, rfl, rfl⟩ | ⟨g, c, cs, bss, rfl, h1, h2, hb, hl, rfl, hc⟩
  · go_enter Tryz.func27, Tryz.ntmps27
    go_wp2
    go_loopw [1, 5] (fun q i wr => q = .int .i64 k ∧ i = .int .i64 0 ∧ wr = w) (fun _ _ _ => 0)
    case atStart => exact ⟨rfl, rfl, rfl⟩
    case round =>
      obtain ⟨rfl, rfl, rfl⟩ := hrel
      go_wp2
      go_ret
      exact ⟨_, rfl, by omega, by omega, Chg.refl _ _⟩
  · have ST0 : MkSt 1 9 [] w g cs (bss.take 0).flatten w := (MkSt.start hb).more (fun _ h => h)
    have ST0 := hideIt ST0
    have ND := hideIt hnd
    have HC := hideIt hc
    have hlen : xs.length ≤ 1048576 := by exact hw
    have hT : xs.length + (xs.map wtStr).sum ≤ xs.length := by rw [wtStr_sum]; omega
    obtain ⟨T, eT⟩ : ∃ T : Nat, T = (xs.map wtStr).sum := ⟨_, rfl⟩
    rw [← eT] at hT
    have ET := hideIt eT
    clear eT hnd hc hb hl
    go_enter Tryz.func27, Tryz.ntmps27
    go_wp2
    go_loopw [1, 5] (fun q i wr => ∃ (j : Nat) (kk : Int), j ≤ xs.length ∧ q = .int .i64 kk ∧ i = .int .i64 (j : Int) ∧ k ≤ kk ∧ Hid (kk ≤ k + 4 * ((j + ((xs.take j).map wtStr).sum : Nat) : Int)) ∧ Hid (MkSt 1 9 [] w g cs (bss.take j).flatten wr)) (fun _ i _ => xs.length - (intOf i).toNat)
    case atStart => exact ⟨0, k, Nat.zero_le _, rfl, rfl, Int.le_refl _, hideIt (by simp), ST0.out⟩
    case round =>
      obtain ⟨j, kk, hj, rfl, rfl, hkk, hkb, hst⟩ := hrel
      by_cases hlt : j < xs.length
      · obtain ⟨x, hx⟩ : ∃ x, xs[j]? = some x := ⟨_, List.getElem?_eq_getElem hlt⟩
        obtain ⟨es, b, hes, hcs, hbi, ho⟩ := HC.out j x hx
        have HX := hideIt hx
        have SN := hideIt (sum_take_succ (f := wtStr) hx)
        obtain ⟨S0, eS⟩ : ∃ S0 : Nat, S0 = ((xs.take j).map wtStr).sum := ⟨_, rfl⟩
        have ES := hideIt eS
        have hkb1 : kk ≤ k + 4 * ((j : Int) + (S0 : Int)) := by have := hkb.out; rw [← eS] at this; omega
        have hS1 : S0 + wtStr x ≤ T := by have h1 := SN.out; have h2 := sum_take_le wtStr xs (j + 1); rw [← eS] at h1; have := ET.out; omega
        have PM := hideIt (part_mem hbi)
        have PO := hideIt (part_of ND.out hbi)
        have st1 := hideIt (hst.out.more (part_mem hbi).1)
        have hsz : j < cs.size := by have h := (Array.getElem?_eq_some_iff.1 (hcs 0 es[0] (List.getElem?_eq_getElem (by omega)))).1; omega
        clear hx hcs hes hkb hst SN eS ho
        obtain ⟨o0, c0⟩ := st1.out.has (o := j) (by omega)
        have cf := st1.out.frozen
        have cl := st1.out.lt
        go_wp2_with fail
        clear c0 cf cl
        refine (markText_any _ _ (by omega) (by omega)).mono ?_
        rintro e z1 ⟨s0, rfl, gg⟩
        replace st1 := hideIt (st1.out.grows gg)
        clear gg
        obtain ⟨o0, c0⟩ := st1.out.has (o := j) (by omega)
        have cf := st1.out.frozen
        have cl := st1.out.lt
        go_wp2
        go_roundw
        case rel => exact ⟨j + 1, _, by omega, rfl, by go_num, by omega, hideIt (by rw [sum_take_succ (f := wtStr) HX.out, ← ES.out]; omega), hideIt (MkSt.store1 (st1.out) j _)⟩
        case measure => simp [intOf]; omega
      · obtain rfl : j = xs.length := by omega
        have hb2 := hkb.out
        rw [List.take_of_length_le (Nat.le_refl _), ← ET.out] at hb2
        have HB := hideIt hb2
        clear hb2 hkb
        go_wp2
        go_ret
        exact ⟨_, rfl, hkk, by have := HB.out; omega, hst.out.chg.mono fun q hq => by
          rcases List.mem_cons.1 hq with rfl | hq
          · exact List.mem_cons_self ..
          · exact List.mem_cons_of_mem _ (part_all q hq)⟩
theorem markStrs_w {v : Value} {xs : List ByteArray} {bs : List Nat} (k : Int) (w : World) (h : OStrs w v xs bs) (hnd : bs.Nodup) (hw : xs.length ≤ 1048576) (hk : 0 ≤ k) (hk2 : k + 4 * (xs.length : Int) ≤ 1000000000000) :
    Calls Tryz.prog 27 #[v, .int .i64 k] w (MarkW xs.length k bs w) := markStrsG k w h hnd hw hk hk2
set_option maxHeartbeats 4000000 in
set_option maxRecDepth 10000 in
theorem markPorts_w {v : Value} {xs : List PortD} {bs : List Nat} (k : Int) (w : World) (h : OPorts w v xs bs) (hnd : bs.Nodup) (hw : wtPorts xs ≤ 1048576) (hk : 0 ≤ k) (hk2 : k + 4 * (wtPorts xs : Int) ≤ 1000000000000) :
    Calls Tryz.prog 28 #[v, .int .i64 k] w (MarkW (wtPorts xs) k bs w) := by
  rcases h with ⟨rfl, rfl, rfl⟩ | ⟨g, c, cs, bss, rfl, h1, h2, hb, hl, rfl, hc⟩
  · go_enter Tryz.func28, Tryz.ntmps28
    go_wp2
    go_loopw [1, 5] (fun q i wr => q = .int .i64 k ∧ i = .int .i64 0 ∧ wr = w) (fun _ _ _ => 0)
    case atStart => exact ⟨rfl, rfl, rfl⟩
    case round =>
      obtain ⟨rfl, rfl, rfl⟩ := hrel
      go_wp2
      go_ret
      exact ⟨_, rfl, by omega, by omega, Chg.refl _ _⟩
  · have ST0 : MkSt 3 75 [] w g cs (bss.take 0).flatten w := (MkSt.start hb).more (fun _ h => h)
    have ST0 := hideIt ST0
    have ND := hideIt hnd
    have HC := hideIt hc
    have hlen : xs.length ≤ 1048576 := by unfold wtPorts wtL at hw; omega
    have hT : xs.length + (xs.map wtPort).sum ≤ wtPorts xs := by unfold wtPorts wtL; exact Nat.le_refl _
    obtain ⟨T, eT⟩ : ∃ T : Nat, T = (xs.map wtPort).sum := ⟨_, rfl⟩
    rw [← eT] at hT
    have ET := hideIt eT
    clear eT hnd hc hb hl
    go_enter Tryz.func28, Tryz.ntmps28
    go_wp2
    go_loopw [1, 5] (fun q i wr => ∃ (j : Nat) (kk : Int), j ≤ xs.length ∧ q = .int .i64 kk ∧ i = .int .i64 (j : Int) ∧ k ≤ kk ∧ Hid (kk ≤ k + 4 * ((j + ((xs.take j).map wtPort).sum : Nat) : Int)) ∧ Hid (MkSt 3 75 [] w g cs (bss.take j).flatten wr)) (fun _ i _ => xs.length - (intOf i).toNat)
    case atStart => exact ⟨0, k, Nat.zero_le _, rfl, rfl, Int.le_refl _, hideIt (by simp), ST0.out⟩
    case round =>
      obtain ⟨j, kk, hj, rfl, rfl, hkk, hkb, hst⟩ := hrel
      by_cases hlt : j < xs.length
      · obtain ⟨x, hx⟩ : ∃ x, xs[j]? = some x := ⟨_, List.getElem?_eq_getElem hlt⟩
        obtain ⟨es, b, hes, hcs, hbi, ho⟩ := HC.out j x hx
        have HX := hideIt hx
        have SN := hideIt (sum_take_succ (f := wtPort) hx)
        obtain ⟨S0, eS⟩ : ∃ S0 : Nat, S0 = ((xs.take j).map wtPort).sum := ⟨_, rfl⟩
        have ES := hideIt eS
        have hkb1 : kk ≤ k + 4 * ((j : Int) + (S0 : Int)) := by have := hkb.out; rw [← eS] at this; omega
        have hS1 : S0 + wtPort x ≤ T := by have h1 := SN.out; have h2 := sum_take_le wtPort xs (j + 1); rw [← eS] at h1; have := ET.out; omega
        have PM := hideIt (part_mem hbi)
        have PO := hideIt (part_of ND.out hbi)
        have st1 := hideIt (hst.out.more (part_mem hbi).1)
        have hsz : j * 3 + 2 < cs.size := by have h := (Array.getElem?_eq_some_iff.1 (hcs 2 es[2] (List.getElem?_eq_getElem (by omega)))).1; omega
        clear hx hcs hes hkb hst SN eS ho
        obtain ⟨o0, c0⟩ := st1.out.has (o := j * 3) (by omega)
        obtain ⟨o1, c1⟩ := st1.out.has (o := j * 3 + 1) (by omega)
        obtain ⟨o2, c2⟩ := st1.out.has (o := j * 3 + 2) (by omega)
        have cf := st1.out.frozen
        have cl := st1.out.lt
        go_wp2_with fail
        clear c0 c1 c2 cf cl
        refine (markText_any _ _ (by omega) (by omega)).mono ?_
        rintro e z1 ⟨s0, rfl, gg⟩
        replace st1 := hideIt (st1.out.grows gg)
        clear gg
        obtain ⟨o0, c0⟩ := st1.out.has (o := j * 3) (by omega)
        obtain ⟨o1, c1⟩ := st1.out.has (o := j * 3 + 1) (by omega)
        obtain ⟨o2, c2⟩ := st1.out.has (o := j * 3 + 2) (by omega)
        have cf := st1.out.frozen
        have cl := st1.out.lt
        go_wp2
        go_roundw
        case rel => exact ⟨j + 1, _, by omega, rfl, by go_num, by omega, hideIt (by rw [sum_take_succ (f := wtPort) HX.out, ← ES.out]; omega), hideIt (MkSt.store (MkSt.store (MkSt.store (st1.out) j 0 (by decide) (by decide) (by decide) _) j 1 (by decide) (by decide) (by decide) _) j 2 (by decide) (by decide) (by decide) _)⟩
        case measure => simp [intOf]; omega
      · obtain rfl : j = xs.length := by omega
        have hb2 := hkb.out
        rw [List.take_of_length_le (Nat.le_refl _), ← ET.out] at hb2
        have HB := hideIt hb2
        clear hb2 hkb
        go_wp2
        go_ret
        exact ⟨_, rfl, hkk, by have := HB.out; omega, hst.out.chg.mono fun q hq => by
          rcases List.mem_cons.1 hq with rfl | hq
          · exact List.mem_cons_self ..
          · exact List.mem_cons_of_mem _ (part_all q hq)⟩
set_option maxHeartbeats 4000000 in
set_option maxRecDepth 10000 in
theorem markPins_w {v : Value} {xs : List PinD} {bs : List Nat} (k : Int) (w : World) (h : OPins w v xs bs) (hnd : bs.Nodup) (hw : wtPins xs ≤ 1048576) (hk : 0 ≤ k) (hk2 : k + 4 * (wtPins xs : Int) ≤ 1000000000000) :
    Calls Tryz.prog 51 #[v, .int .i64 k] w (MarkW (wtPins xs) k bs w) := by
  rcases h with ⟨rfl, rfl, rfl⟩ | ⟨g, c, cs, bss, rfl, h1, h2, hb, hl, rfl, hc⟩
  · go_enter Tryz.func51, Tryz.ntmps51
    go_wp2
    go_loopw [1, 5] (fun q i wr => q = .int .i64 k ∧ i = .int .i64 0 ∧ wr = w) (fun _ _ _ => 0)
    case atStart => exact ⟨rfl, rfl, rfl⟩
    case round =>
      obtain ⟨rfl, rfl, rfl⟩ := hrel
      go_wp2
      go_ret
      exact ⟨_, rfl, by omega, by omega, Chg.refl _ _⟩
  · have ST0 : MkSt 4 125 [] w g cs (bss.take 0).flatten w := (MkSt.start hb).more (fun _ h => h)
    have ST0 := hideIt ST0
    have ND := hideIt hnd
    have HC := hideIt hc
    have hlen : xs.length ≤ 1048576 := by unfold wtPins wtL at hw; omega
    have hT : xs.length + (xs.map wtPin).sum ≤ wtPins xs := by unfold wtPins wtL; exact Nat.le_refl _
    obtain ⟨T, eT⟩ : ∃ T : Nat, T = (xs.map wtPin).sum := ⟨_, rfl⟩
    rw [← eT] at hT
    have ET := hideIt eT
    clear eT hnd hc hb hl
    go_enter Tryz.func51, Tryz.ntmps51
    go_wp2
    go_loopw [1, 5] (fun q i wr => ∃ (j : Nat) (kk : Int), j ≤ xs.length ∧ q = .int .i64 kk ∧ i = .int .i64 (j : Int) ∧ k ≤ kk ∧ Hid (kk ≤ k + 4 * ((j + ((xs.take j).map wtPin).sum : Nat) : Int)) ∧ Hid (MkSt 4 125 [] w g cs (bss.take j).flatten wr)) (fun _ i _ => xs.length - (intOf i).toNat)
    case atStart => exact ⟨0, k, Nat.zero_le _, rfl, rfl, Int.le_refl _, hideIt (by simp), ST0.out⟩
    case round =>
      obtain ⟨j, kk, hj, rfl, rfl, hkk, hkb, hst⟩ := hrel
      by_cases hlt : j < xs.length
      · obtain ⟨x, hx⟩ : ∃ x, xs[j]? = some x := ⟨_, List.getElem?_eq_getElem hlt⟩
        obtain ⟨es, b, hes, hcs, hbi, ho⟩ := HC.out j x hx
        have HX := hideIt hx
        have SN := hideIt (sum_take_succ (f := wtPin) hx)
        obtain ⟨S0, eS⟩ : ∃ S0 : Nat, S0 = ((xs.take j).map wtPin).sum := ⟨_, rfl⟩
        have ES := hideIt eS
        have hkb1 : kk ≤ k + 4 * ((j : Int) + (S0 : Int)) := by have := hkb.out; rw [← eS] at this; omega
        have hS1 : S0 + wtPin x ≤ T := by have h1 := SN.out; have h2 := sum_take_le wtPin xs (j + 1); rw [← eS] at h1; have := ET.out; omega
        have PM := hideIt (part_mem hbi)
        have PO := hideIt (part_of ND.out hbi)
        have st1 := hideIt (hst.out.more (part_mem hbi).1)
        have hsz : j * 4 + 3 < cs.size := by have h := (Array.getElem?_eq_some_iff.1 (hcs 3 es[3] (List.getElem?_eq_getElem (by omega)))).1; omega
        clear hx hcs hes hkb hst SN eS ho
        obtain ⟨o0, c0⟩ := st1.out.has (o := j * 4) (by omega)
        obtain ⟨o1, c1⟩ := st1.out.has (o := j * 4 + 1) (by omega)
        obtain ⟨o2, c2⟩ := st1.out.has (o := j * 4 + 2) (by omega)
        obtain ⟨o3, c3⟩ := st1.out.has (o := j * 4 + 3) (by omega)
        have cf := st1.out.frozen
        have cl := st1.out.lt
        go_wp2_with fail
        clear c0 c1 c2 c3 cf cl
        refine (markText_any _ _ (by omega) (by omega)).mono ?_
        rintro e z1 ⟨s0, rfl, gg⟩
        replace st1 := hideIt (st1.out.grows gg)
        clear gg
        obtain ⟨o0, c0⟩ := st1.out.has (o := j * 4) (by omega)
        obtain ⟨o1, c1⟩ := st1.out.has (o := j * 4 + 1) (by omega)
        obtain ⟨o2, c2⟩ := st1.out.has (o := j * 4 + 2) (by omega)
        obtain ⟨o3, c3⟩ := st1.out.has (o := j * 4 + 3) (by omega)
        have cf := st1.out.frozen
        have cl := st1.out.lt
        go_wp2
        go_roundw
        case rel => exact ⟨j + 1, _, by omega, rfl, by go_num, by omega, hideIt (by rw [sum_take_succ (f := wtPin) HX.out, ← ES.out]; omega), hideIt (MkSt.store (MkSt.store (MkSt.store (MkSt.store (st1.out) j 0 (by decide) (by decide) (by decide) _) j 1 (by decide) (by decide) (by decide) _) j 2 (by decide) (by decide) (by decide) _) j 3 (by decide) (by decide) (by decide) _)⟩
        case measure => simp [intOf]; omega
      · obtain rfl : j = xs.length := by omega
        have hb2 := hkb.out
        rw [List.take_of_length_le (Nat.le_refl _), ← ET.out] at hb2
        have HB := hideIt hb2
        clear hb2 hkb
        go_wp2
        go_ret
        exact ⟨_, rfl, hkk, by have := HB.out; omega, hst.out.chg.mono fun q hq => by
          rcases List.mem_cons.1 hq with rfl | hq
          · exact List.mem_cons_self ..
          · exact List.mem_cons_of_mem _ (part_all q hq)⟩
set_option maxHeartbeats 4000000 in
set_option maxRecDepth 10000 in
theorem markInsts_w {v : Value} {xs : List InstD} {bs : List Nat} (k : Int) (w : World) (h : OInsts w v xs bs) (hnd : bs.Nodup) (hw : wtInsts xs ≤ 1048576) (hk : 0 ≤ k) (hk2 : k + 4 * (wtInsts xs : Int) ≤ 1000000000000) :
    Calls Tryz.prog 26 #[v, .int .i64 k] w (MarkW (wtInsts xs) k bs w) := by
  rcases h with ⟨rfl, rfl, rfl⟩ | ⟨g, c, cs, bss, rfl, h1, h2, hb, hl, rfl, hc⟩
  · go_enter Tryz.func26, Tryz.ntmps26
    go_wp2
    go_loopw [1, 5] (fun q i wr => q = .int .i64 k ∧ i = .int .i64 0 ∧ wr = w) (fun _ _ _ => 0)
    case atStart => exact ⟨rfl, rfl, rfl⟩
    case round =>
      obtain ⟨rfl, rfl, rfl⟩ := hrel
      go_wp2
      go_ret
      exact ⟨_, rfl, by omega, by omega, Chg.refl _ _⟩
  · have ST0 : MkSt 3 77 [2] w g cs (bss.take 0).flatten w := (MkSt.start hb).more (fun _ h => h)
    have ST0 := hideIt ST0
    have ND := hideIt hnd
    have HC := hideIt hc
    have hlen : xs.length ≤ 1048576 := by unfold wtInsts wtL at hw; omega
    have hT : xs.length + (xs.map wtInst).sum ≤ wtInsts xs := by unfold wtInsts wtL; exact Nat.le_refl _
    obtain ⟨T, eT⟩ : ∃ T : Nat, T = (xs.map wtInst).sum := ⟨_, rfl⟩
    rw [← eT] at hT
    have ET := hideIt eT
    clear eT hnd hc hb hl
    go_enter Tryz.func26, Tryz.ntmps26
    go_wp2
    go_loopw [1, 5] (fun q i wr => ∃ (j : Nat) (kk : Int), j ≤ xs.length ∧ q = .int .i64 kk ∧ i = .int .i64 (j : Int) ∧ k ≤ kk ∧ Hid (kk ≤ k + 4 * ((j + ((xs.take j).map wtInst).sum : Nat) : Int)) ∧ Hid (MkSt 3 77 [2] w g cs (bss.take j).flatten wr)) (fun _ i _ => xs.length - (intOf i).toNat)
    case atStart => exact ⟨0, k, Nat.zero_le _, rfl, rfl, Int.le_refl _, hideIt (by simp), ST0.out⟩
    case round =>
      obtain ⟨j, kk, hj, rfl, rfl, hkk, hkb, hst⟩ := hrel
      by_cases hlt : j < xs.length
      · obtain ⟨x, hx⟩ : ∃ x, xs[j]? = some x := ⟨_, List.getElem?_eq_getElem hlt⟩
        obtain ⟨es, b, hes, hcs, hbi, ho⟩ := HC.out j x hx
        have HX := hideIt hx
        have SN := hideIt (sum_take_succ (f := wtInst) hx)
        obtain ⟨S0, eS⟩ : ∃ S0 : Nat, S0 = ((xs.take j).map wtInst).sum := ⟨_, rfl⟩
        have ES := hideIt eS
        have hkb1 : kk ≤ k + 4 * ((j : Int) + (S0 : Int)) := by have := hkb.out; rw [← eS] at this; omega
        have hS1 : S0 + wtInst x ≤ T := by have h1 := SN.out; have h2 := sum_take_le wtInst xs (j + 1); rw [← eS] at h1; have := ET.out; omega
        have PM := hideIt (part_mem hbi)
        have PO := hideIt (part_of ND.out hbi)
        have st1 := hideIt (hst.out.more (part_mem hbi).1)
        have ho := ho.same (hst.out.part ND.out hbi ho.lt)
        obtain ⟨v2, b2, ee, -, h2, eb⟩ := ho
        subst ee
        have eb2 := eb.symm
        subst eb2
        have D2 := hideIt PO.out.2.1
        have G2 : Hid (g ∉ b2) := hideIt fun hm => PO.out.1 (by simp [hm])
        have M2 : Hid (∀ q ∈ b2, q ∈ (bss.take (j + 1)).flatten) := hideIt fun q hm => PM.out.2 q (by simp [hm])
        have O2 := hideIt h2
        obtain ⟨A2, n2, rfl⟩ : ∃ (A : Option Addr) (q : Nat), v2 = .slice A x.nets.length q := by obtain ⟨A, q, e, -⟩ := RList.form h2.reads; exact ⟨A, q, e⟩
        have H2 := hideIt (hcs 2 _ rfl)
        have hwx : x.nets.length ≤ wtInst x := by unfold wtInst; omega
        have hsz : j * 3 + 2 < cs.size := (Array.getElem?_eq_some_iff.1 (hcs 2 _ rfl)).1
        clear hx hcs hes hkb hst SN eS h2
        obtain ⟨o0, c0⟩ := st1.out.has (o := j * 3) (by omega)
        obtain ⟨o1, c1⟩ := st1.out.has (o := j * 3 + 1) (by omega)
        have c2 : wr.cell? ⟨g, j * 3 + 2, none⟩ = some (.slice A2 x.nets.length n2) := by simpa using st1.out.kept (i := j) (f := 2) (by decide) H2.out
        have cf := st1.out.frozen
        have cl := st1.out.lt
        go_wp2_with fail
        clear c0 c1 c2 cf cl
        refine (markText_any _ _ (by omega) (by omega)).mono ?_
        rintro e z1 ⟨s0, rfl, gg⟩
        replace st1 := hideIt (st1.out.grows gg)
        replace O2 := hideIt (O2.out.same ((SameOn.refl _ _).grows O2.out.lt gg))
        clear gg
        obtain ⟨o0, c0⟩ := st1.out.has (o := j * 3) (by omega)
        obtain ⟨o1, c1⟩ := st1.out.has (o := j * 3 + 1) (by omega)
        have c2 : z1.cell? ⟨g, j * 3 + 2, none⟩ = some (.slice A2 x.nets.length n2) := by simpa using st1.out.kept (i := j) (f := 2) (by decide) H2.out
        have cf := st1.out.frozen
        have cl := st1.out.lt
        go_wp2_with fail
        clear c0 c1 c2 cf cl
        refine at_world (fun u => MkSt 3 77 [2] w g cs (bss.take (j + 1)).flatten u ∧ OInts u (.slice A2 x.nets.length n2) x.nets b2) ⟨MkSt.store (MkSt.store (st1.out) j 0 (by decide) (by decide) (by decide) _) j 1 (by decide) (by decide) (by decide) _, O2.out.same (SameOn.set (SameOn.set (SameOn.refl _ _) (fun q hq e => G2.out (by have e2 : q = g := e; rw [← e2]; exact hq)) _) (fun q hq e => G2.out (by have e2 : q = g := e; rw [← e2]; exact hq)) _)⟩ (fun z2 hz => ?_)
        obtain ⟨sa, p2⟩ := hz
        replace st1 := hideIt sa
        replace O2 := hideIt p2
        clear sa p2
        refine (markInts_w _ _ O2.out D2.out (by omega) (by omega) (by omega)).mono ?_
        rintro e z3 ⟨r2, rfl, ra2, rb2, cc⟩
        replace st1 := hideIt (st1.out.call cc M2.out G2.out)
        clear cc O2
        obtain ⟨o0, c0⟩ := st1.out.has (o := j * 3) (by omega)
        obtain ⟨o1, c1⟩ := st1.out.has (o := j * 3 + 1) (by omega)
        have c2 : z3.cell? ⟨g, j * 3 + 2, none⟩ = some (.slice A2 x.nets.length n2) := by simpa using st1.out.kept (i := j) (f := 2) (by decide) H2.out
        have cf := st1.out.frozen
        have cl := st1.out.lt
        go_wp2
        go_roundw
        case rel => exact ⟨j + 1, _, by omega, rfl, by go_num, by omega, hideIt (by rw [sum_take_succ (f := wtInst) HX.out, ← ES.out]; omega), hideIt (st1.out)⟩
        case measure => simp [intOf]; omega
      · obtain rfl : j = xs.length := by omega
        have hb2 := hkb.out
        rw [List.take_of_length_le (Nat.le_refl _), ← ET.out] at hb2
        have HB := hideIt hb2
        clear hb2 hkb
        go_wp2
        go_ret
        exact ⟨_, rfl, hkk, by have := HB.out; omega, hst.out.chg.mono fun q hq => by
          rcases List.mem_cons.1 hq with rfl | hq
          · exact List.mem_cons_self ..
          · exact List.mem_cons_of_mem _ (part_all q hq)⟩
set_option maxHeartbeats 4000000 in
set_option maxRecDepth 10000 in
theorem markTables_w {v : Value} {xs : List TableD} {bs : List Nat} (k : Int) (w : World) (h : OTables w v xs bs) (hnd : bs.Nodup) (hw : wtTables xs ≤ 1048576) (hk : 0 ≤ k) (hk2 : k + 4 * (wtTables xs : Int) ≤ 1000000000000) :
    Calls Tryz.prog 83 #[v, .int .i64 k] w (MarkW (wtTables xs) k bs w) := by
  rcases h with ⟨rfl, rfl, rfl⟩ | ⟨g, c, cs, bss, rfl, h1, h2, hb, hl, rfl, hc⟩
  · go_enter Tryz.func83, Tryz.ntmps83
    go_wp2
    go_loopw [1, 5] (fun q i wr => q = .int .i64 k ∧ i = .int .i64 0 ∧ wr = w) (fun _ _ _ => 0)
    case atStart => exact ⟨rfl, rfl, rfl⟩
    case round =>
      obtain ⟨rfl, rfl, rfl⟩ := hrel
      go_wp2
      go_ret
      exact ⟨_, rfl, by omega, by omega, Chg.refl _ _⟩
  · have ST0 : MkSt 3 149 [0, 1, 2] w g cs (bss.take 0).flatten w := (MkSt.start hb).more (fun _ h => h)
    have ST0 := hideIt ST0
    have ND := hideIt hnd
    have HC := hideIt hc
    have hlen : xs.length ≤ 1048576 := by unfold wtTables wtL at hw; omega
    have hT : xs.length + (xs.map wtTable).sum ≤ wtTables xs := by unfold wtTables wtL; exact Nat.le_refl _
    obtain ⟨T, eT⟩ : ∃ T : Nat, T = (xs.map wtTable).sum := ⟨_, rfl⟩
    rw [← eT] at hT
    have ET := hideIt eT
    clear eT hnd hc hb hl
    go_enter Tryz.func83, Tryz.ntmps83
    go_wp2
    go_loopw [1, 5] (fun q i wr => ∃ (j : Nat) (kk : Int), j ≤ xs.length ∧ q = .int .i64 kk ∧ i = .int .i64 (j : Int) ∧ k ≤ kk ∧ Hid (kk ≤ k + 4 * ((j + ((xs.take j).map wtTable).sum : Nat) : Int)) ∧ Hid (MkSt 3 149 [0, 1, 2] w g cs (bss.take j).flatten wr)) (fun _ i _ => xs.length - (intOf i).toNat)
    case atStart => exact ⟨0, k, Nat.zero_le _, rfl, rfl, Int.le_refl _, hideIt (by simp), ST0.out⟩
    case round =>
      obtain ⟨j, kk, hj, rfl, rfl, hkk, hkb, hst⟩ := hrel
      by_cases hlt : j < xs.length
      · obtain ⟨x, hx⟩ : ∃ x, xs[j]? = some x := ⟨_, List.getElem?_eq_getElem hlt⟩
        obtain ⟨es, b, hes, hcs, hbi, ho⟩ := HC.out j x hx
        have HX := hideIt hx
        have SN := hideIt (sum_take_succ (f := wtTable) hx)
        obtain ⟨S0, eS⟩ : ∃ S0 : Nat, S0 = ((xs.take j).map wtTable).sum := ⟨_, rfl⟩
        have ES := hideIt eS
        have hkb1 : kk ≤ k + 4 * ((j : Int) + (S0 : Int)) := by have := hkb.out; rw [← eS] at this; omega
        have hS1 : S0 + wtTable x ≤ T := by have h1 := SN.out; have h2 := sum_take_le wtTable xs (j + 1); rw [← eS] at h1; have := ET.out; omega
        have PM := hideIt (part_mem hbi)
        have PO := hideIt (part_of ND.out hbi)
        have st1 := hideIt (hst.out.more (part_mem hbi).1)
        have ho := ho.same (hst.out.part ND.out hbi ho.lt)
        obtain ⟨v0, v1, v2, b0, b1, b2, ee, h0, h1, h2, eb⟩ := ho
        subst ee
        have eb2 := eb.symm
        subst eb2
        have dd := PO.out.2.1
        obtain ⟨l2, r2, x2, y2⟩ := nodup2 dd
        obtain ⟨l1, r1, x1, y1⟩ := nodup2 l2
        have D0 := hideIt l1
        have D1 := hideIt r1
        have D2 := hideIt r2
        have N0_1 : Hid (∀ q ∈ b0, q ∉ b1) := hideIt fun q hm hn => x1 q hm hn
        have N1_0 : Hid (∀ q ∈ b1, q ∉ b0) := hideIt fun q hm hn => y1 q hm hn
        have N0_2 : Hid (∀ q ∈ b0, q ∉ b2) := hideIt fun q hm hn => x2 q (by simp [hm]) hn
        have N2_0 : Hid (∀ q ∈ b2, q ∉ b0) := hideIt fun q hm hn => y2 q hm (by simp [hn])
        have N1_2 : Hid (∀ q ∈ b1, q ∉ b2) := hideIt fun q hm hn => x2 q (by simp [hm]) hn
        have N2_1 : Hid (∀ q ∈ b2, q ∉ b1) := hideIt fun q hm hn => y2 q hm (by simp [hn])
        have G0 : Hid (g ∉ b0) := hideIt fun hm => PO.out.1 (by simp [hm])
        have M0 : Hid (∀ q ∈ b0, q ∈ (bss.take (j + 1)).flatten) := hideIt fun q hm => PM.out.2 q (by simp [hm])
        have O0 := hideIt h0
        obtain ⟨A0, n0, rfl⟩ : ∃ (A : Option Addr) (q : Nat), v0 = .slice A x.slews.length q := by obtain ⟨A, q, e, -⟩ := RList.form h0.reads; exact ⟨A, q, e⟩
        have H0 := hideIt (hcs 0 _ rfl)
        have G1 : Hid (g ∉ b1) := hideIt fun hm => PO.out.1 (by simp [hm])
        have M1 : Hid (∀ q ∈ b1, q ∈ (bss.take (j + 1)).flatten) := hideIt fun q hm => PM.out.2 q (by simp [hm])
        have O1 := hideIt h1
        obtain ⟨A1, n1, rfl⟩ : ∃ (A : Option Addr) (q : Nat), v1 = .slice A x.loads.length q := by obtain ⟨A, q, e, -⟩ := RList.form h1.reads; exact ⟨A, q, e⟩
        have H1 := hideIt (hcs 1 _ rfl)
        have G2 : Hid (g ∉ b2) := hideIt fun hm => PO.out.1 (by simp [hm])
        have M2 : Hid (∀ q ∈ b2, q ∈ (bss.take (j + 1)).flatten) := hideIt fun q hm => PM.out.2 q (by simp [hm])
        have O2 := hideIt h2
        obtain ⟨A2, n2, rfl⟩ : ∃ (A : Option Addr) (q : Nat), v2 = .slice A x.values.length q := by obtain ⟨A, q, e, -⟩ := RList.form h2.reads; exact ⟨A, q, e⟩
        have H2 := hideIt (hcs 2 _ rfl)
        have hwx : x.slews.length + x.loads.length + x.values.length ≤ wtTable x := by unfold wtTable; omega
        have hsz : j * 3 + 2 < cs.size := (Array.getElem?_eq_some_iff.1 (hcs 2 _ rfl)).1
        clear hx hcs hes hkb hst SN eS h0 h1 h2 dd l1 r1 x1 y1 l2 r2 x2 y2
        have c0 : wr.cell? ⟨g, j * 3, none⟩ = some (.slice A0 x.slews.length n0) := by simpa using st1.out.kept (i := j) (f := 0) (by decide) H0.out
        have c1 : wr.cell? ⟨g, j * 3 + 1, none⟩ = some (.slice A1 x.loads.length n1) := by simpa using st1.out.kept (i := j) (f := 1) (by decide) H1.out
        have c2 : wr.cell? ⟨g, j * 3 + 2, none⟩ = some (.slice A2 x.values.length n2) := by simpa using st1.out.kept (i := j) (f := 2) (by decide) H2.out
        have cf := st1.out.frozen
        have cl := st1.out.lt
        go_wp2_with fail
        clear c0 c1 c2 cf cl
        refine (markInts_w _ _ O0.out D0.out (by omega) (by omega) (by omega)).mono ?_
        rintro e z1 ⟨r0, rfl, ra0, rb0, cc⟩
        replace st1 := hideIt (st1.out.call cc M0.out G0.out)
        replace O1 := hideIt (O1.out.same (cc.same O1.out.lt N1_0.out))
        replace O2 := hideIt (O2.out.same (cc.same O2.out.lt N2_0.out))
        clear cc O0
        have c0 : z1.cell? ⟨g, j * 3, none⟩ = some (.slice A0 x.slews.length n0) := by simpa using st1.out.kept (i := j) (f := 0) (by decide) H0.out
        have c1 : z1.cell? ⟨g, j * 3 + 1, none⟩ = some (.slice A1 x.loads.length n1) := by simpa using st1.out.kept (i := j) (f := 1) (by decide) H1.out
        have c2 : z1.cell? ⟨g, j * 3 + 2, none⟩ = some (.slice A2 x.values.length n2) := by simpa using st1.out.kept (i := j) (f := 2) (by decide) H2.out
        have cf := st1.out.frozen
        have cl := st1.out.lt
        go_wp2_with fail
        clear c0 c1 c2 cf cl
        refine (markInts_w _ _ O1.out D1.out (by omega) (by omega) (by omega)).mono ?_
        rintro e z2 ⟨r1, rfl, ra1, rb1, cc⟩
        replace st1 := hideIt (st1.out.call cc M1.out G1.out)
        replace O2 := hideIt (O2.out.same (cc.same O2.out.lt N2_1.out))
        clear cc O1
        have c0 : z2.cell? ⟨g, j * 3, none⟩ = some (.slice A0 x.slews.length n0) := by simpa using st1.out.kept (i := j) (f := 0) (by decide) H0.out
        have c1 : z2.cell? ⟨g, j * 3 + 1, none⟩ = some (.slice A1 x.loads.length n1) := by simpa using st1.out.kept (i := j) (f := 1) (by decide) H1.out
        have c2 : z2.cell? ⟨g, j * 3 + 2, none⟩ = some (.slice A2 x.values.length n2) := by simpa using st1.out.kept (i := j) (f := 2) (by decide) H2.out
        have cf := st1.out.frozen
        have cl := st1.out.lt
        go_wp2_with fail
        clear c0 c1 c2 cf cl
        refine (markInts_w _ _ O2.out D2.out (by omega) (by omega) (by omega)).mono ?_
        rintro e z3 ⟨r2, rfl, ra2, rb2, cc⟩
        replace st1 := hideIt (st1.out.call cc M2.out G2.out)
        clear cc O2
        have c0 : z3.cell? ⟨g, j * 3, none⟩ = some (.slice A0 x.slews.length n0) := by simpa using st1.out.kept (i := j) (f := 0) (by decide) H0.out
        have c1 : z3.cell? ⟨g, j * 3 + 1, none⟩ = some (.slice A1 x.loads.length n1) := by simpa using st1.out.kept (i := j) (f := 1) (by decide) H1.out
        have c2 : z3.cell? ⟨g, j * 3 + 2, none⟩ = some (.slice A2 x.values.length n2) := by simpa using st1.out.kept (i := j) (f := 2) (by decide) H2.out
        have cf := st1.out.frozen
        have cl := st1.out.lt
        go_wp2
        go_roundw
        case rel => exact ⟨j + 1, _, by omega, rfl, by go_num, by omega, hideIt (by rw [sum_take_succ (f := wtTable) HX.out, ← ES.out]; omega), hideIt (st1.out)⟩
        case measure => simp [intOf]; omega
      · obtain rfl : j = xs.length := by omega
        have hb2 := hkb.out
        rw [List.take_of_length_le (Nat.le_refl _), ← ET.out] at hb2
        have HB := hideIt hb2
        clear hb2 hkb
        go_wp2
        go_ret
        exact ⟨_, rfl, hkk, by have := HB.out; omega, hst.out.chg.mono fun q hq => by
          rcases List.mem_cons.1 hq with rfl | hq
          · exact List.mem_cons_self ..
          · exact List.mem_cons_of_mem _ (part_all q hq)⟩
set_option maxHeartbeats 4000000 in
set_option maxRecDepth 10000 in
theorem markArcs_w {v : Value} {xs : List ArcD} {bs : List Nat} (k : Int) (w : World) (h : OArcs w v xs bs) (hnd : bs.Nodup) (hw : wtArcs xs ≤ 1048576) (hk : 0 ≤ k) (hk2 : k + 4 * (wtArcs xs : Int) ≤ 1000000000000) :
    Calls Tryz.prog 52 #[v, .int .i64 k] w (MarkW (wtArcs xs) k bs w) := by
  rcases h with ⟨rfl, rfl, rfl⟩ | ⟨g, c, cs, bss, rfl, h1, h2, hb, hl, rfl, hc⟩
  · go_enter Tryz.func52, Tryz.ntmps52
    go_wp2
    go_loopw [1, 5] (fun q i wr => q = .int .i64 k ∧ i = .int .i64 0 ∧ wr = w) (fun _ _ _ => 0)
    case atStart => exact ⟨rfl, rfl, rfl⟩
    case round =>
      obtain ⟨rfl, rfl, rfl⟩ := hrel
      go_wp2
      go_ret
      exact ⟨_, rfl, by omega, by omega, Chg.refl _ _⟩
  · have ST0 : MkSt 6 101 [4, 5] w g cs (bss.take 0).flatten w := (MkSt.start hb).more (fun _ h => h)
    have ST0 := hideIt ST0
    have ND := hideIt hnd
    have HC := hideIt hc
    have hlen : xs.length ≤ 1048576 := by unfold wtArcs wtL at hw; omega
    have hT : xs.length + (xs.map wtArc).sum ≤ wtArcs xs := by unfold wtArcs wtL; exact Nat.le_refl _
    obtain ⟨T, eT⟩ : ∃ T : Nat, T = (xs.map wtArc).sum := ⟨_, rfl⟩
    rw [← eT] at hT
    have ET := hideIt eT
    clear eT hnd hc hb hl
    go_enter Tryz.func52, Tryz.ntmps52
    go_wp2
    go_loopw [1, 5] (fun q i wr => ∃ (j : Nat) (kk : Int), j ≤ xs.length ∧ q = .int .i64 kk ∧ i = .int .i64 (j : Int) ∧ k ≤ kk ∧ Hid (kk ≤ k + 4 * ((j + ((xs.take j).map wtArc).sum : Nat) : Int)) ∧ Hid (MkSt 6 101 [4, 5] w g cs (bss.take j).flatten wr)) (fun _ i _ => xs.length - (intOf i).toNat)
    case atStart => exact ⟨0, k, Nat.zero_le _, rfl, rfl, Int.le_refl _, hideIt (by simp), ST0.out⟩
    case round =>
      obtain ⟨j, kk, hj, rfl, rfl, hkk, hkb, hst⟩ := hrel
      by_cases hlt : j < xs.length
      · obtain ⟨x, hx⟩ : ∃ x, xs[j]? = some x := ⟨_, List.getElem?_eq_getElem hlt⟩
        obtain ⟨es, b, hes, hcs, hbi, ho⟩ := HC.out j x hx
        have HX := hideIt hx
        have SN := hideIt (sum_take_succ (f := wtArc) hx)
        obtain ⟨S0, eS⟩ : ∃ S0 : Nat, S0 = ((xs.take j).map wtArc).sum := ⟨_, rfl⟩
        have ES := hideIt eS
        have hkb1 : kk ≤ k + 4 * ((j : Int) + (S0 : Int)) := by have := hkb.out; rw [← eS] at this; omega
        have hS1 : S0 + wtArc x ≤ T := by have h1 := SN.out; have h2 := sum_take_le wtArc xs (j + 1); rw [← eS] at h1; have := ET.out; omega
        have PM := hideIt (part_mem hbi)
        have PO := hideIt (part_of ND.out hbi)
        have st1 := hideIt (hst.out.more (part_mem hbi).1)
        have ho := ho.same (hst.out.part ND.out hbi ho.lt)
        obtain ⟨v4, v5, b4, b5, ee, h4, h5, eb⟩ := ho
        subst ee
        have eb2 := eb.symm
        subst eb2
        have dd := PO.out.2.1
        obtain ⟨l1, r1, x1, y1⟩ := nodup2 dd
        have D4 := hideIt l1
        have D5 := hideIt r1
        have N4_5 : Hid (∀ q ∈ b4, q ∉ b5) := hideIt fun q hm hn => x1 q hm hn
        have N5_4 : Hid (∀ q ∈ b5, q ∉ b4) := hideIt fun q hm hn => y1 q hm hn
        have G4 : Hid (g ∉ b4) := hideIt fun hm => PO.out.1 (by simp [hm])
        have M4 : Hid (∀ q ∈ b4, q ∈ (bss.take (j + 1)).flatten) := hideIt fun q hm => PM.out.2 q (by simp [hm])
        have O4 := hideIt h4
        obtain ⟨A4, n4, rfl⟩ : ∃ (A : Option Addr) (q : Nat), v4 = .slice A x.delay.length q := by obtain ⟨A, q, e, -⟩ := RList.form h4.reads; exact ⟨A, q, e⟩
        have H4 := hideIt (hcs 4 _ rfl)
        have G5 : Hid (g ∉ b5) := hideIt fun hm => PO.out.1 (by simp [hm])
        have M5 : Hid (∀ q ∈ b5, q ∈ (bss.take (j + 1)).flatten) := hideIt fun q hm => PM.out.2 q (by simp [hm])
        have O5 := hideIt h5
        obtain ⟨A5, n5, rfl⟩ : ∃ (A : Option Addr) (q : Nat), v5 = .slice A x.slew.length q := by obtain ⟨A, q, e, -⟩ := RList.form h5.reads; exact ⟨A, q, e⟩
        have H5 := hideIt (hcs 5 _ rfl)
        have hwx : wtTables x.delay + wtTables x.slew ≤ wtArc x := by unfold wtArc; omega
        have hsz : j * 6 + 5 < cs.size := (Array.getElem?_eq_some_iff.1 (hcs 5 _ rfl)).1
        clear hx hcs hes hkb hst SN eS h4 h5 dd l1 r1 x1 y1
        obtain ⟨o0, c0⟩ := st1.out.has (o := j * 6) (by omega)
        obtain ⟨o1, c1⟩ := st1.out.has (o := j * 6 + 1) (by omega)
        obtain ⟨o2, c2⟩ := st1.out.has (o := j * 6 + 2) (by omega)
        obtain ⟨o3, c3⟩ := st1.out.has (o := j * 6 + 3) (by omega)
        have c4 : wr.cell? ⟨g, j * 6 + 4, none⟩ = some (.slice A4 x.delay.length n4) := by simpa using st1.out.kept (i := j) (f := 4) (by decide) H4.out
        have c5 : wr.cell? ⟨g, j * 6 + 5, none⟩ = some (.slice A5 x.slew.length n5) := by simpa using st1.out.kept (i := j) (f := 5) (by decide) H5.out
        have cf := st1.out.frozen
        have cl := st1.out.lt
        go_wp2_with fail
        clear c0 c1 c2 c3 c4 c5 cf cl
        refine at_world (fun u => MkSt 6 101 [4, 5] w g cs (bss.take (j + 1)).flatten u ∧ OTables u (.slice A4 x.delay.length n4) x.delay b4 ∧ OTables u (.slice A5 x.slew.length n5) x.slew b5) ⟨MkSt.store (MkSt.store (MkSt.store (MkSt.store (st1.out) j 0 (by decide) (by decide) (by decide) _) j 1 (by decide) (by decide) (by decide) _) j 2 (by decide) (by decide) (by decide) _) j 3 (by decide) (by decide) (by decide) _, O4.out.same (SameOn.set (SameOn.set (SameOn.set (SameOn.set (SameOn.refl _ _) (fun q hq e => G4.out (by have e2 : q = g := e; rw [← e2]; exact hq)) _) (fun q hq e => G4.out (by have e2 : q = g := e; rw [← e2]; exact hq)) _) (fun q hq e => G4.out (by have e2 : q = g := e; rw [← e2]; exact hq)) _) (fun q hq e => G4.out (by have e2 : q = g := e; rw [← e2]; exact hq)) _), O5.out.same (SameOn.set (SameOn.set (SameOn.set (SameOn.set (SameOn.refl _ _) (fun q hq e => G5.out (by have e2 : q = g := e; rw [← e2]; exact hq)) _) (fun q hq e => G5.out (by have e2 : q = g := e; rw [← e2]; exact hq)) _) (fun q hq e => G5.out (by have e2 : q = g := e; rw [← e2]; exact hq)) _) (fun q hq e => G5.out (by have e2 : q = g := e; rw [← e2]; exact hq)) _)⟩ (fun z1 hz => ?_)
        obtain ⟨sa, p4, p5⟩ := hz
        replace st1 := hideIt sa
        replace O4 := hideIt p4
        replace O5 := hideIt p5
        clear sa p4 p5
        refine (markTables_w _ _ O4.out D4.out (by omega) (by omega) (by omega)).mono ?_
        rintro e z2 ⟨r4, rfl, ra4, rb4, cc⟩
        replace st1 := hideIt (st1.out.call cc M4.out G4.out)
        replace O5 := hideIt (O5.out.same (cc.same O5.out.lt N5_4.out))
        clear cc O4
        obtain ⟨o0, c0⟩ := st1.out.has (o := j * 6) (by omega)
        obtain ⟨o1, c1⟩ := st1.out.has (o := j * 6 + 1) (by omega)
        obtain ⟨o2, c2⟩ := st1.out.has (o := j * 6 + 2) (by omega)
        obtain ⟨o3, c3⟩ := st1.out.has (o := j * 6 + 3) (by omega)
        have c4 : z2.cell? ⟨g, j * 6 + 4, none⟩ = some (.slice A4 x.delay.length n4) := by simpa using st1.out.kept (i := j) (f := 4) (by decide) H4.out
        have c5 : z2.cell? ⟨g, j * 6 + 5, none⟩ = some (.slice A5 x.slew.length n5) := by simpa using st1.out.kept (i := j) (f := 5) (by decide) H5.out
        have cf := st1.out.frozen
        have cl := st1.out.lt
        go_wp2_with fail
        clear c0 c1 c2 c3 c4 c5 cf cl
        refine (markTables_w _ _ O5.out D5.out (by omega) (by omega) (by omega)).mono ?_
        rintro e z3 ⟨r5, rfl, ra5, rb5, cc⟩
        replace st1 := hideIt (st1.out.call cc M5.out G5.out)
        clear cc O5
        obtain ⟨o0, c0⟩ := st1.out.has (o := j * 6) (by omega)
        obtain ⟨o1, c1⟩ := st1.out.has (o := j * 6 + 1) (by omega)
        obtain ⟨o2, c2⟩ := st1.out.has (o := j * 6 + 2) (by omega)
        obtain ⟨o3, c3⟩ := st1.out.has (o := j * 6 + 3) (by omega)
        have c4 : z3.cell? ⟨g, j * 6 + 4, none⟩ = some (.slice A4 x.delay.length n4) := by simpa using st1.out.kept (i := j) (f := 4) (by decide) H4.out
        have c5 : z3.cell? ⟨g, j * 6 + 5, none⟩ = some (.slice A5 x.slew.length n5) := by simpa using st1.out.kept (i := j) (f := 5) (by decide) H5.out
        have cf := st1.out.frozen
        have cl := st1.out.lt
        go_wp2
        go_roundw
        case rel => exact ⟨j + 1, _, by omega, rfl, by go_num, by omega, hideIt (by rw [sum_take_succ (f := wtArc) HX.out, ← ES.out]; omega), hideIt (st1.out)⟩
        case measure => simp [intOf]; omega
      · obtain rfl : j = xs.length := by omega
        have hb2 := hkb.out
        rw [List.take_of_length_le (Nat.le_refl _), ← ET.out] at hb2
        have HB := hideIt hb2
        clear hb2 hkb
        go_wp2
        go_ret
        exact ⟨_, rfl, hkk, by have := HB.out; omega, hst.out.chg.mono fun q hq => by
          rcases List.mem_cons.1 hq with rfl | hq
          · exact List.mem_cons_self ..
          · exact List.mem_cons_of_mem _ (part_all q hq)⟩
set_option maxHeartbeats 4000000 in
set_option maxRecDepth 10000 in
theorem markCells_w {v : Value} {xs : List CellD} {bs : List Nat} (k : Int) (w : World) (h : OCells w v xs bs) (hnd : bs.Nodup) (hw : wtCells xs ≤ 1048576) (hk : 0 ≤ k) (hk2 : k + 4 * (wtCells xs : Int) ≤ 1000000000000) :
    Calls Tryz.prog 25 #[v, .int .i64 k] w (MarkW (wtCells xs) k bs w) := by
  rcases h with ⟨rfl, rfl, rfl⟩ | ⟨g, c, cs, bss, rfl, h1, h2, hb, hl, rfl, hc⟩
  · go_enter Tryz.func25, Tryz.ntmps25
    go_wp2
    go_loopw [1, 5] (fun q i wr => q = .int .i64 k ∧ i = .int .i64 0 ∧ wr = w) (fun _ _ _ => 0)
    case atStart => exact ⟨rfl, rfl, rfl⟩
    case round =>
      obtain ⟨rfl, rfl, rfl⟩ := hrel
      go_wp2
      go_ret
      exact ⟨_, rfl, by omega, by omega, Chg.refl _ _⟩
  · have ST0 : MkSt 7 71 [2, 3, 4] w g cs (bss.take 0).flatten w := (MkSt.start hb).more (fun _ h => h)
    have ST0 := hideIt ST0
    have ND := hideIt hnd
    have HC := hideIt hc
    have hlen : xs.length ≤ 1048576 := by unfold wtCells wtL at hw; omega
    have hT : xs.length + (xs.map wtCell).sum ≤ wtCells xs := by unfold wtCells wtL; exact Nat.le_refl _
    obtain ⟨T, eT⟩ : ∃ T : Nat, T = (xs.map wtCell).sum := ⟨_, rfl⟩
    rw [← eT] at hT
    have ET := hideIt eT
    clear eT hnd hc hb hl
    go_enter Tryz.func25, Tryz.ntmps25
    go_wp2
    go_loopw [1, 5] (fun q i wr => ∃ (j : Nat) (kk : Int), j ≤ xs.length ∧ q = .int .i64 kk ∧ i = .int .i64 (j : Int) ∧ k ≤ kk ∧ Hid (kk ≤ k + 4 * ((j + ((xs.take j).map wtCell).sum : Nat) : Int)) ∧ Hid (MkSt 7 71 [2, 3, 4] w g cs (bss.take j).flatten wr)) (fun _ i _ => xs.length - (intOf i).toNat)
    case atStart => exact ⟨0, k, Nat.zero_le _, rfl, rfl, Int.le_refl _, hideIt (by simp), ST0.out⟩
    case round =>
      obtain ⟨j, kk, hj, rfl, rfl, hkk, hkb, hst⟩ := hrel
      by_cases hlt : j < xs.length
      · obtain ⟨x, hx⟩ : ∃ x, xs[j]? = some x := ⟨_, List.getElem?_eq_getElem hlt⟩
        obtain ⟨es, b, hes, hcs, hbi, ho⟩ := HC.out j x hx
        have HX := hideIt hx
        have SN := hideIt (sum_take_succ (f := wtCell) hx)
        obtain ⟨S0, eS⟩ : ∃ S0 : Nat, S0 = ((xs.take j).map wtCell).sum := ⟨_, rfl⟩
        have ES := hideIt eS
        have hkb1 : kk ≤ k + 4 * ((j : Int) + (S0 : Int)) := by have := hkb.out; rw [← eS] at this; omega
        have hS1 : S0 + wtCell x ≤ T := by have h1 := SN.out; have h2 := sum_take_le wtCell xs (j + 1); rw [← eS] at h1; have := ET.out; omega
        have PM := hideIt (part_mem hbi)
        have PO := hideIt (part_of ND.out hbi)
        have st1 := hideIt (hst.out.more (part_mem hbi).1)
        have ho := ho.same (hst.out.part ND.out hbi ho.lt)
        obtain ⟨v2, v3, v4, b2, b3, b4, ee, -, h2, h3, h4, eb⟩ := ho
        subst ee
        have eb2 := eb.symm
        subst eb2
        have dd := PO.out.2.1
        obtain ⟨l2, r2, x2, y2⟩ := nodup2 dd
        obtain ⟨l1, r1, x1, y1⟩ := nodup2 l2
        have D2 := hideIt l1
        have D3 := hideIt r1
        have D4 := hideIt r2
        have N2_3 : Hid (∀ q ∈ b2, q ∉ b3) := hideIt fun q hm hn => x1 q hm hn
        have N3_2 : Hid (∀ q ∈ b3, q ∉ b2) := hideIt fun q hm hn => y1 q hm hn
        have N2_4 : Hid (∀ q ∈ b2, q ∉ b4) := hideIt fun q hm hn => x2 q (by simp [hm]) hn
        have N4_2 : Hid (∀ q ∈ b4, q ∉ b2) := hideIt fun q hm hn => y2 q hm (by simp [hn])
        have N3_4 : Hid (∀ q ∈ b3, q ∉ b4) := hideIt fun q hm hn => x2 q (by simp [hm]) hn
        have N4_3 : Hid (∀ q ∈ b4, q ∉ b3) := hideIt fun q hm hn => y2 q hm (by simp [hn])
        have G2 : Hid (g ∉ b2) := hideIt fun hm => PO.out.1 (by simp [hm])
        have M2 : Hid (∀ q ∈ b2, q ∈ (bss.take (j + 1)).flatten) := hideIt fun q hm => PM.out.2 q (by simp [hm])
        have O2 := hideIt h2
        obtain ⟨A2, n2, rfl⟩ : ∃ (A : Option Addr) (q : Nat), v2 = .slice A x.pins.length q := by obtain ⟨A, q, e, -⟩ := RList.form h2.reads; exact ⟨A, q, e⟩
        have H2 := hideIt (hcs 2 _ rfl)
        have G3 : Hid (g ∉ b3) := hideIt fun hm => PO.out.1 (by simp [hm])
        have M3 : Hid (∀ q ∈ b3, q ∈ (bss.take (j + 1)).flatten) := hideIt fun q hm => PM.out.2 q (by simp [hm])
        have O3 := hideIt h3
        obtain ⟨A3, n3, rfl⟩ : ∃ (A : Option Addr) (q : Nat), v3 = .slice A x.arcs.length q := by obtain ⟨A, q, e, -⟩ := RList.form h3.reads; exact ⟨A, q, e⟩
        have H3 := hideIt (hcs 3 _ rfl)
        have G4 : Hid (g ∉ b4) := hideIt fun hm => PO.out.1 (by simp [hm])
        have M4 : Hid (∀ q ∈ b4, q ∈ (bss.take (j + 1)).flatten) := hideIt fun q hm => PM.out.2 q (by simp [hm])
        have O4 := hideIt h4
        obtain ⟨A4, n4, rfl⟩ : ∃ (A : Option Addr) (q : Nat), v4 = .slice A x.truth.length q := by obtain ⟨A, q, e, -⟩ := RList.form h4.reads; exact ⟨A, q, e⟩
        have H4 := hideIt (hcs 4 _ rfl)
        have hwx : wtPins x.pins + wtArcs x.arcs + x.truth.length ≤ wtCell x := by unfold wtCell; omega
        have hsz : j * 7 + 6 < cs.size := (Array.getElem?_eq_some_iff.1 (hcs 6 _ rfl)).1
        clear hx hcs hes hkb hst SN eS h2 h3 h4 dd l1 r1 x1 y1 l2 r2 x2 y2
        obtain ⟨o0, c0⟩ := st1.out.has (o := j * 7) (by omega)
        obtain ⟨o1, c1⟩ := st1.out.has (o := j * 7 + 1) (by omega)
        have c2 : wr.cell? ⟨g, j * 7 + 2, none⟩ = some (.slice A2 x.pins.length n2) := by simpa using st1.out.kept (i := j) (f := 2) (by decide) H2.out
        have c3 : wr.cell? ⟨g, j * 7 + 3, none⟩ = some (.slice A3 x.arcs.length n3) := by simpa using st1.out.kept (i := j) (f := 3) (by decide) H3.out
        have c4 : wr.cell? ⟨g, j * 7 + 4, none⟩ = some (.slice A4 x.truth.length n4) := by simpa using st1.out.kept (i := j) (f := 4) (by decide) H4.out
        obtain ⟨o5, c5⟩ := st1.out.has (o := j * 7 + 5) (by omega)
        obtain ⟨o6, c6⟩ := st1.out.has (o := j * 7 + 6) (by omega)
        have cf := st1.out.frozen
        have cl := st1.out.lt
        go_wp2_with fail
        clear c0 c1 c2 c3 c4 c5 c6 cf cl
        refine (markText_any _ _ (by omega) (by omega)).mono ?_
        rintro e z1 ⟨s0, rfl, gg⟩
        replace st1 := hideIt (st1.out.grows gg)
        replace O2 := hideIt (O2.out.same ((SameOn.refl _ _).grows O2.out.lt gg))
        replace O3 := hideIt (O3.out.same ((SameOn.refl _ _).grows O3.out.lt gg))
        replace O4 := hideIt (O4.out.same ((SameOn.refl _ _).grows O4.out.lt gg))
        clear gg
        obtain ⟨o0, c0⟩ := st1.out.has (o := j * 7) (by omega)
        obtain ⟨o1, c1⟩ := st1.out.has (o := j * 7 + 1) (by omega)
        have c2 : z1.cell? ⟨g, j * 7 + 2, none⟩ = some (.slice A2 x.pins.length n2) := by simpa using st1.out.kept (i := j) (f := 2) (by decide) H2.out
        have c3 : z1.cell? ⟨g, j * 7 + 3, none⟩ = some (.slice A3 x.arcs.length n3) := by simpa using st1.out.kept (i := j) (f := 3) (by decide) H3.out
        have c4 : z1.cell? ⟨g, j * 7 + 4, none⟩ = some (.slice A4 x.truth.length n4) := by simpa using st1.out.kept (i := j) (f := 4) (by decide) H4.out
        obtain ⟨o5, c5⟩ := st1.out.has (o := j * 7 + 5) (by omega)
        obtain ⟨o6, c6⟩ := st1.out.has (o := j * 7 + 6) (by omega)
        have cf := st1.out.frozen
        have cl := st1.out.lt
        go_wp2_with fail
        clear c0 c1 c2 c3 c4 c5 c6 cf cl
        refine at_world (fun u => MkSt 7 71 [2, 3, 4] w g cs (bss.take (j + 1)).flatten u ∧ OPins u (.slice A2 x.pins.length n2) x.pins b2 ∧ OArcs u (.slice A3 x.arcs.length n3) x.arcs b3 ∧ OInts u (.slice A4 x.truth.length n4) x.truth b4) ⟨MkSt.store (MkSt.store (st1.out) j 0 (by decide) (by decide) (by decide) _) j 1 (by decide) (by decide) (by decide) _, O2.out.same (SameOn.set (SameOn.set (SameOn.refl _ _) (fun q hq e => G2.out (by have e2 : q = g := e; rw [← e2]; exact hq)) _) (fun q hq e => G2.out (by have e2 : q = g := e; rw [← e2]; exact hq)) _), O3.out.same (SameOn.set (SameOn.set (SameOn.refl _ _) (fun q hq e => G3.out (by have e2 : q = g := e; rw [← e2]; exact hq)) _) (fun q hq e => G3.out (by have e2 : q = g := e; rw [← e2]; exact hq)) _), O4.out.same (SameOn.set (SameOn.set (SameOn.refl _ _) (fun q hq e => G4.out (by have e2 : q = g := e; rw [← e2]; exact hq)) _) (fun q hq e => G4.out (by have e2 : q = g := e; rw [← e2]; exact hq)) _)⟩ (fun z2 hz => ?_)
        obtain ⟨sa, p2, p3, p4⟩ := hz
        replace st1 := hideIt sa
        replace O2 := hideIt p2
        replace O3 := hideIt p3
        replace O4 := hideIt p4
        clear sa p2 p3 p4
        refine (markPins_w _ _ O2.out D2.out (by omega) (by omega) (by omega)).mono ?_
        rintro e z3 ⟨r2, rfl, ra2, rb2, cc⟩
        replace st1 := hideIt (st1.out.call cc M2.out G2.out)
        replace O3 := hideIt (O3.out.same (cc.same O3.out.lt N3_2.out))
        replace O4 := hideIt (O4.out.same (cc.same O4.out.lt N4_2.out))
        clear cc O2
        obtain ⟨o0, c0⟩ := st1.out.has (o := j * 7) (by omega)
        obtain ⟨o1, c1⟩ := st1.out.has (o := j * 7 + 1) (by omega)
        have c2 : z3.cell? ⟨g, j * 7 + 2, none⟩ = some (.slice A2 x.pins.length n2) := by simpa using st1.out.kept (i := j) (f := 2) (by decide) H2.out
        have c3 : z3.cell? ⟨g, j * 7 + 3, none⟩ = some (.slice A3 x.arcs.length n3) := by simpa using st1.out.kept (i := j) (f := 3) (by decide) H3.out
        have c4 : z3.cell? ⟨g, j * 7 + 4, none⟩ = some (.slice A4 x.truth.length n4) := by simpa using st1.out.kept (i := j) (f := 4) (by decide) H4.out
        obtain ⟨o5, c5⟩ := st1.out.has (o := j * 7 + 5) (by omega)
        obtain ⟨o6, c6⟩ := st1.out.has (o := j * 7 + 6) (by omega)
        have cf := st1.out.frozen
        have cl := st1.out.lt
        go_wp2_with fail
        clear c0 c1 c2 c3 c4 c5 c6 cf cl
        refine (markArcs_w _ _ O3.out D3.out (by omega) (by omega) (by omega)).mono ?_
        rintro e z4 ⟨r3, rfl, ra3, rb3, cc⟩
        replace st1 := hideIt (st1.out.call cc M3.out G3.out)
        replace O4 := hideIt (O4.out.same (cc.same O4.out.lt N4_3.out))
        clear cc O3
        obtain ⟨o0, c0⟩ := st1.out.has (o := j * 7) (by omega)
        obtain ⟨o1, c1⟩ := st1.out.has (o := j * 7 + 1) (by omega)
        have c2 : z4.cell? ⟨g, j * 7 + 2, none⟩ = some (.slice A2 x.pins.length n2) := by simpa using st1.out.kept (i := j) (f := 2) (by decide) H2.out
        have c3 : z4.cell? ⟨g, j * 7 + 3, none⟩ = some (.slice A3 x.arcs.length n3) := by simpa using st1.out.kept (i := j) (f := 3) (by decide) H3.out
        have c4 : z4.cell? ⟨g, j * 7 + 4, none⟩ = some (.slice A4 x.truth.length n4) := by simpa using st1.out.kept (i := j) (f := 4) (by decide) H4.out
        obtain ⟨o5, c5⟩ := st1.out.has (o := j * 7 + 5) (by omega)
        obtain ⟨o6, c6⟩ := st1.out.has (o := j * 7 + 6) (by omega)
        have cf := st1.out.frozen
        have cl := st1.out.lt
        go_wp2_with fail
        clear c0 c1 c2 c3 c4 c5 c6 cf cl
        refine (markInts_w _ _ O4.out D4.out (by omega) (by omega) (by omega)).mono ?_
        rintro e z5 ⟨r4, rfl, ra4, rb4, cc⟩
        replace st1 := hideIt (st1.out.call cc M4.out G4.out)
        clear cc O4
        obtain ⟨o0, c0⟩ := st1.out.has (o := j * 7) (by omega)
        obtain ⟨o1, c1⟩ := st1.out.has (o := j * 7 + 1) (by omega)
        have c2 : z5.cell? ⟨g, j * 7 + 2, none⟩ = some (.slice A2 x.pins.length n2) := by simpa using st1.out.kept (i := j) (f := 2) (by decide) H2.out
        have c3 : z5.cell? ⟨g, j * 7 + 3, none⟩ = some (.slice A3 x.arcs.length n3) := by simpa using st1.out.kept (i := j) (f := 3) (by decide) H3.out
        have c4 : z5.cell? ⟨g, j * 7 + 4, none⟩ = some (.slice A4 x.truth.length n4) := by simpa using st1.out.kept (i := j) (f := 4) (by decide) H4.out
        obtain ⟨o5, c5⟩ := st1.out.has (o := j * 7 + 5) (by omega)
        obtain ⟨o6, c6⟩ := st1.out.has (o := j * 7 + 6) (by omega)
        have cf := st1.out.frozen
        have cl := st1.out.lt
        go_wp2
        go_roundw
        case rel => exact ⟨j + 1, _, by omega, rfl, by go_num, by omega, hideIt (by rw [sum_take_succ (f := wtCell) HX.out, ← ES.out]; omega), hideIt (MkSt.store (MkSt.store (st1.out) j 5 (by decide) (by decide) (by decide) _) j 6 (by decide) (by decide) (by decide) _)⟩
        case measure => simp [intOf]; omega
      · obtain rfl : j = xs.length := by omega
        have hb2 := hkb.out
        rw [List.take_of_length_le (Nat.le_refl _), ← ET.out] at hb2
        have HB := hideIt hb2
        clear hb2 hkb
        go_wp2
        go_ret
        exact ⟨_, rfl, hkk, by have := HB.out; omega, hst.out.chg.mono fun q hq => by
          rcases List.mem_cons.1 hq with rfl | hq
          · exact List.mem_cons_self ..
          · exact List.mem_cons_of_mem _ (part_all q hq)⟩
set_option maxHeartbeats 2000000 in
theorem markLib_w {vv0 : Value} {x : LibD} {bs : List Nat} (k : Int) (w : World) (h : OLib w [vv0] x bs) (hnd : bs.Nodup) (hw : wtLib x ≤ 1048576) (hk : 0 ≤ k) (hk2 : k + 4 * (wtLib x : Int) ≤ 1000000000000) :
    Calls Tryz.prog 10 #[.agg #[vv0], .int .i64 k] w (MarkW (wtLib x) k bs w) := by
  obtain ⟨w0, b0, ee, h0, eb⟩ := h
  injection ee with e0 ee
  subst e0
  have eb2 := eb.symm
  subst eb2
  clear ee eb
  have D0 := hideIt hnd
  clear hnd
  have g0 := (Grows.refl w).alloc (.cells #[vv0] 35)
  have SB := hideIt (Blk.new w 35 #[vv0])
  have CH : Hid (Chg (b0) w (w.alloc (.cells #[vv0] 35))) := hideIt (Chg.of_grows g0)
  have B0 : Hid (w.heap.size ∉ b0) := hideIt fun hm => by have := h0.lt _ hm; omega
  have O0 := hideIt (h0.same ((SameOn.refl _ _).grows h0.lt g0))
  have hwx : wtCells x.cells ≤ wtLib x := by unfold wtLib; omega
  have hwy : wtLib x ≤ wtCells x.cells := by unfold wtLib; omega
  clear g0 h0
  go_enter Tryz.func10, Tryz.ntmps10
  go_wp2_with fail
  refine (markCells_w _ _ O0.out D0.out (by omega) (by omega) (by omega)).mono ?_
  rintro e z0 ⟨r0, rfl, ra0, rb0, cc⟩
  replace CH := hideIt (CH.out.trans (cc.mono (fun q hq => by simp [hq])))
  replace SB := hideIt (SB.out.chg cc B0.out)
  clear cc O0
  have c0 : z0.cell? ⟨w.heap.size, 0, none⟩ = some (vv0) := SB.out.cell 0
  have cl := SB.out.lt
  have cf := SB.out.frozen
  go_wp2
  go_ret
  exact ⟨_, rfl, by omega, by omega, CH.out⟩
set_option maxHeartbeats 2000000 in
theorem markDesign_w {vv0 vv1 vv2 : Value} {x : DesignD} {bs : List Nat} (k : Int) (w : World) (h : ODesign w [vv0, vv1, vv2] x bs) (hnd : bs.Nodup) (hw : wtDesign x ≤ 1048576) (hk : 0 ≤ k) (hk2 : k + 4 * (wtDesign x : Int) ≤ 1000000000000) :
    Calls Tryz.prog 11 #[.agg #[vv0, vv1, vv2], .int .i64 k] w (MarkW (wtDesign x) k bs w) := by
  obtain ⟨w0, w1, w2, b0, b1, b2, ee, h0, h1, h2, eb⟩ := h
  injection ee with e0 ee
  injection ee with e1 ee
  injection ee with e2 ee
  subst e0 e1 e2
  have eb2 := eb.symm
  subst eb2
  clear ee eb
  obtain ⟨l2, r2, x2, y2⟩ := nodup2 hnd
  obtain ⟨l1, r1, x1, y1⟩ := nodup2 l2
  have D0 := hideIt l1
  have D1 := hideIt r1
  have D2 := hideIt r2
  have N0_1 : Hid (∀ q ∈ b0, q ∉ b1) := hideIt fun q hm hn => x1 q hm hn
  have N1_0 : Hid (∀ q ∈ b1, q ∉ b0) := hideIt fun q hm hn => y1 q hm hn
  have N0_2 : Hid (∀ q ∈ b0, q ∉ b2) := hideIt fun q hm hn => x2 q (by simp [hm]) hn
  have N2_0 : Hid (∀ q ∈ b2, q ∉ b0) := hideIt fun q hm hn => y2 q hm (by simp [hn])
  have N1_2 : Hid (∀ q ∈ b1, q ∉ b2) := hideIt fun q hm hn => x2 q (by simp [hm]) hn
  have N2_1 : Hid (∀ q ∈ b2, q ∉ b1) := hideIt fun q hm hn => y2 q hm (by simp [hn])
  clear hnd l1 r1 x1 y1 l2 r2 x2 y2
  have g0 := (Grows.refl w).alloc (.cells #[vv0, vv1, vv2] 30)
  have SB := hideIt (Blk.new w 30 #[vv0, vv1, vv2])
  have CH : Hid (Chg (b0 ++ b1 ++ b2) w (w.alloc (.cells #[vv0, vv1, vv2] 30))) := hideIt (Chg.of_grows g0)
  have B0 : Hid (w.heap.size ∉ b0) := hideIt fun hm => by have := h0.lt _ hm; omega
  have O0 := hideIt (h0.same ((SameOn.refl _ _).grows h0.lt g0))
  have B1 : Hid (w.heap.size ∉ b1) := hideIt fun hm => by have := h1.lt _ hm; omega
  have O1 := hideIt (h1.same ((SameOn.refl _ _).grows h1.lt g0))
  have B2 : Hid (w.heap.size ∉ b2) := hideIt fun hm => by have := h2.lt _ hm; omega
  have O2 := hideIt (h2.same ((SameOn.refl _ _).grows h2.lt g0))
  have hwx : wtInsts x.insts + x.nets.length + wtPorts x.ports ≤ wtDesign x := by unfold wtDesign; omega
  have hwy : wtDesign x ≤ wtInsts x.insts + x.nets.length + wtPorts x.ports := by unfold wtDesign; omega
  clear g0 h0 h1 h2
  go_enter Tryz.func11, Tryz.ntmps11
  go_wp2_with fail
  refine (markInsts_w _ _ O0.out D0.out (by omega) (by omega) (by omega)).mono ?_
  rintro e z0 ⟨r0, rfl, ra0, rb0, cc⟩
  replace CH := hideIt (CH.out.trans (cc.mono (fun q hq => by simp [hq])))
  replace SB := hideIt (SB.out.chg cc B0.out)
  replace O1 := hideIt (O1.out.same (cc.same O1.out.lt N1_0.out))
  replace O2 := hideIt (O2.out.same (cc.same O2.out.lt N2_0.out))
  clear cc O0
  have c0 : z0.cell? ⟨w.heap.size, 0, none⟩ = some (vv0) := SB.out.cell 0
  have c1 : z0.cell? ⟨w.heap.size, 1, none⟩ = some (vv1) := SB.out.cell 1
  have c2 : z0.cell? ⟨w.heap.size, 2, none⟩ = some (vv2) := SB.out.cell 2
  have cl := SB.out.lt
  have cf := SB.out.frozen
  go_wp2_with fail
  clear c0 c1 c2 cl cf
  refine (markStrs_w _ _ O1.out D1.out (by omega) (by omega) (by omega)).mono ?_
  rintro e z1 ⟨r1, rfl, ra1, rb1, cc⟩
  replace CH := hideIt (CH.out.trans (cc.mono (fun q hq => by simp [hq])))
  replace SB := hideIt (SB.out.chg cc B1.out)
  replace O2 := hideIt (O2.out.same (cc.same O2.out.lt N2_1.out))
  clear cc O1
  have c0 : z1.cell? ⟨w.heap.size, 0, none⟩ = some (vv0) := SB.out.cell 0
  have c1 : z1.cell? ⟨w.heap.size, 1, none⟩ = some (vv1) := SB.out.cell 1
  have c2 : z1.cell? ⟨w.heap.size, 2, none⟩ = some (vv2) := SB.out.cell 2
  have cl := SB.out.lt
  have cf := SB.out.frozen
  go_wp2_with fail
  clear c0 c1 c2 cl cf
  refine (markPorts_w _ _ O2.out D2.out (by omega) (by omega) (by omega)).mono ?_
  rintro e z2 ⟨r2, rfl, ra2, rb2, cc⟩
  replace CH := hideIt (CH.out.trans (cc.mono (fun q hq => by simp [hq])))
  replace SB := hideIt (SB.out.chg cc B2.out)
  clear cc O2
  have c0 : z2.cell? ⟨w.heap.size, 0, none⟩ = some (vv0) := SB.out.cell 0
  have c1 : z2.cell? ⟨w.heap.size, 1, none⟩ = some (vv1) := SB.out.cell 1
  have c2 : z2.cell? ⟨w.heap.size, 2, none⟩ = some (vv2) := SB.out.cell 2
  have cl := SB.out.lt
  have cf := SB.out.frozen
  go_wp2
  go_ret
  exact ⟨_, rfl, by omega, by omega, CH.out⟩
end Go.Proofs.YtocahjbmnkadjaaGreatDoor
