/-
  Numbers read from a text, the program's.
-/
import Derived.Test.YtgglgghlndhfbaaDoorSplitM
import Derived.Test.YtgglgghlndhfbaaDoorIParse
import Derived.Test.YtgglgghlndhfbaaDoorOwnI
import Derived.Test.YtgglgghlndhfbaaDoorRet
namespace Go.Proofs.YtgglgghlndhfbaaDoor
open Go.RowKit
def NumPost (s : ByteArray) (w : World) (e : Ending) (w' : World) : Prop := ∃ (n : Int) (ok : Bool), e = .returned (.tuple #[.int .i64 n, .bool ok]) ∧ NumP s.data.toList n ok ∧ Grows w w'
theorem NumPost.mk' {s : ByteArray} {w w' : World} {n : Int} {ok : Bool} (h : NumP s.data.toList n ok) (g : Grows w w') : NumPost s w (.returned (.tuple #[.int .i64 n, .bool ok])) w' := ⟨n, ok, rfl, h, g⟩
theorem num_no {w : List UInt8} {n : Int} (h : ∀ m, okN m → w ≠ Lib.itoa m) : NumP w n false := ⟨fun e => (by cases e), fun m hm e => absurd e (h m hm)⟩
set_option maxHeartbeats 4000000 in
theorem readNum_any (s : ByteArray) (w : World) (hs : s.size ≤ 1048576) (hw : TW w) (he : TE w) : Calls Tryd.prog 60 #[.string s] w (NumPost s w) := by
  have H := hideIt hw
  have G : Hid (Grows w w) := hideIt (Grows.refl w)
  obtain ⟨⟨tp, p, hv1⟩, ⟨tq, q, hv2⟩, -⟩ := he
  clear hw
  go_enter Tryd.func60, Tryd.ntmps60
  go_wp2_with fail
  cases hp : Lib.parseIntB 64 s.data.toList with
  | ok v =>
    have vb := Lib.parseIntB_bounds hp
    refine (Tryd.strconv_ParseInt_ok s (by omega) v hp _).mono ?_
    rintro e u2 ⟨rfl, g_⟩
    have g := grows_bytes g_
    replace H := hideIt (H.out.keep g)
    replace G := hideIt (G.out.trans g)
    have VM := hideIt (fun m (hm : okN m) (e : s.data.toList = Lib.itoa m) => by
      rw [e, parse_itoa hm] at hp
      injection hp with hp
      exact hp.symm : ∀ m, okN m → s.data.toList = Lib.itoa m → v = m)
    clear g g_ hp hv1 hv2
    go_wp2_with fail
    refine (decimal_any v (by omega) (by omega) _ H.out).mono ?_
    rintro e u3 ⟨rfl, g⟩
    replace G := hideIt (G.out.trans g)
    clear g
    by_cases hf : numB v = s
    · have PY : Hid (NumP s.data.toList v true) := hideIt ⟨fun _ => by rw [← hf]; rfl, fun m hm e => ⟨rfl, VM.out m hm e⟩⟩
      clear VM
      subst hf
      go_wp2
      refine bodyPost_ret (by simp [*, results, Tryd.results60, go_sem]; try rfl) rfl ?_
      exact .mk' PY.out G.out
    · have PN : Hid (NumP s.data.toList v false) := hideIt (num_no fun m hm e => hf (by
        rw [VM.out m hm e]
        apply ByteArray.ext
        apply Array.ext'
        exact e.symm))
      have hd := strDif hf
      clear hf VM
      go_wp2
      refine bodyPost_ret (by simp [*, results, Tryd.results60, go_sem]; try rfl) rfl ?_
      exact .mk' PN.out G.out
  | range =>
    refine (Tryd.strconv_ParseInt_range s (by omega) hp tq q _ hv2).mono ?_
    rintro e u2 ⟨N, tq', rfl, g⟩
    replace G := hideIt (G.out.trans g)
    have PN : Hid (NumP s.data.toList (Lib.intSat 64 s.data.toList) false) := hideIt (num_no fun m hm e => by
      rw [e, parse_itoa hm] at hp
      cases hp)
    clear g hp hv1 hv2
    go_wp2
    refine bodyPost_ret (by simp [*, results, Tryd.results60, go_sem]; try rfl) rfl ?_
    exact .mk' PN.out G.out
  | _ =>
    refine (Tryd.strconv_ParseInt_syntax s (by omega) hp tp p _ hv1).mono ?_
    rintro e u2 ⟨N, tq', rfl, g⟩
    replace G := hideIt (G.out.trans g)
    have PN : Hid (NumP s.data.toList 0 false) := hideIt (num_no fun m hm e => by
      rw [e, parse_itoa hm] at hp
      cases hp)
    clear g hp hv1 hv2
    go_wp2
    refine bodyPost_ret (by simp [*, results, Tryd.results60, go_sem]; try rfl) rfl ?_
    exact .mk' PN.out G.out
theorem row_grows {w w' : World} {base n : Nat} {t : TypeId} {v : Value} {xs : List Value} (h : w.ownsRow base t 1 v n xs) (g : Grows w w') : w'.ownsRow base t 1 v n xs := by
  obtain ⟨hl, ⟨rfl, h0⟩ | ⟨b, cp, cur, rfl, hb, hk, rest⟩⟩ := h
  · exact ⟨hl, .inl ⟨rfl, h0⟩⟩
  · exact ⟨hl, .inr ⟨b, cp, cur, rfl, hb, (Below.block g b (Array.getElem?_eq_some_iff.1 hk).1).trans hk, rest⟩⟩
def ListPost (s : ByteArray) (w : World) (e : Ending) (w' : World) : Prop :=
  ∃ (A : Option Addr) (c : Nat) (xs : List Int) (bs : List Nat) (ok : Bool), e = .returned (.tuple #[.slice A xs.length c, .bool ok]) ∧ OInts w' (.slice A xs.length c) xs bs ∧ Own w.heap.size w'.heap.size bs ∧ ListP s.data.toList xs ok ∧ Grows w w'
theorem ListPost.mk' {s : ByteArray} {w w' : World} {A : Option Addr} {c n : Nat} {xs : List Int} {bs : List Nat} {ok : Bool} (en : n = xs.length) (h1 : OInts w' (.slice A xs.length c) xs bs) (h2 : Own w.heap.size w'.heap.size bs) (h : ListP s.data.toList xs ok) (g : Grows w w') : ListPost s w (.returned (.tuple #[.slice A n c, .bool ok])) w' := by
  subst en
  exact ⟨A, c, xs, bs, ok, rfl, h1, h2, h, g⟩
/-- the pieces as the library cuts them -/
theorem pieces_eq (s : ByteArray) (c : UInt8) : (Lib.splitB ⟨#[c]⟩ 0 (Lib.countB s ⟨#[c]⟩) s).map (·.data.toList) = splitL c s.data.toList := by
  rw [Lib.splitB_data]
  exact split_lib c _ _ (Nat.le_refl _)
theorem pieces_len (s : ByteArray) (c : UInt8) : (Lib.splitB ⟨#[c]⟩ 0 (Lib.countB s ⟨#[c]⟩) s).length = Lib.countB s ⟨#[c]⟩ + 1 := Lib.splitB_all ⟨#[c]⟩ (Nat.le_refl 1) 0 _ s rfl
theorem count_small (s : ByteArray) (c : UInt8) : Lib.countB s ⟨#[c]⟩ ≤ s.size := Lib.countB_le ⟨#[c]⟩ (Nat.le_refl 1) _ s (Nat.le_refl _)
theorem piece_size {s p : ByteArray} {c : UInt8} (h : p.data.toList ∈ splitL c s.data.toList) : p.size ≤ s.size := by
  have key : ∀ (l : List UInt8) (w : List UInt8), w ∈ splitL c l → w.length ≤ l.length := by
    intro l
    induction l with
    | nil => intro w hw; simp [splitL] at hw; subst hw; simp
    | cons x l ih =>
      intro w hw
      unfold splitL at hw
      split at hw
      · rcases List.mem_cons.1 hw with rfl | hw
        · simp
        · have := ih w hw; simp; omega
      · split at hw
        · simp at hw; subst hw; simp
        · rename_i h t he
          rcases List.mem_cons.1 hw with rfl | hw
          · have := ih h (by rw [he]; simp); simp; omega
          · have := ih w (by rw [he]; simp [hw]); simp; omega
  have := key _ _ h
  rwa [dsize, dsize] at this
set_option maxHeartbeats 8000000 in
set_option maxRecDepth 10000 in
theorem readNums_any (s : ByteArray) (w : World) (hs : s.size ≤ 1048576) (hw : TW w) (he : TE w) : Calls Tryd.prog 35 #[.string s, .string ⟨#[44]⟩] w (ListPost s w) := by
  obtain ⟨i0, hi, hz0, hz1, hz2⟩ := info_parts info_i64'
  have H := hideIt hw
  have HE := hideIt he
  obtain ⟨m, hm⟩ := he.2.2
  clear hw he
  have PE := hideIt (pieces_eq s 44)
  have PL := pieces_len s 44
  have PC := count_small s 44
  go_enter Tryd.func35, Tryd.ntmps35
  go_wp2_with fail
  refine (Tryd.strings_Split s ⟨#[44]⟩ m _ (by omega) hm (by decide)).mono ?_
  rintro e u1 ⟨rfl, rfl⟩
  obtain ⟨ws, hws⟩ : ∃ ws, ws = Lib.splitB ⟨#[44]⟩ 0 (Lib.countB s ⟨#[44]⟩) s := ⟨_, rfl⟩
  rw [← hws] at PE PL ⊢
  rw [← PL]
  have GA : Hid (Grows w (w.alloc (.cells (ws.map Value.string).toArray 9))) := hideIt ((Grows.refl w).alloc _)
  have BW := hideIt (Blk.new w 9 (ws.map Value.string).toArray)
  clear hws hm
  generalize w.alloc (.cells (ws.map Value.string).toArray 9) = W1 at GA BW ⊢
  have lW : w.heap.size < W1.heap.size := BW.out.lt
  go_wp2
  go_loopw [6, 8, 9, 10, 15] (fun v _ _ _ i wr => ∃ (nv : Value) (xs : List Int) (j : Nat), nv = v ∧ j ≤ ws.length ∧ xs.length = j ∧ i = .int .i64 (j : Int) ∧ Hid (wr.ownsRow (W1.heap.size) 2 1 nv (xs).length ((xs).map (Value.int .i64))) ∧ Hid (Grows W1 wr) ∧ Hid ((ws.take j).map (·.data.toList) = xs.map Lib.itoa) ∧ Hid (∀ ys : List Int, (∀ y ∈ ys, okN y) → ws.map (·.data.toList) = ys.map Lib.itoa → xs = ys.take j)) (fun _ _ _ _ i _ => ws.length - (intOf i).toNat)
  case atStart => exact ⟨_, [], 0, rfl, Nat.zero_le _, rfl, rfl, hideIt (World.ownsRow_nil _ _ _ _), hideIt (Grows.refl _), hideIt rfl, hideIt (fun ys _ _ => by simp)⟩
  case round =>
    obtain ⟨nv, xs, j, rfl, hj, hxj, rfl, OW, GG, EQ, UQ⟩ := hrel
    have HXJ := hideIt hxj
    have hxl : xs.length ≤ 1048577 := by omega
    clear hxj
    by_cases hlt : j < ws.length
    · obtain ⟨x, hx⟩ : ∃ x, ws[j]? = some x := ⟨_, List.getElem?_eq_getElem hlt⟩
      have kx : wr.cell? ⟨w.heap.size, j, none⟩ = some (.string x) := (GG.out.cells.1 _ _ lW).trans (by rw [BW.out.cell]; simp [hx])
      have xsz : x.size ≤ 1048576 := Nat.le_trans (piece_size (c := 44) (by rw [← PE.out]; exact List.mem_map_of_mem (List.mem_of_getElem? hx))) hs
      have HX := hideIt hx
      have gw := GA.out.trans GG.out
      have hjs : (ws.map (·.data.toList))[j]? = some x.data.toList := by rw [List.getElem?_map, hx]; rfl
      have HJ := hideIt hjs
      clear hx hjs
      go_wp2_with fail
      refine (readNum_any x _ xsz (H.out.keep gw) (HE.out.keep gw)).mono ?_
      rintro e u3 ⟨n, ok, rfl, hp, g⟩
      clear kx gw
      have G3 := hideIt (GG.out.trans g)
      have OW3 := hideIt (row_grows OW.out g)
      clear OW GG g
      cases ok
      · have PN : Hid (ListP s.data.toList [] false) := hideIt ⟨fun e => (by cases e), fun ys hn hy e => by
          have h1 : ws.map (·.data.toList) = ys.map Lib.itoa := by rw [PE.out, e, listL_words hn]
          have h2 := HJ.out
          rw [h1, List.getElem?_map] at h2
          obtain ⟨y, hy1, hy2⟩ := Option.map_eq_some_iff.1 h2
          have h3 := hp.2 y (hy y (List.mem_of_getElem? hy1)) hy2.symm
          cases h3.1⟩
        clear hp
        go_wp2
        refine bodyPost_ret (by simp [*, results, Tryd.results35, go_sem]; try rfl) rfl ?_
        exact .mk' rfl OInts.nil Own.nil PN.out (GA.out.trans G3.out)
      · have EQ2 : Hid ((ws.take (j + 1)).map (·.data.toList) = (xs ++ [n]).map Lib.itoa) := hideIt (by
          rw [List.take_add_one, HX.out, List.map_append, List.map_append, EQ.out]
          show _ ++ [x.data.toList] = _ ++ [Lib.itoa n]
          rw [hp.1 rfl])
        have UQ2 : Hid (∀ ys : List Int, (∀ y ∈ ys, okN y) → ws.map (·.data.toList) = ys.map Lib.itoa → xs ++ [n] = ys.take (j + 1)) := hideIt (fun ys hy e => by
          have h2 := HJ.out
          rw [e, List.getElem?_map] at h2
          obtain ⟨y, hy1, hy2⟩ := Option.map_eq_some_iff.1 h2
          have h3 := hp.2 y (hy y (List.mem_of_getElem? hy1)) hy2.symm
          rw [List.take_add_one, hy1, ← UQ.out ys hy e, h3.2]
          rfl)
        clear hp EQ UQ
        have own1 := hideIt (OW3.out.alloc (.cells #[.int .i64 n] 2))
        have G1 := hideIt (G3.out.alloc (.cells #[.int .i64 n] 2))
        have nlt : Hid (∀ q, nv.ownBlock = some q → W1.heap.size ≤ q ∧ q < u3.heap.size) := hideIt OW3.out.lt
        clear OW3 G3
        go_wp2_with (at_builtin; refine wpList_append_own_at _ rfl _ _ 27 rfl (W1.heap.size) 2 i0 (.int .i64 0) 1 8 Tryd.underlying27 hi hz0 hz1 hz2 rfl (by decide) nv xs.length (xs.map (Value.int .i64)) rfl own1.out ⟨u3.heap.size, 0, none⟩ 1 1 [.int .i64 n] rfl ?c1 ?c2 ?c3 ?c4 ?c5 ?c6 ?_)
        case c1 => simp
        case c2 =>
          intro j u hj
          match j, hj with
          | 0, hj => simp at hj; subst hj; simp [Addr.add]
        case c3 => intro u hu; simp at hu; subst hu; rfl
        case c4 => unfold maxLen; omega
        case c5 => omega
        case c6 => exact G1.out.size
        intro v' w4 hown3 hgrow hnil hat
        have GG := hideIt (Grows.grown G1.out hgrow (fun q e => (nlt.out q e).1))
        have OW : Hid (w4.ownsRow (W1.heap.size) 2 1 v' (xs ++ [n]).length ((xs ++ [n]).map (Value.int .i64))) := hideIt (by rw [List.length_append, List.map_append]; exact hown3)
        clear hown3 hgrow hnil hat own1 G1 nlt
        go_wp2
        go_roundw
        case rel => exact ⟨_, xs ++ [n], j + 1, rfl, by omega, by have := HXJ.out; simp; omega, by go_num, OW, GG, EQ2, UQ2⟩
        case measure => simp [intOf]; omega
    · obtain rfl : j = ws.length := by omega
      have PY : Hid (ListP s.data.toList xs true) := hideIt ⟨fun _ => by
          have h1 := EQ.out
          rw [List.take_length, PE.out] at h1
          have h2 := join_split 44 s.data.toList
          rw [h1] at h2
          exact h2.symm, fun ys hn hy e => ⟨rfl, by
          have h1 : ws.map (·.data.toList) = ys.map Lib.itoa := by rw [PE.out, e, listL_words hn]
          have h2 := UQ.out ys hy h1
          have h3 : ws.length = ys.length := by have := congrArg List.length h1; simpa using this
          rw [h3, List.take_length] at h2
          exact h2⟩⟩
      obtain ⟨A2, c2, bs, rfl, ho, how⟩ := own_oints OW.out
      have HO := hideIt ho
      have HW := hideIt how
      clear ho how OW EQ UQ
      go_wp2
      refine bodyPost_ret (by simp [*, results, Tryd.results35, go_sem]; try rfl) rfl ?_
      exact .mk' rfl HO.out (HW.out.mono (by omega) (Nat.le_refl _)) PY.out (GA.out.trans GG.out)
end Go.Proofs.YtgglgghlndhfbaaDoor
