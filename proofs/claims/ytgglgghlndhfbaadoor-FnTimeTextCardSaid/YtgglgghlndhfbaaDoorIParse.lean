/-
  ParseTime, the program's.
-/
import Derived.Test.YtgglgghlndhfbaaDoorParseM
namespace Go.Proofs.YtgglgghlndhfbaaDoor
open Go.RowKit
/-- the errors and the greatest length lie as the library lays them -/
def TE (w : World) : Prop := (∃ tp p, w.var? Tryd.prog "strconv.ErrSyntax" = some #[.iface tp p]) ∧ (∃ tp p, w.var? Tryd.prog "strconv.ErrRange" = some #[.iface tp p]) ∧ ∃ m, w.cell? ⟨2, 0, none⟩ = some (.int .i64 m)
theorem TE.keep {w w' : World} (h : TE w) (g : Grows w w') : TE w' := by
  obtain ⟨⟨a, b, h1⟩, ⟨c, d, h2⟩, m, h3⟩ := h
  exact ⟨⟨a, b, var_grows h1 g⟩, ⟨c, d, var_grows h2 g⟩, m, g.keeps _ _ h3⟩
theorem rep_le (old : List UInt8) : ∀ (k : Nat) (s : List UInt8), (Lib.replaceK old [] k s).length ≤ s.length
  | 0, s => Nat.le_refl _
  | k + 1, s => by
    unfold Lib.replaceK
    split
    · exact Nat.le_refl _
    · have := rep_le old k (s.drop ((Lib.index s old).toNat + old.length))
      simp only [List.length_append, List.length_take, List.length_nil, List.length_drop] at this ⊢
      omega
theorem replace_le (s old : List UInt8) (n : Int) : (Lib.replace s old [] n).length ≤ s.length := by
  unfold Lib.replace
  split
  · exact Nat.le_refl _
  · exact rep_le _ _ _
theorem grows_bytes {w w' : World} {e : TypeId} (h : w' = w ∨ ∃ t, w' = Lib.bytesWorld w e t) : Grows w w' := by
  rcases h with rfl | ⟨t, rfl⟩
  · exact Grows.refl _
  · exact ⟨rfl, rfl, rfl, by rw [Lib.bytesWorld_size]; omega, fun j hj => Lib.bytesWorld_at_old w e t j hj⟩
theorem strDif {a b : ByteArray} (h : ¬ a = b) : (a.toList == b.toList) = false := by
  rw [Bool.eq_false_iff]
  intro e
  rw [beq_iff_eq, ByteArray.toList_eq, ByteArray.toList_eq] at e
  exact h (ByteArray.ext (Array.toList_inj.mp e))
/-- what reading a time gives -/
def ParsePost (s : ByteArray) (w : World) (e : Ending) (w' : World) : Prop := ∃ (n : Int) (ok : Bool), e = .returned (.tuple #[.int .i64 n, .bool ok]) ∧ PT s n ok ∧ Grows w w'
theorem ParsePost.mk' {s : ByteArray} {w w' : World} {n : Int} {ok : Bool} (h : PT s n ok) (g : Grows w w') : ParsePost s w (.returned (.tuple #[.int .i64 n, .bool ok])) w' := ⟨n, ok, rfl, h, g⟩
theorem dsize (s : ByteArray) : s.data.toList.length = s.size := by rw [Array.length_toList]; rfl
set_option maxHeartbeats 4000000 in
theorem iParse_any (s : ByteArray) (w : World) (hs : s.size ≤ 1048576) (hw : TW w) (he : TE w) :
    Calls Tryd.prog 11 #[.string s] w (ParsePost s w) := by
  have H := hideIt hw
  have HE := hideIt he
  have G : Hid (Grows w w) := hideIt (Grows.refl w)
  have IN := hideIt (fun t (ht : isT t) (e : s = fmtB t) => impl_num ht e)
  have hl := replace_le s.data.toList [46] 1
  rw [dsize] at hl
  obtain ⟨m, hm⟩ := he.2.2
  clear hw he
  go_enter Tryd.func11, Tryd.ntmps11
  go_wp2_with fail
  refine (Tryd.strings_Replace s ⟨#[46]⟩ ⟨#[]⟩ 1 m _ (by omega) hm (by decide) (by show s.size + Lib.countB s ⟨#[46]⟩ * 0 ≤ _; omega)).mono ?_
  rintro e u1 ⟨rfl, g⟩
  replace H := hideIt (H.out.keep g)
  replace HE := hideIt (HE.out.keep g)
  replace G := hideIt (G.out.trans g)
  clear g hm
  obtain ⟨r, hr⟩ : ∃ r : ByteArray, r = ⟨(Lib.replace s.data.toList [46] [] 1).toArray⟩ := ⟨_, rfl⟩
  have er : r.data.toList = Lib.replace s.data.toList [46] [] 1 := by rw [hr]
  have zr : r.size ≤ 1048576 := by rw [hr, bsz]; omega
  rw [show (⟨(Lib.replace s.data.toList (⟨#[46]⟩ : ByteArray).data.toList (⟨#[]⟩ : ByteArray).data.toList 1).toArray⟩ : ByteArray) = r from hr.symm]
  replace IN := hideIt (fun t (ht : isT t) (e : s = fmtB t) => by rw [er]; exact IN.out t ht e : ∀ t, isT t → s = fmtB t → Lib.parseIntB 64 r.data.toList = .ok t)
  have RE : Hid (s = ⟨#[]⟩ → r.data.toList = []) := hideIt (fun e0 => by rw [er, e0]; rfl)
  clear hr er hl
  go_wp2_with fail
  cases hp : Lib.parseIntB 64 r.data.toList with
  | ok v =>
    refine (Tryd.strconv_ParseInt_ok r (by omega) v hp _).mono ?_
    rintro e u2 ⟨rfl, g_⟩
    have g := grows_bytes g_
    replace H := hideIt (H.out.keep g)
    replace G := hideIt (G.out.trans g)
    have VT := hideIt (fun t (ht : isT t) (e : s = fmtB t) => by
      have h1 := IN.out t ht e
      rw [hp] at h1
      injection h1 : ∀ t, isT t → s = fmtB t → v = t)
    have NE : Hid (s ≠ ⟨#[]⟩) := hideIt (fun e0 => by
      rw [RE.out e0] at hp
      cases hp)
    clear g g_ hp IN RE
    go_wp2_with fail
    refine (iFmt_any v _ H.out).mono ?_
    rintro e u3 ⟨rfl, g⟩
    replace G := hideIt (G.out.trans g)
    clear g
    by_cases hf : fmtB v = s
    · have PY : Hid (PT s v true) := hideIt (by
        refine PT.yes hf (fun e0 => ?_)
        exact absurd e0 NE.out)
      subst hf
      go_wp2
      refine bodyPost_ret (by simp [*, results, Tryd.results11, go_sem]; try rfl) rfl ?_
      exact .mk' PY.out G.out
    · have PN : Hid (PT s 0 false) := hideIt (PT.no hf VT.out)
      have hd := strDif hf
      go_wp2
      refine bodyPost_ret (by simp [*, results, Tryd.results11, go_sem]; try rfl) rfl ?_
      exact .mk' PN.out G.out
  | range =>
    obtain ⟨tp, p, hv⟩ := HE.out.2.1
    refine (Tryd.strconv_ParseInt_range r (by omega) hp tp p _ hv).mono ?_
    rintro e u2 ⟨N, tq, rfl, g⟩
    replace G := hideIt (G.out.trans g)
    have PN : Hid (PT s 0 false) := hideIt (.inr ⟨rfl, rfl, fun t ht e => by
      have h1 := IN.out t ht e
      rw [hp] at h1
      cases h1⟩)
    clear g hp IN hv RE
    go_wp2
    refine bodyPost_ret (by simp [*, results, Tryd.results11, go_sem]; try rfl) rfl ?_
    exact .mk' PN.out G.out
  | _ =>
    obtain ⟨tp, p, hv⟩ := HE.out.1
    refine (Tryd.strconv_ParseInt_syntax r (by omega) hp tp p _ hv).mono ?_
    rintro e u2 ⟨N, tq, rfl, g⟩
    replace G := hideIt (G.out.trans g)
    have PN : Hid (PT s 0 false) := hideIt (.inr ⟨rfl, rfl, fun t ht e => by
      have h1 := IN.out t ht e
      rw [hp] at h1
      cases h1⟩)
    clear g hp IN hv RE
    go_wp2
    refine bodyPost_ret (by simp [*, results, Tryd.results11, go_sem]; try rfl) rfl ?_
    exact .mk' PN.out G.out
end Go.Proofs.YtgglgghlndhfbaaDoor
