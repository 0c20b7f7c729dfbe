/-
  Contracts of LookUp, the reference's and the program's.
-/
import Derived.Test.YtgglgghlndhfbaaLookS2
import Derived.Test.YtgglgghlndhfbaaLookI3
namespace Go.Proofs.Ytgglgghlndhfbaa
open Go.RowKit

def LookPost (t : TableD) (sl ld m : Int) (w : World) (e : Ending) (w' : World) : Prop :=
  ∃ r c : Int, e = .returned (.tuple #[.int .i64 r, .int .i64 c]) ∧ LookUpV t sl ld m r c ∧ Grows w w'
set_option maxHeartbeats 1000000 in
theorem sLookUp_any {a1 a2 a3 : Value} {t : TableD} (sl ld m : Int) (w : World) (h : RTable w [a1, a2, a3] t) :
    Calls Try.prog 21 #[.agg #[a1, a2, a3], .int .i64 sl, .int .i64 ld, .int .i64 m] w (LookPost t sl ld m w) := by
  generalize hv : tabB t = v
  have E : Hid (tabB t = v) := hv
  clear hv
  have g0 := (Grows.refl w).alloc (.cells #[a1, a2, a3] 26)
  have S := hideIt (Blk.new w 26 #[a1, a2, a3])
  have H := hideIt (h.keep g0.keeps)
  have G := hideIt g0
  clear g0 h
  go_enter Try.func21, Try.ntmps21
  go_wp2_with fail
  refine (sIsTable_any _ H.out).mono ?_
  rintro e u1 ⟨rfl, g⟩
  rw [E.out]
  replace S := hideIt (S.out.grows g)
  replace H := hideIt (H.out.keep g.keeps)
  replace G := hideIt (G.out.trans g)
  clear g
  have c0 := S.out.cell 0
  have c1 := S.out.cell 1
  have c2 := S.out.cell 2
  simp at c0 c1 c2
  cases v
  · go_wp2_with fail
    go_ret2
    exact ⟨0, 1, rfl, by unfold LookUpV; rw [E.out, if_neg (by decide)]; exact ⟨rfl, rfl⟩, G.out⟩
  · cases hm : isM m
    · have EM := hideIt hm
      clear hm
      go_wp2_with (go_at_call 25; refine (l01Mode_any _ _).mono ?_; rintro e w' ⟨rfl, rfl⟩; rw [EM.out])
      go_ret2
      exact ⟨0, 2, rfl, by unfold LookUpV; rw [E.out, EM.out, if_pos rfl, if_neg (by decide)]; exact ⟨rfl, rfl⟩, G.out⟩
    · have EM := hideIt hm
      clear hm
      go_wp2_with (go_at_call 25; refine (l01Mode_any _ _).mono ?_; rintro e w' ⟨rfl, rfl⟩; rw [EM.out])
      refine (l02Look_any sl ld m _ H.out E.out).mono ?_
      rintro e u2 ⟨r, rfl, lv, g⟩
      have LV := hideIt lv
      have G2 := hideIt g
      clear lv g c0 c1 c2
      go_wp2
      go_ret2
      exact ⟨r, 0, rfl, by unfold LookUpV; rw [E.out, EM.out, if_pos rfl, if_pos rfl]; exact ⟨LV.out, rfl⟩, G.out.trans G2.out⟩
set_option maxHeartbeats 1000000 in
theorem iLookUp_any {a1 a2 a3 : Value} {t : TableD} (sl ld m : Int) (w : World) (h : RTable w [a1, a2, a3] t) :
    Calls Try.prog 17 #[.agg #[a1, a2, a3], .int .i64 sl, .int .i64 ld, .int .i64 m] w (LookPost t sl ld m w) := by
  generalize hv : tabB t = v
  have E : Hid (tabB t = v) := hv
  clear hv
  have g0 := (Grows.refl w).alloc (.cells #[a1, a2, a3] 26)
  have S := hideIt (Blk.new w 26 #[a1, a2, a3])
  have H := hideIt (h.keep g0.keeps)
  have G := hideIt g0
  clear g0 h
  go_enter Try.func17, Try.ntmps17
  go_wp2_with fail
  refine (iIsTable_any _ H.out).mono ?_
  rintro e u1 ⟨rfl, g⟩
  rw [E.out]
  replace S := hideIt (S.out.grows g)
  replace H := hideIt (H.out.keep g.keeps)
  replace G := hideIt (G.out.trans g)
  clear g
  have c0 := S.out.cell 0
  have c1 := S.out.cell 1
  have c2 := S.out.cell 2
  simp at c0 c1 c2
  cases v
  · go_wp2_with fail
    go_ret2
    exact ⟨0, 1, rfl, by unfold LookUpV; rw [E.out, if_neg (by decide)]; exact ⟨rfl, rfl⟩, G.out⟩
  · cases hm : isM m
    · have EM := hideIt hm
      clear hm
      go_wp2_with (go_at_call 31; refine (isMode_any _ _).mono ?_; rintro e w' ⟨rfl, rfl⟩; rw [EM.out])
      go_ret2
      exact ⟨0, 2, rfl, by unfold LookUpV; rw [E.out, EM.out, if_pos rfl, if_neg (by decide)]; exact ⟨rfl, rfl⟩, G.out⟩
    · have EM := hideIt hm
      clear hm
      go_wp2_with (go_at_call 31; refine (isMode_any _ _).mono ?_; rintro e w' ⟨rfl, rfl⟩; rw [EM.out])
      refine (lookUp_any sl ld m _ H.out E.out).mono ?_
      rintro e u2 ⟨r, rfl, lv, g⟩
      have LV := hideIt lv
      have G2 := hideIt g
      clear lv g c0 c1 c2
      go_wp2
      go_ret2
      exact ⟨r, 0, rfl, by unfold LookUpV; rw [E.out, EM.out, if_pos rfl, if_pos rfl]; exact ⟨LV.out, rfl⟩, G.out.trans G2.out⟩
end Go.Proofs.Ytgglgghlndhfbaa
