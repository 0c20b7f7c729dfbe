/-
  A struct and the slices of it: owned, small, its budget, copy and equality.
-/
import Derived.Test.YtcaklodecejkhaaDoorListB
namespace Go.Proofs.YtcaklodecejkhaaDoor
open Go.RowKit

theorem szInts_s {v : Value} {xs : List Int} (left : Int) (w : World) (h : RInts w v xs) (h1 : 0 ≤ left) (h2 : left ≤ 1048576) :
    Calls Tryd.prog 28 #[v, .int .i64 left] w (SzPost (SmL xs) w) :=
  (szInts_p left w h h1 h2).mono fun _ _ ⟨r, he, a, b, s, hw⟩ => ⟨r, he, a, b, s, by rw [← hw]; exact Grows.refl _⟩
end Go.Proofs.YtcaklodecejkhaaDoor
