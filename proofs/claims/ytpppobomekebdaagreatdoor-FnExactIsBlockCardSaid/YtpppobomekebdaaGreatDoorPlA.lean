/-
  Places and pins as the walk meets them.
-/
import Derived.Test.YtpppobomekebdaaGreatDoorPlF
import Derived.Test.YtpppobomekebdaaGreatDoorSParts
import Derived.Test.YtpppobomekebdaaGreatDoorINet
namespace Go.Proofs.YtpppobomekebdaaGreatDoor
open Go.RowKit
theorem ret_two {a b c d : Int} (h : a = b) (k : c = d) : Ending.returned (.tuple #[.int .i64 a, .int .i64 c]) = .returned (.tuple #[.int .i64 b, .int .i64 d]) := by rw [h, k]
theorem ret_str {a b : ByteArray} (h : a = b) : Ending.returned (.string a) = .returned (.string b) := by rw [h]
theorem place_at {w : World} {A : Option Addr} {n : Nat} {xs : List PlaceD} (h : RPlaces w (.slice A xs.length n) xs) {i : Nat} {x : PlaceD} (hi : xs[i]? = some x) : ∃ b off : Nat, A = some ⟨b, off, none⟩ ∧ w.cell? ⟨b, off + i * 4, none⟩ = some (.int .i64 x.inst) ∧ w.cell? ⟨b, off + i * 4 + 1, none⟩ = some (.int .i64 x.pin) ∧ w.cell? ⟨b, off + i * 4 + 2, none⟩ = some (.int .i64 x.net) ∧ w.cell? ⟨b, off + i * 4 + 3, none⟩ = some (.bool x.drives) := by
  obtain ⟨A', n', e, -, -, hx⟩ := RList.form h
  injection e with e1 e2
  subst e1
  obtain ⟨b, off, rfl, ds, hl1, hcs, hr⟩ := hx i x hi
  unfold RPlace at hr
  subst hr
  exact ⟨b, off, rfl, by simpa using hcs 0 _ rfl, by simpa [Nat.add_assoc] using hcs 1 _ rfl, by simpa [Nat.add_assoc] using hcs 2 _ rfl, by simpa [Nat.add_assoc] using hcs 3 _ rfl⟩
theorem pin_at {w : World} {A : Option Addr} {n : Nat} {xs : List PinD} (h : RPins w (.slice A xs.length n) xs) {i : Nat} {x : PinD} (hi : xs[i]? = some x) : ∃ b off : Nat, A = some ⟨b, off, none⟩ ∧ w.cell? ⟨b, off + i * 4, none⟩ = some (.string x.name) ∧ w.cell? ⟨b, off + i * 4 + 1, none⟩ = some (.int .i64 x.dir) ∧ w.cell? ⟨b, off + i * 4 + 2, none⟩ = some (.int .i64 x.cap) ∧ x.name.size ≤ maxLen := by
  obtain ⟨A', n', e, -, -, hx⟩ := RList.form h
  injection e with e1 e2
  subst e1
  obtain ⟨b, off, rfl, ds, hl1, hcs, hr⟩ := hx i x hi
  obtain ⟨d0, d1, d2, d3, rfl⟩ := list4 hl1
  obtain ⟨rfl, rfl, rfl, rfl, hz⟩ := hr.parts
  exact ⟨b, off, rfl, by simpa using hcs 0 _ rfl, by simpa [Nat.add_assoc] using hcs 1 _ rfl, by simpa [Nat.add_assoc] using hcs 2 _ rfl, hz⟩
end Go.Proofs.YtpppobomekebdaaGreatDoor
