/- Chapter 15: the document's pieces of a text, walked. -/
import Derived.Test.YtjlobgcmhnkgnaaDoorW2
namespace Go.Proofs.YtjlobgcmhnkgnaaDoor
open Go Go.RowKit Vc

theorem class_ne (c p : UInt8) : classF c = classF p ↔ kindF c = kindF p := by
  have h1 := kind_le c
  have h2 := kind_le p
  unfold classF
  split <;> split <;> (try split) <;> (try split) <;> omega
theorem class_0 (c : UInt8) : classF c = 0 ↔ kindF c = 2 := by
  have h1 := kind_le c
  unfold classF
  split <;> (try split) <;> omega
theorem seg_snoc {s : Byt} {a i : Nat} (h : i < s.length) (ha : a ≤ i) : (s.drop a).take (i + 1 - a) = (s.drop a).take (i - a) ++ [s.getD i 0] := by
  rw [show i + 1 - a = (i - a) + 1 by omega, List.take_add_one, List.getElem?_drop, show a + (i - a) = i by omega]
  simp [h]
theorem seg_one {s : Byt} {i : Nat} (h : i < s.length) : (s.drop i).take (i + 1 - i) = [s.getD i 0] := by
  have := seg_snoc (s := s) (a := i) h (Nat.le_refl _)
  simpa using this
theorem seg_last {s : Byt} {a i : Nat} (h : i ≤ s.length) (ha : a < i) : lastB ((s.drop a).take (i - a)) = s.getD (i - 1) 0 := by
  obtain ⟨m, rfl⟩ : ∃ m, i = m + 1 := ⟨i - 1, by omega⟩
  rw [seg_snoc (by omega) (by omega), lastB_snoc, Nat.add_sub_cancel]
end Go.Proofs.YtjlobgcmhnkgnaaDoor
