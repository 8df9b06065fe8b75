/- Chapter 6: what stays is equal: the pairs chosen; a script that fits makes the other list. -/
import Derived.Test.YtiihmggoebohkaaDoorB30
namespace Go.Proofs.YtiihmggoebohkaaDoor
open Go Go.RowKit Vc

/-- The pairs that are taken. -/
def eqF (a b : List Int) : List (Int × Int) → Int → Int → List (Int × Int)
  | [], _, _ => []
  | p :: r, x, y => if x ≤ p.1 ∧ p.1 < a.length ∧ y ≤ p.2 ∧ p.2 < b.length ∧ a.getD (0 + p.1.toNat) 0 = b.getD (0 + p.2.toNat) 0 then p :: eqF a b r (p.1 + 1) (p.2 + 1) else eqF a b r x y
theorem eqF_rise {a b : List Int} : ∀ (l : List (Int × Int)) (x y : Int), rise (eqF a b l x y) x y a.length b.length
  | [], _, _ => trivial
  | p :: r, x, y => by
    simp only [eqF]
    split
    · rename_i h; exact ⟨h.1, h.2.2.1, h.2.1, h.2.2.2.1, eqF_rise r _ _⟩
    · exact eqF_rise r x y
theorem eqF_same {a b : List Int} : ∀ (l : List (Int × Int)) (x y : Int), ∀ p ∈ eqF a b l x y, sameAt a b p
  | [], _, _ => by simp [eqF]
  | p :: r, x, y => by
    simp only [eqF]
    split
    · rename_i h
      intro q hq
      rcases List.mem_cons.1 hq with rfl | hq
      · have := h.2.2.2.2
        rwa [Nat.zero_add, Nat.zero_add] at this
      · exact eqF_same r _ _ q hq
    · exact eqF_same r x y
theorem eqF_len {a b : List Int} : ∀ (l : List (Int × Int)) (x y : Int), (eqF a b l x y).length ≤ l.length
  | [], _, _ => by simp [eqF]
  | p :: r, x, y => by
    simp only [eqF]
    split
    · have := eqF_len (a := a) (b := b) r (p.1 + 1) (p.2 + 1)
      simp only [List.length_cons]; omega
    · have := eqF_len (a := a) (b := b) r x y
      simp only [List.length_cons]; omega

theorem drop_seg {b : List Int} {y c : Nat} : (b.drop y).take c ++ b.drop (y + c) = b.drop y := by
  rw [← List.drop_drop, List.take_append_drop]
theorem apply_fits {a b : List Int} : ∀ (s : List Chg) (x y : Int), validF s x y a.length b.length = 0 → 0 ≤ x → x ≤ a.length → 0 ≤ y → y ≤ b.length → (∀ p ∈ pairsF s x y a.length, sameAt a b p) → applyF s a b x = b.drop y.toNat
  | [], x, y, hv, h1, h2, h3, h4, hf => by
    have hn := valid_nil hv
    have h := (seg_eq (a := a) (b := b) (c := a.length - x.toNat) h1 h3 (by omega) (by omega)).2 (by
      intro p hp
      exact hf p (by simp only [pairsF]; rwa [show ((a.length : Int) - x).toNat = a.length - x.toNat from by omega]))
    simp only [applyF]
    rw [h, List.take_of_length_le (by simp; omega)]
  | c :: r, x, y, hv, h1, h2, h3, h4, hf => by
    obtain ⟨hb, hv'⟩ := valid_cons hv
    unfold bad at hb
    have ih := apply_fits r _ _ hv' (by omega) (by omega) (by omega) (by omega) (fun p hp => hf p (by simp only [pairsF]; exact List.mem_append_right _ hp))
    have h := (seg_eq (a := a) (b := b) (c := (c.A - x).toNat) h1 h3 (by omega) (by omega)).2 (fun p hp => hf p (by simp only [pairsF]; exact List.mem_append_left _ hp))
    simp only [applyF]
    rw [show c.A.toNat - x.toNat = (c.A - x).toNat from by omega, h, ih, show (c.B + c.M).toNat - c.B.toNat = c.M.toNat from by omega]
    rw [show c.B.toNat = y.toNat + (c.A - x).toNat from by omega, show (c.B + c.M).toNat = y.toNat + (c.A - x).toNat + c.M.toNat from by omega, drop_seg, drop_seg]
theorem apply_all {s : List Chg} {a b : List Int} (h : fitsF s a b = 0) : applyF s a b 0 = b ∧ validE s a.length b.length = 0 := by
  have hv : validE s a.length b.length = 0 := by
    unfold fitsF at h
    split at h <;> omega
  rw [fits0 hv] at h
  split at h
  · rename_i hf
    have := apply_fits s 0 0 (valid_range hv).2.2.2.2 (by omega) (by omega) (by omega) (by omega) hf
    exact ⟨by rw [this]; rfl, hv⟩
  · omega
end Go.Proofs.YtiihmggoebohkaaDoor
