/- Chapter 7: small cases, computed. -/
import Derived.Test.YtdabahipeepheaaY8
namespace Go.Proofs.Ytdabahipeepheaa

def rowF (fi : Nat → Bool) (prev : Nat → Nat) : Nat → Nat
  | 0 => 0
  | k + 1 => if fi k = true then prev k + 1 else max (prev (k + 1)) (rowF fi prev k)
def lcsC (f : Nat → Nat → Bool) : Nat → Nat → Nat
  | 0 => fun _ => 0
  | i + 1 => rowF (f i) (lcsC f i)
theorem lcsC_eq (f : Nat → Nat → Bool) : ∀ i k, mq f i k = lcsC f i k
  | 0, k => lc_zero f k
  | i + 1, 0 => lc_left f (i + 1)
  | i + 1, k + 1 => by
    have h1 := lcsC_eq f i k
    have h2 := lcsC_eq f i (k + 1)
    have h3 := lcsC_eq f (i + 1) k
    simp only [lcsC, rowF] at h3 ⊢
    cases hf : f i k with
    | true => rw [lc_yes hf, if_pos rfl, h1]
    | false => rw [lc_no hf, if_neg (by simp), h2, h3]
def alB (f : Nat → Nat → Bool) (g c : List Bool) (n m : Nat) : Nat → Nat → Nat → Bool
  | 0, _, _ => true
  | k + 1, x, y => if x < n ∧ g.getD x false = true then alB f g c n m k (x + 1) y else if y < m ∧ c.getD y false = true then alB f g c n m k x (y + 1) else if x < n ∨ y < m then f x y && alB f g c n m k (x + 1) (y + 1) else true
theorem Al.check {f : Nat → Nat → Bool} {g c : List Bool} {n m : Nat} : ∀ (k : Nat) {x y l : Nat}, Al f g c n m x y l → alB f g c n m k x y = true
  | 0, _, _, _, _ => rfl
  | k + 1, x, y, l, h => by
    unfold alB
    by_cases h1 : x < n ∧ g.getD x false = true
    · rw [if_pos h1]; exact Al.check k (h.skipG h1.1 h1.2)
    · rw [if_neg h1]
      by_cases h2 : y < m ∧ c.getD y false = true
      · rw [if_pos h2]; exact Al.check k (h.skipC h2.1 h2.2)
      · rw [if_neg h2]
        by_cases h3 : x < n ∨ y < m
        · rw [if_pos h3]
          cases h with
          | fin => omega
          | gone q1 q2 _ => exact absurd ⟨q1, q2⟩ h1
          | come q1 q2 _ => exact absurd ⟨q1, q2⟩ h2
          | both q1 q2 q3 q4 q5 q6 => rw [q5, Al.check k q6]; rfl
        · rw [if_neg h3]
abbrev lA (l : List Int) : Nat → Int := fun e => l.getD e 0
theorem sure_mq1 : mq (fA (lA [1, 2, 3]) (lA [1, 3]) 3 2) 3 2 = 2 := by rw [lcsC_eq]; decide
theorem sure_mq2 : dist (lA [1, 2, 3, 1, 2, 2, 1]) (lA [3, 2, 1, 2, 1, 3]) 7 6 = 5 := by unfold dist; rw [lcsC_eq]; decide +kernel
theorem sure_mq3 : mq (fA (lA [1, 2]) (lA [2]) 2 1) 2 1 = 1 := by rw [lcsC_eq]; decide
theorem sure_cases : ∀ g0 g1 g2 c0 c1 : Bool, alB (fA (lA [1, 2, 3]) (lA [1, 3]) 3 2) [g0, g1, g2] [c0, c1] 3 2 5 0 0 = true → sumN (chgs [g0, g1, g2] [c0, c1] 3 2) = 1 → sumM (chgs [g0, g1, g2] [c0, c1] 3 2) = 0 → chgs [g0, g1, g2] [c0, c1] 3 2 = [⟨1, 1, 1, 0⟩] := by
  intro g0 g1 g2 c0 c1 h1 h2 h3
  cases g0 <;> cases g1 <;> cases g2 <;> cases c0 <;> cases c1 <;> first
    | rfl
    | exact absurd h2 (by decide)
    | exact absurd h3 (by decide)
    | exact absurd h1 (by decide)
theorem list3 {α : Type} {l : List α} (h : l.length = 3) : ∃ a b c, l = [a, b, c] := by
  match l, h with
  | [a, b, c], _ => exact ⟨a, b, c, rfl⟩
theorem list2 {α : Type} {l : List α} (h : l.length = 2) : ∃ a b, l = [a, b] := by
  match l, h with
  | [a, b], _ => exact ⟨a, b, rfl⟩
theorem sure_diff : diffL (lA [1, 2, 3]) (lA [1, 3]) 3 2 = [⟨1, 1, 1, 0⟩] := by
  obtain ⟨h1, h2, h3⟩ := end_al (lA [1, 2, 3]) (lA [1, 3]) 3 2
  obtain ⟨h4, h5⟩ := dif_sum (3 + 2) h1 (by omega)
  rw [sure_mq1] at h4 h5
  have h6 := h1.check 5
  unfold diffL
  change sumN (chgs _ _ 3 2) = _ at h4
  change sumM (chgs _ _ 3 2) = _ at h5
  obtain ⟨g0, g1, g2, hg⟩ := list3 h2
  obtain ⟨c0, c1, hc⟩ := list2 h3
  rw [hg, hc] at h4 h5 h6 ⊢
  exact sure_cases g0 g1 g2 c0 c1 h6 h4 h5
end Go.Proofs.Ytdabahipeepheaa
