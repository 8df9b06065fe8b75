/- Chapter 15: a script with its end as one change more stays within both lists. -/
import Derived.Test.YtjlobgcmhnkgnaaDoorJ2
namespace Go.Proofs.YtjlobgcmhnkgnaaDoor
open Go Go.RowKit Vc

def okR (n m : Int) : List Chg → Int → Prop
  | [], _ => True
  | c :: r, p => (0 ≤ p ∧ p ≤ c.B ∧ 0 ≤ c.A ∧ 0 ≤ c.N ∧ 0 ≤ c.M ∧ c.A + c.N ≤ n ∧ c.B + c.M ≤ m) ∧ okR n m r (c.B + c.M)
theorem okR_end {n m : Int} : ∀ (L : List Chg) (x p : Int), validF L x p n m = 0 → 0 ≤ x → 0 ≤ p → x ≤ n → p ≤ m → okR n m (L ++ [⟨n, 0, m, 0⟩]) p
  | [], x, p, _, _, _, _, _ => ⟨by dsimp only; omega, trivial⟩
  | c :: r, x, p, hv, hx, hp, hn, hm => by
    obtain ⟨hbad, hr⟩ := valid_cons hv
    unfold bad at hbad
    exact ⟨⟨by omega, by omega, by omega, by omega, by omega, by omega, by omega⟩, okR_end r _ _ hr (by omega) (by omega) (by omega) (by omega)⟩
end Go.Proofs.YtjlobgcmhnkgnaaDoor
