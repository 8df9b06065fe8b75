/- Chapter 15: one text with marks: how long, and with its end as a change. -/
import Derived.Test.YtjlobgcmhnkgnaaDoorI1
namespace Go.Proofs.YtjlobgcmhnkgnaaDoor
open Go Go.RowKit Vc

theorem seg_flat (b : List Byt) {i j : Int} (h : i ≤ j) : (segF b i j).length + (b.drop j.toNat).flatten.length = (b.drop i.toNat).flatten.length := by
  unfold segF
  have e : b.drop j.toNat = (b.drop i.toNat).drop (j.toNat - i.toNat) := by rw [List.drop_drop, show i.toNat + (j.toNat - i.toNat) = j.toNat by omega]
  rw [e, ← List.length_append, ← List.flatten_append, List.take_append_drop]
theorem inlF_len (a b : List Byt) : ∀ (L : List Chg) (x p : Int), validF L x p a.length b.length = 0 → 0 ≤ x → 0 ≤ p → x ≤ a.length → p ≤ b.length →
    (inlF a b L p).length ≤ (a.drop x.toNat).flatten.length + (b.drop p.toNat).flatten.length + 8 * L.length
  | [], x, p, _, _, h0, _, hp => by
    have := seg_flat b hp
    simp only [inlF]
    omega
  | c :: r, x, p, hv, hx, h0, hxa, hp => by
    obtain ⟨hbad, hr⟩ := valid_cons hv
    unfold bad at hbad
    have ih := inlF_len a b r (c.A + c.N) (c.B + c.M) hr (by omega) (by omega) (by omega) (by omega)
    have e1 := seg_flat b (i := p) (j := c.B) (by omega)
    have e2 := seg_flat b (i := c.B) (j := c.B + c.M) (by omega)
    have e3 := seg_flat a (i := x) (j := c.A) (by omega)
    have e4 := seg_flat a (i := c.A) (j := c.A + c.N) (by omega)
    simp only [inlF, List.length_append, List.length_cons]
    have f1 : (if c.N > 0 then [91, 45] ++ segF a c.A (c.A + c.N) ++ [45, 93] else []).length ≤ (segF a c.A (c.A + c.N)).length + 4 := by
      split <;> simp <;> omega
    have f2 : (if c.M > 0 then [123, 43] ++ segF b c.B (c.B + c.M) ++ [43, 125] else []).length ≤ (segF b c.B (c.B + c.M)).length + 4 := by
      split <;> simp <;> omega
    omega
/-- The same with the end as a change. -/
def inlR (a b : List Byt) : List Chg → Int → Byt
  | [], _ => []
  | c :: r, p => segF b p c.B ++ ((if c.N > 0 then [91, 45] ++ segF a c.A (c.A + c.N) ++ [45, 93] else []) ++ ((if c.M > 0 then [123, 43] ++ segF b c.B (c.B + c.M) ++ [43, 125] else []) ++ inlR a b r (c.B + c.M)))
theorem inlR_end (a b : List Byt) : ∀ (L : List Chg) (p : Int), inlR a b (L ++ [⟨a.length, 0, b.length, 0⟩]) p = inlF a b L p
  | [], p => by simp [inlR, inlF]
  | c :: r, p => by simp only [List.cons_append, inlR, inlF, inlR_end a b r (c.B + c.M)]
end Go.Proofs.YtjlobgcmhnkgnaaDoor
