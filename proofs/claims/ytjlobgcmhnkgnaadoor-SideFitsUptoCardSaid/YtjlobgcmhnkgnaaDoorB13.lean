/- Chapter 6: the script of the lines that stay is the normal one. -/
import Derived.Test.YtjlobgcmhnkgnaaDoorB10
namespace Go.Proofs.YtjlobgcmhnkgnaaDoor
open Go Go.RowKit Vc

theorem of_diag {n m : Int} (L : List (Int × Int)) : ∀ (c : Nat) (a b pa pb : Int) (O : List Chg), 0 < c → pa ≤ a → pb ≤ b → a + c ≤ n → b + c ≤ m →
    ofF (diag a b c ++ L) pa pb n m O = ofF L (a + c) (b + c) n m (if a > pa ∨ b > pb then O ++ [⟨pa, a - pa, pb, b - pb⟩] else O)
  | 0, a, b, pa, pb, O, h, _, _, _, _ => absurd h (Nat.lt_irrefl 0)
  | 1, a, b, pa, pb, O, _, h1, h2, h3, h4 => by
    simp only [diag, List.cons_append, List.nil_append, ofF]
    rw [if_neg (by omega)]
    rfl
  | c + 2, a, b, pa, pb, O, _, h1, h2, h3, h4 => by
    obtain ⟨O', hO⟩ : ∃ O', O' = if a > pa ∨ b > pb then O ++ [⟨pa, a - pa, pb, b - pb⟩] else O := ⟨_, rfl⟩
    have ih := of_diag (n := n) (m := m) L (c + 1) (a + 1) (b + 1) (a + 1) (b + 1) O' (by omega) (by omega) (by omega) (by omega) (by omega)
    rw [if_neg (by omega)] at ih
    rw [diag, List.cons_append, ofF, if_neg (by omega), ← hO, ih, show a + 1 + ((c + 1 : Nat) : Int) = a + ((c + 2 : Nat) : Int) from by omega, show b + 1 + ((c + 1 : Nat) : Int) = b + ((c + 2 : Nat) : Int) from by omega]

theorem set_last {O : List Chg} {x y : Chg} : (O ++ [x]).set ((O ++ [x]).length - 1) y = O ++ [y] := by
  simp
theorem last_app {O : List Chg} {x : Chg} : lastC (O ++ [x]) = x := by
  simp [lastC]

theorem of_merge {n m : Int} : ∀ (s : List Chg) (a b pa pb : Int) (O out : List Chg), validF s a b n m = 0 → pa ≤ a → pb ≤ b → a ≤ n → b ≤ m →
    (((pa < a ∨ pb < b) ∧ out = O ++ [⟨pa, a - pa, pb, b - pb⟩]) ∨ (a = pa ∧ b = pb ∧ out = O ∧ (O ≠ [] → (lastC O).A + (lastC O).N < a))) →
    ofF (pairsF s a b n) pa pb n m O = (mergeF out s, 0)
  | [], a, b, pa, pb, O, out, hv, h1, h2, h3, h4, h5 => by
    have hn := valid_nil hv
    have hout : out = if a > pa ∨ b > pb then O ++ [⟨pa, a - pa, pb, b - pb⟩] else O := by
      rcases h5 with ⟨h, rfl⟩ | ⟨h, h', rfl, _⟩
      · rw [if_pos (by omega)]
      · rw [if_neg (by omega)]
    simp only [pairsF, mergeF]
    by_cases hz : a = n
    · have hz2 : b = m := by omega
      rw [diag_done (by omega), hout, ← hz, ← hz2]
      rfl
    · have h := of_diag (n := n) (m := m) [] (n - a).toNat a b pa pb O (by omega) h1 h2 (by omega) (by omega)
      rw [List.append_nil] at h
      rw [h, hout, ofF, if_neg (by omega)]
  | c :: r, a, b, pa, pb, O, out, hv, h1, h2, h3, h4, h5 => by
    obtain ⟨hb, hv'⟩ := valid_cons hv
    unfold bad at hb
    have hout : out = if a > pa ∨ b > pb then O ++ [⟨pa, a - pa, pb, b - pb⟩] else O := by
      rcases h5 with ⟨h, rfl⟩ | ⟨h, h', rfl, _⟩
      · rw [if_pos (by omega)]
      · rw [if_neg (by omega)]
    simp only [pairsF]
    by_cases hz : a = c.A
    · have hz2 : b = c.B := by omega
      rw [diag_done (by omega), List.nil_append]
      rcases h5 with ⟨h, ho⟩ | ⟨h, h', ho, h6⟩
      · have e : mergeF out (c :: r) = mergeF (O ++ [⟨pa, (c.A + c.N) - pa, pb, (c.B + c.M) - pb⟩]) r := by
          rw [ho]
          simp only [mergeF]
          rw [if_pos ⟨by simp, by rw [last_app]; dsimp only; omega⟩, set_last, last_app]
          congr 3
          unfold Chg.plus
          dsimp only
          congr 1 <;> omega
        rw [e]
        exact of_merge r _ _ pa pb O _ hv' (by omega) (by omega) (by omega) (by omega) (.inl ⟨by omega, rfl⟩)
      · have e : mergeF out (c :: r) = mergeF (O ++ [⟨pa, (c.A + c.N) - pa, pb, (c.B + c.M) - pb⟩]) r := by
          rw [ho]
          simp only [mergeF]
          rw [if_neg (by rintro ⟨e1, e2⟩; have := h6 e1; omega)]
          congr 3
          cases c
          dsimp only at *
          congr 1 <;> omega
        rw [e]
        exact of_merge r _ _ pa pb O _ hv' (by omega) (by omega) (by omega) (by omega) (.inl ⟨by omega, rfl⟩)
    · have h := of_diag (n := n) (m := m) (pairsF r (c.A + c.N) (c.B + c.M) n) (c.A - a).toNat a b pa pb O (by omega) h1 h2 (by omega) (by omega)
      rw [h, ← hout, show a + ((c.A - a).toNat : Int) = c.A from by omega, show b + ((c.A - a).toNat : Int) = c.B from by omega]
      have e : mergeF out (c :: r) = mergeF (out ++ [⟨c.A, (c.A + c.N) - c.A, c.B, (c.B + c.M) - c.B⟩]) r := by
        simp only [mergeF]
        rw [if_neg]
        · congr 3
          cases c
          dsimp only at *
          congr 1 <;> omega
        · rintro ⟨e1, e2⟩
          rcases h5 with ⟨h, ho⟩ | ⟨h, h', ho, h6⟩
          · rw [ho, last_app] at e2; dsimp only at e2; omega
          · rw [ho] at e1 e2; have := h6 e1; omega
      rw [e]
      exact of_merge r _ _ c.A c.B out _ hv' (by omega) (by omega) (by omega) (by omega) (.inl ⟨by omega, rfl⟩)

theorem of_pairs {s : List Chg} {n m : Int} (hv : validE s n m = 0) : ofE (pairsF s 0 0 n) n m = (normF s, 0) := by
  obtain ⟨r1, r2, r3, r4, r5⟩ := valid_range hv
  unfold ofE
  rw [if_neg (by omega)]
  exact of_merge s 0 0 0 0 [] [] r5 (by omega) (by omega) (by omega) (by omega) (.inr ⟨rfl, rfl, rfl, fun h => absurd rfl h⟩)
end Go.Proofs.YtjlobgcmhnkgnaaDoor
