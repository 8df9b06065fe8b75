/- Chapter 6: the normal script: it is one, its pairs, no two changes of it touch. -/
import Derived.Test.YtiihmggoebohkaaDoorB22
namespace Go.Proofs.YtiihmggoebohkaaDoor
open Go Go.RowKit Vc

def rise : List (Int × Int) → Int → Int → Int → Int → Prop
  | [], _, _, _, _ => True
  | p :: r, a, b, n, m => a ≤ p.1 ∧ b ≤ p.2 ∧ p.1 < n ∧ p.2 < m ∧ rise r (p.1 + 1) (p.2 + 1) n m
def ofG : List (Int × Int) → Int → Int → Int → Int → List Chg
  | [], a, b, n, m => if n > a ∨ m > b then [⟨a, n - a, b, m - b⟩] else []
  | p :: r, a, b, n, m => (if p.1 > a ∨ p.2 > b then [⟨a, p.1 - a, b, p.2 - b⟩] else []) ++ ofG r (p.1 + 1) (p.2 + 1) n m

theorem ofF_rise : ∀ (l : List (Int × Int)) (a b n m : Int) (out : List Chg), rise l a b n m → ofF l a b n m out = (out ++ ofG l a b n m, 0)
  | [], a, b, n, m, out, _ => by
    simp only [ofF, ofG]
    split <;> simp
  | p :: r, a, b, n, m, out, h => by
    obtain ⟨h1, h2, h3, h4, h5⟩ := h
    rw [ofF_cons, if_neg (by omega), ofF_rise r _ _ n m _ h5]
    simp only [ofG]
    split <;> simp
theorem rise_mono : ∀ (l : List (Int × Int)) {a b a' b' n m : Int}, rise l a b n m → a' ≤ a → b' ≤ b → rise l a' b' n m
  | [], _, _, _, _, _, _, _, _, _ => trivial
  | p :: r, a, b, a', b', n, m, ⟨h1, h2, h3, h4, h5⟩, ha, hb => ⟨by omega, by omega, h3, h4, h5⟩
theorem rise_diag {n m : Int} {L : List (Int × Int)} : ∀ (c : Nat) (a b : Int), a + c ≤ n → b + c ≤ m → rise L (a + c) (b + c) n m → rise (diag a b c ++ L) a b n m
  | 0, a, b, _, _, h => by simpa [diag] using h
  | c + 1, a, b, h1, h2, h => by
    refine ⟨by dsimp only; omega, by dsimp only; omega, by dsimp only; omega, by dsimp only; omega, ?_⟩
    refine rise_diag c (a + 1) (b + 1) (by omega) (by omega) ?_
    rw [show a + 1 + (c : Int) = a + ((c + 1 : Nat) : Int) from by omega, show b + 1 + (c : Int) = b + ((c + 1 : Nat) : Int) from by omega]
    exact h
theorem rise_pairs : ∀ (s : List Chg) (a b n m : Int), validF s a b n m = 0 → a ≤ n → b ≤ m → rise (pairsF s a b n) a b n m
  | [], a, b, n, m, hv, h1, h2 => by
    have := valid_nil hv
    have h := rise_diag (n := n) (m := m) (L := []) (n - a).toNat a b (by omega) (by omega) trivial
    rwa [List.append_nil] at h
  | c :: r, a, b, n, m, hv, h1, h2 => by
    obtain ⟨hb, hv'⟩ := valid_cons hv
    unfold bad at hb
    have ih := rise_pairs r _ _ n m hv' (by omega) (by omega)
    refine rise_diag (c.A - a).toNat a b (by omega) (by omega) (rise_mono _ ih (by omega) (by omega))

theorem step_back {x y n m : Int} : ∀ (t : List Chg), validF t (x + 1) (y + 1) n m = 0 → x < n → validF t x y n m = 0 ∧ pairsF t x y n = (x, y) :: pairsF t (x + 1) (y + 1) n
  | [], h, hx => by
    have := valid_nil h
    exact ⟨by simp only [validF]; rw [if_neg (by omega)], by simp only [pairsF]; exact diag_step hx⟩
  | c :: r, h, hx => by
    obtain ⟨hb, hv⟩ := valid_cons h
    refine ⟨?_, ?_⟩
    · simp only [validF]
      rw [if_neg]
      · exact hv
      · unfold bad at *; omega
    · unfold bad at hb
      simp only [pairsF]
      rw [diag_step (by omega)]
      rfl

theorem ofG_valid : ∀ (l : List (Int × Int)) (a b n m : Int), rise l a b n m → a ≤ n → b ≤ m → validF (ofG l a b n m) a b n m = 0 ∧ pairsF (ofG l a b n m) a b n = l
  | [], a, b, n, m, _, h1, h2 => by
    by_cases h : n > a ∨ m > b
    · simp only [ofG, if_pos h, validF, pairsF]
      rw [if_neg (by unfold bad; dsimp only; omega), if_neg (by omega), diag_done (by omega), diag_done (by omega)]
      exact ⟨rfl, rfl⟩
    · simp only [ofG, if_neg h, validF, pairsF]
      rw [if_neg (by omega), diag_done (by omega)]
      exact ⟨rfl, rfl⟩
  | p :: r, a, b, n, m, ⟨g1, g2, g3, g4, g5⟩, h1, h2 => by
    obtain ⟨i1, i2⟩ := ofG_valid r (p.1 + 1) (p.2 + 1) n m g5 (by omega) (by omega)
    obtain ⟨j1, j2⟩ := step_back _ i1 g3
    by_cases h : p.1 > a ∨ p.2 > b
    · simp only [ofG, if_pos h, List.cons_append, List.nil_append, validF, pairsF]
      rw [if_neg (by unfold bad; dsimp only; omega), show a + (p.1 - a) = p.1 from by omega, show b + (p.2 - b) = p.2 from by omega, diag_done (by omega), List.nil_append, j2, i2]
      exact ⟨j1, rfl⟩
    · obtain ⟨rfl, rfl⟩ : a = p.1 ∧ b = p.2 := by omega
      simp only [ofG, if_neg h, List.nil_append]
      rw [j2, i2]
      exact ⟨j1, rfl⟩

def apart : List Chg → Prop
  | c :: e :: r => c.A + c.N < e.A ∧ apart (e :: r)
  | _ => True
theorem ofG_apart : ∀ (l : List (Int × Int)) (a b n m : Int), rise l a b n m → a ≤ n → b ≤ m → apart (ofG l a b n m)
  | [], a, b, n, m, _, _, _ => by
    simp only [ofG]
    split <;> trivial
  | p :: r, a, b, n, m, ⟨g1, g2, g3, g4, g5⟩, h1, h2 => by
    have ih := ofG_apart r (p.1 + 1) (p.2 + 1) n m g5 (by omega) (by omega)
    have hv := (ofG_valid r (p.1 + 1) (p.2 + 1) n m g5 (by omega) (by omega)).1
    simp only [ofG]
    split
    · cases hr : ofG r (p.1 + 1) (p.2 + 1) n m with
      | nil => trivial
      | cons e q =>
        rw [hr] at ih hv
        have hb := (valid_cons hv).1
        unfold bad at hb
        exact ⟨by dsimp only; omega, ih⟩
    · exact ih
theorem apart_get : ∀ (t : List Chg) (k : Nat), apart t → k + 1 < t.length → (t.getD k Chg.d).A + (t.getD k Chg.d).N < (t.getD (k + 1) Chg.d).A
  | [], k, _, h => by simp at h
  | [_], k, _, h => by simp at h
  | c :: e :: r, 0, h, _ => h.1
  | c :: e :: r, k + 1, h, hk => apart_get (e :: r) k h.2 (by simpa using hk)

/-- What is known of the normal script. -/
theorem norm_all {s : List Chg} {n m : Int} (hv : validE s n m = 0) :
    normF s = ofG (pairsF s 0 0 n) 0 0 n m ∧ validE (normF s) n m = 0 ∧ pairsF (normF s) 0 0 n = pairsF s 0 0 n ∧ apart (normF s) ∧ normF (normF s) = normF s := by
  obtain ⟨r1, r2, r3, r4, r5⟩ := valid_range hv
  have hr := rise_pairs s 0 0 n m r5 (by omega) (by omega)
  have h1 : ofE (pairsF s 0 0 n) n m = (ofG (pairsF s 0 0 n) 0 0 n m, 0) := by
    unfold ofE
    rw [if_neg (by omega), ofF_rise _ _ _ _ _ _ hr, List.nil_append]
  have h2 : normF s = ofG (pairsF s 0 0 n) 0 0 n m := by
    have := of_pairs hv
    rw [h1] at this
    exact (congrArg Prod.fst this).symm
  obtain ⟨h3, h4⟩ := ofG_valid _ 0 0 n m hr (by omega) (by omega)
  rw [← h2] at h3 h4
  have h5 : validE (normF s) n m = 0 := by
    unfold validE
    rw [if_neg (by omega)]; exact h3
  refine ⟨h2, h5, h4, by rw [h2]; exact ofG_apart _ 0 0 n m hr (by omega) (by omega), ?_⟩
  have h6 := of_pairs h5
  rw [h4, h1] at h6
  exact (congrArg Prod.fst h6).symm.trans h2.symm

theorem inv_inv (s : List Chg) : (s.map Chg.inv).map Chg.inv = s := by
  rw [List.map_map]
  conv => rhs; rw [← List.map_id s]
  congr 1
theorem inv_valid : ∀ (s : List Chg) (a b n m : Int), validF s a b n m = 0 → validF (s.map Chg.inv) b a m n = 0
  | [], a, b, n, m, h => by
    have := valid_nil h
    simp only [List.map_nil, validF]
    rw [if_neg (by omega)]
  | c :: r, a, b, n, m, h => by
    obtain ⟨hb, hv⟩ := valid_cons h
    have ih := inv_valid r _ _ n m hv
    simp only [List.map_cons, validF]
    rw [if_neg]
    · exact ih
    · unfold bad at *
      simp only
      omega
theorem inv_validE {s : List Chg} {n m : Int} (hv : validE s n m = 0) : validE (s.map Chg.inv) m n = 0 := by
  obtain ⟨r1, r2, r3, r4, r5⟩ := valid_range hv
  unfold validE
  rw [if_neg (by omega)]
  exact inv_valid s 0 0 n m r5
theorem cost_pairs : ∀ (s : List Chg) (a b n m x y : Int), validF s a b n m = 0 → 0 ≤ a → 0 ≤ b → a ≤ n → b ≤ m → n ≤ 4194304 → m ≤ 4194304 → 0 ≤ x → x ≤ a → 0 ≤ y → y ≤ b →
    (costF s x y).1 = x + (n - a) - (pairsF s a b n).length ∧ (costF s x y).2 = y + (m - b) - (pairsF s a b n).length
  | [], a, b, n, m, x, y, h, _, _, _, _, _, _, _, _, _, _ => by
    have := valid_nil h
    simp only [costF, pairsF, diag_len]
    omega
  | c :: r, a, b, n, m, x, y, h, h1, h2, h3, h4, h5, h6, h7, h8, h9, h10 => by
    obtain ⟨hb, hv⟩ := valid_cons h
    unfold bad at hb
    have ih := cost_pairs r _ _ n m (x + c.N) (y + c.M) hv (by omega) (by omega) (by omega) (by omega) h5 h6 (by omega) (by omega) (by omega) (by omega)
    simp only [costF, pairsF, List.length_append, diag_len]
    rw [if_neg (by omega)]
    omega
end Go.Proofs.YtiihmggoebohkaaDoor
