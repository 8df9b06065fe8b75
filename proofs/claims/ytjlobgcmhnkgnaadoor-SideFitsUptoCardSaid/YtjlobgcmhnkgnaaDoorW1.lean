/- Chapter 15: the pieces of a text, as plain functions on lists of bytes. -/
import Derived.Test.YtjlobgcmhnkgnaaDoorS1
namespace Go.Proofs.YtjlobgcmhnkgnaaDoor
open Go Go.RowKit Vc

/-- What a byte belongs to: a word, blanks, itself. -/
def kindF (c : UInt8) : Nat :=
  if (97 ≤ c.toNat ∧ c.toNat ≤ 122) ∨ (65 ≤ c.toNat ∧ c.toNat ≤ 90) ∨ (48 ≤ c.toNat ∧ c.toNat ≤ 57) ∨ c.toNat = 95 ∨ 128 ≤ c.toNat then 0 else if c.toNat = 9 ∨ c.toNat = 32 then 1 else 2
def lastB (cur : Byt) : UInt8 := cur.getD (cur.length - 1) 0
/-- The pieces, behind what has been read of the first one. -/
def wordG : Byt → Byt → List Byt
  | [], cur => [cur]
  | c :: r, cur => if kindF c = 2 ∨ kindF c ≠ kindF (lastB cur) then cur :: wordG r [c] else wordG r (cur ++ [c])
def wordsF : Byt → List Byt
  | [] => []
  | c :: r => wordG r [c]
theorem lastB_snoc (cur : Byt) (c : UInt8) : lastB (cur ++ [c]) = c := by simp [lastB]
theorem wordG_flat : ∀ (r cur : Byt), (wordG r cur).flatten = cur ++ r
  | [], cur => by simp [wordG]
  | c :: r, cur => by
    simp only [wordG]
    split
    · simp [wordG_flat r [c]]
    · simp [wordG_flat r (cur ++ [c])]
theorem wordsF_flat : ∀ s : Byt, (wordsF s).flatten = s
  | [] => rfl
  | c :: r => wordG_flat r [c]
theorem wordG_len : ∀ (r cur : Byt), (wordG r cur).length ≤ r.length + 1
  | [], cur => by simp [wordG]
  | c :: r, cur => by
    simp only [wordG]
    split
    · have := wordG_len r [c]; simp only [List.length_cons]; omega
    · have := wordG_len r (cur ++ [c]); simp only [List.length_cons]; omega
theorem wordsF_len : ∀ s : Byt, (wordsF s).length ≤ s.length
  | [] => by simp [wordsF]
  | c :: r => by have := wordG_len r [c]; simpa [wordsF] using this
theorem wordG_ne : ∀ (r cur : Byt), cur ≠ [] → ∀ x ∈ wordG r cur, x ≠ []
  | [], cur, h, x, hx => by
    simp [wordG] at hx
    subst hx
    exact h
  | c :: r, cur, h, x, hx => by
    simp only [wordG] at hx
    split at hx
    · rcases List.mem_cons.1 hx with rfl | hx
      · exact h
      · exact wordG_ne r [c] (by simp) x hx
    · exact wordG_ne r (cur ++ [c]) (by simp) x hx
theorem wordsF_ne : ∀ (s : Byt), ∀ x ∈ wordsF s, x ≠ []
  | [], x, hx => by simp [wordsF] at hx
  | c :: r, x, hx => wordG_ne r [c] (by simp) x hx
/-- Where the next byte does not go on, a piece ends. -/
theorem wordG_stop {r cur : Byt} (h : r = [] ∨ kindF (r.getD 0 0) = 2 ∨ kindF (r.getD 0 0) ≠ kindF (lastB cur)) : wordG r cur = cur :: wordsF r := by
  cases r with
  | nil => rfl
  | cons c r =>
    rcases h with h | h
    · cases h
    · simp only [List.getD_cons_zero] at h
      simp only [wordG, wordsF]
      rw [if_pos h]
theorem wordG_go {r cur : Byt} {c : UInt8} (h1 : kindF c ≠ 2) (h2 : kindF c = kindF (lastB cur)) : wordG (c :: r) cur = wordG r (cur ++ [c]) := by
  simp only [wordG]
  rw [if_neg fun h => h.elim h1 fun k => k h2]
/-- The first piece is the longest run. -/
theorem words_cut : ∀ (m : Nat) {s cur : Byt}, m ≤ s.length → (∀ j, j < m → kindF (s.getD j 0) ≠ 2 ∧ kindF (s.getD j 0) = kindF (lastB cur)) →
    (m = s.length ∨ kindF (s.getD m 0) = 2 ∨ kindF (s.getD m 0) ≠ kindF (lastB cur)) → wordG s cur = (cur ++ s.take m) :: wordsF (s.drop m)
  | 0, s, cur, _, _, h => by
    rw [List.take_zero, List.append_nil, List.drop_zero]
    refine wordG_stop ?_
    rcases h with h | h
    · exact .inl (List.eq_nil_of_length_eq_zero h.symm)
    · exact .inr h
  | m + 1, [], cur, hm, _, _ => by simp at hm
  | m + 1, c :: r, cur, hm, hj, h => by
    have h0 := hj 0 (by omega)
    simp only [List.getD_cons_zero] at h0
    have e := words_cut m (s := r) (cur := cur ++ [c]) (by simpa using hm) (fun j hj' => by
      have := hj (j + 1) (by omega)
      simp only [List.getD_cons_succ] at this
      rw [lastB_snoc]
      exact ⟨this.1, this.2.trans h0.2.symm⟩) (by
      rw [lastB_snoc, h0.2]
      simpa using h)
    rw [wordG_go h0.1 h0.2, e]
    simp
end Go.Proofs.YtjlobgcmhnkgnaaDoor
