/- Chapter 1: what the functions of this layer compute, as plain functions on lists of bytes. -/
import Derived.Test.YtcfpbcnledjnoaaDoorS1
namespace Go.Proofs.YtcfpbcnledjnoaaDoor
open Go Go.RowKit Vc

/-- The lines of a text, behind what has been read of the first one. -/
def splitG : Byt → Byt → List Byt
  | [], [] => []
  | [], c :: cur => [c :: cur]
  | c :: r, cur => if c = 10 then (cur ++ [c]) :: splitG r [] else splitG r (cur ++ [c])
def splitF (l : Byt) : List Byt := splitG l []
theorem splitG_end {cur : Byt} (h : cur ≠ []) : splitG [] cur = [cur] := by
  cases cur with
  | nil => exact absurd rfl h
  | cons c r => rfl
theorem idx_nil : Lib.indexByte [] 10 = -1 := rfl
theorem idx_cons (c : UInt8) (r : Byt) : Lib.indexByte (c :: r) 10 = if c = 10 then 0 else if Lib.indexByte r 10 = -1 then -1 else Lib.indexByte r 10 + 1 := by
  by_cases h : c = 10 <;> simp [Lib.indexByte, h]
theorem idx_cases : ∀ l : Byt, (Lib.indexByte l 10 = -1 ∧ (10 : UInt8) ∉ l) ∨ ∃ k : Nat, Lib.indexByte l 10 = k ∧ k < l.length ∧ l.getD k 0 = 10 ∧ (10 : UInt8) ∉ l.take k
  | [] => .inl ⟨rfl, by simp⟩
  | c :: r => by
    rw [idx_cons]
    by_cases h : c = 10
    · rw [if_pos h]
      exact .inr ⟨0, rfl, by simp, by simp [h], by simp⟩
    · rw [if_neg h]
      have hne : ¬ (10 : UInt8) = c := fun e => h e.symm
      rcases idx_cases r with ⟨h1, h2⟩ | ⟨k, h1, h2, h3, h4⟩
      · rw [if_pos h1]
        exact .inl ⟨rfl, by simp [hne, h2]⟩
      · rw [if_neg (by omega)]
        exact .inr ⟨k + 1, by omega, by simp; omega, by simpa using h3, by simp [hne, h4]⟩
theorem splitG_none : ∀ {r : Byt} (cur : Byt), (10 : UInt8) ∉ r → splitG r cur = splitG [] (cur ++ r)
  | [], cur, _ => by rw [List.append_nil]
  | c :: r, cur, h => by
    simp only [List.mem_cons, not_or] at h
    simp only [splitG]
    rw [if_neg fun e => h.1 e.symm, splitG_none (cur ++ [c]) h.2, List.append_assoc]
    rfl
theorem splitG_some : ∀ {r : Byt} {k : Nat} (cur : Byt), k < r.length → r.getD k 0 = 10 → (10 : UInt8) ∉ r.take k → splitG r cur = (cur ++ r.take (k + 1)) :: splitG (r.drop (k + 1)) []
  | [], _, _, h, _, _ => by simp at h
  | c :: r, 0, cur, _, h, _ => by
    simp at h
    simp [splitG, h]
  | c :: r, k + 1, cur, h, h1, h2 => by
    simp only [List.take_succ_cons, List.mem_cons, not_or] at h2
    simp only [splitG]
    rw [if_neg fun e => h2.1 e.symm, splitG_some (k := k) (cur ++ [c]) (by simpa using h) (by simpa using h1) h2.2]
    simp
theorem splitG_flat : ∀ (r cur : Byt), (splitG r cur).flatten = cur ++ r
  | [], [] => rfl
  | [], c :: cur => by simp [splitG]
  | c :: r, cur => by
    simp only [splitG]
    split
    · simp [splitG_flat r []]
    · simp [splitG_flat r (cur ++ [c])]
theorem splitF_flat (l : Byt) : (splitF l).flatten = l := splitG_flat l []
theorem splitG_len : ∀ (r cur : Byt), (splitG r cur).length ≤ r.length + min 1 cur.length
  | [], [] => by simp [splitG]
  | [], c :: cur => by simp [splitG]
  | c :: r, cur => by
    simp only [splitG]
    split
    · have := splitG_len r []
      simp only [List.length_cons, List.length_nil] at this ⊢; omega
    · have := splitG_len r (cur ++ [c])
      simp only [List.length_cons, List.length_append, List.length_nil] at this ⊢; omega
theorem splitF_len (l : Byt) : (splitF l).length ≤ l.length := by
  have := splitG_len l []
  simpa [splitF] using this
end Go.Proofs.YtcfpbcnledjnoaaDoor
