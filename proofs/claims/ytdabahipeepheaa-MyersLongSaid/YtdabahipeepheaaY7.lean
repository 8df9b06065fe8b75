/- Chapter 7: the marks told as changes. -/
import Derived.Test.YtdabahipeepheaaY6
namespace Go.Proofs.Ytdabahipeepheaa

structure Chg where
  A : Int
  N : Int
  B : Int
  M : Int
abbrev Chg.d : Chg := ⟨0, 0, 0, 0⟩

/-- Past what is marked. -/
def skF (g : List Bool) (n : Nat) : Nat → Nat → Nat
  | 0, x => x
  | k + 1, x => if x < n ∧ g.getD x false = true then skF g n k (x + 1) else x
theorem skF_le (g : List Bool) (n : Nat) : ∀ k x, x ≤ skF g n k x ∧ (x ≤ n → skF g n k x ≤ n)
  | 0, x => ⟨Nat.le_refl _, id⟩
  | k + 1, x => by
    unfold skF
    split
    · obtain ⟨h1, h2⟩ := skF_le g n k (x + 1)
      exact ⟨by omega, fun _ => h2 (by omega)⟩
    · exact ⟨Nat.le_refl _, id⟩
theorem skF_big (g : List Bool) (n x : Nat) (h : n ≤ x) : skF g n (n - x) x = x := by rw [show n - x = 0 by omega]; rfl
theorem skF_out (g : List Bool) (n : Nat) : ∀ k x, n ≤ x + k → ¬ (skF g n k x < n ∧ g.getD (skF g n k x) false = true)
  | 0, x, h => by simp only [skF]; omega
  | k + 1, x, h => by
    unfold skF
    split
    · exact skF_out g n k (x + 1) (by omega)
    · assumption
/-- The changes from (x, y) on. -/
def difF (g c : List Bool) (n m : Nat) : Nat → Nat → Nat → List Chg
  | 0, _, _ => []
  | k + 1, x, y => if x < n ∨ y < m then
      (if 0 < (skF g n (n - x) x - x) + (skF c m (m - y) y - y) then ⟨x, (skF g n (n - x) x - x : Nat), y, (skF c m (m - y) y - y : Nat)⟩ :: difF g c n m k (skF g n (n - x) x) (skF c m (m - y) y) else difF g c n m k (x + 1) (y + 1))
    else []
def chgs (g c : List Bool) (n m : Nat) : List Chg := difF g c n m (n + m) 0 0
noncomputable def diffL (A C : Nat → Int) (N M : Nat) : List Chg := chgs (endS A C N M).g (endS A C N M).c N M

theorem Al.skipG {f : Nat → Nat → Bool} {g c : List Bool} {n m x y l : Nat} (h : Al f g c n m x y l) : x < n → g.getD x false = true → Al f g c n m (x + 1) y l := by
  induction h with
  | fin => intro h _; omega
  | gone h1 h2 h3 _ => exact fun _ _ => h3
  | come h1 h2 _ ih => exact fun k1 k2 => .come h1 h2 (ih k1 k2)
  | both _ _ h3 _ _ _ _ => intro _ k; rw [h3] at k; cases k
theorem Al.skipC {f : Nat → Nat → Bool} {g c : List Bool} {n m x y l : Nat} (h : Al f g c n m x y l) : y < m → c.getD y false = true → Al f g c n m x (y + 1) l := by
  induction h with
  | fin => intro h _; omega
  | come h1 h2 h3 _ => exact fun _ _ => h3
  | gone h1 h2 _ ih => exact fun k1 k2 => .gone h1 h2 (ih k1 k2)
  | both _ _ _ h3 _ _ _ => intro _ k; rw [h3] at k; cases k
theorem Al.skipsG {f : Nat → Nat → Bool} {g c : List Bool} {n m : Nat} : ∀ (k : Nat) {x y l : Nat}, Al f g c n m x y l → Al f g c n m (skF g n k x) y l
  | 0, _, _, _, h => h
  | k + 1, x, y, l, h => by
    unfold skF
    split
    · rename_i h1; exact Al.skipsG k (h.skipG h1.1 h1.2)
    · exact h
theorem Al.skipsC {f : Nat → Nat → Bool} {g c : List Bool} {n m : Nat} : ∀ (k : Nat) {x y l : Nat}, Al f g c n m x y l → Al f g c n m x (skF c m k y) l
  | 0, _, _, _, h => h
  | k + 1, x, y, l, h => by
    unfold skF
    split
    · rename_i h1; exact Al.skipsC k (h.skipC h1.1 h1.2)
    · exact h

/-- How a row of changes goes: what each leaves out, and what lies between is alike. -/
def sumN : List Chg → Int
  | [] => 0
  | c :: r => c.N + sumN r
def sumM : List Chg → Int
  | [] => 0
  | c :: r => c.M + sumM r
theorem dif_sum {f : Nat → Nat → Bool} {g c : List Bool} {n m : Nat} : ∀ (k : Nat) {x y l : Nat}, Al f g c n m x y l → n - x + (m - y) ≤ k → sumN (difF g c n m k x y) = ((n - x - l : Nat) : Int) ∧ sumM (difF g c n m k x y) = ((m - y - l : Nat) : Int)
  | 0, x, y, l, h, hk => by
    have := h.le
    simp only [difF, sumN, sumM]
    omega
  | k + 1, x, y, l, h, hk => by
    have hl := h.le
    unfold difF
    by_cases h1 : x < n ∨ y < m
    · rw [if_pos h1]
      obtain ⟨a1, a2⟩ := skF_le g n (n - x) x
      obtain ⟨b1, b2⟩ := skF_le c m (m - y) y
      have hs := (h.skipsG (n - x)).skipsC (m - y)
      have o1 := skF_out g n (n - x) x (by omega)
      have o2 := skF_out c m (m - y) y (by omega)
      generalize skF g n (n - x) x = x' at *
      generalize skF c m (m - y) y = y' at *
      have hl2 := hs.le
      by_cases h2 : 0 < (x' - x) + (y' - y)
      · rw [if_pos h2]
        obtain ⟨q1, q2⟩ := dif_sum k hs (by omega)
        simp only [sumN, sumM]
        omega
      · rw [if_neg h2]
        have e1 : x' = x := by omega
        have e2 : y' = y := by omega
        subst e1; subst e2
        cases hs with
        | fin => omega
        | gone h3 h4 _ => exact absurd ⟨h3, h4⟩ o1
        | come h3 h4 _ => exact absurd ⟨h3, h4⟩ o2
        | both h3 h4 h5 h6 h7 h8 =>
          obtain ⟨q1, q2⟩ := dif_sum k h8 (by omega)
          omega
    · rw [if_neg h1]
      simp only [sumN, sumM]
      omega
noncomputable def dist (A C : Nat → Int) (N M : Nat) : Nat := N + M - 2 * mq (fA A C N M) N M
theorem diff_sum (A C : Nat → Int) (N M : Nat) : sumN (diffL A C N M) + sumM (diffL A C N M) = dist A C N M ∧ 2 * mq (fA A C N M) N M ≤ N + M := by
  obtain ⟨h1, h2⟩ := dif_sum (N + M) (end_al A C N M).1 (by omega)
  have := (mq_most (fA A C N M) N M).1.le
  unfold diffL chgs dist
  rw [h1, h2]
  omega
theorem dif_in (g c : List Bool) (n m : Nat) : ∀ (k x y : Nat), ∀ e ∈ difF g c n m k x y, 0 ≤ e.N ∧ 0 ≤ e.M
  | 0, _, _, e, h => by simp [difF] at h
  | k + 1, x, y, e, h => by
    unfold difF at h
    split at h
    · split at h
      · rcases List.mem_cons.1 h with rfl | h
        · dsimp only; omega
        · exact dif_in g c n m k _ _ e h
      · exact dif_in g c n m k _ _ e h
    · simp at h
theorem dif_fuel (g c : List Bool) (n m : Nat) : ∀ (k j x y : Nat), n - x + (m - y) ≤ k → k ≤ j → difF g c n m j x y = difF g c n m k x y
  | 0, 0, _, _, _, _ => rfl
  | 0, j + 1, x, y, h, _ => by
    simp only [difF]
    rw [if_neg (by omega)]
  | k + 1, 0, _, _, _, h => by omega
  | k + 1, j + 1, x, y, h, hj => by
    simp only [difF]
    by_cases h1 : x < n ∨ y < m
    · rw [if_pos h1, if_pos h1]
      obtain ⟨a1, a2⟩ := skF_le g n (n - x) x
      obtain ⟨b1, b2⟩ := skF_le c m (m - y) y
      have a3 := skF_big g n x
      have b3 := skF_big c m y
      by_cases h2 : 0 < (skF g n (n - x) x - x) + (skF c m (m - y) y - y)
      · rw [if_pos h2, if_pos h2, dif_fuel g c n m k j _ _ (by omega) (by omega)]
      · rw [if_neg h2, if_neg h2, dif_fuel g c n m k j _ _ (by omega) (by omega)]
    · rw [if_neg h1, if_neg h1]
/-- From (x, y) on, one step. -/
theorem dif_more {g c : List Bool} {n m x y : Nat} (h : x < n ∨ y < m) (h2 : 0 < (skF g n (n - x) x - x) + (skF c m (m - y) y - y)) :
    difF g c n m (n - x + (m - y)) x y = ⟨x, (skF g n (n - x) x - x : Nat), y, (skF c m (m - y) y - y : Nat)⟩ :: difF g c n m (n - skF g n (n - x) x + (m - skF c m (m - y) y)) (skF g n (n - x) x) (skF c m (m - y) y) := by
  obtain ⟨a1, a2⟩ := skF_le g n (n - x) x
  obtain ⟨b1, b2⟩ := skF_le c m (m - y) y
  have a3 := skF_big g n x
  have b3 := skF_big c m y
  obtain ⟨k, hk⟩ : ∃ k, n - x + (m - y) = k + 1 := ⟨n - x + (m - y) - 1, by omega⟩
  rw [hk]
  conv => lhs; unfold difF
  rw [if_pos h, if_pos h2]
  congr 1
  exact dif_fuel g c n m _ k _ _ (Nat.le_refl _) (by omega)
theorem dif_next {g c : List Bool} {n m x y : Nat} (h : x < n ∨ y < m) (h2 : ¬ 0 < (skF g n (n - x) x - x) + (skF c m (m - y) y - y)) :
    difF g c n m (n - x + (m - y)) x y = difF g c n m (n - (x + 1) + (m - (y + 1))) (x + 1) (y + 1) := by
  obtain ⟨k, hk⟩ : ∃ k, n - x + (m - y) = k + 1 := ⟨n - x + (m - y) - 1, by omega⟩
  rw [hk]
  conv => lhs; unfold difF
  rw [if_pos h, if_neg h2]
  exact dif_fuel g c n m _ k _ _ (Nat.le_refl _) (by omega)
theorem dif_end {g c : List Bool} {n m x y k : Nat} (h : ¬ (x < n ∨ y < m)) : difF g c n m k x y = [] := by
  cases k with
  | zero => rfl
  | succ k => unfold difF; rw [if_neg h]
end Go.Proofs.Ytdabahipeepheaa
