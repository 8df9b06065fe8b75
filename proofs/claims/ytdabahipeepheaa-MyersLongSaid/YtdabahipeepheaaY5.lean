/- Chapter 7: boxes: what is left to do, and what has been done, as a chain through the table. -/
import Derived.Test.YtdabahipeepheaaY4
namespace Go.Proofs.Ytdabahipeepheaa

structure Bx where
  x : Nat
  n : Nat
  y : Nat
  m : Nat
def tfF (A C : Nat → Int) : Nat → Bx → Bx
  | 0, b => b
  | k + 1, b => if 0 < b.m ∧ A b.x = C b.y then tfF A C k ⟨b.x + 1, b.n - 1, b.y + 1, b.m - 1⟩ else b
def tbF (A C : Nat → Int) : Nat → Bx → Bx
  | 0, b => b
  | k + 1, b => if 0 < b.m ∧ A (b.x + (b.n - 1)) = C (b.y + (b.m - 1)) then tbF A C k ⟨b.x, b.n - 1, b.y, b.m - 1⟩ else b
def trimF (A C : Nat → Int) (b : Bx) : Bx := tbF A C (tfF A C b.n b).n (tfF A C b.n b)

theorem tfF_spec (A C : Nat → Int) : ∀ (k : Nat) (b : Bx), b.n = k → ∃ p, (tfF A C k b).x = b.x + p ∧ (tfF A C k b).y = b.y + p ∧ (tfF A C k b).n + p = b.n ∧ (tfF A C k b).m + p = b.m ∧ (∀ e, e < p → A (b.x + e) = C (b.y + e)) ∧
    (0 < (tfF A C k b).n → 0 < (tfF A C k b).m → A (tfF A C k b).x ≠ C (tfF A C k b).y)
  | 0, b, hb => ⟨0, rfl, rfl, rfl, rfl, fun e he => by omega, fun h => by simp only [tfF] at h; omega⟩
  | k + 1, b, hb => by
    unfold tfF
    by_cases h : 0 < b.m ∧ A b.x = C b.y
    · rw [if_pos h]
      obtain ⟨p, h1, h2, h3, h4, h5, h6⟩ := tfF_spec A C k ⟨b.x + 1, b.n - 1, b.y + 1, b.m - 1⟩ (by dsimp only; omega)
      dsimp only at h1 h2 h3 h4 h5
      refine ⟨p + 1, by omega, by omega, by omega, by omega, fun e he => ?_, h6⟩
      cases e with
      | zero => exact h.2
      | succ e =>
        have := h5 e (by omega)
        rwa [show b.x + 1 + e = b.x + (e + 1) by omega, show b.y + 1 + e = b.y + (e + 1) by omega] at this
    · rw [if_neg h]
      exact ⟨0, rfl, rfl, rfl, rfl, fun e he => by omega, fun _ h2 h3 => h ⟨h2, h3⟩⟩
theorem tbF_spec (A C : Nat → Int) : ∀ (k : Nat) (b : Bx), b.n = k → ∃ p, (tbF A C k b).x = b.x ∧ (tbF A C k b).y = b.y ∧ (tbF A C k b).n + p = b.n ∧ (tbF A C k b).m + p = b.m ∧ (∀ e, e < p → A (b.x + (tbF A C k b).n + e) = C (b.y + (tbF A C k b).m + e)) ∧
    (0 < (tbF A C k b).n → 0 < (tbF A C k b).m → A (b.x + ((tbF A C k b).n - 1)) ≠ C (b.y + ((tbF A C k b).m - 1)))
  | 0, b, hb => ⟨0, rfl, rfl, rfl, rfl, fun e he => by omega, fun h => by simp only [tbF] at h; omega⟩
  | k + 1, b, hb => by
    unfold tbF
    by_cases h : 0 < b.m ∧ A (b.x + (b.n - 1)) = C (b.y + (b.m - 1))
    · rw [if_pos h]
      obtain ⟨p, h1, h2, h3, h4, h5, h6⟩ := tbF_spec A C k ⟨b.x, b.n - 1, b.y, b.m - 1⟩ (by dsimp only; omega)
      dsimp only at h1 h2 h3 h4 h5 h6
      refine ⟨p + 1, by omega, by omega, by omega, by omega, fun e he => ?_, h6⟩
      by_cases e1 : e = p
      · subst e1
        rw [show b.x + (tbF A C k ⟨b.x, b.n - 1, b.y, b.m - 1⟩).n + e = b.x + (b.n - 1) by omega, show b.y + (tbF A C k ⟨b.x, b.n - 1, b.y, b.m - 1⟩).m + e = b.y + (b.m - 1) by omega]
        exact h.2
      · exact h5 e (by omega)
    · rw [if_neg h]
      exact ⟨0, rfl, rfl, rfl, rfl, fun e he => by omega, fun _ h2 h3 => h ⟨h2, h3⟩⟩
theorem trimF_spec (A C : Nat → Int) (b : Bx) : ∃ p e, (trimF A C b).x = b.x + p ∧ (trimF A C b).y = b.y + p ∧ p + (trimF A C b).n + e = b.n ∧ p + (trimF A C b).m + e = b.m ∧ (∀ k, k < p → A (b.x + k) = C (b.y + k)) ∧ (∀ k, k < e → A ((trimF A C b).x + (trimF A C b).n + k) = C ((trimF A C b).y + (trimF A C b).m + k)) ∧
    (0 < (trimF A C b).n → 0 < (trimF A C b).m → A (trimF A C b).x ≠ C (trimF A C b).y ∧ A ((trimF A C b).x + ((trimF A C b).n - 1)) ≠ C ((trimF A C b).y + ((trimF A C b).m - 1))) := by
  obtain ⟨p, h1, h2, h3, h4, h5, h6⟩ := tfF_spec A C b.n b rfl
  obtain ⟨e, k1, k2, k3, k4, k5, k6⟩ := tbF_spec A C (tfF A C b.n b).n (tfF A C b.n b) rfl
  unfold trimF
  generalize tfF A C b.n b = b1 at *
  generalize tbF A C b1.n b1 = b2 at *
  rw [← k1, ← k2] at k5 k6
  refine ⟨p, e, by omega, by omega, by omega, by omega, h5, k5, fun q1 q2 => ⟨?_, k6 q1 q2⟩⟩
  rw [k1, k2]
  exact h6 (by omega) (by omega)

/-- What stands on the stack (its top first), from the beginning to (x, y): c alike places at the most. -/
inductive Chn (f : Nat → Nat → Bool) : List Bx → Nat → Nat → Nat → Prop
  | nil (e : Nat) : (∀ k, k < e → f k k = true) → Chn f [] e e e
  | cons {r : List Bx} {c : Nat} (b : Bx) (q e : Nat) : Chn f r b.x b.y c → Most f b.x b.y (b.x + b.n) (b.y + b.m) q → (∀ k, k < e → f (b.x + b.n + k) (b.y + b.m + k) = true) → r.length ≤ b.x + b.y → Chn f (b :: r) (b.x + b.n + e) (b.y + b.m + e) (c + q + e)
theorem Chn.ext {f : Nat → Nat → Bool} {r : List Bx} {x y c : Nat} (h : Chn f r x y c) (e : Nat) (he : ∀ k, k < e → f (x + k) (y + k) = true) : Chn f r (x + e) (y + e) (c + e) := by
  cases h with
  | nil e0 h0 =>
    refine .nil (x + e) (fun k hk => ?_)
    by_cases h1 : k < x
    · exact h0 k h1
    · have := he (k - x) (by omega)
      rwa [show x + (k - x) = k by omega] at this
  | @cons r c b q e0 h1 h2 h3 h4 =>
    have := Chn.cons b q (e0 + e) h1 h2 (fun k hk => ?_) h4
    · rwa [← Nat.add_assoc, ← Nat.add_assoc, ← Nat.add_assoc] at this
    · by_cases h5 : k < e0
      · exact h3 k h5
      · have := he (k - e0) (by omega)
        rwa [show b.x + b.n + e0 + (k - e0) = b.x + b.n + k by omega, show b.y + b.m + e0 + (k - e0) = b.y + b.m + k by omega] at this

/-- By the marks, from (x, y) to the ends: l places stay, alike. -/
inductive Al (f : Nat → Nat → Bool) (g c : List Bool) (n m : Nat) : Nat → Nat → Nat → Prop
  | fin : Al f g c n m n m 0
  | gone {x y l : Nat} : x < n → g.getD x false = true → Al f g c n m (x + 1) y l → Al f g c n m x y l
  | come {x y l : Nat} : y < m → c.getD y false = true → Al f g c n m x (y + 1) l → Al f g c n m x y l
  | both {x y l : Nat} : x < n → y < m → g.getD x false = false → c.getD y false = false → f x y = true → Al f g c n m (x + 1) (y + 1) l → Al f g c n m x y (l + 1)
theorem Al.le {f : Nat → Nat → Bool} {g c : List Bool} {n m x y l : Nat} (h : Al f g c n m x y l) : x + l ≤ n ∧ y + l ≤ m := by
  induction h with
  | fin => omega
  | gone _ _ _ ih => omega
  | come _ _ _ ih => omega
  | both _ _ _ _ _ _ ih => omega
theorem Al.congr {f : Nat → Nat → Bool} {g c g' c' : List Bool} {n m x y l : Nat} (h : Al f g c n m x y l) : (∀ i, x ≤ i → g'.getD i false = g.getD i false) → (∀ j, y ≤ j → c'.getD j false = c.getD j false) → Al f g' c' n m x y l := by
  induction h with
  | fin => exact fun _ _ => .fin
  | gone h1 h2 _ ih => exact fun k1 k2 => .gone h1 (by rw [k1 _ (Nat.le_refl _)]; exact h2) (ih (fun i hi => k1 i (by omega)) k2)
  | come h1 h2 _ ih => exact fun k1 k2 => .come h1 (by rw [k2 _ (Nat.le_refl _)]; exact h2) (ih k1 (fun i hi => k2 i (by omega)))
  | both h1 h2 h3 h4 h5 _ ih => exact fun k1 k2 => .both h1 h2 (by rw [k1 _ (Nat.le_refl _)]; exact h3) (by rw [k2 _ (Nat.le_refl _)]; exact h4) h5 (ih (fun i hi => k1 i (by omega)) (fun i hi => k2 i (by omega)))
theorem Al.diag {f : Nat → Nat → Bool} {g c : List Bool} {n m : Nat} : ∀ (e : Nat) {x y l : Nat}, Al f g c n m (x + e) (y + e) l → (∀ k, k < e → f (x + k) (y + k) = true ∧ x + k < n ∧ y + k < m ∧ g.getD (x + k) false = false ∧ c.getD (y + k) false = false) → Al f g c n m x y (l + e)
  | 0, _, _, _, h, _ => h
  | e + 1, x, y, l, h, k => by
    obtain ⟨k1, k2, k3, k4, k5⟩ := k 0 (by omega)
    refine .both k2 k3 k4 k5 k1 (Al.diag e (by rwa [show x + 1 + e = x + (e + 1) by omega, show y + 1 + e = y + (e + 1) by omega]) fun i hi => ?_)
    rw [show x + 1 + i = x + (i + 1) by omega, show y + 1 + i = y + (i + 1) by omega]
    exact k (i + 1) (by omega)
theorem Al.gones {f : Nat → Nat → Bool} {g c : List Bool} {n m : Nat} : ∀ (e : Nat) {x y l : Nat}, Al f g c n m (x + e) y l → (∀ k, k < e → x + k < n ∧ g.getD (x + k) false = true) → Al f g c n m x y l
  | 0, _, _, _, h, _ => h
  | e + 1, x, y, l, h, k => .gone (k 0 (by omega)).1 (k 0 (by omega)).2 (Al.gones e (by rwa [show x + 1 + e = x + (e + 1) by omega]) fun i hi => by rw [show x + 1 + i = x + (i + 1) by omega]; exact k (i + 1) (by omega))
theorem Al.comes {f : Nat → Nat → Bool} {g c : List Bool} {n m : Nat} : ∀ (e : Nat) {x y l : Nat}, Al f g c n m x (y + e) l → (∀ k, k < e → y + k < m ∧ c.getD (y + k) false = true) → Al f g c n m x y l
  | 0, _, _, _, h, _ => h
  | e + 1, x, y, l, h, k => .come (k 0 (by omega)).1 (k 0 (by omega)).2 (Al.comes e (by rwa [show y + 1 + e = y + (e + 1) by omega]) fun i hi => by rw [show y + 1 + i = y + (i + 1) by omega]; exact k (i + 1) (by omega))

/-- Marks from x on, n of them. -/
def mkF (l : List Bool) (x : Nat) : Nat → List Bool
  | 0 => l
  | n + 1 => (mkF l x n).set (x + n) true
theorem mkF_len (l : List Bool) (x : Nat) : ∀ n, (mkF l x n).length = l.length
  | 0 => rfl
  | n + 1 => by simp [mkF, mkF_len l x n]
theorem mkF_get (l : List Bool) (x : Nat) : ∀ n, x + n ≤ l.length → ∀ i, (mkF l x n).getD i false = if x ≤ i ∧ i < x + n then true else l.getD i false
  | 0, _, i => by rw [if_neg (by omega)]; rfl
  | n + 1, h, i => by
    have hl := mkF_len l x n
    simp only [mkF]
    rw [List.getD_eq_getElem?_getD, List.getElem?_set]
    by_cases e : x + n = i
    · rw [if_pos e, if_pos (by omega), if_pos (by omega)]; rfl
    · rw [if_neg e, ← List.getD_eq_getElem?_getD, mkF_get l x n (by omega) i]
      by_cases e2 : x ≤ i ∧ i < x + n
      · rw [if_pos e2, if_pos (by omega)]
      · rw [if_neg e2, if_neg (by omega)]
end Go.Proofs.Ytdabahipeepheaa
