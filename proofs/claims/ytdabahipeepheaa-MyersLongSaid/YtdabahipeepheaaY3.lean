/- Chapter 7: the rows in which the ways are kept: how they are read and written. -/
import Derived.Test.YtdabahipeepheaaY2
namespace Go.Proofs.Ytdabahipeepheaa

abbrev fA (A B : Nat → Int) (n m : Nat) : Nat → Nat → Bool := fun x y => decide (x < n) && (decide (y < m) && decide (A x = B y))
abbrev gA (A B : Nat → Int) (n m : Nat) : Nat → Nat → Bool := fun x y => decide (x < n) && (decide (y < m) && decide (A (n - 1 - x) = B (m - 1 - y)))
theorem fA_iff {A B : Nat → Int} {n m x y : Nat} : fA A B n m x y = true ↔ x < n ∧ y < m ∧ A x = B y := by simp [fA]
theorem gA_iff {A B : Nat → Int} {n m x y : Nat} : gA A B n m x y = true ↔ x < n ∧ y < m ∧ A (n - 1 - x) = B (m - 1 - y) := by simp [gA]
theorem pairA (A B : Nat → Int) (n m : Nat) : Pair (fA A B n m) (gA A B n m) n m := by
  refine ⟨fun x y h => ?_, fun x y h => ?_, fun x y hx hy => ?_⟩
  · have := fA_iff.1 h; exact ⟨this.1, this.2.1⟩
  · have := gA_iff.1 h; exact ⟨this.1, this.2.1⟩
  · have h1 : decide (n - 1 - x < n) = true := by simp; omega
    have h2 : decide (m - 1 - y < m) = true := by simp; omega
    simp only [fA, gA, hx, hy, decide_true, Bool.true_and, h1, h2, show n - 1 - (n - 1 - x) = x by omega, show m - 1 - (m - 1 - y) = y by omega]
noncomputable def mq (f : Nat → Nat → Bool) (n m : Nat) : Nat := Classical.choose (Most.ex f (Nat.zero_le n) (Nat.zero_le m))
theorem mq_most (f : Nat → Nat → Bool) (n m : Nat) : Most f 0 0 n m (mq f n m) := Classical.choose_spec (Most.ex f (Nat.zero_le n) (Nat.zero_le m))
noncomputable def snkA (A B : Nat → Int) (n m : Nat) : Nat × Nat × Nat × Nat := snk (fA A B n m) (gA A B n m) n m (mq (fA A B n m) n m)

theorem rem_eq (k z : Int) (hz : 0 < z) : (k.tmod z + z).tmod z = k % z := by
  have h1 := Int.tmod_lt_of_pos k hz
  have h2 : -z < k.tmod z := by
    have := Int.lt_tmod_of_pos k hz
    omega
  rw [Int.tmod_eq_emod_of_nonneg (by omega), Int.add_emod_right]
  rw [Int.tmod_eq_emod]
  split
  · simp
  · rw [show (k % z - (z.natAbs : Int)) = k % z - z by omega]
    rw [Int.sub_emod, Int.emod_emod, Int.emod_self, Int.sub_zero, Int.emod_emod]

theorem mod_eq {a b z : Int} (h : a % z = b % z) : ∃ q, b - a = z * q := by
  have h1 := Int.emod_add_mul_ediv a z
  have h2 := Int.emod_add_mul_ediv b z
  exact ⟨b / z - a / z, by rw [Int.mul_sub]; omega⟩
theorem mod_ne {a b z d : Int} (h : a % z = b % z) (hd : b - a = d) (h0 : 0 < d) (h1 : d < z) : False := by
  obtain ⟨q, hq⟩ := mod_eq h
  have h3 : d % z = 0 := by rw [← hd, hq, Int.mul_emod_right]
  rw [Int.emod_eq_of_lt (by omega) h1] at h3
  omega
theorem mod_odd {a b z w d : Int} (h : a % z = b % z) (hz : z = 2 * w) (hd : b - a = 2 * d + 1) : False := by
  obtain ⟨q, hq⟩ := mod_eq h
  rw [hz, Int.mul_assoc] at hq
  generalize w * q = t at hq
  omega
theorem mod_in (k : Int) {z : Int} (hz : 0 < z) : 0 ≤ k % z ∧ k % z < z := ⟨Int.emod_nonneg k (by omega), Int.emod_lt_of_pos k hz⟩

/-- Round h is written. -/
def RowAt (f : Nat → Nat → Bool) (n m : Nat) (z : Int) (F : List Int) (h : Nat) : Prop := ∀ i j : Nat, i + j = h → i ≤ n → j ≤ m → F.getD (((i : Int) - j) % z).toNat 0 = i + Lw f i j
/-- Round h is written below the diagonal k; from there on round h - 1 stands. -/
structure RowIn (f : Nat → Nat → Bool) (n m : Nat) (z : Int) (F : List Int) (h : Nat) (k : Int) : Prop where
  done : ∀ i j : Nat, i + j = h → i ≤ n → j ≤ m → (i : Int) - j < k → F.getD (((i : Int) - j) % z).toNat 0 = i + Lw f i j
  prev : ∀ i j : Nat, i + j + 1 = h → i ≤ n → j ≤ m → F.getD (((i : Int) - j) % z).toNat 0 = i + Lw f i j
  zero : h = 0 → k ≤ 0 → ∀ e, F.getD e 0 = 0

theorem set_get {F : List Int} {a b : Nat} {x : Int} (ha : a < F.length) : (F.set a x).getD b 0 = if b = a then x else F.getD b 0 := by
  by_cases h : b = a
  · subst h; rw [if_pos rfl]; simp [ha]
  · rw [if_neg h]; simp [Ne.symm h]
theorem RowIn.store {f : Nat → Nat → Bool} {n m : Nat} {z w : Int} {F : List Int} {h i j : Nat} {k : Int} (R : RowIn f n m z F h k) (hz : z = 2 * w) (hz0 : 2 * (min n m : Nat) + 2 = z) (hF : (F.length : Int) = z)
    (hij : i + j = h) (hk : (i : Int) - j = k) (hi : i ≤ n) (hj : j ≤ m) : RowIn f n m z (F.set (k % z).toNat (i + Lw f i j)) h (k + 2) := by
  have hk1 := mod_in k (z := z) (by omega)
  have hlt : (k % z).toNat < F.length := by omega
  refine ⟨fun i' j' h1 h2 h3 h4 => ?_, fun i' j' h1 h2 h3 => ?_, fun h0 hk0 => ?_⟩
  · rw [set_get hlt]
    by_cases e : i' = i
    · have e2 : j' = j := by omega
      subst e; subst e2
      rw [if_pos (by rw [hk])]
    · have hx := mod_in ((i' : Int) - j') (z := z) (by omega)
      rw [if_neg (fun e' => ?_)]
      · exact R.done i' j' h1 h2 h3 (by omega)
      · exact mod_ne (z := z) (a := (i' : Int) - j') (b := k) (d := k - (i' - j')) (by omega) rfl (by omega) (by omega)
  · rw [set_get hlt]
    have hx := mod_in ((i' : Int) - j') (z := z) (by omega)
    rw [if_neg (fun e' => ?_)]
    · exact R.prev i' j' h1 h2 h3
    · exact mod_odd (z := z) (a := (i' : Int) - j') (b := k) (w := w) (d := (k - (i' - j') - 1) / 2) (by omega) hz (by omega)
  · omega
theorem RowIn.all {f : Nat → Nat → Bool} {n m : Nat} {z : Int} {F : List Int} {h : Nat} {k : Int} (R : RowIn f n m z F h k) (hk : (h : Int) - 2 * max 0 ((h : Int) - n) < k) : RowAt f n m z F h :=
  fun i j h1 h2 h3 => R.done i j h1 h2 h3 (by omega)
/-- A round is begun. -/
theorem RowIn.new {f : Nat → Nat → Bool} {n m : Nat} {z : Int} {F : List Int} {h : Nat} {k : Int} (hk : k = -((h : Int) - 2 * max 0 ((h : Int) - m))) (hp : ∀ h', h' + 1 = h → RowAt f n m z F h') (h0 : h = 0 → ∀ e, F.getD e 0 = 0) : RowIn f n m z F h k :=
  ⟨fun i j h1 h2 h3 h4 => by omega, fun i j h1 h2 h3 => hp (i + j) h1 i j rfl h2 h3, fun h1 _ => h0 h1⟩
/-- What is read there, and where the way goes on from. -/
theorem RowIn.read {f : Nat → Nat → Bool} {n m : Nat} {z : Int} {F : List Int} {h i j : Nat} {k : Int} (R : RowIn f n m z F h k) (hij : i + j = h) (hk : (i : Int) - j = k) (hi : i ≤ n) (hj : j ≤ m) :
    (0 < i → F.getD ((k - 1) % z).toNat 0 = ((i - 1 : Nat) : Int) + Lw f (i - 1) j) ∧ (0 < j → F.getD ((k + 1) % z).toNat 0 = i + Lw f i (j - 1)) ∧ (i = 0 → j = 0 → F.getD ((k + 1) % z).toNat 0 = 0) := by
  refine ⟨fun h0 => ?_, fun h0 => ?_, fun h1 h2 => R.zero (by omega) (by omega) _⟩
  · have := R.prev (i - 1) j (by omega) (by omega) hj
    rwa [show ((i - 1 : Nat) : Int) - j = k - 1 by omega] at this
  · have := R.prev i (j - 1) (by omega) hi (by omega)
    rwa [show (i : Int) - ((j - 1 : Nat) : Int) = k + 1 by omega] at this
theorem l0_max (f : Nat → Nat → Bool) (i j : Nat) : (0 < i → 0 < j → l0 f i j = max (Lw f (i - 1) j) (Lw f i (j - 1))) ∧ (i = 0 → 0 < j → l0 f i j = Lw f i (j - 1)) ∧ (0 < i → j = 0 → l0 f i j = Lw f (i - 1) j) ∧ (i = 0 → j = 0 → l0 f i j = 0) := by
  unfold l0
  refine ⟨fun h1 h2 => by rw [if_pos h1, if_pos h2], fun h1 h2 => ?_, fun h1 h2 => ?_, fun h1 h2 => ?_⟩
  · rw [if_neg (by omega), if_pos h2]; omega
  · rw [if_pos h1, if_neg (by omega)]; omega
  · rw [if_neg (by omega), if_neg (by omega)]; omega
end Go.Proofs.Ytdabahipeepheaa
