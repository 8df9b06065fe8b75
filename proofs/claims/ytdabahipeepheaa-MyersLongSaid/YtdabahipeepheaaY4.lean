/- Chapter 7: the middle that is answered is the first at which the ways meet. -/
import Derived.Test.YtdabahipeepheaaY3
namespace Go.Proofs.Ytdabahipeepheaa

theorem snk_fwd {f g : Nat → Nat → Bool} {n m q t h i : Nat} (hP : Pair f g n m) (hM : Most f 0 0 n m q) (ho : (n + m) % 2 = 1) (hT : 2 * h ≤ n + m - 2 * q + 1) (ht : 2 * h + 2 * t = n + m + 1)
    (hm : Meet f g n m t h i) (hno : ∀ e, e < i → ¬ Meet f g n m t h e) : snk f g n m q = (i + l0 f i (h - i), h - i + l0 f i (h - i), i + Lw f i (h - i), h - i + Lw f i (h - i)) := by
  have hm' := hm
  obtain ⟨m1, m2, m3, m4⟩ := hm
  have h1 := over_le hP hM (i := i) (j := h - i) (i' := n - t - i) (j' := m - t - (h - i)) (t := t) (by omega) (by omega) m4
  have hq := hM.1.le
  have e1 : t = q := by omega
  subst e1
  have e2 : (n + m - 2 * t + 1) / 2 = h := by omega
  unfold snk
  rw [if_pos ho]
  dsimp only
  rw [e2]
  have e3 : midI f g n m t h = i := firstF_eq hm' (h + 1) 0 (Nat.zero_le _) (by omega) (fun e _ he => hno e he)
  rw [e3]
theorem snk_bwd {f g : Nat → Nat → Bool} {n m q t h i : Nat} (hP : Pair f g n m) (hM : Most f 0 0 n m q) (ho : (n + m) % 2 = 0) (hT : 2 * h ≤ n + m - 2 * q) (ht : 2 * h + 2 * t = n + m)
    (hm : Meet g f n m t h i) (hno : ∀ e, e < i → ¬ Meet g f n m t h e) : snk f g n m q = (n - (i + Lw g i (h - i)), m - (h - i + Lw g i (h - i)), n - (i + l0 g i (h - i)), m - (h - i + l0 g i (h - i))) := by
  have hm' := hm
  obtain ⟨m1, m2, m3, m4⟩ := hm
  have h1 := over_le hP.symm (hM.turn hP) (i := i) (j := h - i) (i' := n - t - i) (j' := m - t - (h - i)) (t := t) (by omega) (by omega) m4
  have hq := hM.1.le
  have e1 : t = q := by omega
  subst e1
  have e2 : (n + m - 2 * t) / 2 = h := by omega
  unfold snk
  rw [if_neg (by omega)]
  dsimp only
  rw [e2]
  have e3 : midI g f n m t h = i := firstF_eq hm' (h + 1) 0 (Nat.zero_le _) (by omega) (fun e _ he => hno e he)
  rw [e3]
theorem none_meet {f g : Nat → Nat → Bool} {n m q t h : Nat} (hP : Pair f g n m) (hM : Most f 0 0 n m q) (hd : h + 2 * q ≤ n + m) (hno : ∀ e, ¬ Meet f g n m t h e) : t ≠ q := by
  intro e
  subst e
  obtain ⟨i, j, i', j', h1, h2, h3, h4⟩ := over_found hP hM hd
  refine hno i ⟨by omega, by omega, by omega, ?_⟩
  rw [show h - i = j by omega, show n - t - i = i' by omega, show m - t - j = j' by omega]
  exact h4

/-- What a place of a round is worth: the way's end, whether it meets the other. -/
theorem meet_iff {f g : Nat → Nat → Bool} {n m : Nat} {z : Int} {R : List Int} {t h h' i j : Nat} {k y : Int} (hR : RowAt g n m z R h') (hij : i + j = h) (hk : (i : Int) - j = k) (ht : h + h' + 2 * t = n + m)
    (h1 : -(h' : Int) ≤ (n : Int) - m - k) (h2 : (n : Int) - m - k ≤ h') (hy : y = R.getD (((n : Int) - m - k) % z).toNat 0) : Meet f g n m t h i ↔ (n : Int) ≤ (i : Int) + Lw f i j + y := by
  have e := hR (n - t - i) (m - t - j) (by omega) (by omega) (by omega)
  rw [show ((n - t - i : Nat) : Int) - ((m - t - j : Nat) : Int) = (n : Int) - m - k by omega] at e
  rw [hy, e]
  unfold Meet
  rw [show h - i = j by omega]
  constructor
  · rintro ⟨_, _, _, h4⟩; omega
  · intro h4; exact ⟨by omega, by omega, by omega, by omega⟩
theorem meet_no {f g : Nat → Nat → Bool} {n m t h h' i j : Nat} {k : Int} (hij : i + j = h) (hk : (i : Int) - j = k) (ht : h + h' + 2 * t = n + m) (hc : (n : Int) - m - k < -(h' : Int) ∨ (h' : Int) < (n : Int) - m - k) : ¬ Meet f g n m t h i := by
  rintro ⟨h1, h2, h3, _⟩
  omega
end Go.Proofs.Ytdabahipeepheaa
