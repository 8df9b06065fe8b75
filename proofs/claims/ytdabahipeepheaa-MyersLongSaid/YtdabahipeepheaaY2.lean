/- Chapter 7: the middle of a shortest way: where the ways from both ends meet. -/
import Derived.Test.YtdabahipeepheaaY1
namespace Go.Proofs.Ytdabahipeepheaa

open Classical in
noncomputable def Lw (f : Nat → Nat → Bool) (i j : Nat) : Nat := if h : ∃ l, Far f i j l then Classical.choose h else 0
theorem Lw_far {f : Nat → Nat → Bool} {i j : Nat} (h : ∃ l, Far f i j l) : Far f i j (Lw f i j) := by
  unfold Lw; rw [dif_pos h]; exact Classical.choose_spec h
theorem Lw_eq {f : Nat → Nat → Bool} {i j l : Nat} (h : Far f i j l) : Lw f i j = l := (Lw_far ⟨l, h⟩).uniq h
noncomputable def l0 (f : Nat → Nat → Bool) (i j : Nat) : Nat := max (if 0 < i then Lw f (i - 1) j else 0) (if 0 < j then Lw f i (j - 1) else 0)

/-- A table of n rows and m columns, and the same turned round. -/
structure Pair (f g : Nat → Nat → Bool) (n m : Nat) : Prop where
  hf : ∀ x y, f x y = true → x < n ∧ y < m
  hg : ∀ x y, g x y = true → x < n ∧ y < m
  fg : ∀ x y, x < n → y < m → f x y = g (n - 1 - x) (m - 1 - y)
theorem Pair.symm {f g : Nat → Nat → Bool} {n m : Nat} (h : Pair f g n m) : Pair g f n m :=
  ⟨h.hg, h.hf, fun x y hx hy => by
    rw [h.fg (n - 1 - x) (m - 1 - y) (by omega) (by omega), show n - 1 - (n - 1 - x) = x by omega, show m - 1 - (m - 1 - y) = y by omega]⟩
theorem Pair.turn {f g : Nat → Nat → Bool} {n m : Nat} (h : Pair f g n m) {x y u v l : Nat} (w : W f x y u v l) (hu : u ≤ n) (hv : v ≤ m) : W g (n - u) (m - v) (n - x) (m - y) l :=
  w.turn (fun x y hx hy e => by rw [← h.fg x y hx hy]; exact e) hu hv
theorem Pair.far {f g : Nat → Nat → Bool} {n m : Nat} (h : Pair f g n m) (i j : Nat) : Far f i j (Lw f i j) := Lw_far (Far.ex f h.hf i j)

theorem Lw_step {f g : Nat → Nat → Bool} {n m : Nat} (h : Pair f g n m) {i j r : Nat} (hr : ∀ e, e < r → f (i + l0 f i j + e) (j + l0 f i j + e) = true)
    (hs : f (i + l0 f i j + r) (j + l0 f i j + r) = false) : Lw f i j = l0 f i j + r := by
  refine Lw_eq (Far.step (p := Lw f (i - 1) j) (q := Lw f i (j - 1)) (fun _ => h.far _ _) (fun _ => h.far _ _) (fun h0 => ?_) (fun h0 => ?_) ?_ hr hs)
  · unfold l0; rw [if_pos h0]; exact Nat.le_max_left _ _
  · unfold l0; rw [if_pos h0]; exact Nat.le_max_right _ _
  · unfold l0
    by_cases h1 : 0 < i
    · by_cases h2 : 0 < j
      · rw [if_pos h1, if_pos h2]; omega
      · rw [if_pos h1, if_neg h2]; omega
    · by_cases h2 : 0 < j
      · rw [if_neg h1, if_pos h2]; omega
      · rw [if_neg h1, if_neg h2]; omega
theorem slide_ex {f : Nat → Nat → Bool} {n m : Nat} (hf : ∀ x y, f x y = true → x < n ∧ y < m) (x y : Nat) : ∃ r, (∀ e, e < r → f (x + e) (y + e) = true) ∧ f (x + r) (y + r) = false := by
  have : ∀ k, (∃ r, (∀ e, e < r → f (x + e) (y + e) = true) ∧ f (x + r) (y + r) = false) ∨ ∀ e, e < k → f (x + e) (y + e) = true := by
    intro k
    induction k with
    | zero => exact .inr (fun e he => by omega)
    | succ k ih =>
      rcases ih with h | h
      · exact .inl h
      · cases hk : f (x + k) (y + k) with
        | false => exact .inl ⟨k, h, hk⟩
        | true =>
          refine .inr (fun e he => ?_)
          by_cases e' : e = k
          · subst e'; exact hk
          · exact h e (by omega)
  rcases this (n + 1) with h | h
  · exact h
  · have := (hf _ _ (h n (by omega))).1; omega
theorem l0_way {f g : Nat → Nat → Bool} {n m : Nat} (h : Pair f g n m) (i j : Nat) : W f 0 0 (i + l0 f i j) (j + l0 f i j) (l0 f i j) := by
  unfold l0
  by_cases h1 : 0 < i ∧ (0 < j → Lw f i (j - 1) ≤ Lw f (i - 1) j)
  · have e : max (if 0 < i then Lw f (i - 1) j else 0) (if 0 < j then Lw f i (j - 1) else 0) = Lw f (i - 1) j := by
      rw [if_pos h1.1]
      by_cases h2 : 0 < j
      · rw [if_pos h2]; have := h1.2 h2; omega
      · rw [if_neg h2]; omega
    rw [e]
    have := (h.far (i - 1) j).1.right
    rwa [show i - 1 + Lw f (i - 1) j + 1 = i + Lw f (i - 1) j by omega] at this
  · by_cases h2 : 0 < j
    · have e : max (if 0 < i then Lw f (i - 1) j else 0) (if 0 < j then Lw f i (j - 1) else 0) = Lw f i (j - 1) := by
        rw [if_pos h2]
        by_cases h3 : 0 < i
        · rw [if_pos h3]
          rcases Nat.lt_or_ge (Lw f (i - 1) j) (Lw f i (j - 1)) with h4 | h4
          · omega
          · exact absurd ⟨h3, fun _ => h4⟩ h1
        · rw [if_neg h3]; omega
      rw [e]
      have := (h.far i (j - 1)).1.down
      rwa [show j - 1 + Lw f i (j - 1) + 1 = j + Lw f i (j - 1) by omega] at this
    · have h3 : ¬ 0 < i := fun h3 => h1 ⟨h3, fun h4 => absurd h4 h2⟩
      rw [if_neg h3, if_neg h2]
      exact W.zero (by omega) (by omega)
theorem Lw_l0 {f g : Nat → Nat → Bool} {n m : Nat} (h : Pair f g n m) (i j : Nat) : ∃ r, Lw f i j = l0 f i j + r ∧ ∀ e, e < r → f (i + l0 f i j + e) (j + l0 f i j + e) = true := by
  obtain ⟨r, h1, h2⟩ := slide_ex h.hf (i + l0 f i j) (j + l0 f i j)
  exact ⟨r, Lw_step h h1 h2, h1⟩

theorem Lw_most {f g : Nat → Nat → Bool} {n m : Nat} (h : Pair f g n m) {q : Nat} (hM : Most f 0 0 n m q) (i j : Nat) : Lw f i j ≤ q := by
  have hb : ∀ {u v l}, W f 0 0 u v l → ∃ u' v', u' ≤ n ∧ v' ≤ m ∧ u' ≤ u ∧ v' ≤ v ∧ W f 0 0 u' v' l := by
    intro u v l hw
    induction hw with
    | refl => exact ⟨0, 0, by omega, by omega, by omega, by omega, .refl⟩
    | right _ ih => obtain ⟨u', v', h1, h2, h3, h4, h5⟩ := ih; exact ⟨u', v', h1, h2, by omega, h4, h5⟩
    | down _ ih => obtain ⟨u', v', h1, h2, h3, h4, h5⟩ := ih; exact ⟨u', v', h1, h2, h3, by omega, h5⟩
    | @diag u v l hw hf ih =>
      obtain ⟨u', v', h1, h2, h3, h4, h5⟩ := ih
      have := h.hf u v hf
      have hw := (h5.trans (W.zero (f := f) h3 h4)).diag hf
      rw [show l + 0 = l by omega] at hw
      exact ⟨u + 1, v + 1, by omega, by omega, by omega, by omega, hw⟩
  obtain ⟨u, v, h1, h2, _, _, h3⟩ := hb (h.far i j).1
  have := h3.trans (W.zero (f := f) h1 h2)
  rw [Nat.add_zero] at this
  exact hM.2 _ this

theorem over_le {f g : Nat → Nat → Bool} {n m : Nat} (h : Pair f g n m) {q : Nat} (hM : Most f 0 0 n m q) {i j i' j' t : Nat} (hi : i + i' + t = n) (hj : j + j' + t = m)
    (ht : t ≤ Lw f i j + Lw g i' j') : t ≤ q := by
  have h1 := (h.far i j).1
  have h2 := (h.symm.far i' j').1
  obtain ⟨p, k, hp, hk, hpk⟩ : ∃ p k, p ≤ Lw f i j ∧ k ≤ Lw g i' j' ∧ p + k = t := ⟨min t (Lw f i j), t - min t (Lw f i j), by omega, by omega, by omega⟩
  have w1 : W f 0 0 (i + p) (j + p) p := W.peels (Lw f i j - p) (by rwa [show i + p + (Lw f i j - p) = i + Lw f i j by omega, show j + p + (Lw f i j - p) = j + Lw f i j by omega, show p + (Lw f i j - p) = Lw f i j by omega])
  have w2 : W g 0 0 (i' + k) (j' + k) k := W.peels (Lw g i' j' - k) (by rwa [show i' + k + (Lw g i' j' - k) = i' + Lw g i' j' by omega, show j' + k + (Lw g i' j' - k) = j' + Lw g i' j' by omega, show k + (Lw g i' j' - k) = Lw g i' j' by omega])
  have w3 := h.symm.turn w2 (by omega) (by omega)
  rw [show n - (i' + k) = i + p by omega, show m - (j' + k) = j + p by omega] at w3
  have := hM.2 _ (w1.trans w3)
  omega

theorem over_found {f g : Nat → Nat → Bool} {n m : Nat} (hP : Pair f g n m) {q : Nat} (hM : Most f 0 0 n m q) {d : Nat} (hd : d + 2 * q ≤ n + m) :
    ∃ i j i' j', i + j = d ∧ i + i' + q = n ∧ j + j' + q = m ∧ q ≤ Lw f i j + Lw g i' j' := by
  obtain ⟨u, v, k, k', h1, h2, h3, h4⟩ := hM.1.split d (by omega)
  have l1 := h1.le
  have l2 := h2.le
  refine ⟨u - k, v - k, n - u - k', m - v - k', by omega, by omega, by omega, ?_⟩
  have h5 := hP.turn h2 (by omega) (by omega)
  rw [Nat.sub_self, Nat.sub_self] at h5
  have h6 := (hP.far (u - k) (v - k)).2 k (by rwa [show u - k + k = u by omega, show v - k + k = v by omega])
  have h7 := (hP.symm.far (n - u - k') (m - v - k')).2 k' (by rwa [show n - u - k' + k' = n - u by omega, show m - v - k' + k' = m - v by omega])
  omega

/-- A middle: from (s, t) to (x, y) all is alike, and a shortest way goes through. -/
structure Mid (f : Nat → Nat → Bool) (n m q s t x y : Nat) : Prop where
  run : ∃ r, x = s + r ∧ y = t + r ∧ ∀ e, e < r → f (s + e) (t + e) = true
  hx : x ≤ n
  hy : y ≤ m
  ways : ∃ k k', W f 0 0 s t k ∧ W f x y n m k' ∧ k + (x - s) + k' = q
  beg : 0 < s + t
  fin : x + y < n + m
theorem over_mid {f g : Nat → Nat → Bool} {n m : Nat} (h : Pair f g n m) {q : Nat} (hM : Most f 0 0 n m q) {i j i' j' : Nat} (hi : i + i' + q = n) (hj : j + j' + q = m)
    (ht : q ≤ Lw f i j + Lw g i' j') (h0 : 0 < i + j) (h1 : 0 < i' + j') : Mid f n m q (i + l0 f i j) (j + l0 f i j) (i + Lw f i j) (j + Lw f i j) := by
  obtain ⟨r, hr, hrun⟩ := Lw_l0 h i j
  have hq := Lw_most h hM i j
  have h2 := (h.symm.far i' j').1
  have w2 : W g 0 0 (i' + (q - Lw f i j)) (j' + (q - Lw f i j)) (q - Lw f i j) := W.peels (Lw g i' j' - (q - Lw f i j)) (by
    rwa [show i' + (q - Lw f i j) + (Lw g i' j' - (q - Lw f i j)) = i' + Lw g i' j' by omega, show j' + (q - Lw f i j) + (Lw g i' j' - (q - Lw f i j)) = j' + Lw g i' j' by omega, show (q - Lw f i j) + (Lw g i' j' - (q - Lw f i j)) = Lw g i' j' by omega])
  have w3 := h.symm.turn w2 (by omega) (by omega)
  rw [show n - (i' + (q - Lw f i j)) = i + Lw f i j by omega, show m - (j' + (q - Lw f i j)) = j + Lw f i j by omega] at w3
  exact ⟨⟨r, by omega, by omega, hrun⟩, by omega, by omega, ⟨_, _, l0_way h i j, w3, by omega⟩, by omega, by omega⟩
theorem Mid.turn {f g : Nat → Nat → Bool} {n m : Nat} (h : Pair f g n m) {q s t x y : Nat} (k : Mid f n m q s t x y) : Mid g n m q (n - x) (m - y) (n - s) (m - t) := by
  obtain ⟨⟨r, r1, r2, r3⟩, hx, hy, ⟨k1, k2, w1, w2, hk⟩, hb, he⟩ := k
  have t1 := h.turn w1 (by omega) (by omega)
  have t2 := h.turn w2 (Nat.le_refl _) (Nat.le_refl _)
  rw [Nat.sub_self, Nat.sub_self] at t2
  rw [Nat.sub_zero, Nat.sub_zero] at t1
  refine ⟨⟨r, by omega, by omega, fun e he => ?_⟩, by omega, by omega, ⟨k2, k1, t2, t1, by omega⟩, by omega, by omega⟩
  have := h.fg (s + (r - 1 - e)) (t + (r - 1 - e)) (by omega) (by omega)
  rw [r3 _ (by omega), show n - 1 - (s + (r - 1 - e)) = n - x + e by omega, show m - 1 - (t + (r - 1 - e)) = m - y + e by omega] at this
  exact this.symm

theorem W.alls {f : Nat → Nat → Bool} : ∀ {u : Nat}, W f 0 0 u u u → 0 < u → f 0 0 = true := by
  intro u
  induction u with
  | zero => intro _ h; omega
  | succ u ih =>
    intro h _
    generalize hU : u + 1 = U at h
    have h' : W f 0 0 U (u + 1) (u + 1) := by rw [← hU] at h ⊢; exact h
    clear h
    generalize hV : u + 1 = V at h'
    have h : W f 0 0 U V (u + 1) := by rw [← hV] at h' ⊢; exact h'
    clear h'
    generalize hL : u + 1 = L at h
    cases h with
    | refl => omega
    | right h => have := h.le; omega
    | down h => have := h.le; omega
    | @diag u' v' l' h hf =>
      have e1 : u' = u := by omega
      have e2 : v' = u := by omega
      have e3 : l' = u := by omega
      subst e1; subst e2; subst e3
      by_cases e : l' = 0
      · subst e; exact hf
      · exact ih h (by omega)
/-- Where both begin and end unlike, two places at least aren't alike. -/
theorem apart_two {f : Nat → Nat → Bool} {n m q : Nat} (hM : Most f 0 0 n m q) (hn : 0 < n) (hm : 0 < m) (h0 : f 0 0 = false) (h1 : f (n - 1) (m - 1) = false) : 2 * q + 2 ≤ n + m := by
  have hw := hM.1
  have hl := hw.le
  rcases Nat.lt_or_ge (n + m) (2 * q + 2) with hc | hc
  · exfalso
    by_cases e : n = q ∧ m = q
    · obtain ⟨rfl, rfl⟩ := e
      have := W.alls hw hn
      rw [h0] at this; cases this
    · generalize hN : n = N at hw
      generalize hQ : m = M at hw
      cases hw with
      | refl => omega
      | @right u v l hw =>
        have := hw.le
        have e1 : u = q := by omega
        have e2 : M = q := by omega
        subst e1; subst e2
        have := W.alls hw (by omega)
        rw [h0] at this; cases this
      | @down u v l hw =>
        have := hw.le
        have e1 : v = q := by omega
        have e2 : N = q := by omega
        subst e1; subst e2
        have := W.alls hw (by omega)
        rw [h0] at this; cases this
      | @diag u v l hw hf =>
        rw [show n - 1 = u by omega, show m - 1 = v by omega] at h1
        rw [h1] at hf; cases hf
  · exact hc

open Classical in
/-- The first i from a on at which P is true. -/
noncomputable def firstF (P : Nat → Prop) : Nat → Nat → Nat
  | 0, a => a
  | k + 1, a => if P a then a else firstF P k (a + 1)
theorem firstF_eq {P : Nat → Prop} {i : Nat} (h : P i) : ∀ (k a : Nat), a ≤ i → i < a + k → (∀ e, a ≤ e → e < i → ¬ P e) → firstF P k a = i
  | 0, a, h1, h2, _ => by omega
  | k + 1, a, h1, h2, hn => by
    unfold firstF
    by_cases e : a = i
    · subst e; rw [if_pos h]
    · rw [if_neg (hn a (Nat.le_refl _) (by omega))]
      exact firstF_eq h k (a + 1) (by omega) (by omega) (fun e h3 h4 => hn e (by omega) h4)
theorem firstF_ok {P : Nat → Prop} {i : Nat} (h : P i) : ∀ (k a : Nat), a ≤ i → i < a + k → P (firstF P k a)
  | 0, a, h1, h2 => by omega
  | k + 1, a, h1, h2 => by
    unfold firstF
    by_cases hp : P a
    · rw [if_pos hp]; exact hp
    · rw [if_neg hp]
      by_cases e : a = i
      · subst e; exact absurd h hp
      · exact firstF_ok h k (a + 1) (by omega) (by omega)

/-- The ways of h places from the one end and those from the other meet behind i places left out of the first. -/
def Meet (f g : Nat → Nat → Bool) (n m t h i : Nat) : Prop := i ≤ h ∧ i + t ≤ n ∧ h - i + t ≤ m ∧ t ≤ Lw f i (h - i) + Lw g (n - t - i) (m - t - (h - i))
noncomputable def midI (f g : Nat → Nat → Bool) (n m q h : Nat) : Nat := firstF (Meet f g n m q h) (h + 1) 0
theorem midI_ok {f g : Nat → Nat → Bool} {n m : Nat} (hP : Pair f g n m) {q : Nat} (hM : Most f 0 0 n m q) {d : Nat} (hd : d + 2 * q ≤ n + m) : Meet f g n m q d (midI f g n m q d) := by
  obtain ⟨i, j, i', j', h1, h2, h3, h4⟩ := over_found hP hM hd
  refine firstF_ok (i := i) ⟨by omega, by omega, by omega, ?_⟩ _ _ (by omega) (by omega)
  rw [show d - i = j by omega, show n - q - i = i' by omega, show m - q - j = j' by omega]
  exact h4
theorem Most.turn {f g : Nat → Nat → Bool} {n m : Nat} (hP : Pair f g n m) {q : Nat} (hM : Most f 0 0 n m q) : Most g 0 0 n m q := by
  refine ⟨?_, fun l hl => hM.2 l ?_⟩
  · have := hP.turn hM.1 (Nat.le_refl _) (Nat.le_refl _)
    simpa using this
  · have := hP.symm.turn hl (Nat.le_refl _) (Nat.le_refl _)
    simpa using this

/-- The middle that is answered. -/
noncomputable def snk (f g : Nat → Nat → Bool) (n m q : Nat) : Nat × Nat × Nat × Nat :=
  if (n + m) % 2 = 1 then
    let h := (n + m - 2 * q + 1) / 2
    let i := midI f g n m q h
    (i + l0 f i (h - i), h - i + l0 f i (h - i), i + Lw f i (h - i), h - i + Lw f i (h - i))
  else
    let h := (n + m - 2 * q) / 2
    let i := midI g f n m q h
    (n - (i + Lw g i (h - i)), m - (h - i + Lw g i (h - i)), n - (i + l0 g i (h - i)), m - (h - i + l0 g i (h - i)))
theorem snk_mid {f g : Nat → Nat → Bool} {n m : Nat} (hP : Pair f g n m) {q : Nat} (hM : Most f 0 0 n m q) (hn : 0 < n) (hm : 0 < m) (h0 : f 0 0 = false) (h1 : f (n - 1) (m - 1) = false) :
    Mid f n m q (snk f g n m q).1 (snk f g n m q).2.1 (snk f g n m q).2.2.1 (snk f g n m q).2.2.2 := by
  have h2 := apart_two hM hn hm h0 h1
  unfold snk
  by_cases ho : (n + m) % 2 = 1
  · rw [if_pos ho]
    dsimp only
    obtain ⟨k1, k2, k3, k4⟩ := midI_ok hP hM (d := (n + m - 2 * q + 1) / 2) (by omega)
    generalize midI f g n m q ((n + m - 2 * q + 1) / 2) = i at *
    exact over_mid hP hM (i' := n - q - i) (j' := m - q - ((n + m - 2 * q + 1) / 2 - i)) (by omega) (by omega) k4 (by omega) (by omega)
  · rw [if_neg ho]
    dsimp only
    obtain ⟨k1, k2, k3, k4⟩ := midI_ok hP.symm (hM.turn hP) (d := (n + m - 2 * q) / 2) (by omega)
    generalize midI g f n m q ((n + m - 2 * q) / 2) = i at *
    exact (over_mid hP.symm (hM.turn hP) (i' := n - q - i) (j' := m - q - ((n + m - 2 * q) / 2 - i)) (by omega) (by omega) k4 (by omega) (by omega)).turn hP.symm
end Go.Proofs.Ytdabahipeepheaa
