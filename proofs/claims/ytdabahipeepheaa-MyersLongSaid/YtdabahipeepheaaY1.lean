/- Chapter 7: ways through the table of two rows, and how many alike places they take. -/
import Derived.KernelRfl
namespace Go.Proofs.Ytdabahipeepheaa

/-- A way from (x, y) to a later place, with l alike places. -/
inductive W (f : Nat → Nat → Bool) (x y : Nat) : Nat → Nat → Nat → Prop
  | refl : W f x y x y 0
  | right {u v l : Nat} : W f x y u v l → W f x y (u + 1) v l
  | down {u v l : Nat} : W f x y u v l → W f x y u (v + 1) l
  | diag {u v l : Nat} : W f x y u v l → f u v = true → W f x y (u + 1) (v + 1) (l + 1)

theorem W.le {f : Nat → Nat → Bool} {x y u v l : Nat} (h : W f x y u v l) : x + l ≤ u ∧ y + l ≤ v := by
  induction h with
  | refl => omega
  | right _ ih => omega
  | down _ ih => omega
  | diag _ _ ih => omega

theorem W.trans {f : Nat → Nat → Bool} {x y u v l p q k : Nat} (h : W f x y u v l) (h' : W f u v p q k) : W f x y p q (l + k) := by
  induction h' with
  | refl => exact h
  | right _ ih => exact ih.right
  | down _ ih => exact ih.down
  | diag _ hf ih => exact ih.diag hf

theorem W.rights {f : Nat → Nat → Bool} {x y u v l : Nat} (h : W f x y u v l) : ∀ k, W f x y (u + k) v l
  | 0 => h
  | k + 1 => (h.rights k).right
theorem W.downs {f : Nat → Nat → Bool} {x y u v l : Nat} (h : W f x y u v l) : ∀ k, W f x y u (v + k) l
  | 0 => h
  | k + 1 => (h.downs k).down
theorem W.zero {f : Nat → Nat → Bool} {x y u v : Nat} (h : x ≤ u) (k : y ≤ v) : W f x y u v 0 := by
  have := ((W.refl (f := f) (x := x) (y := y)).rights (u - x)).downs (v - y)
  rwa [show x + (u - x) = u by omega, show y + (v - y) = v by omega] at this
theorem W.diags {f : Nat → Nat → Bool} {x y u v l : Nat} (h : W f x y u v l) : ∀ k, (∀ e, e < k → f (u + e) (v + e) = true) → W f x y (u + k) (v + k) (l + k)
  | 0, _ => h
  | k + 1, hk => (h.diags k (fun e he => hk e (by omega))).diag (hk k (by omega))

theorem W.less {f : Nat → Nat → Bool} {x y u v l : Nat} (h : W f x y u v l) : ∀ k, k ≤ l → W f x y u v k := by
  induction h with
  | refl => intro k hk; have : k = 0 := by omega
            subst this; exact .refl
  | right _ ih => exact fun k hk => (ih k hk).right
  | down _ ih => exact fun k hk => (ih k hk).down
  | @diag u v l hw hf ih =>
    intro k hk
    by_cases e : k = l + 1
    · subst e; exact hw.diag hf
    · exact (ih k (by omega)).right.down

/-- One place less on both sides: one alike place less at the most. -/
theorem W.peelY {f : Nat → Nat → Bool} {x y u v l : Nat} (h : W f x y u v l) : ∀ v' l', v = v' + 1 → l = l' + 1 → W f x y u v' l' := by
  induction h with
  | refl => intro v' l' _ e; omega
  | right _ ih => exact fun v' l' e1 e2 => (ih v' l' e1 e2).right
  | @down u v l hw ih =>
    intro v' l' e1 e2
    have : v = v' := by omega
    subst this
    exact hw.less l' (by omega)
  | @diag u v l hw hf ih =>
    intro v' l' e1 e2
    have h1 : v = v' := by omega
    have h2 : l = l' := by omega
    subst h1; subst h2
    exact hw.right
theorem W.peelX {f : Nat → Nat → Bool} {x y u v l : Nat} (h : W f x y u v l) : ∀ u' l', u = u' + 1 → l = l' + 1 → W f x y u' v l' := by
  induction h with
  | refl => intro v' l' _ e; omega
  | down _ ih => exact fun v' l' e1 e2 => (ih v' l' e1 e2).down
  | @right u v l hw ih =>
    intro v' l' e1 e2
    have : u = v' := by omega
    subst this
    exact hw.less l' (by omega)
  | @diag u v l hw hf ih =>
    intro v' l' e1 e2
    have h1 : u = v' := by omega
    have h2 : l = l' := by omega
    subst h1; subst h2
    exact hw.down
theorem W.peel {f : Nat → Nat → Bool} {x y u v l : Nat} (h : W f x y (u + 1) (v + 1) (l + 1)) : W f x y u v l := by
  cases h with
  | right h => exact h.peelY v l rfl rfl
  | down h => exact h.peelX u l rfl rfl
  | diag h _ => exact h
theorem W.peels {f : Nat → Nat → Bool} {x y : Nat} : ∀ (k : Nat) {u v l : Nat}, W f x y (u + k) (v + k) (l + k) → W f x y u v l
  | 0, _, _, _, h => h
  | k + 1, u, v, l, h => W.peels k (W.peel (u := u + k) (v := v + k) (l := l + k) h)
/-- The same at the beginning. -/
theorem W.front {f : Nat → Nat → Bool} {x y u v l : Nat} (h : W f x y u v l) : ∀ l', l = l' + 1 → W f (x + 1) (y + 1) u v l' := by
  induction h with
  | refl => intro l' e; omega
  | right _ ih => exact fun l' e => (ih l' e).right
  | down _ ih => exact fun l' e => (ih l' e).down
  | @diag u v l hw hf ih =>
    intro l' e
    have : l = l' := by omega
    subst this
    have hl := hw.le
    cases l with
    | zero => exact W.zero (by omega) (by omega)
    | succ k => exact (ih k rfl).diag hf

/-- What is on the way behind just so many places that are not alike. -/
theorem W.split {f : Nat → Nat → Bool} {x y u v l : Nat} (h : W f x y u v l) : ∀ d, d + 2 * l ≤ (u - x) + (v - y) → ∃ p q k k', W f x y p q k ∧ W f p q u v k' ∧ k + k' = l ∧ d + 2 * k = (p - x) + (q - y) := by
  induction h with
  | refl => intro d hd; exact ⟨x, y, 0, 0, .refl, .refl, rfl, by omega⟩
  | @right u v l hw ih =>
    intro d hd
    have hl := hw.le
    by_cases e : d + 2 * l = (u + 1 - x) + (v - y)
    · exact ⟨u + 1, v, l, 0, hw.right, .refl, rfl, by omega⟩
    · obtain ⟨p, q, k, k', h1, h2, h3, h4⟩ := ih d (by omega)
      exact ⟨p, q, k, k', h1, h2.right, h3, h4⟩
  | @down u v l hw ih =>
    intro d hd
    have hl := hw.le
    by_cases e : d + 2 * l = (u - x) + (v + 1 - y)
    · exact ⟨u, v + 1, l, 0, hw.down, .refl, rfl, by omega⟩
    · obtain ⟨p, q, k, k', h1, h2, h3, h4⟩ := ih d (by omega)
      exact ⟨p, q, k, k', h1, h2.down, h3, h4⟩
  | @diag u v l hw hf ih =>
    intro d hd
    have hl := hw.le
    obtain ⟨p, q, k, k', h1, h2, h3, h4⟩ := ih d (by omega)
    exact ⟨p, q, k, k' + 1, h1, h2.diag hf, by omega, h4⟩

/-- Turned round. -/
theorem W.turn {f g : Nat → Nat → Bool} {n m : Nat} (hg : ∀ x y, x < n → y < m → f x y = true → g (n - 1 - x) (m - 1 - y) = true) {x y u v l : Nat} (h : W f x y u v l) :
    u ≤ n → v ≤ m → W g (n - u) (m - v) (n - x) (m - y) l := by
  induction h with
  | refl => exact fun _ _ => .refl
  | @right u v l hw ih =>
    intro h1 h2
    have hl := hw.le
    have := (W.right (W.refl (f := g) (x := n - (u + 1)) (y := m - v)))
    rw [show n - (u + 1) + 1 = n - u by omega] at this
    simpa using this.trans (ih (by omega) h2)
  | @down u v l hw ih =>
    intro h1 h2
    have := (W.down (W.refl (f := g) (x := n - u) (y := m - (v + 1))))
    rw [show m - (v + 1) + 1 = m - v by omega] at this
    simpa using this.trans (ih h1 (by omega))
  | @diag u v l hw hf ih =>
    intro h1 h2
    have h3 := hg u v (by omega) (by omega) hf
    rw [show n - 1 - u = n - (u + 1) by omega, show m - 1 - v = m - (v + 1) by omega] at h3
    have := (W.diag (W.refl (f := g) (x := n - (u + 1)) (y := m - (v + 1))) h3)
    rw [show n - (u + 1) + 1 = n - u by omega, show m - (v + 1) + 1 = m - v by omega] at this
    have h4 := this.trans (ih (by omega) (by omega))
    rwa [show 0 + 1 + l = l + 1 by omega] at h4
/-- Moved. -/
theorem W.move {f g : Nat → Nat → Bool} {p q : Nat} {x y u v l : Nat} (h : W f x y u v l) : (∀ e k, e < u → k < v → f e k = true → g (p + e) (q + k) = true) → W g (p + x) (q + y) (p + u) (q + v) l := by
  induction h with
  | refl => exact fun _ => .refl
  | right _ ih => exact fun hg => (ih (fun e k he hk => hg e k (by omega) hk)).right
  | down _ ih => exact fun hg => (ih (fun e k he hk => hg e k he (by omega))).down
  | @diag u v l hw hf ih => exact fun hg => (ih (fun e k he hk => hg e k (by omega) (by omega))).diag (hg u v (by omega) (by omega) hf)
theorem W.back {f g : Nat → Nat → Bool} {p q : Nat} {x y u v l : Nat} (h : W g x y u v l) : ∀ x' y' u' v', x = p + x' → y = q + y' → u = p + u' → v = q + v' → (∀ e k, e < u' → k < v' → g (p + e) (q + k) = true → f e k = true) → W f x' y' u' v' l := by
  induction h with
  | refl => intro x' y' u' v' h1 h2 h3 h4 _
            have e1 : u' = x' := by omega
            have e2 : v' = y' := by omega
            subst e1; subst e2; exact .refl
  | @right u v l hw ih =>
    intro x' y' u' v' h1 h2 h3 h4 hg
    have hl := hw.le
    obtain ⟨w, rfl⟩ : ∃ w, u' = w + 1 := ⟨u' - 1, by omega⟩
    exact (ih x' y' w v' h1 h2 (by omega) h4 (fun e k he hk => hg e k (by omega) hk)).right
  | @down u v l hw ih =>
    intro x' y' u' v' h1 h2 h3 h4 hg
    have hl := hw.le
    obtain ⟨w, rfl⟩ : ∃ w, v' = w + 1 := ⟨v' - 1, by omega⟩
    exact (ih x' y' u' w h1 h2 h3 (by omega) (fun e k he hk => hg e k he (by omega))).down
  | @diag u v l hw hf ih =>
    intro x' y' u' v' h1 h2 h3 h4 hg
    have hl := hw.le
    obtain ⟨w, rfl⟩ : ∃ w, v' = w + 1 := ⟨v' - 1, by omega⟩
    obtain ⟨z, rfl⟩ : ∃ z, u' = z + 1 := ⟨u' - 1, by omega⟩
    exact (ih x' y' z w h1 h2 (by omega) (by omega) (fun e k he hk => hg e k (by omega) (by omega))).diag (hg z w (by omega) (by omega) (by rwa [show p + z = u by omega, show q + w = v by omega]))

/-- The most alike places from (x, y) to (u, v). -/
def Most (f : Nat → Nat → Bool) (x y u v q : Nat) : Prop := W f x y u v q ∧ ∀ l, W f x y u v l → l ≤ q
theorem Most.uniq {f : Nat → Nat → Bool} {x y u v q q' : Nat} (h : Most f x y u v q) (h' : Most f x y u v q') : q = q' :=
  Nat.le_antisymm (h'.2 q h.1) (h.2 q' h'.1)
theorem Most.ex (f : Nat → Nat → Bool) {x y u v : Nat} (hx : x ≤ u) (hy : y ≤ v) : ∃ q, Most f x y u v q := by
  have : ∀ k, (∃ q, Most f x y u v q) ∨ ∃ l, k ≤ l ∧ W f x y u v l := by
    intro k
    induction k with
    | zero => exact .inr ⟨0, by omega, W.zero hx hy⟩
    | succ k ih =>
      rcases ih with h | ⟨l, hl, hw⟩
      · exact .inl h
      · by_cases h : ∃ l, k + 1 ≤ l ∧ W f x y u v l
        · exact .inr h
        · refine .inl ⟨l, hw, fun l' hw' => ?_⟩
          rcases Nat.lt_or_ge l' (k + 1) with h1 | h1
          · omega
          · exact absurd ⟨l', h1, hw'⟩ h
  rcases this (u + 1) with h | ⟨l, hl, hw⟩
  · exact h
  · have := hw.le; omega

/-- The furthest on its diagonal behind i places left out of the one and j of the other: l alike places. -/
def Far (f : Nat → Nat → Bool) (i j l : Nat) : Prop := W f 0 0 (i + l) (j + l) l ∧ ∀ k, W f 0 0 (i + k) (j + k) k → k ≤ l
theorem Far.uniq {f : Nat → Nat → Bool} {i j q q' : Nat} (h : Far f i j q) (h' : Far f i j q') : q = q' :=
  Nat.le_antisymm (h'.2 q h.1) (h.2 q' h'.1)
theorem Far.step {f : Nat → Nat → Bool} {i j p q l r : Nat} (hp : 0 < i → Far f (i - 1) j p) (hq : 0 < j → Far f i (j - 1) q)
    (hl1 : 0 < i → p ≤ l) (hl2 : 0 < j → q ≤ l) (hl : l = 0 ∨ (0 < i ∧ l = p) ∨ (0 < j ∧ l = q))
    (hr : ∀ e, e < r → f (i + l + e) (j + l + e) = true) (hs : f (i + l + r) (j + l + r) = false) : Far f i j (l + r) := by
  have h0 : W f 0 0 (i + l) (j + l) l := by
    rcases hl with rfl | ⟨h, rfl⟩ | ⟨h, rfl⟩
    · exact W.zero (by omega) (by omega)
    · have := ((hp h).1).right
      rwa [show i - 1 + l + 1 = i + l by omega] at this
    · have := ((hq h).1).down
      rwa [show j - 1 + l + 1 = j + l by omega] at this
  refine ⟨by simpa [Nat.add_assoc] using h0.diags r hr, fun k hk => ?_⟩
  -- what is further comes from what is alike
  have hd : ∀ k, l < k → W f 0 0 (i + k) (j + k) k → f (i + k - 1) (j + k - 1) = true ∧ W f 0 0 (i + (k - 1)) (j + (k - 1)) (k - 1) := by
    intro k hk hw
    generalize hX : i + k = X at hw
    generalize hY : j + k = Y at hw
    generalize hK : k = K at hw
    cases hw with
    | refl => omega
    | @right u v _ hw =>
      exfalso
      have := hw.le
      by_cases hi : 0 < i
      · have h1 := hl1 hi
        have := (hp hi).2 k (by rw [hK, show i - 1 + K = u by omega, show j + K = Y by omega]; exact hw)
        omega
      · omega
    | @down u v _ hw =>
      exfalso
      have := hw.le
      by_cases hi : 0 < j
      · have h1 := hl2 hi
        have := (hq hi).2 k (by rw [hK, show j - 1 + K = v by omega, show i + K = X by omega]; exact hw)
        omega
      · omega
    | @diag u v l' hw hf =>
      refine ⟨by simpa using hf, ?_⟩
      rwa [show i + (l' + 1 - 1) = u by omega, show j + (l' + 1 - 1) = v by omega, show l' + 1 - 1 = l' by omega]
  have hall : ∀ d k, k = l + r + 1 + d → ¬ W f 0 0 (i + k) (j + k) k := by
    intro d
    induction d with
    | zero =>
      intro k hk hw
      have := (hd k (by omega) hw).1
      rw [show i + k - 1 = i + l + r by omega, show j + k - 1 = j + l + r by omega, hs] at this
      cases this
    | succ d ih =>
      intro k hk hw
      exact ih (k - 1) (by omega) (hd k (by omega) hw).2
  rcases Nat.lt_or_ge (l + r) k with h | h
  · exact absurd hk (hall (k - (l + r + 1)) k (by omega))
  · exact h
theorem Far.ex (f : Nat → Nat → Bool) {n m : Nat} (hf : ∀ x y, f x y = true → x < n ∧ y < m) (i j : Nat) : ∃ l, Far f i j l := by
  have : ∀ k, (∃ q, Far f i j q) ∨ ∃ l, k ≤ l ∧ W f 0 0 (i + l) (j + l) l := by
    intro k
    induction k with
    | zero => exact .inr ⟨0, by omega, W.zero (by omega) (by omega)⟩
    | succ k ih =>
      rcases ih with h | ⟨l, hl, hw⟩
      · exact .inl h
      · by_cases h : ∃ l, k + 1 ≤ l ∧ W f 0 0 (i + l) (j + l) l
        · exact .inr h
        · refine .inl ⟨l, hw, fun l' hw' => ?_⟩
          rcases Nat.lt_or_ge l' (k + 1) with h1 | h1
          · omega
          · exact absurd ⟨l', h1, hw'⟩ h
  rcases this (n + 1) with h | ⟨l, hl, hw⟩
  · exact h
  · exfalso
    have hb : ∀ {u v l}, W f 0 0 u v l → l ≤ n := by
      intro u v l hw
      induction hw with
      | refl => omega
      | right _ ih => exact ih
      | down _ ih => exact ih
      | @diag u v l hw hf' ih => have := (hf u v hf').1; have := hw.le; omega
    have := hb hw
    omega
end Go.Proofs.Ytdabahipeepheaa
