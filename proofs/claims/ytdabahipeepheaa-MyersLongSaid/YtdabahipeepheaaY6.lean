/- Chapter 7: one box after the other: what is known of what is left, and of the marks. -/
import Derived.Test.YtdabahipeepheaaY5
namespace Go.Proofs.Ytdabahipeepheaa

structure MS where
  st : List Bx
  g : List Bool
  c : List Bool
abbrev Bx.d : Bx := ⟨0, 0, 0, 0⟩
noncomputable def snkB (A C : Nat → Int) (b : Bx) : Nat × Nat × Nat × Nat := snkA (fun e => A (b.x + e)) (fun e => C (b.y + e)) b.n b.m
noncomputable def topB (A C : Nat → Int) (s : MS) : Bx := trimF A C (s.st.getD (s.st.length - 1) Bx.d)
noncomputable def stepF (A C : Nat → Int) (s : MS) : MS :=
  if (topB A C s).n = 0 ∨ (topB A C s).m = 0 then ⟨s.st.take (s.st.length - 1), mkF s.g (topB A C s).x (topB A C s).n, mkF s.c (topB A C s).y (topB A C s).m⟩
  else ⟨s.st.take (s.st.length - 1) ++ [⟨(topB A C s).x, (snkB A C (topB A C s)).1, (topB A C s).y, (snkB A C (topB A C s)).2.1⟩,
    ⟨(topB A C s).x + (snkB A C (topB A C s)).2.2.1, (topB A C s).n - (snkB A C (topB A C s)).2.2.1, (topB A C s).y + (snkB A C (topB A C s)).2.2.2, (topB A C s).m - (snkB A C (topB A C s)).2.2.2⟩], s.g, s.c⟩
def Bx.w (b : Bx) : Nat := (b.n + b.m) * (b.n + b.m) + 1
def mu (s : MS) : Nat := (s.st.map Bx.w).sum

structure MInv (A C : Nat → Int) (N M : Nat) (s : MS) : Prop where
  lg : s.g.length = N
  lc : s.c.length = M
  ch : ∃ e1 e2 c l, Chn (fA A C N M) s.st.reverse e1 e2 c ∧ Al (fA A C N M) s.g s.c N M e1 e2 l ∧ c + l = mq (fA A C N M) N M ∧ e1 ≤ N ∧ e2 ≤ M ∧ (∀ i, i < e1 → s.g.getD i false = false) ∧ ∀ j, j < e2 → s.c.getD j false = false

theorem Most.strip {f : Nat → Nat → Bool} {x y u v q p e : Nat} (h : Most f x y u v q) (hx : x + p + e ≤ u) (hy : y + p + e ≤ v) (hp : ∀ k, k < p → f (x + k) (y + k) = true) (he : ∀ k, k < e → f (u - e + k) (v - e + k) = true) :
    p + e ≤ q ∧ Most f (x + p) (y + p) (u - e) (v - e) (q - p - e) := by
  obtain ⟨r, hr⟩ := Most.ex f (x := x + p) (y := y + p) (u := u - e) (v := v - e) (by omega) (by omega)
  have w1 : W f x y (x + p) (y + p) p := by have := (W.refl (f := f) (x := x) (y := y)).diags p hp; rwa [Nat.zero_add] at this
  have w2 : W f (u - e) (v - e) u v e := by
    have := (W.refl (f := f) (x := u - e) (y := v - e)).diags e he
    rwa [Nat.zero_add, show u - e + e = u by omega, show v - e + e = v by omega] at this
  have h1 := h.2 _ ((w1.trans hr.1).trans w2)
  have hf : ∀ (k l : Nat) {x y u v : Nat}, W f x y u v (l + k) → W f (x + k) (y + k) u v l := by
    intro k
    induction k with
    | zero => exact fun l x y u v w => w
    | succ k ih =>
      intro l x y u v w
      have := ih l (w.front (l + k) (by omega))
      rwa [show x + 1 + k = x + (k + 1) by omega, show y + 1 + k = y + (k + 1) by omega] at this
  have w3 : W f (x + p) (y + p) u v (q - p) := hf p (q - p) (by rw [show q - p + p = q by omega]; exact h.1)
  have w4 : W f (x + p) (y + p) (u - e) (v - e) (q - p - e) := W.peels e (by rwa [show u - e + e = u by omega, show v - e + e = v by omega, show q - p - e + e = q - p by omega])
  have h2 := hr.2 _ w4
  have e1 : r = q - p - e := by omega
  subst e1
  exact ⟨by omega, hr⟩

theorem fA_of {A C : Nat → Int} {N M n m x y e k : Nat} (hx : x + n ≤ N) (hy : y + m ≤ M) (h : fA (fun e => A (x + e)) (fun e => C (y + e)) n m e k = true) : fA A C N M (x + e) (y + k) = true := by
  have := fA_iff.1 h
  exact fA_iff.2 ⟨by omega, by omega, this.2.2⟩
theorem fA_to {A C : Nat → Int} {N M n m x y e k : Nat} (he : e < n) (hk : k < m) (h : fA A C N M (x + e) (y + k) = true) : fA (fun e => A (x + e)) (fun e => C (y + e)) n m e k = true := fA_iff.2 ⟨he, hk, (fA_iff.1 h).2.2⟩
theorem most_loc {A C : Nat → Int} {N M : Nat} {b : Bx} {q : Nat} (hx : b.x + b.n ≤ N) (hy : b.y + b.m ≤ M) (h : Most (fA A C N M) b.x b.y (b.x + b.n) (b.y + b.m) q) :
    mq (fA (fun e => A (b.x + e)) (fun e => C (b.y + e)) b.n b.m) b.n b.m = q := by
  refine (mq_most _ _ _).uniq ⟨?_, fun l hl => h.2 l ?_⟩
  · exact h.1.back (f := fA (fun e => A (b.x + e)) (fun e => C (b.y + e)) b.n b.m) (p := b.x) (q := b.y) 0 0 b.n b.m rfl rfl rfl rfl (fun e k he hk => fA_to he hk)
  · exact hl.move (p := b.x) (q := b.y) (fun e k _ _ => fA_of hx hy)

theorem snkB_mid {A C : Nat → Int} {N M : Nat} {b : Bx} {q : Nat} (hx : b.x + b.n ≤ N) (hy : b.y + b.m ≤ M) (h : Most (fA A C N M) b.x b.y (b.x + b.n) (b.y + b.m) q) (hn : 0 < b.n) (hm : 0 < b.m) (h0 : A b.x ≠ C b.y) (h1 : A (b.x + (b.n - 1)) ≠ C (b.y + (b.m - 1))) :
    Mid (fA (fun e => A (b.x + e)) (fun e => C (b.y + e)) b.n b.m) b.n b.m q (snkB A C b).1 (snkB A C b).2.1 (snkB A C b).2.2.1 (snkB A C b).2.2.2 := by
  have := snk_mid (pairA (fun e => A (b.x + e)) (fun e => C (b.y + e)) b.n b.m) (mq_most _ b.n b.m) hn hm (by
    rw [Bool.eq_false_iff]; intro k; exact h0 (fA_iff.1 k).2.2) (by
    rw [Bool.eq_false_iff]; intro k; exact h1 (fA_iff.1 k).2.2)
  rw [most_loc hx hy h] at this
  rw [← most_loc hx hy h] at this ⊢
  exact this

theorem sq_less {a b s : Nat} (ha : a < s) (hb : b < s) (hab : a + b ≤ s) (hs : 2 ≤ s) : a * a + 1 + (b * b + 1) < s * s + 1 := by
  have h1 : a * a ≤ a * (s - 1) := Nat.mul_le_mul_left _ (by omega)
  have h2 : b * b ≤ b * (s - 1) := Nat.mul_le_mul_left _ (by omega)
  have h3 : (a + b) * (s - 1) ≤ s * (s - 1) := Nat.mul_le_mul_right _ hab
  rw [Nat.add_mul] at h3
  have h4 : s * s = s * (s - 1) + s := by rw [← Nat.mul_succ]; congr 1; omega
  omega
theorem sq_le {a s : Nat} (h : a ≤ s) : a * a ≤ s * s := Nat.mul_le_mul h h

theorem MInv.top {A C : Nat → Int} {N M : Nat} {s : MS} (h : MInv A C N M s) (hs : s.st ≠ []) :
    (s.st.getD (s.st.length - 1) Bx.d).x + (s.st.getD (s.st.length - 1) Bx.d).n ≤ N ∧ (s.st.getD (s.st.length - 1) Bx.d).y + (s.st.getD (s.st.length - 1) Bx.d).m ≤ M ∧ s.st.length ≤ N + M + 1 ∧ 0 < s.st.length ∧
    s.st = s.st.take (s.st.length - 1) ++ [s.st.getD (s.st.length - 1) Bx.d] := by
  have hl := List.length_pos_iff.2 hs
  have e : s.st = s.st.take (s.st.length - 1) ++ [s.st.getD (s.st.length - 1) Bx.d] := by
    have h1 := (List.take_append_drop (s.st.length - 1) s.st).symm
    rw [List.drop_eq_getElem_cons (by omega), List.drop_of_length_le (by omega)] at h1
    rw [List.getD_eq_getElem?_getD, List.getElem?_eq_getElem (by omega)]
    exact h1
  obtain ⟨e1, e2, c, l, k1, k2, k3, k4, k5, k6, k7⟩ := h.ch
  generalize s.st.getD (s.st.length - 1) Bx.d = b at *
  rw [e, List.reverse_append, List.reverse_singleton, List.singleton_append] at k1
  cases k1 with
  | cons b q e0 h1 h2 h3 h4 =>
    rw [List.length_reverse, List.length_take] at h4
    have h5 := h2.1.le
    exact ⟨by omega, by omega, by omega, hl, e⟩

theorem MInv.step {A C : Nat → Int} {N M : Nat} {s : MS} (h : MInv A C N M s) (hs : s.st ≠ []) : MInv A C N M (stepF A C s) ∧ mu (stepF A C s) < mu s ∧
    ((topB A C s).x + (topB A C s).n ≤ N ∧ (topB A C s).y + (topB A C s).m ≤ M) ∧
    (¬ ((topB A C s).n = 0 ∨ (topB A C s).m = 0) → (snkB A C (topB A C s)).1 ≤ (topB A C s).n ∧ (snkB A C (topB A C s)).2.1 ≤ (topB A C s).m ∧ (snkB A C (topB A C s)).2.2.1 ≤ (topB A C s).n ∧ (snkB A C (topB A C s)).2.2.2 ≤ (topB A C s).m) := by
  obtain ⟨t1, t2, t3, t4, t5⟩ := h.top hs
  obtain ⟨lg, lc, e1, e2, c, l, k1, k2, k3, k4, k5, k6, k7⟩ := h
  obtain ⟨r, hr⟩ : ∃ r, r = s.st.take (s.st.length - 1) := ⟨_, rfl⟩
  obtain ⟨b0, hb0⟩ : ∃ b, b = s.st.getD (s.st.length - 1) Bx.d := ⟨_, rfl⟩
  have hb1 : topB A C s = trimF A C b0 := by unfold topB; rw [hb0]
  obtain ⟨p, e, q1, q2, q3, q4, q5, q6, q7⟩ := trimF_spec A C b0
  have hmu : mu s = (r.map Bx.w).sum + b0.w := by unfold mu; rw [t5, ← hr, ← hb0]; simp
  unfold stepF
  rw [hb1, ← hr]
  generalize trimF A C b0 = b at *
  rw [← hb0] at t1 t2 t5
  rw [← hr] at t5
  rw [t5, List.reverse_append, List.reverse_singleton, List.singleton_append] at k1
  have hbx : b.x + b.n ≤ N ∧ b.y + b.m ≤ M := by omega
  cases k1 with
  | @cons _ c0 _ q0 e0 h1 h2 h3 h4 =>
    have hfp : ∀ k, k < p → fA A C N M (b0.x + k) (b0.y + k) = true := fun k hk => fA_iff.2 ⟨by omega, by omega, q5 k hk⟩
    have hfe : ∀ k, k < e → fA A C N M (b0.x + b0.n - e + k) (b0.y + b0.m - e + k) = true := fun k hk => by
      refine fA_iff.2 ⟨by omega, by omega, ?_⟩
      rw [show b0.x + b0.n - e + k = b.x + b.n + k by omega, show b0.y + b0.m - e + k = b.y + b.m + k by omega]
      exact q6 k hk
    obtain ⟨hq, hmo⟩ := h2.strip (p := p) (e := e) (by omega) (by omega) hfp hfe
    rw [show b0.x + p = b.x by omega, show b0.y + p = b.y by omega, show b0.x + b0.n - e = b.x + b.n by omega, show b0.y + b0.m - e = b.y + b.m by omega] at hmo
    have hch := h1.ext p hfp
    rw [show b0.x + p = b.x by omega, show b0.y + p = b.y by omega] at hch
    have hfe2 : ∀ k, k < e + e0 → fA A C N M (b.x + b.n + k) (b.y + b.m + k) = true := fun k hk => by
      by_cases hk2 : k < e
      · exact fA_iff.2 ⟨by omega, by omega, q6 k hk2⟩
      · have := h3 (k - e) (by omega)
        rwa [show b0.x + b0.n + (k - e) = b.x + b.n + k by omega, show b0.y + b0.m + (k - e) = b.y + b.m + k by omega] at this
    by_cases hz : b.n = 0 ∨ b.m = 0
    · rw [if_pos hz]
      have hq0 : q0 - p - e = 0 := by have := hmo.1.le; omega
      have lg' := mkF_get s.g b.x b.n (by omega)
      have lc' := mkF_get s.c b.y b.m (by omega)
      refine ⟨⟨by dsimp only; rw [mkF_len]; exact lg, by dsimp only; rw [mkF_len]; exact lc, b.x, b.y, c0 + p, l + (e + e0), ?_, ?_, by omega, by omega, by omega, fun i hi => ?_, fun j hj => ?_⟩, ?_, hbx, fun h => absurd hz h⟩
      · exact hch
      · dsimp only
        refine Al.gones b.n (Al.comes b.m (Al.diag (e + e0) ?_ fun k hk => ?_) fun k hk => ⟨by omega, ?_⟩) fun k hk => ⟨by omega, ?_⟩
        · refine Al.congr ?_ (fun i hi => ?_) (fun j hj => ?_) (g := s.g) (c := s.c)
          · rw [show b.x + b.n + (e + e0) = b0.x + b0.n + e0 by omega, show b.y + b.m + (e + e0) = b0.y + b0.m + e0 by omega]
            exact k2
          · rw [lg', if_neg (by omega)]
          · rw [lc', if_neg (by omega)]
        · refine ⟨hfe2 k hk, by omega, by omega, ?_, ?_⟩
          · rw [lg', if_neg (by omega)]; exact k6 _ (by omega)
          · rw [lc', if_neg (by omega)]; exact k7 _ (by omega)
        · rw [lc', if_pos (by omega)]
        · rw [lg', if_pos (by omega)]
      · dsimp only; rw [lg', if_neg (by omega)]; exact k6 _ (by omega)
      · dsimp only; rw [lc', if_neg (by omega)]; exact k7 _ (by omega)
      · rw [hmu]; unfold mu Bx.w; dsimp only; omega
    · rw [if_neg hz]
      have hq7 := q7 (by omega) (by omega)
      have hmid := snkB_mid hbx.1 hbx.2 hmo (by omega) (by omega) hq7.1 hq7.2
      generalize snkB A C b = z at *
      obtain ⟨s1, s2, s3, s4⟩ := z
      dsimp only at hmid ⊢
      obtain ⟨⟨rr, r1, r2, r3⟩, hx, hy, ⟨w1, w2, ww1, ww2, hw⟩, hb, he⟩ := hmid
      have mv1 := ww1.move (g := fA A C N M) (p := b.x) (q := b.y) (fun e k _ _ => fA_of hbx.1 hbx.2)
      have mv2 := ww2.move (g := fA A C N M) (p := b.x) (q := b.y) (fun e k _ _ => fA_of hbx.1 hbx.2)
      rw [Nat.add_zero, Nat.add_zero] at mv1
      have hrun : ∀ k, k < rr → fA A C N M (b.x + s1 + k) (b.y + s2 + k) = true := fun k hk => by
        have := fA_of hbx.1 hbx.2 (r3 k hk)
        rwa [← Nat.add_assoc, ← Nat.add_assoc] at this
      obtain ⟨u1, hu1⟩ := Most.ex (fA A C N M) (x := b.x) (y := b.y) (u := b.x + s1) (v := b.y + s2) (by omega) (by omega)
      obtain ⟨u2, hu2⟩ := Most.ex (fA A C N M) (x := b.x + s3) (y := b.y + s4) (u := b.x + b.n) (v := b.y + b.m) (by omega) (by omega)
      have hall := hmo.2 _ ((hu1.1.diags rr hrun).trans (by rw [show b.x + s1 + rr = b.x + s3 by omega, show b.y + s2 + rr = b.y + s4 by omega]; exact hu2.1))
      have g1 := hu1.2 _ mv1
      have g2 := hu2.2 _ mv2
      have n1 : Chn (fA A C N M) (⟨b.x, s1, b.y, s2⟩ :: r.reverse) (b.x + s3) (b.y + s4) (c0 + p + u1 + rr) := by
        have := Chn.cons (f := fA A C N M) (r := r.reverse) (c := c0 + p) ⟨b.x, s1, b.y, s2⟩ u1 rr hch hu1 hrun (by dsimp only; omega)
        dsimp only at this
        rwa [show b.x + s1 + rr = b.x + s3 by omega, show b.y + s2 + rr = b.y + s4 by omega] at this
      have n2 : Chn (fA A C N M) (⟨b.x + s3, b.n - s3, b.y + s4, b.m - s4⟩ :: ⟨b.x, s1, b.y, s2⟩ :: r.reverse) (b.x + b.n + (e + e0)) (b.y + b.m + (e + e0)) (c0 + p + u1 + rr + u2 + (e + e0)) := by
        have := Chn.cons (f := fA A C N M) (c := c0 + p + u1 + rr) ⟨b.x + s3, b.n - s3, b.y + s4, b.m - s4⟩ u2 (e + e0) n1 (by
          dsimp only; rw [show b.x + s3 + (b.n - s3) = b.x + b.n by omega, show b.y + s4 + (b.m - s4) = b.y + b.m by omega]; exact hu2) (by
          dsimp only; rw [show b.x + s3 + (b.n - s3) = b.x + b.n by omega, show b.y + s4 + (b.m - s4) = b.y + b.m by omega]; exact hfe2) (by
          rw [List.length_cons]; dsimp only; rw [List.length_reverse] at h4 ⊢; omega)
        dsimp only at this
        rwa [show b.x + s3 + (b.n - s3) = b.x + b.n by omega, show b.y + s4 + (b.m - s4) = b.y + b.m by omega] at this
      refine ⟨⟨lg, lc, b.x + b.n + (e + e0), b.y + b.m + (e + e0), c0 + p + u1 + rr + u2 + (e + e0), l, ?_, ?_, ?_, by omega, by omega, fun i hi => k6 i (by omega), fun j hj => k7 j (by omega)⟩, ?_, hbx, fun _ => ⟨by omega, by omega, by omega, by omega⟩⟩
      · dsimp only
        rw [List.reverse_append]
        exact n2
      · rw [show b.x + b.n + (e + e0) = b0.x + b0.n + e0 by omega, show b.y + b.m + (e + e0) = b0.y + b0.m + e0 by omega]
        exact k2
      · omega
      · rw [hmu]
        unfold mu
        rw [List.map_append, List.sum_append]
        have := sq_less (a := s1 + s2) (b := b.n - s3 + (b.m - s4)) (s := b.n + b.m) (by omega) (by omega) (by omega) (by omega)
        have h9 := sq_le (a := b.n + b.m) (s := b0.n + b0.m) (by omega)
        simp only [List.map_cons, List.map_nil, List.sum_cons, List.sum_nil, Bx.w]
        omega

noncomputable def runF (A C : Nat → Int) : Nat → MS → MS
  | 0, s => s
  | k + 1, s => if s.st = [] then s else runF A C k (stepF A C s)
theorem runF_inv {A C : Nat → Int} {N M : Nat} : ∀ (k : Nat) (s : MS), MInv A C N M s → mu s ≤ k → MInv A C N M (runF A C k s) ∧ (runF A C k s).st = []
  | 0, s, h, hk => by
    refine ⟨h, ?_⟩
    cases hs : s.st with
    | nil => exact hs
    | cons b r => exfalso; unfold mu at hk; rw [hs] at hk; simp [Bx.w] at hk
  | k + 1, s, h, hk => by
    unfold runF
    by_cases hs : s.st = []
    · rw [if_pos hs]; exact ⟨h, hs⟩
    · rw [if_neg hs]
      obtain ⟨h1, h2, _⟩ := h.step hs
      exact runF_inv k _ h1 (by omega)
def beg (N M : Nat) : MS := ⟨[⟨0, N, 0, M⟩], List.replicate N false, List.replicate M false⟩
theorem beg_inv (A C : Nat → Int) (N M : Nat) : MInv A C N M (beg N M) := by
  refine ⟨by simp [beg], by simp [beg], N, M, _, 0, ?_, .fin, Nat.add_zero _, Nat.le_refl _, Nat.le_refl _, fun i hi => ?_, fun j hj => ?_⟩
  · have := Chn.cons (f := fA A C N M) (r := []) (c := 0) ⟨0, N, 0, M⟩ (mq (fA A C N M) N M) 0 (.nil 0 (fun k hk => by omega)) (by simpa using mq_most (fA A C N M) N M) (fun k hk => by omega) (by simp)
    simpa [beg] using this
  · rw [List.getD_eq_getElem?_getD]; simp [beg, hi]
  · rw [List.getD_eq_getElem?_getD]; simp [beg, hj]
noncomputable def endS (A C : Nat → Int) (N M : Nat) : MS := runF A C (mu (beg N M)) (beg N M)
theorem end_al (A C : Nat → Int) (N M : Nat) : Al (fA A C N M) (endS A C N M).g (endS A C N M).c N M 0 0 (mq (fA A C N M) N M) ∧ (endS A C N M).g.length = N ∧ (endS A C N M).c.length = M := by
  obtain ⟨⟨lg, lc, e1, e2, c, l, k1, k2, k3, k4, k5, k6, k7⟩, hs⟩ := runF_inv (mu (beg N M)) (beg N M) (beg_inv A C N M) (Nat.le_refl _)
  change Chn _ (endS A C N M).st.reverse _ _ _ at k1
  have hs' : (endS A C N M).st = [] := hs
  rw [hs'] at k1
  refine ⟨?_, lg, lc⟩
  cases k1 with
  | nil e h =>
    rw [← k3, Nat.add_comm]
    refine Al.diag e1 (by rw [Nat.zero_add]; exact k2) fun k hk => ?_
    rw [Nat.zero_add]
    exact ⟨h k hk, by omega, by omega, k6 k hk, k7 k hk⟩
end Go.Proofs.Ytdabahipeepheaa
