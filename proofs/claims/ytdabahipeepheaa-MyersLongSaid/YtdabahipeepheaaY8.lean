/- Chapter 7: the table of what is common, row by row; the distance as a measure. -/
import Derived.Test.YtdabahipeepheaaY7
namespace Go.Proofs.Ytdabahipeepheaa

theorem lc_zero (f : Nat → Nat → Bool) (k : Nat) : mq f 0 k = 0 := by have := (mq_most f 0 k).1.le; omega
theorem lc_left (f : Nat → Nat → Bool) (i : Nat) : mq f i 0 = 0 := by have := (mq_most f i 0).1.le; omega
theorem lc_yes {f : Nat → Nat → Bool} {i k : Nat} (h : f i k = true) : mq f (i + 1) (k + 1) = mq f i k + 1 := by
  have h1 := (mq_most f (i + 1) (k + 1)).2 _ ((mq_most f i k).1.diag h)
  have h2 := (mq_most f (i + 1) (k + 1)).1
  rcases Nat.eq_zero_or_pos (mq f (i + 1) (k + 1)) with e | e
  · omega
  · have h3 : W f 0 0 (i + 1) (k + 1) ((mq f (i + 1) (k + 1) - 1) + 1) := by rwa [show mq f (i + 1) (k + 1) - 1 + 1 = mq f (i + 1) (k + 1) by omega]
    have h4 := (mq_most f i k).2 _ h3.peel
    omega
theorem lc_no {f : Nat → Nat → Bool} {i k : Nat} (h : f i k = false) : mq f (i + 1) (k + 1) = max (mq f i (k + 1)) (mq f (i + 1) k) := by
  have h1 := (mq_most f (i + 1) (k + 1)).2 _ (mq_most f i (k + 1)).1.right
  have h2 := (mq_most f (i + 1) (k + 1)).2 _ (mq_most f (i + 1) k).1.down
  have h3 := (mq_most f (i + 1) (k + 1)).1
  generalize hq : mq f (i + 1) (k + 1) = q at *
  cases h3 with
  | right h => have := (mq_most f i (k + 1)).2 _ h; omega
  | down h => have := (mq_most f (i + 1) k).2 _ h; omega
  | diag _ hf => rw [h] at hf; cases hf

/-- The way round through a third row. -/
theorem W.via {A B C : Nat → Int} {N M K : Nat} : ∀ (s n k m l1 l2 : Nat), n + k + m = s → n ≤ N → m ≤ M → W (fA A C N K) 0 0 n k l1 → W (fA C B K M) 0 0 k m l2 → ∃ l, W (fA A B N M) 0 0 n m l ∧ l1 + l2 ≤ l + k := by
  intro s
  induction s using Nat.strongRecOn with
  | _ s ih =>
    intro n k m l1 l2 hs hn hm h1 h2
    have b1 := h1.le
    have b2 := h2.le
    rcases Nat.eq_zero_or_pos k with hk | hk
    · exact ⟨0, W.zero (by omega) (by omega), by omega⟩
    · cases h1 with
      | refl => omega
      | @right u _ _ h1 =>
        obtain ⟨l, w, hl⟩ := ih (u + k + m) (by omega) u k m l1 l2 rfl (by omega) hm h1 h2
        exact ⟨l, w.right, hl⟩
      | @down _ v _ h1 =>
        generalize hK : v + 1 = K' at h2
        cases h2 with
        | refl => omega
        | @right u _ _ h2 =>
          have e : u = v := by omega
          subst e
          obtain ⟨l, w, hl⟩ := ih (n + u + m) (by omega) n u m l1 l2 rfl hn hm h1 h2
          exact ⟨l, w, by omega⟩
        | @down _ w _ h2 =>
          subst hK
          obtain ⟨l, w', hl⟩ := ih (n + (v + 1) + w) (by omega) n (v + 1) w l1 l2 rfl hn (by omega) h1.down h2
          exact ⟨l, w'.down, hl⟩
        | @diag u w l2 h2 hf =>
          have e : u = v := by omega
          subst e
          obtain ⟨l, w', hl⟩ := ih (n + u + w) (by omega) n u w l1 l2 rfl hn (by omega) h1 h2
          exact ⟨l, w'.down, by omega⟩
      | @diag u v l1 h1 hf1 =>
        generalize hK : v + 1 = K' at h2
        cases h2 with
        | refl => omega
        | @right u2 _ _ h2 =>
          have e : u2 = v := by omega
          subst e
          obtain ⟨l, w, hl⟩ := ih (u + u2 + m) (by omega) u u2 m l1 l2 rfl (by omega) hm h1 h2
          exact ⟨l, w.right, by omega⟩
        | @down _ w _ h2 =>
          subst hK
          obtain ⟨l, w', hl⟩ := ih (u + 1 + (v + 1) + w) (by omega) (u + 1) (v + 1) w (l1 + 1) l2 rfl hn (by omega) (h1.diag hf1) h2
          exact ⟨l, w'.down, hl⟩
        | @diag u2 w l2 h2 hf2 =>
          have e : u2 = v := by omega
          subst e
          obtain ⟨l, w', hl⟩ := ih (u + u2 + w) (by omega) u u2 w l1 l2 rfl (by omega) (by omega) h1 h2
          have q1 := fA_iff.1 hf1
          have q2 := fA_iff.1 hf2
          exact ⟨l + 1, w'.diag (fA_iff.2 ⟨by omega, by omega, q1.2.2.trans q2.2.2⟩), by omega⟩
theorem dist_tri (A B C : Nat → Int) (N M K : Nat) : dist A B N M ≤ dist A C N K + dist C B K M := by
  obtain ⟨l, w, hl⟩ := W.via (N + K + M) N K M _ _ rfl (Nat.le_refl _) (Nat.le_refl _) (mq_most (fA A C N K) N K).1 (mq_most (fA C B K M) K M).1
  have h1 := (mq_most (fA A B N M) N M).2 _ w
  have h2 := (mq_most (fA A C N K) N K).1.le
  have h3 := (mq_most (fA C B K M) K M).1.le
  unfold dist
  omega
theorem W.flip {f g : Nat → Nat → Bool} (hfg : ∀ x y, f x y = true → g y x = true) {x y u v l : Nat} (h : W f x y u v l) : W g y x v u l := by
  induction h with
  | refl => exact .refl
  | right _ ih => exact ih.down
  | down _ ih => exact ih.right
  | diag _ hf ih => exact ih.diag (hfg _ _ hf)
theorem dist_comm (A B : Nat → Int) (N M : Nat) : dist A B N M = dist B A M N := by
  have h1 := (mq_most (fA A B N M) N M).1.flip (g := fA B A M N) (fun x y h => by have := fA_iff.1 h; exact fA_iff.2 ⟨this.2.1, this.1, this.2.2.symm⟩)
  have h2 := (mq_most (fA B A M N) M N).1.flip (g := fA A B N M) (fun x y h => by have := fA_iff.1 h; exact fA_iff.2 ⟨this.2.1, this.1, this.2.2.symm⟩)
  have h3 := (mq_most (fA B A M N) M N).2 _ h1
  have h4 := (mq_most (fA A B N M) N M).2 _ h2
  unfold dist
  omega
theorem W.allD {f : Nat → Nat → Bool} : ∀ {u : Nat}, W f 0 0 u u u → ∀ e, e < u → f e e = true := by
  intro u
  induction u with
  | zero => intro _ e h; omega
  | succ u ih =>
    intro h e he
    have h1 := h.peel
    by_cases e1 : e < u
    · exact ih h1 e e1
    · obtain rfl : e = u := by omega
      cases hf : f e e with
      | true => rfl
      | false =>
        have h2 := lc_no hf
        have h3 := (mq_most f (e + 1) (e + 1)).2 _ h
        have h4 := (mq_most f e (e + 1)).1.le
        have h5 := (mq_most f (e + 1) e).1.le
        omega
theorem dist_zero (A B : Nat → Int) (N M : Nat) : dist A B N M = 0 ↔ N = M ∧ ∀ e, e < N → A e = B e := by
  have hle := (mq_most (fA A B N M) N M).1.le
  constructor
  · intro h
    unfold dist at h
    have e1 : N = M := by omega
    subst e1
    have h1 := (mq_most (fA A B N N) N N).1
    rw [show mq (fA A B N N) N N = N by omega] at h1
    exact ⟨rfl, fun e he => (fA_iff.1 (h1.allD e he)).2.2⟩
  · rintro ⟨rfl, h⟩
    have h1 : W (fA A B N N) 0 0 N N N := by
      have := (W.refl (f := fA A B N N) (x := 0) (y := 0)).diags N (fun e he => by
        rw [Nat.zero_add]; exact fA_iff.2 ⟨he, he, h e he⟩)
      rwa [Nat.zero_add] at this
    have := (mq_most (fA A B N N) N N).2 _ h1
    unfold dist
    omega
theorem dist_far (A B : Nat → Int) (N M : Nat) : ((dist A B N M : Nat) : Int) = (N : Int) + M - 2 * (mq (fA A B N M) N M : Nat) ∧ mq (fA A B N M) N M ≤ N ∧ mq (fA A B N M) N M ≤ M := by
  have hle := (mq_most (fA A B N M) N M).1.le
  unfold dist
  omega
/-- A distance by its script: l alike places, and no more. -/
theorem dist_is {A B : Nat → Int} {N M : Nat} (l : Nat) (h : Most (fA A B N M) 0 0 N M l) : dist A B N M = N + M - 2 * l := by
  unfold dist
  rw [(mq_most _ _ _).uniq h]
end Go.Proofs.Ytdabahipeepheaa
