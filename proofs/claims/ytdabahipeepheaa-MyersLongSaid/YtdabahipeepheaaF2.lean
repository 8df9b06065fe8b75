/- Chapter 7: the script that is told fits, is normal, and costs what it must. -/
import Derived.Test.YtdabahipeepheaaF1
namespace Go.Proofs.Ytdabahipeepheaa
open Go Go.RowKit Vc

/-- No two changes touch. -/
def nrm : List Chg → Prop
  | [] => True
  | c :: r => (∀ d q, r = d :: q → c.A + c.N < d.A) ∧ nrm r
theorem skF_no {g : List Bool} {n x : Nat} (h : ¬ (x < n ∧ g.getD x false = true)) : ∀ k, skF g n k x = x
  | 0 => rfl
  | k + 1 => by unfold skF; rw [if_neg h]
theorem diag_all {f : Nat → Nat → Bool} : ∀ (k a b : Nat), (∀ e, e < k → f (a + e) (b + e) = true) → ∀ p ∈ diag (a : Int) b k, ∃ i j : Nat, p = ((i : Int), (j : Int)) ∧ f i j = true
  | 0, _, _, _, p, h => by simp [diag] at h
  | k + 1, a, b, hf, p, h => by
    simp only [diag, List.mem_cons] at h
    rcases h with rfl | h
    · exact ⟨a, b, rfl, hf 0 (by omega)⟩
    · refine diag_all k (a + 1) (b + 1) (fun e he => ?_) p (by rw [Int.natCast_add, Int.natCast_add]; exact h)
      rw [show a + 1 + e = a + (e + 1) by omega, show b + 1 + e = b + (e + 1) by omega]
      exact hf (e + 1) (by omega)

theorem dif_law {f : Nat → Nat → Bool} {g c : List Bool} {n m : Nat} : ∀ (k : Nat) {x y l a b : Nat}, Al f g c n m x y l → n - x + (m - y) ≤ k → a ≤ x → b ≤ y → x - a = y - b → (∀ e, e < x - a → f (a + e) (b + e) = true) →
    validF (difF g c n m k x y) a b n m = 0 ∧ (∀ p ∈ pairsF (difF g c n m k x y) a b n, ∃ i j : Nat, p = ((i : Int), (j : Int)) ∧ f i j = true) ∧ nrm (difF g c n m k x y) ∧
    (∀ d q, difF g c n m k x y = d :: q → (x : Int) ≤ d.A ∧ (¬ (x < n ∧ g.getD x false = true) → ¬ (y < m ∧ c.getD y false = true) → (x : Int) + 1 ≤ d.A))
  | 0, x, y, l, a, b, h, hk, ha, hb, hab, hd => by
    have hl := h.le
    have e1 : x = n := by omega
    have e2 : y = m := by omega
    subst e1; subst e2
    refine ⟨?_, ?_, trivial, fun d q e => by simp [difF] at e⟩
    · simp only [difF, validF]; rw [if_neg (by omega)]
    · simp only [difF, pairsF]
      rw [show ((x : Int) - a).toNat = x - a by omega]
      exact diag_all _ a b hd
  | k + 1, x, y, l, a, b, h, hk, ha, hb, hab, hd => by
    have hl := h.le
    unfold difF
    by_cases h1 : x < n ∨ y < m
    · rw [if_pos h1]
      obtain ⟨a1, a2⟩ := skF_le g n (n - x) x
      obtain ⟨b1, b2⟩ := skF_le c m (m - y) y
      have hs := (h.skipsG (n - x)).skipsC (m - y)
      have o1 := skF_out g n (n - x) x (by omega)
      have o2 := skF_out c m (m - y) y (by omega)
      have z1 := fun q => skF_no (g := g) (n := n) (x := x) q (n - x)
      have z2 := fun q => skF_no (g := c) (n := m) (x := y) q (m - y)
      generalize skF g n (n - x) x = x' at *
      generalize skF c m (m - y) y = y' at *
      have hl2 := hs.le
      by_cases h2 : 0 < (x' - x) + (y' - y)
      · rw [if_pos h2]
        obtain ⟨q1, q2, q3, q4⟩ := dif_law k (a := x') (b := y') hs (by omega) (Nat.le_refl _) (Nat.le_refl _) (by omega) (fun e he => by omega)
        refine ⟨?_, ?_, ⟨fun d q e => ?_, q3⟩, fun d q e => ?_⟩
        · simp only [validF]
          rw [if_neg (by unfold bad; dsimp only; omega)]
          rw [show (x : Int) + ((x' - x : Nat) : Int) = x' by omega, show (y : Int) + ((y' - y : Nat) : Int) = y' by omega]
          exact q1
        · simp only [pairsF]
          intro p hp
          rcases List.mem_append.1 hp with hp | hp
          · rw [show ((x : Int) - a).toNat = x - a by omega] at hp
            exact diag_all _ a b hd p hp
          · rw [show (x : Int) + ((x' - x : Nat) : Int) = x' by omega, show (y : Int) + ((y' - y : Nat) : Int) = y' by omega] at hp
            exact q2 p hp
        · have := (q4 d q e).2 o1 o2
          dsimp only
          omega
        · simp only [List.cons.injEq] at e
          obtain ⟨rfl, _⟩ := e
          refine ⟨Int.le_refl _, fun q1 q2 => ?_⟩
          have := z1 q1
          have := z2 q2
          omega
      · rw [if_neg h2]
        have e1 : x' = x := by omega
        have e2 : y' = y := by omega
        rw [e1, e2] at hs
        rw [e1] at o1
        rw [e2] at o2
        cases hs with
        | fin => omega
        | gone h3 h4 _ => exact absurd ⟨h3, h4⟩ o1
        | come h3 h4 _ => exact absurd ⟨h3, h4⟩ o2
        | both h3 h4 h5 h6 h7 h8 =>
          obtain ⟨q1, q2, q3, q4⟩ := dif_law k (a := a) (b := b) h8 (by omega) (by omega) (by omega) (by omega) (fun e he => by
            by_cases e3 : e < x - a
            · exact hd e e3
            · rw [show a + e = x by omega, show b + e = y by omega]; exact h7)
          refine ⟨q1, q2, q3, fun d q e => ?_⟩
          have := (q4 d q e).1
          exact ⟨by omega, fun _ _ => by omega⟩
    · rw [if_neg h1]
      have e1 : x = n := by omega
      have e2 : y = m := by omega
      subst e1; subst e2
      refine ⟨?_, ?_, trivial, fun d q e => by cases e⟩
      · simp only [validF]; rw [if_neg (by omega)]
      · simp only [pairsF]
        rw [show ((x : Int) - a).toNat = x - a by omega]
        exact diag_all _ a b hd
/-- What is told of the whole script. -/
theorem diff_law (a b : List Int) (ha : a.length ≤ 4194304) (hb : b.length ≤ 4194304) : validE (diffL (lA a) (lA b) a.length b.length) a.length b.length = 0 ∧ fitsF (diffL (lA a) (lA b) a.length b.length) a b = 0 ∧ nrm (diffL (lA a) (lA b) a.length b.length) := by
  obtain ⟨h1, h2, h3, _⟩ := dif_law (a.length + b.length) (a := 0) (b := 0) (end_al (lA a) (lA b) a.length b.length).1 (by omega) (Nat.le_refl _) (Nat.le_refl _) rfl (fun e he => by omega)
  have hv : validE (diffL (lA a) (lA b) a.length b.length) a.length b.length = 0 := by
    unfold validE
    rw [if_neg (by omega)]
    exact h1
  refine ⟨hv, ?_, h3⟩
  unfold fitsF
  rw [if_neg (by rw [hv]; simp), if_pos]
  intro p hp
  obtain ⟨i, j, rfl, hf⟩ := h2 p hp
  have := (fA_iff.1 hf).2.2
  unfold sameAt
  simpa using this
theorem cost_sum : ∀ (l : List Chg) (n m : Int), (∀ e ∈ l, 0 ≤ e.A ∧ 0 ≤ e.B ∧ 0 ≤ e.N ∧ 0 ≤ e.M) → 0 ≤ n → 0 ≤ m → n + sumN l ≤ 4194304 → m + sumM l ≤ 4194304 → costF l n m = (n + sumN l, m + sumM l)
  | [], n, m, _, _, _, _, _ => by simp [costF, sumN, sumM]
  | c :: r, n, m, h, hn, hm, h1, h2 => by
    have h3 := h c (List.mem_cons_self ..)
    have h4 := sum_pos r fun e he => ⟨(h e (List.mem_cons_of_mem _ he)).2.2.1, (h e (List.mem_cons_of_mem _ he)).2.2.2⟩
    simp only [sumN, sumM] at h1 h2 ⊢
    simp only [costF]
    rw [if_neg (by omega), cost_sum r _ _ (fun e he => h e (List.mem_cons_of_mem _ he)) (by omega) (by omega) (by omega) (by omega)]
    congr 1 <;> omega
theorem valid_mem : ∀ (l : List Chg) (a b n m : Int), 0 ≤ a → 0 ≤ b → validF l a b n m = 0 → ∀ e ∈ l, 0 ≤ e.A ∧ 0 ≤ e.B ∧ 0 ≤ e.N ∧ 0 ≤ e.M ∧ e.A + e.N ≤ n
  | [], _, _, _, _, _, _, _, e, h => by cases h
  | c :: r, a, b, n, m, h1, h2, hv, e, h => by
    obtain ⟨q1, q2⟩ := valid_cons hv
    unfold bad at q1
    rcases List.mem_cons.1 h with rfl | h
    · omega
    · exact valid_mem r _ _ n m (by omega) (by omega) q2 e h
theorem nrm_at : ∀ (l : List Chg) (i : Nat), nrm l → i + 1 < l.length → (l.getD i Chg.d).A + (l.getD i Chg.d).N < (l.getD (i + 1) Chg.d).A
  | [], _, _, h => by simp at h
  | [c], i, _, h => by simp at h
  | c :: d :: r, 0, h, _ => by simpa using h.1 d r rfl
  | c :: d :: r, i + 1, h, hi => by
    have := nrm_at (d :: r) i h.2 (by simpa using hi)
    simpa using this

set_option maxRecDepth 100000 in
set_option maxHeartbeats 16000000 in
theorem normal7_con (s : List Chg) (hs : s.length ≤ 4194304) (hn : nrm s) (hb : ∀ e ∈ s, 0 ≤ e.A ∧ 0 ≤ e.N ∧ e.A + e.N ≤ 4194304) : Con Try.prog glob 16 [.s 0 0 s.length] [(0, chRo s)] 1 (retV 1 (.v (.bool true))) := by
  refine spec_intro (tab := tab) (N := 29) Try.func16 rfl rfl tab_ok mix rfl rfl _ rfl ?_
  intro B hG
  repeat' (first | refine And.intro (by first | omega | (dsimp only; omega) | (show (_ : Bool) = true; kernel_rfl) | decide | (repeat' (first | refine And.intro ?_ ?_ | exact trivial | exact rfl))) ?_ | refine bcs_dec (fun h => ?_) (fun h => False.elim (by first | omega | exact h rfl)) | refine bcs_dec (fun h => False.elim (by omega)) (fun h => ?_) | refine bcs_dec (fun h => ?_) (fun h => ?_) | refine bcs_ndec (fun h => ?_) (fun h => ?_) | refine bcs_not ?_ | refine bcs_intro (fun h => ?_) (fun h => ?_) | refine And.intro ?_ ?_ | refine reg_tail (by kernel_rfl) ?_)
  refine loop_rule (α := Nat) (fun i => ⟨[(0, .s 0 0 s.length), (3, .v (.int .i64 ((i : Int) + 1)))], [(0, chRo s)], 1⟩) (fun i => i ≤ s.length) (fun i => s.length - i) 0 [] (Nat.zero_le _) ?_ ?_
  · (refine ⟨rfl, rfl, ?_, ?_⟩ <;> repeat' (first | refine And.intro ?_ ?_ | exact trivial | exact rfl | refine lt0 | refine lt1 ?_ | refine lt2 ?_ ?_ | refine lt3 ?_ ?_ ?_ | refine lt4 ?_ ?_ ?_ ?_ | exact veq_refl _ | decide | (intro i hi; repeat' (first | refine And.intro ?_ ?_ | exact trivial | exact rfl))))
    all_goals first | exact Nat.le_refl _ | omega | (dsimp only; omega) | (simp; done) | (show @Eq Int _ _; omega)
  · rintro i h1
    have hk : i + 1 < s.length → (s.getD (0 + ((i : Int) + 1 - 1).toNat) Chg.d).A + (s.getD (0 + ((i : Int) + 1 - 1).toNat) Chg.d).N < (s.getD (0 + ((i : Int) + 1).toNat) Chg.d).A ∧ 0 ≤ (s.getD (0 + ((i : Int) + 1 - 1).toNat) Chg.d).A ∧ 0 ≤ (s.getD (0 + ((i : Int) + 1 - 1).toNat) Chg.d).N ∧ (s.getD (0 + ((i : Int) + 1 - 1).toNat) Chg.d).A + (s.getD (0 + ((i : Int) + 1 - 1).toNat) Chg.d).N ≤ 4194304 := by
      intro hi
      rw [show 0 + ((i : Int) + 1 - 1).toNat = i by omega, show 0 + ((i : Int) + 1).toNat = i + 1 by omega]
      have h2 := nrm_at s i hn hi
      have h3 := hb (s.getD i Chg.d) (by
        rw [List.getD_eq_getElem?_getD, List.getElem?_eq_getElem (by omega)]; exact List.getElem_mem _)
      omega
    by_cases hi : i + 1 < s.length
    · have hk' := hk hi
      clear hk
      repeat' (first | refine And.intro (by first | omega | (dsimp only; omega) | (show (_ : Bool) = true; kernel_rfl) | decide | (repeat' (first | refine And.intro ?_ ?_ | exact trivial | exact rfl))) ?_ | refine bcs_dec (fun h => ?_) (fun h => False.elim (by first | omega | exact h rfl)) | refine bcs_dec (fun h => False.elim (by omega)) (fun h => ?_) | refine bcs_dec (fun h => ?_) (fun h => ?_) | refine bcs_ndec (fun h => ?_) (fun h => ?_) | refine bcs_not ?_ | refine bcs_intro (fun h => ?_) (fun h => ?_) | refine And.intro ?_ ?_ | refine reg_tail (by kernel_rfl) ?_)
      all_goals first
        | omega
        | (exfalso; omega)
        | skip
      all_goals
        refine ⟨i + 1, [], by omega, by omega, ?_⟩
        (refine ⟨rfl, rfl, ?_, ?_⟩ <;> repeat' (first | refine And.intro ?_ ?_ | exact trivial | exact rfl | refine lt0 | refine lt1 ?_ | refine lt2 ?_ ?_ | refine lt3 ?_ ?_ ?_ | refine lt4 ?_ ?_ ?_ ?_ | exact veq_refl _ | decide | (intro i hi; repeat' (first | refine And.intro ?_ ?_ | exact trivial | exact rfl))))
        all_goals first | exact Nat.le_refl _ | omega | (dsimp only; omega) | (simp; done) | (show @Eq Int _ _; omega)
    · clear hk
      repeat' (first | refine And.intro (by first | omega | (dsimp only; omega) | (show (_ : Bool) = true; kernel_rfl) | decide | (repeat' (first | refine And.intro ?_ ?_ | exact trivial | exact rfl))) ?_ | refine bcs_dec (fun h => ?_) (fun h => False.elim (by first | omega | exact h rfl)) | refine bcs_dec (fun h => False.elim (by omega)) (fun h => ?_) | refine bcs_dec (fun h => ?_) (fun h => ?_) | refine bcs_ndec (fun h => ?_) (fun h => ?_) | refine bcs_not ?_ | refine bcs_intro (fun h => ?_) (fun h => ?_) | refine And.intro ?_ ?_ | refine reg_tail (by kernel_rfl) ?_)
      all_goals first
        | omega
        | (exfalso; omega)
        | skip
      all_goals
        refine ret_plain ?_
        exact rfl
/-- One place set: two farther at the most. -/
theorem dist_set (b : List Int) (k : Nat) (v : Int) (hk : k < b.length) : dist (lA b) (lA (b.set k v)) b.length b.length ≤ 2 := by
  have hg : ∀ e, e ≠ k → lA b e = lA (b.set k v) e := fun e he => by
    show b.getD e 0 = (b.set k v).getD e 0
    rw [set_get hk, if_neg he]
  have w1 := (W.refl (f := fA (lA b) (lA (b.set k v)) b.length b.length) (x := 0) (y := 0)).diags k (fun e he => fA_iff.2 ⟨by omega, by omega, hg _ (by omega)⟩)
  have w2 := w1.right.down.diags (b.length - (k + 1)) (fun e he => fA_iff.2 ⟨by omega, by omega, by
    rw [show 0 + k + 1 + e = k + 1 + e by omega]; exact hg _ (by omega)⟩)
  have := (mq_most _ b.length b.length).2 _ (by rwa [show 0 + k + 1 + (b.length - (k + 1)) = b.length by omega] at w2)
  unfold dist
  omega
theorem dist_self (b : List Int) : dist (lA b) (lA b) b.length b.length = 0 := (dist_zero _ _ _ _).2 ⟨rfl, fun _ _ => rfl⟩
end Go.Proofs.Ytdabahipeepheaa
