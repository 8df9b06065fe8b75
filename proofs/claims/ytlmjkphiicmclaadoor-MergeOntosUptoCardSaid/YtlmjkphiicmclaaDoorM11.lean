/- Chapter 18: the chunks of two scripts, or the error: as one contract, the program's. -/
import Derived.Test.YtlmjkphiicmclaaDoorM10
namespace Go.Proofs.YtlmjkphiicmclaaDoor
open Go Go.RowKit Vc

/-- The error of chunks, 0: none. -/
def chErr (s t : List Chg) (b m y : List Byt) : Int :=
  if validB b = false ∨ validB m = false ∨ validB y = false then 3
  else if validE s b.length m.length ≠ 0 then validE s b.length m.length
  else if validE t b.length y.length ≠ 0 then validE t b.length y.length
  else if staysF b m (pairsF (normF s) 0 0 b.length) = false ∨ staysF b y (pairsF (normF t) 0 0 b.length) = false then 61 else 0
def chAll (s t : List Chg) (b m y : List Byt) : List Chk := chF b.length m y ((normF s).length + (normF t).length + 1) (normF s) (normF t) 0 0 0
def chLst (s t : List Chg) (b m y : List Byt) : List Chk := if chErr s t b m y = 0 then chAll s t b m y else []
/-- What the statement's bound gives. -/
structure JobOk (s t : List Chg) (b m y : List Byt) : Prop where
  hs : s.length ≤ 4194304
  ht : t.length ≤ 4194304
  hb : b.flatten.length ≤ 4194304
  hm : m.flatten.length ≤ 4194304
  hy : y.flatten.length ≤ 4194304
  hbl : b.length ≤ 4194304
  hml : m.length ≤ 4194304
  hyl : y.length ≤ 4194304
theorem chErr_cases (s t : List Chg) (b m y : List Byt) :
    ((validB b = false ∨ validB m = false ∨ validB y = false) ∧ chErr s t b m y = 3) ∨
    (validB b = true ∧ validB m = true ∧ validB y = true ∧ ((validE s b.length m.length ≠ 0 ∧ chErr s t b m y = validE s b.length m.length) ∨
      (validE s b.length m.length = 0 ∧ ((validE t b.length y.length ≠ 0 ∧ chErr s t b m y = validE t b.length y.length) ∨
        (validE t b.length y.length = 0 ∧ (((staysF b m (pairsF (normF s) 0 0 b.length) = false ∨ staysF b y (pairsF (normF t) 0 0 b.length) = false) ∧ chErr s t b m y = 61) ∨
          (staysF b m (pairsF (normF s) 0 0 b.length) = true ∧ staysF b y (pairsF (normF t) 0 0 b.length) = true ∧ chErr s t b m y = 0))))))) := by
  unfold chErr
  by_cases h1 : validB b = false ∨ validB m = false ∨ validB y = false
  · rw [if_pos h1]; exact Or.inl ⟨h1, rfl⟩
  · rw [if_neg h1]
    simp only [not_or, Bool.not_eq_false] at h1
    refine Or.inr ⟨h1.1, h1.2.1, h1.2.2, ?_⟩
    by_cases h2 : validE s b.length m.length = 0
    · rw [if_neg (fun k => k h2)]
      refine Or.inr ⟨h2, ?_⟩
      by_cases h3 : validE t b.length y.length = 0
      · rw [if_neg (fun k => k h3)]
        refine Or.inr ⟨h3, ?_⟩
        by_cases h4 : staysF b m (pairsF (normF s) 0 0 b.length) = false ∨ staysF b y (pairsF (normF t) 0 0 b.length) = false
        · rw [if_pos h4]; exact Or.inl ⟨h4, rfl⟩
        · rw [if_neg h4]
          simp only [not_or, Bool.not_eq_false] at h4
          exact Or.inr ⟨h4.1, h4.2, rfl⟩
      · rw [if_pos h3]; exact Or.inl ⟨h3, rfl⟩
    · rw [if_pos h2]; exact Or.inl ⟨h2, rfl⟩
theorem chLst_bad {s t : List Chg} {b m y : List Byt} (h : chErr s t b m y ≠ 0) : chLst s t b m y = [] := if_neg h
theorem chLst_ok {s t : List Chg} {b m y : List Byt} (h : chErr s t b m y = 0) : chLst s t b m y = chAll s t b m y := if_pos h
theorem chunks_con (s t : List Chg) (b m y : List Byt) (H : JobOk s t b m y) : Con Tryd.prog glob 29 [.s 0 0 s.length, .s 1 0 t.length, .s 2 0 b.length, .s 3 0 m.length, .s 4 0 y.length] [(0, chRo s), (1, chRo t), (2, stRo b), (3, stRo m), (4, stRo y)] 5 (retM (.t [.o 5, .v (errV (chErr s t b m y))]) [(5, ckOwn (chLst s t b m y))] 6) := by
  obtain ⟨hs, ht, hb, hm, hy, hbl, hml, hyl⟩ := H
  rcases chErr_cases s t b m y with ⟨h, e⟩ | ⟨vb, vm, vy, ⟨h, e⟩ | ⟨hv, ⟨h, e⟩ | ⟨hw, ⟨h, e⟩ | ⟨h1, h2, e⟩⟩⟩⟩
  · rw [chLst_bad (by rw [e]; decide), e, errV_n (by decide)]
    exact chunks_lines s t b m y hb hm hy hbl hml hyl h
  · rw [chLst_bad (by rw [e]; exact h), e, errV_n h]
    exact chunks_s s t b m y hb hm hy hbl hml hyl vb vm vy (by omega) h
  · rw [chLst_bad (by rw [e]; exact h), e, errV_n h]
    exact chunks_t s t b m y hb hm hy hbl hml hyl vb vm vy (by omega) (by omega) hv h
  · rw [chLst_bad (by rw [e]; decide), e, errV_n (by decide)]
    exact chunks_apply s t b m y hb hm hy hbl hml hyl vb vm vy hs ht hv hw h
  · rw [chLst_ok e, e, errV_0 rfl]
    exact chunks_good s t b m y hb hm hy hbl hml hyl vb vm vy hs ht hv hw h1 h2
theorem stays_SP {a b : List Byt} {P : List Chg} {n : Int} (h : staysF a b (pairsF P 0 0 n) = true) : SP a b n P 0 0 := by
  unfold staysF at h
  have h := of_decide_eq_true h
  intro p hp
  exact h p hp
/-- What is known of chunks that are answered. -/
theorem chLst_cov {s t : List Chg} {b m y : List Byt} (e : chErr s t b m y = 0) : validB b = true ∧ validB m = true ∧ validB y = true ∧ covF b m y (chLst s t b m y) 0 0 0 := by
  rcases chErr_cases s t b m y with ⟨h, e2⟩ | ⟨vb, vm, vy, ⟨h, e2⟩ | ⟨hv, ⟨h, e2⟩ | ⟨hw, ⟨h, e2⟩ | ⟨h1, h2, e2⟩⟩⟩⟩
  · rw [e] at e2; exact absurd e2 (by decide)
  · rw [e] at e2; exact absurd e2.symm h
  · rw [e] at e2; exact absurd e2.symm h
  · rw [e] at e2; exact absurd e2 (by decide)
  · rw [chLst_ok e]
    refine ⟨vb, vm, vy, ?_⟩
    obtain ⟨_, _, _, _, w1⟩ := valid_range (norm_validE hv)
    obtain ⟨_, _, _, _, w2⟩ := valid_range (norm_validE hw)
    refine chF_cov _ _ _ 0 0 0 (by omega) ⟨w1, by omega, by omega, by omega, by omega⟩ ⟨w2, by omega, by omega, by omega, by omega⟩ ?_ ?_
    · exact stays_SP h1
    · exact stays_SP h2
theorem cov_len {b m y : List Byt} : ∀ (l : List Chk) (z u v : Int), covF b m y l z u v → (l.length : Int) ≤ (b.length - z) + (m.length - u) + (y.length - v)
  | [], _, _, _, ⟨h1, h2, h3⟩ => by subst h1 h2 h3; simp
  | c :: r, z, u, v, ⟨_, _, _, p1, p2, p3, p4, p5, p6, p7, _, _, _, hr⟩ => by
    have ih := cov_len r _ _ _ hr
    rw [List.length_cons]
    omega
theorem cov_at {b m y : List Byt} : ∀ (l : List Chk) (z u v : Int), 0 ≤ z → 0 ≤ u → 0 ≤ v → covF b m y l z u v → ∀ c ∈ l, 0 ≤ c.b ∧ 0 ≤ c.bn ∧ c.b + c.bn ≤ b.length ∧ 0 ≤ c.m ∧ 0 ≤ c.mn ∧ c.m + c.mn ≤ m.length ∧ 0 ≤ c.y ∧ 0 ≤ c.yn ∧ c.y + c.yn ≤ y.length
  | [], _, _, _, _, _, _, _ => fun c hc => by cases hc
  | d :: r, z, u, v, hz, hu, hv, ⟨e1, e2, e3, p1, p2, p3, _, p5, p6, p7, _, _, _, hr⟩ => by
    intro c hc
    rcases List.mem_cons.1 hc with rfl | hc
    · omega
    · exact cov_at r _ _ _ (by omega) (by omega) (by omega) hr c hc
theorem chLst_at {s t : List Chg} {b m y : List Byt} : ∀ c ∈ chLst s t b m y, 0 ≤ c.b ∧ 0 ≤ c.bn ∧ c.b + c.bn ≤ b.length ∧ 0 ≤ c.m ∧ 0 ≤ c.mn ∧ c.m + c.mn ≤ m.length ∧ 0 ≤ c.y ∧ 0 ≤ c.yn ∧ c.y + c.yn ≤ y.length := by
  by_cases e : chErr s t b m y = 0
  · exact cov_at _ 0 0 0 (by decide) (by decide) (by decide) (chLst_cov e).2.2.2
  · rw [chLst_bad e]; intro c hc; cases hc
theorem chLst_len {s t : List Chg} {b m y : List Byt} (H : JobOk s t b m y) : (chLst s t b m y).length ≤ 100000000 := by
  obtain ⟨hs, ht, hb, hm, hy, hbl, hml, hyl⟩ := H
  by_cases e : chErr s t b m y = 0
  · have := cov_len _ 0 0 0 (chLst_cov e).2.2.2
    omega
  · rw [chLst_bad e]; simp
end Go.Proofs.YtlmjkphiicmclaaDoor
