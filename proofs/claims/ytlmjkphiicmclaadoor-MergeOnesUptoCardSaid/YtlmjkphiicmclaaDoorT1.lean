/- Chapter 18: with both sides exchanged: the error, the chunks, the merged text. -/
import Derived.Test.YtlmjkphiicmclaaDoorW7
namespace Go.Proofs.YtlmjkphiicmclaaDoor
open Go Go.RowKit Vc

theorem chErr_zero {s t : List Chg} {b m y : List Byt} : chErr s t b m y = 0 ↔ (validB b = true ∧ validB m = true ∧ validB y = true ∧ validE s b.length m.length = 0 ∧ validE t b.length y.length = 0 ∧
    staysF b m (pairsF (normF s) 0 0 b.length) = true ∧ staysF b y (pairsF (normF t) 0 0 b.length) = true) := by
  rcases chErr_cases s t b m y with ⟨h, e⟩ | ⟨vb, vm, vy, ⟨h, e⟩ | ⟨hv, ⟨h, e⟩ | ⟨hw, ⟨h, e⟩ | ⟨h1, h2, e⟩⟩⟩⟩
  · rw [e]
    refine ⟨fun k => absurd k (by decide), fun ⟨k1, k2, k3, _⟩ => ?_⟩
    rcases h with h | h | h
    · rw [k1] at h; cases h
    · rw [k2] at h; cases h
    · rw [k3] at h; cases h
  · rw [e]
    exact ⟨fun k => absurd k h, fun ⟨_, _, _, k, _⟩ => absurd k h⟩
  · rw [e]
    exact ⟨fun k => absurd k h, fun ⟨_, _, _, _, k, _⟩ => absurd k h⟩
  · rw [e]
    refine ⟨fun k => absurd k (by decide), fun ⟨_, _, _, _, _, k1, k2⟩ => ?_⟩
    rcases h with h | h
    · rw [k1] at h; cases h
    · rw [k2] at h; cases h
  · exact ⟨fun _ => ⟨vb, vm, vy, hv, hw, h1, h2⟩, fun _ => e⟩
theorem chErr_turn {s t : List Chg} {b m y : List Byt} : chErr t s b y m = 0 ↔ chErr s t b m y = 0 := by
  rw [chErr_zero, chErr_zero]
  exact ⟨fun ⟨a1, a2, a3, a4, a5, a6, a7⟩ => ⟨a1, a3, a2, a5, a4, a7, a6⟩, fun ⟨a1, a2, a3, a4, a5, a6, a7⟩ => ⟨a1, a3, a2, a5, a4, a7, a6⟩⟩
theorem le_norm {s : List Chg} {n m : Int} (h : validE s n m = 0) : ∀ c ∈ normF s, c.A ≤ n := by
  obtain ⟨_, _, _, _, w⟩ := valid_range (norm_validE h)
  exact le_valid _ 0 0 w
theorem chLst_turn {s t : List Chg} {b m y : List Byt} (h : chErr s t b m y = 0) : chLst t s b y m = (chLst s t b m y).map turnC := by
  rw [chLst_ok h, chLst_ok (chErr_turn.2 h)]
  obtain ⟨_, _, _, h1, h2, _, _⟩ := chErr_zero.1 h
  unfold chAll
  rw [Nat.add_comm (normF t).length]
  exact chF_turn _ _ _ 0 0 0 (le_norm h1) (le_norm h2)
def kOk (c : Chk) : Prop := c.k = 1 ∨ c.k = 2 ∨ c.k = 3 ∨ c.k = 4 ∨ c.k = 5
theorem kind_ok {mine yours : List Byt} {p q : List Chg} {f mx my : Int} {g : GS} : kindC mine yours p q f mx my g = 2 ∨ kindC mine yours p q f mx my g = 3 ∨ kindC mine yours p q f mx my g = 4 ∨ kindC mine yours p q f mx my g = 5 := by
  unfold kindC
  split
  · exact Or.inl rfl
  · split
    · exact Or.inr (Or.inl rfl)
    · split
      · exact Or.inr (Or.inr (Or.inl rfl))
      · exact Or.inr (Or.inr (Or.inr rfl))
theorem chF_kinds {n : Int} {mine yours : List Byt} : ∀ (k : Nat) (p q : List Chg) (z mx my : Int), ∀ c ∈ chF n mine yours k p q z mx my, kOk c
  | 0, _, _, _, _, _ => fun c hc => by cases hc
  | k + 1, p, q, z, mx, my => by
    intro c hc
    simp only [chF] at hc
    rcases List.mem_append.1 hc with hc | hc
    · split at hc
      · rw [List.mem_singleton.1 hc]; exact Or.inl rfl
      · cases hc
    · split at hc
      · cases hc
      · rcases List.mem_cons.1 hc with rfl | hc
        · exact Or.inr kind_ok
        · exact chF_kinds k _ _ _ _ _ c hc
theorem chLst_kinds {s t : List Chg} {b m y : List Byt} : ∀ c ∈ chLst s t b m y, kOk c := by
  unfold chLst
  split
  · exact chF_kinds _ _ _ _ _ _
  · intro c hc; cases hc
def sameC (m y : List Byt) (c : Chk) : Prop := c.k = 1 ∨ c.k = 4 → segL m c.m (c.m + c.mn) = segL y c.y (c.y + c.yn)
theorem cov_same {b m y : List Byt} : ∀ (l : List Chk) (z u v : Int), covF b m y l z u v → ∀ c ∈ l, sameC m y c
  | [], _, _, _, _ => fun c hc => by cases hc
  | d :: r, z, u, v, ⟨e1, e2, e3, _, _, _, _, _, _, _, p8, p9, _, hr⟩ => by
    intro c hc
    rcases List.mem_cons.1 hc with rfl | hc
    · intro h
      rw [e2, e3]
      rcases h with h | h
      · exact (p8 h).2
      · exact p9 h
    · exact cov_same r _ _ _ hr c hc
theorem told_turn {b m y lab : List Byt} {fmt : Int} {c : Chk} {last : Bool} (hk : kOk c) (h5 : c.k ≠ 5) (hs : sameC m y c) : toldF b y m lab fmt (turnC c) last = toldF b m y lab fmt c last := by
  unfold toldF
  congr 1
  unfold sameC at hs
  obtain ⟨k, cb, cm, cy, bn, mn, yn⟩ := c
  dsimp only at hk h5 hs
  rcases hk with rfl | rfl | rfl | rfl | rfl
  · have hs := hs (Or.inl rfl)
    show (segL y cy (cy + yn)).flatten = (segL m cm (cm + mn)).flatten
    rw [hs]
  · rfl
  · rfl
  · have hs := hs (Or.inr rfl)
    show (segL y cy (cy + yn)).flatten = (segL m cm (cm + mn)).flatten
    rw [hs]
  · exact absurd rfl h5
theorem tolds_turn {b m y lab : List Byt} {fmt : Int} : ∀ l : List Chk, (∀ c ∈ l, kOk c ∧ c.k ≠ 5 ∧ sameC m y c) → toldsF b y m lab fmt (l.map turnC) = toldsF b m y lab fmt l
  | [], _ => rfl
  | c :: r, h => by
    obtain ⟨h1, h2, h3⟩ := h c (List.mem_cons_self ..)
    show toldF b y m lab fmt (turnC c) (r.map turnC).isEmpty ++ toldsF b y m lab fmt (r.map turnC) = toldF b m y lab fmt c r.isEmpty ++ toldsF b m y lab fmt r
    rw [tolds_turn r (fun x hx => h x (List.mem_cons_of_mem _ hx)), List.isEmpty_map, told_turn h1 h2 h3]
theorem told5_ten {b m y lab : List Byt} {fmt : Int} {c : Chk} (h5 : c.k = 5) (hf : fmt = 1 ∨ fmt = 2) (last : Bool) : toldF b m y lab fmt c last = toldT b m y lab fmt c := by
  unfold toldF toldT
  rw [if_neg (by omega), if_neg (by omega), if_pos (by omega)]
  have e : ∀ q : Byt, addE last (q ++ markP 62 (lab.getD 2 [])) = q ++ markP 62 (lab.getD 2 []) := fun q => by
    unfold markP
    rw [← List.append_assoc q, addE_ten]
  rw [← List.append_assoc eqsP, ← List.append_assoc (ite _ _ _), ← List.append_assoc (addE false _), ← List.append_assoc (markP 60 _), e]
theorem told_turn_len {b m y lab : List Byt} {fmt : Int} {c : Chk} {last : Bool} (h5 : c.k = 5) (hf : fmt = 1 ∨ fmt = 2) : (toldF b y m lab fmt (turnC c) last).length = (toldF b m y lab fmt c last).length := by
  rw [told5_ten h5 hf, told5_ten (show (turnC c).k = 5 by unfold turnC turnK; rw [h5]; rfl) hf]
  unfold toldT
  rw [if_neg (show ¬ ((turnC c).k = 3 ∨ (turnC c).k = 5 ∧ fmt = 5) by unfold turnC turnK; rw [h5]; simp; omega), if_neg (show ¬ ((turnC c).k = 5 ∧ fmt = 3) by omega), if_pos (show (turnC c).k = 5 ∧ fmt < 3 from ⟨by unfold turnC turnK; rw [h5]; rfl, by omega⟩),
    if_neg (show ¬ (c.k = 3 ∨ c.k = 5 ∧ fmt = 5) by omega), if_neg (show ¬ (c.k = 5 ∧ fmt = 3) by omega), if_pos (show c.k = 5 ∧ fmt < 3 by omega)]
  show (markP 60 (lab.getD 0 []) ++ (addE false (segL y c.y (c.y + c.yn)).flatten ++ ((if fmt = 2 then markP 124 (lab.getD 1 []) ++ addE false (segL b c.b (c.b + c.bn)).flatten else []) ++
      (eqsP ++ (addE false (segL m c.m (c.m + c.mn)).flatten ++ markP 62 (lab.getD 2 [])))))).length = _
  simp only [List.length_append]
  omega
theorem tolds_turn_len {b m y lab : List Byt} {fmt : Int} : ∀ l : List Chk, (∀ c ∈ l, kOk c ∧ sameC m y c ∧ (c.k = 5 → fmt = 1 ∨ fmt = 2)) → (toldsF b y m lab fmt (l.map turnC)).length = (toldsF b m y lab fmt l).length
  | [], _ => rfl
  | c :: r, h => by
    obtain ⟨h1, h2, h3⟩ := h c (List.mem_cons_self ..)
    show (toldF b y m lab fmt (turnC c) (r.map turnC).isEmpty ++ toldsF b y m lab fmt (r.map turnC)).length = (toldF b m y lab fmt c r.isEmpty ++ toldsF b m y lab fmt r).length
    rw [List.length_append, List.length_append, tolds_turn_len r (fun x hx => h x (List.mem_cons_of_mem _ hx)), List.isEmpty_map]
    by_cases h5 : c.k = 5
    · rw [told_turn_len h5 (h3 h5)]
    · rw [told_turn h1 h5 h2]
def clashF (l : List Chk) : Bool := l.any fun c => c.k == 5
theorem clash_no {l : List Chk} (h : clashF l = false) : ∀ c ∈ l, c.k ≠ 5 := fun c hc e => by
  have := List.any_eq_false.1 h c hc
  rw [e] at this
  exact this rfl
theorem clash_yes {l : List Chk} {c : Chk} (hc : c ∈ l) (h : c.k = 5) : clashF l = true := List.any_eq_true.2 ⟨c, hc, by rw [h]; rfl⟩
/-- The merged text's error is the same with both sides exchanged, if no clash is settled; without a clash the text is. -/
theorem mg_turn {s t : List Chg} {b m y lab : List Byt} {fmt : Int} (h : chErr s t b m y = 0) (hf : clashF (chLst s t b m y) = true → fmt = 1 ∨ fmt = 2) :
    mgErr t s b y m lab fmt = mgErr s t b m y lab fmt ∧ (clashF (chLst s t b m y) = false → mgTxt t s b y m lab fmt = mgTxt s t b m y lab fmt) := by
  have hc := chLst_cov h
  have hs := cov_same _ 0 0 0 hc.2.2.2
  have hk := chLst_kinds (s := s) (t := t) (b := b) (m := m) (y := y)
  have e1 := chLst_turn h
  have e2 : (toldsF b y m lab fmt (chLst t s b y m)).length = (toldsF b m y lab fmt (chLst s t b m y)).length := by
    rw [e1]
    exact tolds_turn_len _ fun c hc => ⟨hk c hc, hs c hc, fun h5 => hf (clash_yes hc h5)⟩
  have e3 : mgErr t s b y m lab fmt = mgErr s t b m y lab fmt := by
    unfold mgErr
    rw [e2, h, chErr_turn.2 h]
  refine ⟨e3, fun hn => ?_⟩
  unfold mgTxt
  rw [e3, e1, tolds_turn _ fun c hc => ⟨hk c hc, clash_no hn c hc, hs c hc⟩]
end Go.Proofs.YtlmjkphiicmclaaDoor
