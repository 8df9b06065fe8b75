/- Chapter 18: folded together: parts T1, T2, T3, T5, P2, T6, T4. -/
import Derived.Test.YtlmjkphiicmclaaDoorW7
import Derived.Test.YtlmjkphiicmclaaDoorBA
namespace Go.Proofs.YtlmjkphiicmclaaDoor
open Go Go.RowKit Vc

theorem chErr_zero {s t : List Chg} {b m y : List Byt} : chErr s t b m y = 0 ↔ (validB b = true ∧ validB m = true ∧ validB y = true ∧ validE s b.length m.length = 0 ∧ validE t b.length y.length = 0 ∧
    staysF b m (pairsF (normF s) 0 0 b.length) = true ∧ staysF b y (pairsF (normF t) 0 0 b.length) = true) := by
  rcases chErr_cases s t b m y with ⟨h, e⟩ | ⟨vb, vm, vy, ⟨h, e⟩ | ⟨hv, ⟨h, e⟩ | ⟨hw, ⟨h, e⟩ | ⟨h1, h2, e⟩⟩⟩⟩
  · rw [e]
    refine ⟨fun k => absurd k (by decide), fun ⟨k1, k2, k3, _⟩ => ?_⟩
    rcases h with h | h | h
    · rw [k1] at h; cases h
    · rw [k2] at h; cases h
    · rw [k3] at h; cases h
  · rw [e]
    exact ⟨fun k => absurd k h, fun ⟨_, _, _, k, _⟩ => absurd k h⟩
  · rw [e]
    exact ⟨fun k => absurd k h, fun ⟨_, _, _, _, k, _⟩ => absurd k h⟩
  · rw [e]
    refine ⟨fun k => absurd k (by decide), fun ⟨_, _, _, _, _, k1, k2⟩ => ?_⟩
    rcases h with h | h
    · rw [k1] at h; cases h
    · rw [k2] at h; cases h
  · exact ⟨fun _ => ⟨vb, vm, vy, hv, hw, h1, h2⟩, fun _ => e⟩
theorem chErr_turn {s t : List Chg} {b m y : List Byt} : chErr t s b y m = 0 ↔ chErr s t b m y = 0 := by
  rw [chErr_zero, chErr_zero]
  exact ⟨fun ⟨a1, a2, a3, a4, a5, a6, a7⟩ => ⟨a1, a3, a2, a5, a4, a7, a6⟩, fun ⟨a1, a2, a3, a4, a5, a6, a7⟩ => ⟨a1, a3, a2, a5, a4, a7, a6⟩⟩
theorem le_norm {s : List Chg} {n m : Int} (h : validE s n m = 0) : ∀ c ∈ normF s, c.A ≤ n := by
  obtain ⟨_, _, _, _, w⟩ := valid_range (norm_validE h)
  exact le_valid _ 0 0 w
theorem chLst_turn {s t : List Chg} {b m y : List Byt} (h : chErr s t b m y = 0) : chLst t s b y m = (chLst s t b m y).map turnC := by
  rw [chLst_ok h, chLst_ok (chErr_turn.2 h)]
  obtain ⟨_, _, _, h1, h2, _, _⟩ := chErr_zero.1 h
  unfold chAll
  rw [Nat.add_comm (normF t).length]
  exact chF_turn _ _ _ 0 0 0 (le_norm h1) (le_norm h2)
def kOk (c : Chk) : Prop := c.k = 1 ∨ c.k = 2 ∨ c.k = 3 ∨ c.k = 4 ∨ c.k = 5
theorem kind_ok {mine yours : List Byt} {p q : List Chg} {f mx my : Int} {g : GS} : kindC mine yours p q f mx my g = 2 ∨ kindC mine yours p q f mx my g = 3 ∨ kindC mine yours p q f mx my g = 4 ∨ kindC mine yours p q f mx my g = 5 := by
  unfold kindC
  split
  · exact Or.inl rfl
  · split
    · exact Or.inr (Or.inl rfl)
    · split
      · exact Or.inr (Or.inr (Or.inl rfl))
      · exact Or.inr (Or.inr (Or.inr rfl))
theorem chF_kinds {n : Int} {mine yours : List Byt} : ∀ (k : Nat) (p q : List Chg) (z mx my : Int), ∀ c ∈ chF n mine yours k p q z mx my, kOk c
  | 0, _, _, _, _, _ => fun c hc => by cases hc
  | k + 1, p, q, z, mx, my => by
    intro c hc
    simp only [chF] at hc
    rcases List.mem_append.1 hc with hc | hc
    · split at hc
      · rw [List.mem_singleton.1 hc]; exact Or.inl rfl
      · cases hc
    · split at hc
      · cases hc
      · rcases List.mem_cons.1 hc with rfl | hc
        · exact Or.inr kind_ok
        · exact chF_kinds k _ _ _ _ _ c hc
theorem chLst_kinds {s t : List Chg} {b m y : List Byt} : ∀ c ∈ chLst s t b m y, kOk c := by
  unfold chLst
  split
  · exact chF_kinds _ _ _ _ _ _
  · intro c hc; cases hc
def sameC (m y : List Byt) (c : Chk) : Prop := c.k = 1 ∨ c.k = 4 → segL m c.m (c.m + c.mn) = segL y c.y (c.y + c.yn)
theorem cov_same {b m y : List Byt} : ∀ (l : List Chk) (z u v : Int), covF b m y l z u v → ∀ c ∈ l, sameC m y c
  | [], _, _, _, _ => fun c hc => by cases hc
  | d :: r, z, u, v, ⟨e1, e2, e3, _, _, _, _, _, _, _, p8, p9, _, hr⟩ => by
    intro c hc
    rcases List.mem_cons.1 hc with rfl | hc
    · intro h
      rw [e2, e3]
      rcases h with h | h
      · exact (p8 h).2
      · exact p9 h
    · exact cov_same r _ _ _ hr c hc
theorem told_turn {b m y lab : List Byt} {fmt : Int} {c : Chk} {last : Bool} (hk : kOk c) (h5 : c.k ≠ 5) (hs : sameC m y c) : toldF b y m lab fmt (turnC c) last = toldF b m y lab fmt c last := by
  unfold toldF
  congr 1
  unfold sameC at hs
  obtain ⟨k, cb, cm, cy, bn, mn, yn⟩ := c
  dsimp only at hk h5 hs
  rcases hk with rfl | rfl | rfl | rfl | rfl
  · have hs := hs (Or.inl rfl)
    show (segL y cy (cy + yn)).flatten = (segL m cm (cm + mn)).flatten
    rw [hs]
  · rfl
  · rfl
  · have hs := hs (Or.inr rfl)
    show (segL y cy (cy + yn)).flatten = (segL m cm (cm + mn)).flatten
    rw [hs]
  · exact absurd rfl h5
theorem tolds_turn {b m y lab : List Byt} {fmt : Int} : ∀ l : List Chk, (∀ c ∈ l, kOk c ∧ c.k ≠ 5 ∧ sameC m y c) → toldsF b y m lab fmt (l.map turnC) = toldsF b m y lab fmt l
  | [], _ => rfl
  | c :: r, h => by
    obtain ⟨h1, h2, h3⟩ := h c (List.mem_cons_self ..)
    show toldF b y m lab fmt (turnC c) (r.map turnC).isEmpty ++ toldsF b y m lab fmt (r.map turnC) = toldF b m y lab fmt c r.isEmpty ++ toldsF b m y lab fmt r
    rw [tolds_turn r (fun x hx => h x (List.mem_cons_of_mem _ hx)), List.isEmpty_map, told_turn h1 h2 h3]
theorem told5_ten {b m y lab : List Byt} {fmt : Int} {c : Chk} (h5 : c.k = 5) (hf : fmt = 1 ∨ fmt = 2) (last : Bool) : toldF b m y lab fmt c last = toldT b m y lab fmt c := by
  unfold toldF toldT
  rw [if_neg (by omega), if_neg (by omega), if_pos (by omega)]
  have e : ∀ q : Byt, addE last (q ++ markP 62 (lab.getD 2 [])) = q ++ markP 62 (lab.getD 2 []) := fun q => by
    unfold markP
    rw [← List.append_assoc q, addE_ten]
  rw [← List.append_assoc eqsP, ← List.append_assoc (ite _ _ _), ← List.append_assoc (addE false _), ← List.append_assoc (markP 60 _), e]
theorem told_turn_len {b m y lab : List Byt} {fmt : Int} {c : Chk} {last : Bool} (h5 : c.k = 5) (hf : fmt = 1 ∨ fmt = 2) : (toldF b y m lab fmt (turnC c) last).length = (toldF b m y lab fmt c last).length := by
  rw [told5_ten h5 hf, told5_ten (show (turnC c).k = 5 by unfold turnC turnK; rw [h5]; rfl) hf]
  unfold toldT
  rw [if_neg (show ¬ ((turnC c).k = 3 ∨ (turnC c).k = 5 ∧ fmt = 5) by unfold turnC turnK; rw [h5]; simp; omega), if_neg (show ¬ ((turnC c).k = 5 ∧ fmt = 3) by omega), if_pos (show (turnC c).k = 5 ∧ fmt < 3 from ⟨by unfold turnC turnK; rw [h5]; rfl, by omega⟩),
    if_neg (show ¬ (c.k = 3 ∨ c.k = 5 ∧ fmt = 5) by omega), if_neg (show ¬ (c.k = 5 ∧ fmt = 3) by omega), if_pos (show c.k = 5 ∧ fmt < 3 by omega)]
  show (markP 60 (lab.getD 0 []) ++ (addE false (segL y c.y (c.y + c.yn)).flatten ++ ((if fmt = 2 then markP 124 (lab.getD 1 []) ++ addE false (segL b c.b (c.b + c.bn)).flatten else []) ++
      (eqsP ++ (addE false (segL m c.m (c.m + c.mn)).flatten ++ markP 62 (lab.getD 2 [])))))).length = _
  simp only [List.length_append]
  omega
theorem tolds_turn_len {b m y lab : List Byt} {fmt : Int} : ∀ l : List Chk, (∀ c ∈ l, kOk c ∧ sameC m y c ∧ (c.k = 5 → fmt = 1 ∨ fmt = 2)) → (toldsF b y m lab fmt (l.map turnC)).length = (toldsF b m y lab fmt l).length
  | [], _ => rfl
  | c :: r, h => by
    obtain ⟨h1, h2, h3⟩ := h c (List.mem_cons_self ..)
    show (toldF b y m lab fmt (turnC c) (r.map turnC).isEmpty ++ toldsF b y m lab fmt (r.map turnC)).length = (toldF b m y lab fmt c r.isEmpty ++ toldsF b m y lab fmt r).length
    rw [List.length_append, List.length_append, tolds_turn_len r (fun x hx => h x (List.mem_cons_of_mem _ hx)), List.isEmpty_map]
    by_cases h5 : c.k = 5
    · rw [told_turn_len h5 (h3 h5)]
    · rw [told_turn h1 h5 h2]
def clashF (l : List Chk) : Bool := l.any fun c => c.k == 5
theorem clash_no {l : List Chk} (h : clashF l = false) : ∀ c ∈ l, c.k ≠ 5 := fun c hc e => by
  have := List.any_eq_false.1 h c hc
  rw [e] at this
  exact this rfl
theorem clash_yes {l : List Chk} {c : Chk} (hc : c ∈ l) (h : c.k = 5) : clashF l = true := List.any_eq_true.2 ⟨c, hc, by rw [h]; rfl⟩
/-- The merged text's error is the same with both sides exchanged, if no clash is settled; without a clash the text is. -/
theorem mg_turn {s t : List Chg} {b m y lab : List Byt} {fmt : Int} (h : chErr s t b m y = 0) (hf : clashF (chLst s t b m y) = true → fmt = 1 ∨ fmt = 2) :
    mgErr t s b y m lab fmt = mgErr s t b m y lab fmt ∧ (clashF (chLst s t b m y) = false → mgTxt t s b y m lab fmt = mgTxt s t b m y lab fmt) := by
  have hc := chLst_cov h
  have hs := cov_same _ 0 0 0 hc.2.2.2
  have hk := chLst_kinds (s := s) (t := t) (b := b) (m := m) (y := y)
  have e1 := chLst_turn h
  have e2 : (toldsF b y m lab fmt (chLst t s b y m)).length = (toldsF b m y lab fmt (chLst s t b m y)).length := by
    rw [e1]
    exact tolds_turn_len _ fun c hc => ⟨hk c hc, hs c hc, fun h5 => hf (clash_yes hc h5)⟩
  have e3 : mgErr t s b y m lab fmt = mgErr s t b m y lab fmt := by
    unfold mgErr
    rw [e2, h, chErr_turn.2 h]
  refine ⟨e3, fun hn => ?_⟩
  unfold mgTxt
  rw [e3, e1, tolds_turn _ fun c hc => ⟨hk c hc, clash_no hn c hc, hs c hc⟩]
end Go.Proofs.YtlmjkphiicmclaaDoor

namespace Go.Proofs.YtlmjkphiicmclaaDoor
open Go Go.RowKit Vc

theorem told_set {b m y lab : List Byt} {c : Chk} {last : Bool} (hk : kOk c) (hs : sameC m y c) : toldF b y m lab 5 (turnC c) last = toldF b m y lab 4 c last := by
  unfold toldF
  congr 1
  unfold sameC at hs
  obtain ⟨k, cb, cm, cy, bn, mn, yn⟩ := c
  dsimp only at hk hs
  rcases hk with rfl | rfl | rfl | rfl | rfl
  · have hs := hs (Or.inl rfl)
    show (segL y cy (cy + yn)).flatten = (segL m cm (cm + mn)).flatten
    rw [hs]
  · rfl
  · rfl
  · have hs := hs (Or.inr rfl)
    show (segL y cy (cy + yn)).flatten = (segL m cm (cm + mn)).flatten
    rw [hs]
  · rfl
theorem tolds_set {b m y lab : List Byt} : ∀ l : List Chk, (∀ c ∈ l, kOk c ∧ sameC m y c) → toldsF b y m lab 5 (l.map turnC) = toldsF b m y lab 4 l
  | [], _ => rfl
  | c :: r, h => by
    obtain ⟨h1, h3⟩ := h c (List.mem_cons_self ..)
    show toldF b y m lab 5 (turnC c) (r.map turnC).isEmpty ++ toldsF b y m lab 5 (r.map turnC) = toldF b m y lab 4 c r.isEmpty ++ toldsF b m y lab 4 r
    rw [tolds_set r (fun x hx => h x (List.mem_cons_of_mem _ hx)), List.isEmpty_map, told_set h1 h3]
theorem told_fmt {b m y lab : List Byt} {f g : Int} {c : Chk} {last : Bool} (h5 : c.k ≠ 5) : toldF b m y lab f c last = toldF b m y lab g c last := by
  unfold toldF toldT
  congr 1
  by_cases h : c.k = 3
  · rw [if_pos (Or.inl h), if_pos (Or.inl h)]
  · rw [if_neg (fun k => k.elim h fun k => h5 k.1), if_neg (fun k => h5 k.1), if_neg (fun k => h5 k.1), if_neg (fun k => k.elim h fun k => h5 k.1), if_neg (fun k => h5 k.1), if_neg (fun k => h5 k.1)]
theorem tolds_fmt {b m y lab : List Byt} {f g : Int} : ∀ l : List Chk, (∀ c ∈ l, c.k ≠ 5) → toldsF b m y lab f l = toldsF b m y lab g l
  | [], _ => rfl
  | c :: r, h => by
    show toldF b m y lab f c r.isEmpty ++ toldsF b m y lab f r = toldF b m y lab g c r.isEmpty ++ toldsF b m y lab g r
    rw [tolds_fmt r (fun x hx => h x (List.mem_cons_of_mem _ hx)), told_fmt (f := f) (g := g) (h c (List.mem_cons_self ..))]
theorem clF_none {fmt : Int} (h : 3 ≤ fmt) : ∀ l : List Chk, clF fmt l = 0
  | [] => rfl
  | c :: r => by
    show (if c.k = 5 ∧ fmt < 3 then (1 : Int) else 0) + clF fmt r = 0
    rw [clF_none h r, if_neg (by omega)]
    rfl
theorem mg_err2 {s t : List Chg} {b m y lab : List Byt} {fmt : Int} (h : chErr s t b m y = 0) (hl : labE lab = 0) (h1 : 1 ≤ fmt) (h5 : fmt ≤ 5) : mgErr s t b m y lab fmt = if (toldsF b m y lab fmt (chLst s t b m y)).length > 4194304 then 2 else 0 := by
  unfold mgErr
  rw [if_neg (by omega), if_neg (fun k => k hl), if_neg (fun k => k h)]
theorem mg_set {s t : List Chg} {b m y lab : List Byt} (h : chErr s t b m y = 0) (hl : labE lab = 0) : mgErr t s b y m lab 5 = mgErr s t b m y lab 4 ∧ mgTxt t s b y m lab 5 = mgTxt s t b m y lab 4 := by
  have hc := chLst_cov h
  have hs := cov_same _ 0 0 0 hc.2.2.2
  have hk := chLst_kinds (s := s) (t := t) (b := b) (m := m) (y := y)
  have e1 := chLst_turn h
  have e2 : toldsF b y m lab 5 (chLst t s b y m) = toldsF b m y lab 4 (chLst s t b m y) := by
    rw [e1]
    exact tolds_set _ fun c hc => ⟨hk c hc, hs c hc⟩
  have e3 : mgErr t s b y m lab 5 = mgErr s t b m y lab 4 := by
    rw [mg_err2 h hl (by decide) (by decide), mg_err2 (chErr_turn.2 h) hl (by decide) (by decide), e2]
  refine ⟨e3, ?_⟩
  unfold mgTxt
  rw [e3, e2]
theorem mg_fmt {s t : List Chg} {b m y lab : List Byt} {f g : Int} (h : chErr s t b m y = 0) (hl : labE lab = 0) (h1 : 1 ≤ f) (h5 : f ≤ 5) (k1 : 1 ≤ g) (k5 : g ≤ 5) (hn : clashF (chLst s t b m y) = false) :
    mgErr s t b m y lab f = mgErr s t b m y lab g ∧ mgTxt s t b m y lab f = mgTxt s t b m y lab g := by
  have e := tolds_fmt (b := b) (m := m) (y := y) (lab := lab) (f := f) (g := g) _ (clash_no hn)
  have e3 : mgErr s t b m y lab f = mgErr s t b m y lab g := by rw [mg_err2 h hl h1 h5, mg_err2 h hl k1 k5, e]
  refine ⟨e3, ?_⟩
  unfold mgTxt
  rw [e3, e]
end Go.Proofs.YtlmjkphiicmclaaDoor

namespace Go.Proofs.YtlmjkphiicmclaaDoor
open Go Go.RowKit Vc

theorem seg_drop (m : List Byt) {u v : Int} (h1 : 0 ≤ u) (h2 : u ≤ v) : segL m u v ++ m.drop v.toNat = m.drop u.toNat := by
  obtain ⟨i, rfl⟩ : ∃ i : Nat, u = i := ⟨u.toNat, by omega⟩
  obtain ⟨j, rfl⟩ : ∃ j : Nat, v = ((i + j : Nat) : Int) := ⟨v.toNat - i, by omega⟩
  unfold segL
  rw [Int.toNat_natCast, Int.toNat_natCast, show i + j - i = j by omega, ← List.drop_drop, List.take_append_drop]
theorem cov_picks {b m y : List Byt} : ∀ (l : List Chk) (z u v : Int), 0 ≤ u → covF b m y l z u v → (∀ c ∈ l, c.k ≠ 3) → picksF m y l = m.drop u.toNat
  | [], z, u, v, hu, ⟨_, h, _⟩, _ => by
    subst h
    rw [Int.toNat_natCast, List.drop_length]; rfl
  | c :: r, z, u, v, hu, ⟨e1, e2, e3, p1, p2, p3, _, q1, q2, q3, _, _, _, hr⟩, hk => by
    show pickF m y c ++ picksF m y r = _
    rw [cov_picks r _ _ _ (by omega) hr (fun x hx => hk x (List.mem_cons_of_mem _ hx))]
    unfold pickF
    rw [if_neg (hk c (List.mem_cons_self ..)), e2]
    exact seg_drop m hu (by omega)
theorem chF_mine {n : Int} {mine yours : List Byt} : ∀ (k : Nat) (p : List Chg) (z mx my : Int), ∀ c ∈ chF n mine yours k p [] z mx my, c.k = 1 ∨ c.k = 2
  | 0, _, _, _, _ => fun c hc => by cases hc
  | k + 1, p, z, mx, my => by
    intro c hc
    have hl := (gth_len (p.length + ([] : List Chg).length) ⟨p, [], min (nxt p n) (nxt [] n), mx, my⟩).2
    simp only [chF] at hc
    generalize gth (p.length + ([] : List Chg).length) ⟨p, [], min (nxt p n) (nxt [] n), mx, my⟩ = g at *
    have hq : g.q = [] := List.length_eq_zero_iff.1 (Nat.le_zero.1 hl)
    rcases List.mem_append.1 hc with hc | hc
    · split at hc
      · rw [List.mem_singleton.1 hc]; exact Or.inl rfl
      · cases hc
    · split at hc
      · cases hc
      · rcases List.mem_cons.1 hc with rfl | hc
        · right
          show kindC mine yours p [] _ mx my g = 2
          unfold kindC
          rw [hq, if_pos rfl]
        · rw [hq] at hc
          exact chF_mine k _ _ _ _ c hc
theorem gth_twin {k : Nat} {p : List Chg} {f mx : Int} (hk : p.length + p.length ≤ k) : (gth k ⟨p, p, f, mx, mx⟩).q = (gth k ⟨p, p, f, mx, mx⟩).p ∧ (gth k ⟨p, p, f, mx, mx⟩).my = (gth k ⟨p, p, f, mx, mx⟩).mx := by
  have h : gth k ⟨p, p, f, mx, mx⟩ = (gth k ⟨p, p, f, mx, mx⟩).turn := gth_turn k ⟨p, p, f, mx, mx⟩ hk
  exact ⟨congrArg GS.q h, congrArg GS.my h⟩
theorem chF_twin {n : Int} {mine : List Byt} : ∀ (k : Nat) (p : List Chg) (z mx : Int), (∀ c ∈ p, c.A ≤ n) → ∀ c ∈ chF n mine mine k p p z mx mx, c.k = 1 ∨ c.k = 4
  | 0, _, _, _, _ => fun c hc => by cases hc
  | k + 1, p, z, mx, hp => by
    intro c hc
    have hl := gth_less (mx := mx) (my := mx) hp hp
    have ht := gth_twin (k := p.length + p.length) (p := p) (f := min (nxt p n) (nxt p n)) (mx := mx) (Nat.le_refl _)
    have hm := (gth_mem (p.length + p.length) ⟨p, p, min (nxt p n) (nxt p n), mx, mx⟩).1
    simp only [chF] at hc
    generalize gth (p.length + p.length) ⟨p, p, min (nxt p n) (nxt p n), mx, mx⟩ = g at *
    obtain ⟨ht1, ht2⟩ := ht
    rcases List.mem_append.1 hc with hc | hc
    · split at hc
      · rw [List.mem_singleton.1 hc]; exact Or.inl rfl
      · cases hc
    · split at hc
      · cases hc
      · rename_i h0
        have hl := hl h0
        rw [ht1] at hl
        rcases List.mem_cons.1 hc with rfl | hc
        · right
          show kindC mine mine p p _ mx mx g = 4
          unfold kindC
          rw [ht1, ht2, if_neg (by omega), if_neg (by omega), if_pos rfl]
        · rw [ht1, ht2] at hc
          exact chF_twin k _ _ _ (fun x hx => hp x (hm x hx)) c hc
theorem chLst_adj {s t : List Chg} {b m y : List Byt} (h : chErr s t b m y = 0) : adjF (chLst s t b m y) := by
  rw [chLst_ok h]
  obtain ⟨_, _, _, h1, h2, _, _⟩ := chErr_zero.1 h
  obtain ⟨_, _, _, _, w1⟩ := valid_range (norm_validE h1)
  obtain ⟨_, _, _, _, w2⟩ := valid_range (norm_validE h2)
  exact chF_adj _ _ _ 0 0 0 ⟨w1, by omega, by omega, by omega, by omega⟩ ⟨w2, by omega, by omega, by omega, by omega⟩
/-- Without a clash the text is what is picked. -/
theorem tolds_picks {s t : List Chg} {b m y lab : List Byt} {fmt : Int} (h : chErr s t b m y = 0) (hk : ∀ c ∈ chLst s t b m y, c.k ≠ 5) : toldsF b m y lab fmt (chLst s t b m y) = (picksF m y (chLst s t b m y)).flatten := by
  obtain ⟨vb, vm, vy, hc⟩ := chLst_cov h
  rw [← tells_flat (valid_NE vb) (valid_NE vm) (valid_NE vy), tells_picks vb vm vy _ 0 0 0 (by decide) (by decide) (by decide) hc (chLst_adj h) hk]
theorem clash_of {l : List Chk} (h : ∀ c ∈ l, c.k ≠ 5) : clashF l = false := List.any_eq_false.2 fun c hc k => h c hc (of_decide_eq_true k)
theorem norm_nil : normF [] = [] := rfl
/-- One changed it: the text is the changed one. -/
theorem mg_one {s : List Chg} {b m lab : List Byt} {fmt : Int} (h : chErr s [] b m b = 0) : clashF (chLst s [] b m b) = false ∧ toldsF b m b lab fmt (chLst s [] b m b) = m.flatten := by
  have hk : ∀ c ∈ chLst s [] b m b, c.k = 1 ∨ c.k = 2 := by
    rw [chLst_ok h]
    unfold chAll
    rw [norm_nil]
    exact chF_mine _ _ _ _ _
  have h5 : ∀ c ∈ chLst s [] b m b, c.k ≠ 5 := fun c hc => by have := hk c hc; omega
  refine ⟨clash_of h5, ?_⟩
  rw [tolds_picks h h5, cov_picks _ 0 0 0 (by decide) (chLst_cov h).2.2.2 (fun c hc => by have := hk c hc; omega)]
  rfl
/-- Both changed it alike. -/
theorem mg_twin {s : List Chg} {b m lab : List Byt} {fmt : Int} (h : chErr s [] b m b = 0) : chErr s s b m m = 0 ∧ clashF (chLst s s b m m) = false ∧ toldsF b m m lab fmt (chLst s s b m m) = m.flatten := by
  obtain ⟨vb, vm, _, h1, _, h2, _⟩ := chErr_zero.1 h
  have h : chErr s s b m m = 0 := chErr_zero.2 ⟨vb, vm, vm, h1, h1, h2, h2⟩
  have hk : ∀ c ∈ chLst s s b m m, c.k = 1 ∨ c.k = 4 := by
    rw [chLst_ok h]
    unfold chAll
    exact chF_twin _ _ _ _ (le_norm h1)
  have h5 : ∀ c ∈ chLst s s b m m, c.k ≠ 5 := fun c hc => by have := hk c hc; omega
  refine ⟨h, clash_of h5, ?_⟩
  rw [tolds_picks h h5, cov_picks _ 0 0 0 (by decide) (chLst_cov h).2.2.2 (fun c hc => by have := hk c hc; omega)]
  rfl
theorem clF_no {fmt : Int} : ∀ {l : List Chk}, clashF l = false → clF fmt l = 0
  | [], _ => rfl
  | c :: r, h => by
    have h5 := clash_no h
    show (if c.k = 5 ∧ fmt < 3 then (1 : Int) else 0) + clF fmt r = 0
    rw [clF_no (clash_of fun x hx => h5 x (List.mem_cons_of_mem _ hx)), if_neg fun k => h5 c (List.mem_cons_self ..) k.1]
    rfl
/-- All of the statement: merged with no change, either way, and the same change twice. -/
theorem mg_ones {s : List Chg} {b m lab : List Byt} (hl : labE lab = 0) (h : mgErr s [] b m b lab 1 = 0) :
    (mgTxt s [] b m b lab 1 = m.flatten ∧ mgCl s [] b m b lab 1 = 0) ∧ (mgErr [] s b b m lab 2 = 0 ∧ mgTxt [] s b b m lab 2 = m.flatten ∧ mgCl [] s b b m lab 2 = 0) ∧ (mgErr s s b m m lab 1 = 0 ∧ mgTxt s s b m m lab 1 = m.flatten ∧ mgCl s s b m m lab 1 = 0) := by
  have hc : chErr s [] b m b = 0 := by
    rcases mgErr_cases s [] b m b lab 1 with ⟨k, _⟩ | ⟨_, _, ⟨k, _⟩ | ⟨_, ⟨k, e⟩ | ⟨k, _⟩⟩⟩
    · omega
    · exact absurd hl k
    · rw [h] at e; exact absurd e.symm k
    · exact k
  obtain ⟨n1, t1⟩ := mg_one (lab := lab) (fmt := 1) hc
  obtain ⟨c3, n3, t3⟩ := mg_twin (lab := lab) (fmt := 1) hc
  have hc2 : chErr [] s b b m = 0 := chErr_turn.2 hc
  have n2 : clashF (chLst [] s b b m) = false := by
    rw [chLst_turn hc]
    refine clash_of fun c hx => ?_
    obtain ⟨d, hd, rfl⟩ := List.mem_map.1 hx
    have := clash_no n1 d hd
    show turnK d.k ≠ 5
    unfold turnK
    split
    · decide
    · split
      · decide
      · exact this
  have g := mg_turn (lab := lab) (fmt := 1) hc (fun k => Or.inl rfl)
  have f := mg_fmt (f := 2) (g := 1) hc2 hl (by decide) (by decide) (by decide) (by decide) n2
  have a1 := mgTxt_ok h
  rw [t1, clF_no n1] at a1
  have e2 : mgErr [] s b b m lab 2 = 0 := by rw [f.1, g.1, h]
  have a2 := mgTxt_ok e2
  rw [clF_no n2] at a2
  have hlen := mg_err2 (lab := lab) (fmt := 1) hc hl (by decide) (by decide)
  rw [h, t1] at hlen
  have e3 : mgErr s s b m m lab 1 = 0 := by rw [mg_err2 c3 hl (by decide) (by decide), t3]; exact hlen.symm
  have a3 := mgTxt_ok e3
  rw [t3, clF_no n3] at a3
  exact ⟨a1, ⟨e2, by rw [f.2, g.2 n1, a1.1], a2.2⟩, e3, a3.1, a3.2⟩
end Go.Proofs.YtlmjkphiicmclaaDoor

namespace Go.Proofs.YtlmjkphiicmclaaDoor
open Go Go.RowKit Vc

theorem mg_two {s t : List Chg} {b m y lab : List Byt} {fmt : Int} (h : chErr s t b m y = 0) (hl : labE lab = 0) (h1 : 1 ≤ fmt) (h5 : fmt ≤ 5) : mgErr s t b m y lab fmt = 0 ∨ mgErr s t b m y lab fmt = 2 := by
  rw [mg_err2 h hl h1 h5]
  split
  · exact Or.inr rfl
  · exact Or.inl rfl
theorem mg_cl {s t : List Chg} {b m y lab : List Byt} {fmt : Int} (h : 3 ≤ fmt) : mgCl s t b m y lab fmt = 0 := by
  unfold mgCl
  rw [clF_none h]
  split <;> rfl
end Go.Proofs.YtlmjkphiicmclaaDoor

namespace Go.Proofs.YtlmjkphiicmclaaDoor
open Go Go.RowKit Vc

theorem split_step {l : Byt} {i a : Nat} (h : i < l.length) (ha : a ≤ i) : splitG (l.drop i) ((l.drop a).take (i - a)) =
    if l.getD i 0 = 10 then ((l.drop a).take (i + 1 - a)) :: splitG (l.drop (i + 1)) [] else splitG (l.drop (i + 1)) ((l.drop a).take (i + 1 - a)) := by
  rw [drop_get 0 l i h]
  have e : (l.drop a).take (i + 1 - a) = (l.drop a).take (i - a) ++ [l.getD i 0] := by
    rw [show i + 1 - a = (i - a) + 1 by omega, List.take_add_one, List.getElem?_drop, show a + (i - a) = i by omega]
    simp [h]
  rw [e]
  simp only [splitG]

set_option maxRecDepth 100000 in
set_option maxHeartbeats 4000000 in
theorem rSplit_con (l : Byt) (hl : l.length ≤ 4194304) : Con Tryd.prog glob 39 [str l] [] 0 (retM (.o 0) [(0, stOwn (splitF l))] 1) := by
  have hb : (bs l).size = l.length := bs_size l
  refine spec_intro (tab := tab) (N := 37) Tryd.func39 rfl rfl tab_ok mix rfl rfl _ rfl ?_
  intro B hG
  repeat' (first | refine And.intro (by first | omega | (dsimp only; omega) | (show (_ : Bool) = true; kernel_rfl) | decide | (repeat' (first | refine And.intro ?_ ?_ | exact trivial | exact rfl))) ?_ | refine bcs_dec (fun h => ?_) (fun h => ?_) | refine bcs_ndec (fun h => ?_) (fun h => ?_) | refine bcs_not ?_ | refine bcs_intro (fun h => ?_) (fun h => ?_) | refine And.intro ?_ ?_ | refine reg_tail (by kernel_rfl) ?_)
  refine loop_rule (α := Nat × Nat × List Byt) (fun (i, a, out) => ⟨[(0, str l), (3, .o 0), (4, .v (.int .i64 a)), (5, .v (.int .i64 i))], [(0, stOwn out)], 1⟩)
    (fun (i, a, out) => a ≤ i ∧ i ≤ l.length ∧ out.length ≤ i ∧ out ++ splitG (l.drop i) ((l.drop a).take (i - a)) = splitF l) (fun (i, _) => l.length - i) (0, 0, []) [.nil 1] ?_ ?_ ?_
  · exact ⟨by omega, by omega, by simp, by simp [splitF]⟩
  · (refine ⟨rfl, rfl, ?_, ?_⟩ <;> repeat' (first | refine And.intro ?_ ?_ | exact trivial | exact rfl | refine lt0 | refine lt1 ?_ | refine lt2 ?_ ?_ | refine lt3 ?_ ?_ ?_ | refine lt4 ?_ ?_ ?_ ?_ | exact veq_refl _ | decide | (intro i hi; repeat' (first | refine And.intro ?_ ?_ | exact trivial | exact rfl))))
  rintro ⟨i, a, out⟩ ⟨h1, h2, h3, h4⟩
  have hst : i < l.length → _ := fun h => split_step (l := l) h h1
  have hbt := bt10 l i
  repeat' (first | refine And.intro (by first | omega | (dsimp only; omega) | (show (_ : Bool) = true; kernel_rfl) | decide | (repeat' (first | refine And.intro ?_ ?_ | exact trivial | exact rfl))) ?_ | refine bcs_dec (fun h => ?_) (fun h => ?_) | refine bcs_ndec (fun h => ?_) (fun h => ?_) | refine bcs_not ?_ | refine bcs_intro (fun h => ?_) (fun h => ?_) | refine And.intro ?_ ?_ | refine reg_tail (by kernel_rfl) ?_)
  · have h10 := hbt.1 h
    refine app1 stEnc [] out ((l.drop a).take (i + 1 - a)) rfl (enc_eq (bs_cut l a (i + 1))) ?_
    repeat' (first | refine And.intro (by first | omega | (dsimp only; omega) | (show (_ : Bool) = true; kernel_rfl) | decide | (repeat' (first | refine And.intro ?_ ?_ | exact trivial | exact rfl))) ?_ | refine bcs_dec (fun h => ?_) (fun h => ?_) | refine bcs_ndec (fun h => ?_) (fun h => ?_) | refine bcs_not ?_ | refine bcs_intro (fun h => ?_) (fun h => ?_) | refine And.intro ?_ ?_ | refine reg_tail (by kernel_rfl) ?_)
    refine ⟨(i + 1, i + 1, out ++ [(l.drop a).take (i + 1 - a)]), [.at 2 0], ?_, ?_, ?_⟩
    · refine ⟨by omega, by omega, by simp; omega, ?_⟩
      rw [← h4, hst (by omega), if_pos h10]
      simp
    · show l.length - (i + 1) < l.length - i
      omega
    · (refine ⟨rfl, rfl, ?_, ?_⟩ <;> repeat' (first | refine And.intro ?_ ?_ | exact trivial | exact rfl | refine lt0 | refine lt1 ?_ | refine lt2 ?_ ?_ | refine lt3 ?_ ?_ ?_ | refine lt4 ?_ ?_ ?_ ?_ | exact veq_refl _ | decide | (intro i hi; repeat' (first | refine And.intro ?_ ?_ | exact trivial | exact rfl))))
      simp
  · have h10 : ¬ l.getD i 0 = 10 := fun e => h (hbt.2 e)
    refine ⟨(i + 1, a, out), [.at 0 0], ?_, ?_, ?_⟩
    · refine ⟨by omega, by omega, by omega, ?_⟩
      rw [← h4, hst (by omega), if_neg h10]
    · show l.length - (i + 1) < l.length - i
      omega
    · (refine ⟨rfl, rfl, ?_, ?_⟩ <;> repeat' (first | refine And.intro ?_ ?_ | exact trivial | exact rfl | refine lt0 | refine lt1 ?_ | refine lt2 ?_ ?_ | refine lt3 ?_ ?_ ?_ | refine lt4 ?_ ?_ ?_ ?_ | exact veq_refl _ | decide | (intro i hi; repeat' (first | refine And.intro ?_ ?_ | exact trivial | exact rfl))))
  · have hi : i = l.length := by omega
    have hne : l.drop a ≠ [] := by intro e; have := congrArg List.length e; simp at this; omega
    subst hi
    have e : out ++ [l.drop a] = splitF l := by
      rw [← h4, List.drop_length, List.take_of_length_le (by simp), splitG_end hne]
    refine app1 stEnc [] out (l.drop a) rfl (enc_eq (cutE l a)) ?_
    repeat' (first | refine And.intro (by first | omega | (dsimp only; omega) | (show (_ : Bool) = true; kernel_rfl) | decide | (repeat' (first | refine And.intro ?_ ?_ | exact trivial | exact rfl))) ?_ | refine bcs_dec (fun h => ?_) (fun h => ?_) | refine bcs_ndec (fun h => ?_) (fun h => ?_) | refine bcs_not ?_ | refine bcs_intro (fun h => ?_) (fun h => ?_) | refine And.intro ?_ ?_ | refine reg_tail (by kernel_rfl) ?_)
    rw [e]
    refine ret_mem [.at 2 0] rfl rfl ?_ ?_
    · repeat' (first | refine And.intro ?_ ?_ | exact trivial)
      all_goals exact rfl
    · repeat' (first | refine And.intro ?_ ?_ | exact trivial)
      · rw [← e]; simp
      · intro i hi
        repeat' (first | refine And.intro ?_ ?_ | exact trivial)
        all_goals exact rfl
  · have hi : i = l.length := by omega
    have ha : a = l.length := by omega
    subst hi
    subst ha
    have e : out = splitF l := by
      rw [← h4]; simp [splitG]
    subst e
    refine ret_mem [.at 0 0] rfl rfl ?_ ?_
    · repeat' (first | refine And.intro ?_ ?_ | exact trivial)
      all_goals exact rfl
    · repeat' (first | refine And.intro ?_ ?_ | exact trivial)
      · exact rfl
      · intro i hi
        repeat' (first | refine And.intro ?_ ?_ | exact trivial)
        all_goals exact rfl
/-- The lines of a text are lines. -/
theorem okI_line {x : Byt} (h : (10 : UInt8) ∉ x) : okI (x ++ [10]) False := by
  rw [ok_iff]
  refine ⟨by simp, fun j hj e => ?_, .inr (by simp)⟩
  simp at hj
  rw [getD_app1 (by omega)] at e
  refine h ?_
  rw [← e, List.getD_eq_getElem?_getD, List.getElem?_eq_getElem (by omega)]
  exact List.getElem_mem _
theorem okI_weak {x : Byt} {p : Prop} (h : okI x False) : okI x p := ⟨h.1, h.2.elim .inl fun k => k.2.elim⟩
theorem okI_last {x : Byt} {p : Prop} (h : (10 : UInt8) ∉ x) (hx : x ≠ []) (hp : p) : okI x p := by
  refine ⟨hx, .inr ⟨?_, hp⟩⟩
  rcases idx_cases x with ⟨k, _⟩ | ⟨q, _, k2, k3, _⟩
  · exact k
  · exact absurd (by rw [← k3, List.getD_eq_getElem?_getD, List.getElem?_eq_getElem k2]; exact List.getElem_mem k2) h
/-- Every piece is a line; all but the last one have their end. -/
theorem splitG_ok : ∀ (r cur : Byt), (10 : UInt8) ∉ cur → ∀ i, i < (splitG r cur).length → okI ((splitG r cur).getD i []) (i + 1 = (splitG r cur).length)
  | [], [], _, i, h => by simp [splitG] at h
  | [], c :: cur, hc, i, h => by
    simp [splitG] at h
    subst h
    show okI (c :: cur) _
    exact okI_last hc (by simp) rfl
  | c :: r, cur, hc, i, h => by
    simp only [splitG] at h ⊢
    by_cases e : c = 10
    · rw [if_pos e] at h ⊢
      subst e
      cases i with
      | zero => exact okI_weak (okI_line hc)
      | succ i =>
        have := splitG_ok r [] (by simp) i (by simpa using h)
        simpa using this
    · rw [if_neg e] at h ⊢
      exact splitG_ok r (cur ++ [c]) (by simp [hc, Ne.symm e]) i h
theorem splitF_valid (l : Byt) : validB (splitF l) = true := valid_yes (splitG_ok l [] (by simp))
/-- Lines that are valid are the lines of their text. -/
theorem split_join : ∀ (L : List Byt), validB L = true → splitF L.flatten = L
  | [], _ => rfl
  | x :: r, h => by
    have hv := of_decide_eq_true h
    have h0 := hv 0 (by simp)
    have hr : validB r = true := valid_yes fun i hi => by
      have := hv (i + 1) (by simpa using hi)
      simpa using this
    have ih := split_join r hr
    simp only [List.getD_cons_zero, List.length_cons] at h0
    rcases h0 with ⟨h1, h2 | ⟨h2, h3⟩⟩
    · have hp := List.length_pos_iff.2 h1
      obtain ⟨k1, k2, k3⟩ := idx_at (q := x.length - 1) (show Lib.indexByte x 10 = _ by omega)
      rw [splitF, splitG_some (k := x.length - 1) [] (by simp; omega) (by rw [List.flatten_cons, getD_app1 k1]; exact k2) ?_]
      · rw [List.flatten_cons, show x.length - 1 + 1 = x.length by omega]
        simp only [List.nil_append, List.take_left, List.drop_left]
        rw [← splitF, ih]
      · rw [List.flatten_cons, List.take_append_of_le_length (by omega)]
        intro hm
        obtain ⟨j, hj, e⟩ := List.mem_iff_getElem.1 hm
        simp at hj
        refine k3 j (by omega) ?_
        rw [← e]; simp; rw [List.getElem?_eq_getElem (by omega)]; rfl
    · have hr0 : r = [] := List.eq_nil_of_length_eq_zero (by omega)
      subst hr0
      simp only [List.flatten_cons, List.flatten_nil, List.append_nil]
      rcases idx_cases x with ⟨_, k2⟩ | ⟨q, k1, _⟩
      · rw [splitF, splitG_none [] k2, List.nil_append, splitG_end h1]
      · omega

end Go.Proofs.YtlmjkphiicmclaaDoor

namespace Go.Proofs.YtlmjkphiicmclaaDoor
open Go Go.RowKit Vc

theorem splitG_app : ∀ (a c b : Byt), wholeF a = true → splitG (a ++ b) c = splitG a c ++ splitG b []
  | [], _, _, h => by rw [whole_last] at h; simp at h
  | [x], c, b, h => by
    rw [whole_last] at h
    have hx : x = 10 := by simpa using h
    subst hx
    simp [splitG]
  | x :: z :: a, c, b, h => by
    have hw : wholeF (z :: a) = true := by
      rw [whole_last] at h ⊢
      simpa using h
    rw [List.cons_append, splitG, splitG]
    split
    · rw [splitG_app (z :: a) [] b hw, List.cons_append]
    · exact splitG_app (z :: a) (c ++ [x]) b hw
theorem splitF_app {a b : Byt} (h : a = [] ∨ wholeF a = true) : splitF (a ++ b) = splitF a ++ splitF b := by
  rcases h with rfl | h
  · rfl
  · exact splitG_app a [] b h
/-- The lines of a chunk's text. -/
def tlF (b m y lab : List Byt) (fmt : Int) (c : Chk) (last : Bool) : List Byt := splitF (toldF b m y lab fmt c last)
def tlsF (b m y lab : List Byt) (fmt : Int) : List Chk → List Byt
  | [] => []
  | c :: r => tlF b m y lab fmt c r.isEmpty ++ tlsF b m y lab fmt r
theorem tls_split {b m y lab : List Byt} {fmt : Int} : ∀ l : List Chk, splitF (toldsF b m y lab fmt l) = tlsF b m y lab fmt l
  | [] => rfl
  | c :: r => by
    show splitF (toldF b m y lab fmt c r.isEmpty ++ toldsF b m y lab fmt r) = tlF b m y lab fmt c r.isEmpty ++ tlsF b m y lab fmt r
    rw [← tls_split r]
    cases hr : r with
    | nil =>
      show splitF (_ ++ []) = _ ++ splitF []
      rw [List.append_nil]
      show _ = _ ++ []
      rw [List.append_nil]; rfl
    | cons d q =>
      exact splitF_app (addE_whole _)
def onC (b m y lab : List Byt) (fmt : Int) (c : Chk) (last : Bool) (z : Int) : List Chg := if tlF b m y lab fmt c last = segL m c.m (c.m + c.mn) then [] else [⟨c.m, c.mn, z, (tlF b m y lab fmt c last).length⟩]
def onF (b m y lab : List Byt) (fmt : Int) : List Chk → Int → List Chg
  | [], _ => []
  | c :: r, z => onC b m y lab fmt c r.isEmpty z ++ onF b m y lab fmt r (z + (tlF b m y lab fmt c r.isEmpty).length)
/-- It is a script from mine to the text's lines. -/
theorem on_valid {b m y lab : List Byt} {fmt : Int} (M : Int) : ∀ (l : List Chk) (z u v w a0 b0 : Int), covF b m y l z u v → 0 ≤ u → 0 ≤ w → a0 ≤ u → b0 ≤ w → u - a0 = w - b0 → M = w + (tlsF b m y lab fmt l).length → validF (onF b m y lab fmt l w) a0 b0 m.length M = 0
  | [], z, u, v, w, a0, b0, ⟨_, h, _⟩, _, _, _, _, hd, hM => by
    subst h
    simp only [tlsF, List.length_nil] at hM
    show (if (m.length : Int) - a0 ≠ M - b0 then (60 : Int) else 0) = 0
    rw [if_neg (by omega)]
  | c :: r, z, u, v, w, a0, b0, ⟨e1, e2, e3, p1, p2, p3, p4, p5, p6, p7, p8, p9, p10, hr⟩, hu, hw, ha, hb, hd, hM => by
    have hM2 : M = w + (tlF b m y lab fmt c r.isEmpty).length + (tlsF b m y lab fmt r).length := by
      rw [hM]
      show w + ((tlF b m y lab fmt c r.isEmpty ++ tlsF b m y lab fmt r).length : Int) = _
      rw [List.length_append]
      omega
    have sl := seg_len m (show 0 ≤ c.m by omega) (show c.m ≤ c.m + c.mn by omega) (by omega)
    show validF (onC b m y lab fmt c r.isEmpty w ++ onF b m y lab fmt r (w + (tlF b m y lab fmt c r.isEmpty).length)) a0 b0 m.length M = 0
    unfold onC
    split
    · rename_i h
      have hl := congrArg List.length h
      rw [sl] at hl
      rw [List.nil_append]
      exact on_valid M r _ _ _ _ a0 b0 hr (by omega) (by omega) (by omega) (by omega) (by omega) hM2
    · rename_i h
      have hn : ¬ (c.mn = 0 ∧ (tlF b m y lab fmt c r.isEmpty).length = 0) := fun ⟨k1, k2⟩ => h (by
        rw [List.length_eq_zero_iff.1 k2]
        exact (List.length_eq_zero_iff.1 (by rw [sl]; omega)).symm)
      have nb : ¬ bad ⟨c.m, c.mn, w, (tlF b m y lab fmt c r.isEmpty).length⟩ a0 b0 m.length M := by
        unfold bad
        dsimp only
        omega
      rw [List.singleton_append]
      show (if bad _ a0 b0 m.length M then (60 : Int) else validF _ (c.m + c.mn) (w + (tlF b m y lab fmt c r.isEmpty).length) m.length M) = 0
      rw [if_neg nb]
      exact on_valid M r _ _ _ _ _ _ hr (by omega) (by omega) (by omega) (by omega) (by omega) hM2
theorem on_len {b m y lab : List Byt} {fmt : Int} : ∀ (l : List Chk) (z : Int), (onF b m y lab fmt l z).length ≤ l.length
  | [], _ => Nat.le_refl _
  | c :: r, z => by
    have := on_len (b := b) (m := m) (y := y) (lab := lab) (fmt := fmt) r (z + (tlF b m y lab fmt c r.isEmpty).length)
    show (onC b m y lab fmt c r.isEmpty z ++ onF b m y lab fmt r _).length ≤ _
    rw [List.length_append, List.length_cons]
    unfold onC
    split
    · simp only [List.length_nil]; omega
    · simp only [List.length_singleton]; omega
/-- Onto: the error, the script, the lines. -/
def onL (s t : List Chg) (b m y lab : List Byt) (fmt : Int) : List Chg := if mgErr s t b m y lab fmt = 0 then normF (onF b m y lab fmt (chLst s t b m y) 0) else []
def onT (s t : List Chg) (b m y lab : List Byt) (fmt : Int) : List Byt := if mgErr s t b m y lab fmt = 0 then splitF (mgTxt s t b m y lab fmt) else []
theorem mg_ch {s t : List Chg} {b m y lab : List Byt} {fmt : Int} (h : mgErr s t b m y lab fmt = 0) : chErr s t b m y = 0 := by
  rcases mgErr_cases s t b m y lab fmt with ⟨_, k⟩ | ⟨_, _, ⟨k, e⟩ | ⟨_, ⟨k, e⟩ | ⟨k, _⟩⟩⟩
  · omega
  · rw [h] at e; exact absurd e.symm k
  · rw [h] at e; exact absurd e.symm k
  · exact k
theorem mg_len {s t : List Chg} {b m y lab : List Byt} {fmt : Int} (h : mgErr s t b m y lab fmt = 0) : (mgTxt s t b m y lab fmt).length ≤ 4194304 := by
  rw [(mgTxt_ok h).1]
  rcases mgErr_cases s t b m y lab fmt with ⟨_, e⟩ | ⟨_, _, ⟨k, e⟩ | ⟨_, ⟨k, e⟩ | ⟨_, ⟨_, e⟩ | ⟨hl, _⟩⟩⟩⟩
  · omega
  · rw [h] at e; exact absurd e.symm k
  · rw [h] at e; exact absurd e.symm k
  · omega
  · exact hl
theorem on_ok {s t : List Chg} {b m y lab : List Byt} {fmt : Int} (hm : m.length ≤ 4194304) (h : mgErr s t b m y lab fmt = 0) : validE (onF b m y lab fmt (chLst s t b m y) 0) m.length (splitF (mgTxt s t b m y lab fmt)).length = 0 := by
  have hc := chLst_cov (mg_ch h)
  have hl := mg_len h
  have hs := splitF_len (mgTxt s t b m y lab fmt)
  unfold validE
  rw [if_neg (by omega)]
  refine on_valid _ _ 0 0 0 0 0 0 hc.2.2.2 (by decide) (by decide) (by decide) (by decide) (by decide) ?_
  rw [(mgTxt_ok h).1, tls_split]
  omega
end Go.Proofs.YtlmjkphiicmclaaDoor

namespace Go.Proofs.YtlmjkphiicmclaaDoor
open Go Go.RowKit Vc

/-- Between two changes a line stays. -/
def gapL : List Chg → Prop
  | [] => True
  | [_] => True
  | c :: d :: r => c.A + c.N < d.A ∧ gapL (d :: r)
theorem gap_snoc : ∀ (o : List Chg) (x c : Chg), gapL (o ++ [x]) → x.A + x.N < c.A → gapL (o ++ [x] ++ [c])
  | [], _, _, _, h => ⟨h, True.intro⟩
  | [_], _, _, g, h => ⟨g.1, h, True.intro⟩
  | _ :: b :: o, x, c, g, h => ⟨g.1, gap_snoc (b :: o) x c g.2 h⟩
theorem gap_last : ∀ (o : List Chg) (x y : Chg), x.A = y.A → gapL (o ++ [x]) → gapL (o ++ [y])
  | [], _, _, _, _ => True.intro
  | [a], x, y, e, g => ⟨by have := g.1; show a.A + a.N < y.A; omega, True.intro⟩
  | _ :: b :: o, x, y, e, g => ⟨g.1, gap_last (b :: o) x y e g.2⟩
theorem gap_merge {n m : Int} : ∀ (s out : List Chg) (a b : Int), validF s a b n m = 0 → (out ≠ [] → (lastC out).A + (lastC out).N ≤ a) → gapL out → gapL (mergeF out s)
  | [], _, _, _, _, _, hg => hg
  | c :: r, out, a, b, h, hl, hg => by
    obtain ⟨k1, k2⟩ := valid_cons h
    unfold bad at k1
    simp only [mergeF]
    split
    · rename_i hc
      obtain ⟨hne, e⟩ := hc
      obtain ⟨o, x, rfl⟩ : ∃ o x, out = o ++ [x] := ⟨out.dropLast, out.getLast hne, (List.dropLast_concat_getLast hne).symm⟩
      rw [last_app] at e
      rw [set_last, last_app]
      refine gap_merge r _ _ _ k2 (fun _ => ?_) (gap_last o x _ rfl hg)
      rw [last_app]
      show x.A + (x.N + c.N) ≤ c.A + c.N
      omega
    · rename_i hc
      refine gap_merge r _ _ _ k2 (fun _ => ?_) ?_
      · rw [last_app]; exact Int.le_refl _
      · by_cases hne : out = []
        · subst hne; exact True.intro
        · have hl := hl hne
          have hn : (lastC out).A + (lastC out).N ≠ c.A := fun e => hc ⟨hne, e⟩
          obtain ⟨o, x, rfl⟩ : ∃ o x, out = o ++ [x] := ⟨out.dropLast, out.getLast hne, (List.dropLast_concat_getLast hne).symm⟩
          rw [last_app] at hl hn
          exact gap_snoc o x c hg (by omega)
theorem gap_norm {s : List Chg} {n m : Int} (h : validE s n m = 0) : gapL (normF s) := by
  obtain ⟨_, _, _, _, w⟩ := valid_range h
  exact gap_merge s [] 0 0 w (fun k => absurd rfl k) True.intro
theorem gap_hd {c : Chg} {p : List Chg} (h : gapL (c :: p)) : hd p (c.A + c.N) = false ∧ gapL p := by
  cases p with
  | nil => exact ⟨rfl, True.intro⟩
  | cons d r =>
    have := h.1
    exact ⟨decide_eq_false (by omega), h.2⟩
theorem chF_stepX {n m1 : Int} {K : Nat} {c : Chg} {p q : List Chg} {z mx my : Int} {mine yours : List Byt} (hx : atF n m1 (c :: p) z mx) (hlt : c.A ≤ nxt q n) (hg : hd p (c.A + c.N) = false) (hq : hd q (c.A + c.N) = false) :
    chF n mine yours (K + 1) (c :: p) q z mx my = (if c.A > z then [mkC 1 c.A mx my z mx my] else []) ++ mkC 2 (c.A + c.N) mx my c.A (mx + (c.M - c.N)) my :: chF n mine yours K p q (c.A + c.N) (mx + (c.M - c.N)) my := by
  obtain ⟨_, k2, k3, k4, k5, k6, k7, k8⟩ := at_take hx
  have hmin : min (nxt (c :: p) n) (nxt q n) = c.A := by
    show min c.A (nxt q n) = c.A
    omega
  have hgth : gth ((c :: p).length + q.length) ⟨c :: p, q, c.A, mx, my⟩ = ⟨p, q, c.A + c.N, mx + (c.M - c.N), my⟩ := by
    rw [show (c :: p).length + q.length = p.length + q.length + 1 by rw [List.length_cons]; omega, gth_X (g := ⟨c :: p, q, c.A, mx, my⟩) (decide_eq_true (Int.le_refl c.A))]
    have e : GS.takeX ⟨c :: p, q, c.A, mx, my⟩ = ⟨p, q, c.A + c.N, mx + (c.M - c.N), my⟩ := by
      show GS.mk p q (max c.A (c.A + c.N)) (mx + (c.M - c.N)) my = _
      rw [show max c.A (c.A + c.N) = c.A + c.N by omega]
    rw [e]
    exact gth_done hg hq
  have hk : kindC mine yours (c :: p) q c.A mx my ⟨p, q, c.A + c.N, mx + (c.M - c.N), my⟩ = 2 := if_pos rfl
  conv => lhs; rw [chF]
  rw [hmin, hgth, hk, if_neg (show ¬ ((c :: p).length = 0 ∧ q.length = 0) by simp)]
theorem chF_stepY {n m2 : Int} {K : Nat} {d : Chg} {p q : List Chg} {z mx my : Int} {mine yours : List Byt} (hy : atF n m2 (d :: q) z my) (hlt : d.A ≤ nxt p n) (hp : hd p (d.A + d.N) = false) (hg : hd q (d.A + d.N) = false) :
    chF n mine yours (K + 1) p (d :: q) z mx my = (if d.A > z then [mkC 1 d.A mx my z mx my] else []) ++ mkC 3 (d.A + d.N) mx my d.A mx (my + (d.M - d.N)) :: chF n mine yours K p q (d.A + d.N) mx (my + (d.M - d.N)) := by
  obtain ⟨_, k2, k3, k4, k5, k6, k7, k8⟩ := at_take hy
  have hmin : min (nxt p n) (nxt (d :: q) n) = d.A := by
    show min (nxt p n) d.A = d.A
    omega
  have hgth : gth (p.length + (d :: q).length) ⟨p, d :: q, d.A, mx, my⟩ = ⟨p, q, d.A + d.N, mx, my + (d.M - d.N)⟩ := by
    rw [show p.length + (d :: q).length = p.length + q.length + 1 by rw [List.length_cons]; omega, gth_Y (p.length + q.length) ⟨p, d :: q, d.A, mx, my⟩ (by show p.length + (d :: q).length ≤ _; rw [List.length_cons]; omega) (decide_eq_true (Int.le_refl d.A))]
    have e : GS.takeY ⟨p, d :: q, d.A, mx, my⟩ = ⟨p, q, d.A + d.N, mx, my + (d.M - d.N)⟩ := by
      show GS.mk p q (max d.A (d.A + d.N)) mx (my + (d.M - d.N)) = _
      rw [show max d.A (d.A + d.N) = d.A + d.N by omega]
    rw [e]
    exact gth_done hp hg
  have hk : kindC mine yours p (d :: q) d.A mx my ⟨p, q, d.A + d.N, mx, my + (d.M - d.N)⟩ = 3 := by
    unfold kindC
    rw [if_neg (show ¬ q.length = (d :: q).length by simp), if_pos rfl]
  conv => lhs; rw [chF]
  rw [hmin, hgth, hk, if_neg (show ¬ (p.length = 0 ∧ (d :: q).length = 0) by simp)]
theorem seg_nil (l : List Byt) (i : Int) : segL l i i = [] := by unfold segL; rw [Nat.sub_self, List.take_zero]
/-- A calm chunk's lines are the base's. -/
theorem calm_picks {b m y : List Byt} {L : List Chg} {z mx my f : Int} (hx : atF b.length m.length L z mx) (sx : SP b m b.length L z mx) (h1 : z ≤ f) (h2 : f ≤ nxt L b.length) :
    picksF m y (if f > z then [mkC 1 f mx my z mx my] else []) = segL b z f := by
  have r := nxt_range hx
  have hx2 := at_on hx h1 h2 (by omega)
  obtain ⟨_, g2, g3, g4, g5⟩ := hx
  obtain ⟨_, q2, q3, q4, q5⟩ := hx2
  by_cases h : f > z
  · rw [if_pos h]
    show segL m (z + mx) (z + mx + (f + mx - z - mx)) ++ [] = _
    rw [List.append_nil, show z + mx + (f + mx - z - mx) = f + mx by omega]
    exact (seg_same (a := b) (b := m) (i := z) (j := f) (d := mx) g2 h1 q4 g3 q5 fun i h1 h3 => sp_calm sx h1 (by omega)).symm
  · have : f = z := by omega
    subst this
    rw [if_neg h, seg_nil]; rfl
theorem picks_app (m y : List Byt) : ∀ (p q : List Chk), picksF m y (p ++ q) = picksF m y p ++ picksF m y q
  | [], _ => rfl
  | c :: p, q => by
    show pickF m y c ++ picksF m y (p ++ q) = _
    rw [picks_app m y p q, ← List.append_assoc]; rfl
/-- The base with the changes made, so far: what is still to come is the rest of the chunks. -/
def apI (b m y : List Byt) (p q : List Chg) (i k : Nat) (z : Int) (out : List Byt) : Prop :=
  ∃ mx my K, (p.drop i).length + (q.drop k).length < K ∧ atF b.length m.length (p.drop i) z mx ∧ atF b.length y.length (q.drop k) z my ∧ SP b m b.length (p.drop i) z mx ∧ SP b y b.length (q.drop k) z my ∧ gapL (p.drop i) ∧ gapL (q.drop k) ∧
    picksF m y (chF b.length m y (p.length + q.length + 1) p q 0 0 0) = out ++ picksF m y (chF b.length m y K (p.drop i) (q.drop k) z mx my) ∧
    ((∀ c ∈ chF b.length m y K (p.drop i) (q.drop k) z mx my, c.k ≠ 5) → ∀ c ∈ chF b.length m y (p.length + q.length + 1) p q 0 0 0, c.k ≠ 5) ∧ (out.length : Int) ≤ z + (z + mx) + (z + my)
theorem ap_len {b m y : List Byt} {p q : List Chg} {i k : Nat} {z : Int} {out : List Byt} (h : apI b m y p q i k z out) : 0 ≤ z ∧ z ≤ b.length ∧ (out.length : Int) ≤ b.length + m.length + y.length := by
  obtain ⟨mx, my, K, _, ⟨_, a1, a2, a3, a4⟩, ⟨_, b1, b2, b3, b4⟩, _, _, _, _, _, _, hl⟩ := h
  omega
theorem ap_x {b m y : List Byt} {p q : List Chg} {i k : Nat} {z : Int} {out : List Byt} (h : apI b m y p q i k z out) (hi : i < p.length) (hno : k < q.length → (p.getD i Chg.d).A + (p.getD i Chg.d).N < (q.getD k Chg.d).A) :
    apI b m y p q (i + 1) k ((p.getD i Chg.d).A + (p.getD i Chg.d).N) (out ++ segL b z (p.getD i Chg.d).A ++ segL m (p.getD i Chg.d).B ((p.getD i Chg.d).B + (p.getD i Chg.d).M)) := by
  obtain ⟨mx, my, K, hK, hx, hy, sx, sy, gx, gy, hp, h5, hl⟩ := h
  rw [drop_get Chg.d p i hi] at hK hx sx gx hp h5
  generalize p.getD i Chg.d = c at *
  obtain ⟨k1, k2, k3, k4, k5, k6, k7, k8⟩ := at_take hx
  obtain ⟨gh, gx⟩ := gap_hd gx
  have hq : hd (q.drop k) (c.A + c.N) = false ∧ c.A ≤ nxt (q.drop k) b.length := by
    by_cases hk : k < q.length
    · rw [drop_get Chg.d q k hk]
      have := hno hk
      exact ⟨decide_eq_false (by omega), by show c.A ≤ (q.getD k Chg.d).A; omega⟩
    · rw [List.drop_of_length_le (by omega)]
      exact ⟨rfl, by show c.A ≤ b.length; omega⟩
  cases K with
  | zero => omega
  | succ K =>
    rw [chF_stepX hx hq.2 gh hq.1] at hp h5
    have hy2 := at_on hy (show z ≤ c.A + c.N by omega) (hd_nxt hq.1 k5) k5
    refine ⟨mx + (c.M - c.N), my, K, by rw [List.length_cons] at hK; omega, k1, hy2, sp_take hx sx, sp_on sy (by omega) (hd_nxt hq.1 k5), gx, gy, ?_, ?_, ?_⟩
    · rw [hp, picks_app, calm_picks (my := my) hx sx (show z ≤ c.A by omega) (Int.le_refl c.A)]
      show out ++ (segL b z c.A ++ (segL m (c.A + mx) (c.A + mx + (c.A + c.N + (mx + (c.M - c.N)) - c.A - mx)) ++ _)) = _
      rw [show c.A + mx + (c.A + c.N + (mx + (c.M - c.N)) - c.A - mx) = c.B + c.M by omega, show c.A + mx = c.B by omega]
      simp only [List.append_assoc]
    · intro hr
      refine h5 fun x hx => ?_
      rcases List.mem_append.1 hx with hx | hx
      · split at hx
        · rw [List.mem_singleton.1 hx]; exact (by decide : (1 : Int) ≠ 5)
        · cases hx
      · rcases List.mem_cons.1 hx with rfl | hx
        · exact (by decide : (2 : Int) ≠ 5)
        · exact hr x hx
    · obtain ⟨_, a1, a2, a3, a4⟩ := hx
      rw [List.length_append, List.length_append, seg_len b (by omega) (by omega) (by omega), seg_len m (by omega) (by omega) (by omega)]
      omega
theorem ap_y {b m y : List Byt} {p q : List Chg} {i k : Nat} {z : Int} {out : List Byt} (h : apI b m y p q i k z out) (hk : k < q.length)
    (hno : i < p.length → (q.getD k Chg.d).A + (q.getD k Chg.d).N < (p.getD i Chg.d).A) :
    apI b m y p q i (k + 1) ((q.getD k Chg.d).A + (q.getD k Chg.d).N) (out ++ segL b z (q.getD k Chg.d).A ++ segL y (q.getD k Chg.d).B ((q.getD k Chg.d).B + (q.getD k Chg.d).M)) := by
  obtain ⟨mx, my, K, hK, hx, hy, sx, sy, gx, gy, hp, h5, hl⟩ := h
  rw [drop_get Chg.d q k hk] at hK hy sy gy hp h5
  generalize q.getD k Chg.d = c at *
  obtain ⟨k1, k2, k3, k4, k5, k6, k7, k8⟩ := at_take hy
  obtain ⟨gh, gy⟩ := gap_hd gy
  have hq : hd (p.drop i) (c.A + c.N) = false ∧ c.A ≤ nxt (p.drop i) b.length := by
    by_cases hi : i < p.length
    · rw [drop_get Chg.d p i hi]
      have := hno hi
      exact ⟨decide_eq_false (by omega), by show c.A ≤ (p.getD i Chg.d).A; omega⟩
    · rw [List.drop_of_length_le (by omega)]
      exact ⟨rfl, by show c.A ≤ b.length; omega⟩
  cases K with
  | zero => omega
  | succ K =>
    rw [chF_stepY hy hq.2 hq.1 gh] at hp h5
    have hx2 := at_on hx (show z ≤ c.A + c.N by omega) (hd_nxt hq.1 k5) k5
    refine ⟨mx, my + (c.M - c.N), K, by rw [List.length_cons] at hK; omega, hx2, k1, sp_on sx (by omega) (hd_nxt hq.1 k5), sp_take hy sy, gx, gy, ?_, ?_, ?_⟩
    · rw [hp, picks_app, calm_picks (my := my) hx sx (show z ≤ c.A by omega) hq.2]
      show out ++ (segL b z c.A ++ (segL y (c.A + my) (c.A + my + (c.A + c.N + (my + (c.M - c.N)) - c.A - my)) ++ _)) = _
      rw [show c.A + my + (c.A + c.N + (my + (c.M - c.N)) - c.A - my) = c.B + c.M by omega, show c.A + my = c.B by omega]
      simp only [List.append_assoc]
    · intro hr
      refine h5 fun x hx => ?_
      rcases List.mem_append.1 hx with hx | hx
      · split at hx
        · rw [List.mem_singleton.1 hx]; exact (by decide : (1 : Int) ≠ 5)
        · cases hx
      · rcases List.mem_cons.1 hx with rfl | hx
        · exact (by decide : (3 : Int) ≠ 5)
        · exact hr x hx
    · obtain ⟨_, a1, a2, a3, a4⟩ := hy
      rw [List.length_append, List.length_append, seg_len b (by omega) (by omega) (by omega), seg_len y (by omega) (by omega) (by omega)]
      omega
theorem ap_end {b m y : List Byt} {p q : List Chg} {i k : Nat} {z : Int} {out : List Byt} (h : apI b m y p q i k z out) (hi : p.length ≤ i) (hk : q.length ≤ k) :
    picksF m y (chF b.length m y (p.length + q.length + 1) p q 0 0 0) = out ++ segL b z b.length ∧ ∀ c ∈ chF b.length m y (p.length + q.length + 1) p q 0 0 0, c.k ≠ 5 := by
  obtain ⟨mx, my, K, hK, hx, hy, sx, sy, gx, gy, hp, h5, hl⟩ := h
  rw [List.drop_of_length_le hi] at hK hx sx gx hp h5
  rw [List.drop_of_length_le hk] at hK hy sy gy hp h5
  cases K with
  | zero => omega
  | succ K =>
    obtain ⟨_, a1, a2, a3, a4⟩ := id hx
    have e : chF b.length m y (K + 1) [] [] z mx my = (if (b.length : Int) > z then [mkC 1 b.length mx my z mx my] else []) := by
      conv => lhs; rw [chF]
      rw [show min (nxt [] (b.length : Int)) (nxt [] (b.length : Int)) = b.length by show min (b.length : Int) b.length = _; omega, if_pos (show ([] : List Chg).length = 0 ∧ ([] : List Chg).length = 0 from ⟨rfl, rfl⟩), List.append_nil]
    rw [e] at hp h5
    refine ⟨by rw [hp, calm_picks (my := my) hx sx (show z ≤ (b.length : Int) by omega) (Int.le_refl (b.length : Int))], h5 fun c hc => ?_⟩
    split at hc
    · rw [List.mem_singleton.1 hc]; exact (by decide : (1 : Int) ≠ 5)
    · cases hc
theorem ap_new {s t : List Chg} {b m y : List Byt} (h : chErr s t b m y = 0) : apI b m y (normF s) (normF t) 0 0 0 [] := by
  obtain ⟨_, _, _, h1, h2, h3, h4⟩ := chErr_zero.1 h
  obtain ⟨_, _, _, _, w1⟩ := valid_range (norm_validE h1)
  obtain ⟨_, _, _, _, w2⟩ := valid_range (norm_validE h2)
  refine ⟨0, 0, (normF s).length + (normF t).length + 1, by rw [List.drop_zero, List.drop_zero]; omega, ?_, ?_, ?_, ?_, ?_, ?_, ?_, ?_, ?_⟩
  · rw [List.drop_zero]; exact ⟨w1, by omega, by omega, by omega, by omega⟩
  · rw [List.drop_zero]; exact ⟨w2, by omega, by omega, by omega, by omega⟩
  · rw [List.drop_zero]; exact stays_SP h3
  · rw [List.drop_zero]; exact stays_SP h4
  · rw [List.drop_zero]; exact gap_norm h1
  · rw [List.drop_zero]; exact gap_norm h2
  · rw [List.drop_zero, List.drop_zero, List.nil_append]
  · rw [List.drop_zero, List.drop_zero]; exact fun h => h
  · simp
theorem mem_len {L : List Byt} {n : Nat} (h : L.flatten.length ≤ n) : ∀ x ∈ L, x.length ≤ n := fun x hx => by
  obtain ⟨i, hi, rfl⟩ := List.getElem_of_mem hx
  have := getD_flat L i
  rw [List.getD_eq_getElem?_getD, List.getElem?_eq_getElem hi] at this
  exact Nat.le_trans this h
theorem ap_fx {b m y : List Byt} {p q : List Chg} {i k : Nat} {z : Int} {out : List Byt} (h : apI b m y p q i k z out) (hi : i < p.length) : z ≤ (p.getD i Chg.d).A ∧ 0 ≤ (p.getD i Chg.d).N ∧ (p.getD i Chg.d).A + (p.getD i Chg.d).N ≤ b.length ∧
    0 ≤ (p.getD i Chg.d).B ∧ 0 ≤ (p.getD i Chg.d).M ∧ (p.getD i Chg.d).B + (p.getD i Chg.d).M ≤ m.length := by
  obtain ⟨mx, my, K, hK, hx, _⟩ := h
  rw [drop_get Chg.d p i hi] at hx
  obtain ⟨_, k2, k3, k4, k5, k6, k7, k8⟩ := at_take hx
  obtain ⟨_, _, _, _, _⟩ := hx
  omega
theorem ap_fy {b m y : List Byt} {p q : List Chg} {i k : Nat} {z : Int} {out : List Byt} (h : apI b m y p q i k z out) (hk : k < q.length) : z ≤ (q.getD k Chg.d).A ∧ 0 ≤ (q.getD k Chg.d).N ∧ (q.getD k Chg.d).A + (q.getD k Chg.d).N ≤ b.length ∧
    0 ≤ (q.getD k Chg.d).B ∧ 0 ≤ (q.getD k Chg.d).M ∧ (q.getD k Chg.d).B + (q.getD k Chg.d).M ≤ y.length := by
  obtain ⟨mx, my, K, hK, _, hy, _⟩ := h
  rw [drop_get Chg.d q k hk] at hy
  obtain ⟨_, k2, k3, k4, k5, k6, k7, k8⟩ := at_take hy
  obtain ⟨_, _, _, _, _⟩ := hy
  omega
theorem mg_apart {s t : List Chg} {b m y lab : List Byt} {fmt : Int} {out : List Byt} {z : Int} {i k : Nat} (h : mgErr s t b m y lab fmt = 0) (ha : apI b m y (normF s) (normF t) i k z out) (hi : (normF s).length ≤ i) (hk : (normF t).length ≤ k) :
    mgTxt s t b m y lab fmt = (out ++ segL b z b.length).flatten ∧ mgCl s t b m y lab fmt = 0 ∧ (out ++ segL b z b.length).flatten.length ≤ 4194304 := by
  have hc : chErr s t b m y = 0 := by
    rcases mgErr_cases s t b m y lab fmt with ⟨_, k⟩ | ⟨_, _, ⟨k, e⟩ | ⟨_, ⟨k, e⟩ | ⟨k, _⟩⟩⟩
    · omega
    · rw [h] at e; exact absurd e.symm k
    · rw [h] at e; exact absurd e.symm k
    · exact k
  obtain ⟨e1, e2⟩ := ap_end ha hi hk
  have a := mgTxt_ok h
  have l := chLst_ok hc
  unfold chAll at l
  rw [tolds_picks hc (by rw [l]; exact e2), clF_no (clash_of (by rw [l]; exact e2))] at a
  have hlen := mg_len h
  rw [a.1] at hlen
  rw [l, e1] at a hlen
  exact ⟨a.1, a.2, hlen⟩
end Go.Proofs.YtlmjkphiicmclaaDoor
