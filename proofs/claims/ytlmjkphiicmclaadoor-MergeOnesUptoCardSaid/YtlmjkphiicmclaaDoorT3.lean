/- Chapter 18: merged with no change a text is itself; the same change twice is one. -/
import Derived.Test.YtlmjkphiicmclaaDoorT2
namespace Go.Proofs.YtlmjkphiicmclaaDoor
open Go Go.RowKit Vc

theorem seg_drop (m : List Byt) {u v : Int} (h1 : 0 ≤ u) (h2 : u ≤ v) : segL m u v ++ m.drop v.toNat = m.drop u.toNat := by
  obtain ⟨i, rfl⟩ : ∃ i : Nat, u = i := ⟨u.toNat, by omega⟩
  obtain ⟨j, rfl⟩ : ∃ j : Nat, v = ((i + j : Nat) : Int) := ⟨v.toNat - i, by omega⟩
  unfold segL
  rw [Int.toNat_natCast, Int.toNat_natCast, show i + j - i = j by omega, ← List.drop_drop, List.take_append_drop]
theorem cov_picks {b m y : List Byt} : ∀ (l : List Chk) (z u v : Int), 0 ≤ u → covF b m y l z u v → (∀ c ∈ l, c.k ≠ 3) → picksF m y l = m.drop u.toNat
  | [], z, u, v, hu, ⟨_, h, _⟩, _ => by
    subst h
    rw [Int.toNat_natCast, List.drop_length]; rfl
  | c :: r, z, u, v, hu, ⟨e1, e2, e3, p1, p2, p3, _, q1, q2, q3, _, _, _, hr⟩, hk => by
    show pickF m y c ++ picksF m y r = _
    rw [cov_picks r _ _ _ (by omega) hr (fun x hx => hk x (List.mem_cons_of_mem _ hx))]
    unfold pickF
    rw [if_neg (hk c (List.mem_cons_self ..)), e2]
    exact seg_drop m hu (by omega)
theorem chF_mine {n : Int} {mine yours : List Byt} : ∀ (k : Nat) (p : List Chg) (z mx my : Int), ∀ c ∈ chF n mine yours k p [] z mx my, c.k = 1 ∨ c.k = 2
  | 0, _, _, _, _ => fun c hc => by cases hc
  | k + 1, p, z, mx, my => by
    intro c hc
    have hl := (gth_len (p.length + ([] : List Chg).length) ⟨p, [], min (nxt p n) (nxt [] n), mx, my⟩).2
    simp only [chF] at hc
    generalize gth (p.length + ([] : List Chg).length) ⟨p, [], min (nxt p n) (nxt [] n), mx, my⟩ = g at *
    have hq : g.q = [] := List.length_eq_zero_iff.1 (Nat.le_zero.1 hl)
    rcases List.mem_append.1 hc with hc | hc
    · split at hc
      · rw [List.mem_singleton.1 hc]; exact Or.inl rfl
      · cases hc
    · split at hc
      · cases hc
      · rcases List.mem_cons.1 hc with rfl | hc
        · right
          show kindC mine yours p [] _ mx my g = 2
          unfold kindC
          rw [hq, if_pos rfl]
        · rw [hq] at hc
          exact chF_mine k _ _ _ _ c hc
theorem gth_twin {k : Nat} {p : List Chg} {f mx : Int} (hk : p.length + p.length ≤ k) : (gth k ⟨p, p, f, mx, mx⟩).q = (gth k ⟨p, p, f, mx, mx⟩).p ∧ (gth k ⟨p, p, f, mx, mx⟩).my = (gth k ⟨p, p, f, mx, mx⟩).mx := by
  have h : gth k ⟨p, p, f, mx, mx⟩ = (gth k ⟨p, p, f, mx, mx⟩).turn := gth_turn k ⟨p, p, f, mx, mx⟩ hk
  exact ⟨congrArg GS.q h, congrArg GS.my h⟩
theorem chF_twin {n : Int} {mine : List Byt} : ∀ (k : Nat) (p : List Chg) (z mx : Int), (∀ c ∈ p, c.A ≤ n) → ∀ c ∈ chF n mine mine k p p z mx mx, c.k = 1 ∨ c.k = 4
  | 0, _, _, _, _ => fun c hc => by cases hc
  | k + 1, p, z, mx, hp => by
    intro c hc
    have hl := gth_less (mx := mx) (my := mx) hp hp
    have ht := gth_twin (k := p.length + p.length) (p := p) (f := min (nxt p n) (nxt p n)) (mx := mx) (Nat.le_refl _)
    have hm := (gth_mem (p.length + p.length) ⟨p, p, min (nxt p n) (nxt p n), mx, mx⟩).1
    simp only [chF] at hc
    generalize gth (p.length + p.length) ⟨p, p, min (nxt p n) (nxt p n), mx, mx⟩ = g at *
    obtain ⟨ht1, ht2⟩ := ht
    rcases List.mem_append.1 hc with hc | hc
    · split at hc
      · rw [List.mem_singleton.1 hc]; exact Or.inl rfl
      · cases hc
    · split at hc
      · cases hc
      · rename_i h0
        have hl := hl h0
        rw [ht1] at hl
        rcases List.mem_cons.1 hc with rfl | hc
        · right
          show kindC mine mine p p _ mx mx g = 4
          unfold kindC
          rw [ht1, ht2, if_neg (by omega), if_neg (by omega), if_pos rfl]
        · rw [ht1, ht2] at hc
          exact chF_twin k _ _ _ (fun x hx => hp x (hm x hx)) c hc
theorem chLst_adj {s t : List Chg} {b m y : List Byt} (h : chErr s t b m y = 0) : adjF (chLst s t b m y) := by
  rw [chLst_ok h]
  obtain ⟨_, _, _, h1, h2, _, _⟩ := chErr_zero.1 h
  obtain ⟨_, _, _, _, w1⟩ := valid_range (norm_validE h1)
  obtain ⟨_, _, _, _, w2⟩ := valid_range (norm_validE h2)
  exact chF_adj _ _ _ 0 0 0 ⟨w1, by omega, by omega, by omega, by omega⟩ ⟨w2, by omega, by omega, by omega, by omega⟩
/-- Without a clash the text is what is picked. -/
theorem tolds_picks {s t : List Chg} {b m y lab : List Byt} {fmt : Int} (h : chErr s t b m y = 0) (hk : ∀ c ∈ chLst s t b m y, c.k ≠ 5) : toldsF b m y lab fmt (chLst s t b m y) = (picksF m y (chLst s t b m y)).flatten := by
  obtain ⟨vb, vm, vy, hc⟩ := chLst_cov h
  rw [← tells_flat (valid_NE vb) (valid_NE vm) (valid_NE vy), tells_picks vb vm vy _ 0 0 0 (by decide) (by decide) (by decide) hc (chLst_adj h) hk]
theorem clash_of {l : List Chk} (h : ∀ c ∈ l, c.k ≠ 5) : clashF l = false := List.any_eq_false.2 fun c hc k => h c hc (of_decide_eq_true k)
theorem norm_nil : normF [] = [] := rfl
/-- One changed it: the text is the changed one. -/
theorem mg_one {s : List Chg} {b m lab : List Byt} {fmt : Int} (h : chErr s [] b m b = 0) : clashF (chLst s [] b m b) = false ∧ toldsF b m b lab fmt (chLst s [] b m b) = m.flatten := by
  have hk : ∀ c ∈ chLst s [] b m b, c.k = 1 ∨ c.k = 2 := by
    rw [chLst_ok h]
    unfold chAll
    rw [norm_nil]
    exact chF_mine _ _ _ _ _
  have h5 : ∀ c ∈ chLst s [] b m b, c.k ≠ 5 := fun c hc => by have := hk c hc; omega
  refine ⟨clash_of h5, ?_⟩
  rw [tolds_picks h h5, cov_picks _ 0 0 0 (by decide) (chLst_cov h).2.2.2 (fun c hc => by have := hk c hc; omega)]
  rfl
/-- Both changed it alike. -/
theorem mg_twin {s : List Chg} {b m lab : List Byt} {fmt : Int} (h : chErr s [] b m b = 0) : chErr s s b m m = 0 ∧ clashF (chLst s s b m m) = false ∧ toldsF b m m lab fmt (chLst s s b m m) = m.flatten := by
  obtain ⟨vb, vm, _, h1, _, h2, _⟩ := chErr_zero.1 h
  have h : chErr s s b m m = 0 := chErr_zero.2 ⟨vb, vm, vm, h1, h1, h2, h2⟩
  have hk : ∀ c ∈ chLst s s b m m, c.k = 1 ∨ c.k = 4 := by
    rw [chLst_ok h]
    unfold chAll
    exact chF_twin _ _ _ _ (le_norm h1)
  have h5 : ∀ c ∈ chLst s s b m m, c.k ≠ 5 := fun c hc => by have := hk c hc; omega
  refine ⟨h, clash_of h5, ?_⟩
  rw [tolds_picks h h5, cov_picks _ 0 0 0 (by decide) (chLst_cov h).2.2.2 (fun c hc => by have := hk c hc; omega)]
  rfl
theorem clF_no {fmt : Int} : ∀ {l : List Chk}, clashF l = false → clF fmt l = 0
  | [], _ => rfl
  | c :: r, h => by
    have h5 := clash_no h
    show (if c.k = 5 ∧ fmt < 3 then (1 : Int) else 0) + clF fmt r = 0
    rw [clF_no (clash_of fun x hx => h5 x (List.mem_cons_of_mem _ hx)), if_neg fun k => h5 c (List.mem_cons_self ..) k.1]
    rfl
/-- All of the statement: merged with no change, either way, and the same change twice. -/
theorem mg_ones {s : List Chg} {b m lab : List Byt} (hl : labE lab = 0) (h : mgErr s [] b m b lab 1 = 0) :
    (mgTxt s [] b m b lab 1 = m.flatten ∧ mgCl s [] b m b lab 1 = 0) ∧ (mgErr [] s b b m lab 2 = 0 ∧ mgTxt [] s b b m lab 2 = m.flatten ∧ mgCl [] s b b m lab 2 = 0) ∧ (mgErr s s b m m lab 1 = 0 ∧ mgTxt s s b m m lab 1 = m.flatten ∧ mgCl s s b m m lab 1 = 0) := by
  have hc : chErr s [] b m b = 0 := by
    rcases mgErr_cases s [] b m b lab 1 with ⟨k, _⟩ | ⟨_, _, ⟨k, _⟩ | ⟨_, ⟨k, e⟩ | ⟨k, _⟩⟩⟩
    · omega
    · exact absurd hl k
    · rw [h] at e; exact absurd e.symm k
    · exact k
  obtain ⟨n1, t1⟩ := mg_one (lab := lab) (fmt := 1) hc
  obtain ⟨c3, n3, t3⟩ := mg_twin (lab := lab) (fmt := 1) hc
  have hc2 : chErr [] s b b m = 0 := chErr_turn.2 hc
  have n2 : clashF (chLst [] s b b m) = false := by
    rw [chLst_turn hc]
    refine clash_of fun c hx => ?_
    obtain ⟨d, hd, rfl⟩ := List.mem_map.1 hx
    have := clash_no n1 d hd
    show turnK d.k ≠ 5
    unfold turnK
    split
    · decide
    · split
      · decide
      · exact this
  have g := mg_turn (lab := lab) (fmt := 1) hc (fun k => Or.inl rfl)
  have f := mg_fmt (f := 2) (g := 1) hc2 hl (by decide) (by decide) (by decide) (by decide) n2
  have a1 := mgTxt_ok h
  rw [t1, clF_no n1] at a1
  have e2 : mgErr [] s b b m lab 2 = 0 := by rw [f.1, g.1, h]
  have a2 := mgTxt_ok e2
  rw [clF_no n2] at a2
  have hlen := mg_err2 (lab := lab) (fmt := 1) hc hl (by decide) (by decide)
  rw [h, t1] at hlen
  have e3 : mgErr s s b m m lab 1 = 0 := by rw [mg_err2 c3 hl (by decide) (by decide), t3]; exact hlen.symm
  have a3 := mgTxt_ok e3
  rw [t3, clF_no n3] at a3
  exact ⟨a1, ⟨e2, by rw [f.2, g.2 n1, a1.1], a2.2⟩, e3, a3.1, a3.2⟩
end Go.Proofs.YtlmjkphiicmclaaDoor
