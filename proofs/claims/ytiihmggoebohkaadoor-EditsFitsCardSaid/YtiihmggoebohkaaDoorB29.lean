/- Chapter 6: joined scripts, by the pairs that stay: put together in any order, turned round, with no changes. -/
import Derived.Test.YtiihmggoebohkaaDoorB28
namespace Go.Proofs.YtiihmggoebohkaaDoor
open Go Go.RowKit Vc

theorem rise_mem : ∀ (l : List (Int × Int)) {a b n m : Int} {p : Int × Int}, rise l a b n m → p ∈ l → a ≤ p.1 ∧ b ≤ p.2 ∧ p.1 < n ∧ p.2 < m
  | [], _, _, _, _, _, _, h => by simp at h
  | q :: r, a, b, n, m, p, ⟨h1, h2, h3, h4, h5⟩, h => by
    rcases List.mem_cons.1 h with rfl | h
    · exact ⟨h1, h2, h3, h4⟩
    · have := rise_mem r h5 h
      omega
theorem rise_ext : ∀ (l r : List (Int × Int)) {a b n m a' b' n' m' : Int}, rise l a b n m → rise r a' b' n' m' → (∀ z, z ∈ l ↔ z ∈ r) → l = r
  | [], [], _, _, _, _, _, _, _, _, _, _, _ => rfl
  | [], q :: r, _, _, _, _, _, _, _, _, _, _, h => by have := (h q).2 (by simp); simp at this
  | p :: l, [], _, _, _, _, _, _, _, _, _, _, h => by have := (h p).1 (by simp); simp at this
  | p :: l, q :: r, a, b, n, m, a', b', n', m', ⟨_, _, _, _, h5⟩, ⟨_, _, _, _, k5⟩, h => by
    have e : p = q := by
      rcases List.mem_cons.1 ((h p).1 (by simp)) with e | hp
      · exact e
      · rcases List.mem_cons.1 ((h q).2 (by simp)) with e | hq
        · exact e.symm
        · have h1 := rise_mem r k5 hp
          have h2 := rise_mem l h5 hq
          omega
    subst e
    congr 1
    refine rise_ext l r h5 k5 fun z => ⟨fun hz => ?_, fun hz => ?_⟩
    · rcases List.mem_cons.1 ((h z).1 (List.mem_cons_of_mem _ hz)) with e | hr
      · subst e; have := rise_mem l h5 hz; omega
      · exact hr
    · rcases List.mem_cons.1 ((h z).2 (List.mem_cons_of_mem _ hz)) with e | hl
      · subst e; have := rise_mem r k5 hz; omega
      · exact hl
theorem mem_jn : ∀ (p q : List (Int × Int)) {a b n m c d k l : Int} (z : Int × Int), rise p a b n m → rise q c d k l → (z ∈ jn p q ↔ ∃ y, (z.1, y) ∈ p ∧ (y, z.2) ∈ q)
  | [], q, _, _, _, _, _, _, _, _, z, _, _ => by rw [jn_nil']; simp
  | p :: ps, [], _, _, _, _, _, _, _, _, z, _, _ => by rw [jn_nil]; simp
  | p :: ps, q :: qs, a, b, n, m, c, d, k, l, z, hp, hq => by
    have p5 := hp.2.2.2.2
    have q5 := hq.2.2.2.2
    have hP : ∀ y, (z.1, y) ∈ ps → p.2 + 1 ≤ y := fun y h => (rise_mem ps p5 h).2.1
    have hQ : ∀ y, (y, z.2) ∈ qs → q.1 + 1 ≤ y := fun y h => (rise_mem qs q5 h).1
    rw [jn_cons]
    by_cases h1 : p.2 < q.1
    · rw [if_pos h1, mem_jn ps (q :: qs) z p5 hq]
      refine ⟨fun ⟨y, g1, g2⟩ => ⟨y, List.mem_cons_of_mem _ g1, g2⟩, fun ⟨y, g1, g2⟩ => ?_⟩
      rcases List.mem_cons.1 g1 with e | g1
      · subst e
        rcases List.mem_cons.1 g2 with e | g2
        · subst e; dsimp only at h1; omega
        · have := hQ _ g2; dsimp only at h1; omega
      · exact ⟨y, g1, g2⟩
    · rw [if_neg h1]
      by_cases h2 : p.2 > q.1
      · rw [if_pos h2, mem_jn (p :: ps) qs z hp q5]
        refine ⟨fun ⟨y, g1, g2⟩ => ⟨y, g1, List.mem_cons_of_mem _ g2⟩, fun ⟨y, g1, g2⟩ => ?_⟩
        rcases List.mem_cons.1 g2 with e | g2
        · subst e
          rcases List.mem_cons.1 g1 with e | g1
          · subst e; dsimp only at h2; omega
          · have := hP _ g1; dsimp only at h2; omega
        · exact ⟨y, g1, g2⟩
      · rw [if_neg h2, List.mem_cons, mem_jn ps qs z p5 q5]
        constructor
        · rintro (e | ⟨y, g1, g2⟩)
          · subst e
            have e2 : p.2 = q.1 := by omega
            exact ⟨p.2, by simp, by rw [e2]; simp⟩
          · exact ⟨y, List.mem_cons_of_mem _ g1, List.mem_cons_of_mem _ g2⟩
        · rintro ⟨y, g1, g2⟩
          rcases List.mem_cons.1 g1 with e | g1
          · rcases List.mem_cons.1 g2 with e' | g2
            · subst e; subst e'; exact .inl rfl
            · subst e; have := hQ _ g2; dsimp only at h1 h2; omega
          · rcases List.mem_cons.1 g2 with e' | g2
            · subst e'; have := hP _ g1; dsimp only at h1 h2; omega
            · exact .inr ⟨y, g1, g2⟩
termination_by p q => p.length + q.length

theorem jn_assoc {p q r : List (Int × Int)} {n m k l : Int} (hp : rise p 0 0 n m) (hq : rise q 0 0 m k) (hr : rise r 0 0 k l) : jn (jn p q) r = jn p (jn q r) := by
  have h1 := rise_jn _ _ _ _ _ _ _ _ _ hp hq
  have h2 := rise_jn _ _ _ _ _ _ _ _ _ hq hr
  refine rise_ext _ _ (rise_jn _ _ _ _ _ _ _ _ _ h1 hr) (rise_jn _ _ _ _ _ _ _ _ _ hp h2) fun z => ?_
  rw [mem_jn _ _ z h1 hr, mem_jn _ _ z hp h2]
  constructor
  · rintro ⟨y, g1, g2⟩
    obtain ⟨x, g3, g4⟩ := (mem_jn _ _ _ hp hq).1 g1
    exact ⟨x, g3, (mem_jn _ _ _ hq hr).2 ⟨y, g4, g2⟩⟩
  · rintro ⟨x, g1, g2⟩
    obtain ⟨y, g3, g4⟩ := (mem_jn _ _ _ hq hr).1 g2
    exact ⟨y, (mem_jn _ _ _ hp hq).2 ⟨x, g1, g3⟩, g4⟩

abbrev swp (p : Int × Int) : Int × Int := (p.2, p.1)
theorem swp_swp (p : Int × Int) : swp (swp p) = p := rfl
theorem mem_swp {l : List (Int × Int)} {x y : Int} : (x, y) ∈ l.map swp ↔ (y, x) ∈ l := by
  constructor
  · intro h
    obtain ⟨p, h1, h2⟩ := List.mem_map.1 h
    cases p
    simp [swp] at h2
    obtain ⟨rfl, rfl⟩ := h2
    exact h1
  · intro h
    exact List.mem_map.2 ⟨(y, x), h, rfl⟩
theorem rise_swp : ∀ (l : List (Int × Int)) {a b n m : Int}, rise l a b n m → rise (l.map swp) b a m n
  | [], _, _, _, _, _ => trivial
  | _ :: r, _, _, _, _, ⟨h1, h2, h3, h4, h5⟩ => ⟨h2, h1, h4, h3, rise_swp r h5⟩
theorem diag_swp : ∀ (c : Nat) (a b : Int), (diag a b c).map swp = diag b a c
  | 0, _, _ => rfl
  | c + 1, a, b => by simp only [diag, List.map_cons, diag_swp c]
theorem pairs_inv : ∀ (s : List Chg) (a b n m : Int), validF s a b n m = 0 → pairsF (s.map Chg.inv) b a m = (pairsF s a b n).map swp
  | [], a, b, n, m, h => by
    have := valid_nil h
    simp only [List.map_nil, pairsF]
    rw [diag_swp, this]
  | c :: r, a, b, n, m, h => by
    obtain ⟨hb, hv⟩ := valid_cons h
    unfold bad at hb
    have ih := pairs_inv r _ _ n m hv
    simp only [List.map_cons, pairsF, List.map_append, diag_swp]
    rw [← ih]
    rw [show c.B - b = c.A - a from by omega]
theorem ofG_swp : ∀ (l : List (Int × Int)) (a b n m : Int), ofG (l.map swp) b a m n = (ofG l a b n m).map Chg.inv
  | [], a, b, n, m => by
    simp only [List.map_nil, ofG]
    by_cases h : n > a ∨ m > b
    · rw [if_pos h, if_pos h.symm]; rfl
    · rw [if_neg h, if_neg fun k => h k.symm]; rfl
  | p :: r, a, b, n, m => by
    have ih := ofG_swp r (p.1 + 1) (p.2 + 1) n m
    simp only [List.map_cons, ofG, List.map_append]
    rw [← ih]
    congr 1
    by_cases h : p.1 > a ∨ p.2 > b
    · rw [if_pos h, if_pos h.symm]; rfl
    · rw [if_neg h, if_neg fun k => h k.symm]; rfl
theorem jn_swp {p q : List (Int × Int)} {n m k : Int} (hp : rise p 0 0 n m) (hq : rise q 0 0 m k) : jn (q.map swp) (p.map swp) = (jn p q).map swp := by
  have h1 := rise_swp _ hp
  have h2 := rise_swp _ hq
  refine rise_ext _ _ (rise_jn _ _ _ _ _ _ _ _ _ h2 h1) (rise_swp _ (rise_jn _ _ _ _ _ _ _ _ _ hp hq)) fun z => ?_
  obtain ⟨x, y⟩ := z
  rw [mem_jn _ _ _ h2 h1, mem_swp, mem_jn _ _ _ hp hq]
  dsimp only
  exact ⟨fun ⟨w, g1, g2⟩ => ⟨w, mem_swp.1 g2, mem_swp.1 g1⟩, fun ⟨w, g1, g2⟩ => ⟨w, mem_swp.2 g2, mem_swp.2 g1⟩⟩
theorem jn_id {p : List (Int × Int)} {n m : Int} (hp : rise p 0 0 n m) (hm : 0 ≤ m) : jn p (diag 0 0 m.toNat) = p := by
  have hd : rise (diag 0 0 m.toNat) 0 0 m m := by
    have h := rise_diag (n := m) (m := m) (L := []) m.toNat 0 0 (by omega) (by omega) trivial
    rwa [List.append_nil] at h
  refine rise_ext _ _ (rise_jn _ _ _ _ _ _ _ _ _ hp hd) hp fun z => ?_
  obtain ⟨x, y⟩ := z
  rw [mem_jn _ _ _ hp hd]
  dsimp only
  constructor
  · rintro ⟨w, g1, g2⟩
    have := diag_mem _ _ _ _ g2
    dsimp only at this
    obtain rfl : w = y := by omega
    exact g1
  · intro h
    have hb := rise_mem p hp h
    dsimp only at hb
    refine ⟨y, h, ?_⟩
    have := diag_get m.toNat 0 0 y.toNat (by omega)
    rwa [show (0 : Int) + (y.toNat : Int) = y from by omega] at this
end Go.Proofs.YtiihmggoebohkaaDoor
