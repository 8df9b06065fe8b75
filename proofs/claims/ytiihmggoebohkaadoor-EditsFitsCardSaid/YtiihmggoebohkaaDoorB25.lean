/- Chapter 6: two scripts as one: the pairs. -/
import Derived.Test.YtiihmggoebohkaaDoorB24
namespace Go.Proofs.YtiihmggoebohkaaDoor
open Go Go.RowKit Vc

def jn : List (Int × Int) → List (Int × Int) → List (Int × Int)
  | [], _ => []
  | _ :: _, [] => []
  | p :: ps, q :: qs => if p.2 < q.1 then jn ps (q :: qs) else if p.2 > q.1 then jn (p :: ps) qs else (p.1, q.2) :: jn ps qs
termination_by p q => p.length + q.length
theorem jn_nil (p : List (Int × Int)) : jn p [] = [] := by cases p <;> simp [jn]
theorem jn_nil' (q : List (Int × Int)) : jn [] q = [] := by simp [jn]
theorem jn_cons (p q : Int × Int) (ps qs : List (Int × Int)) : jn (p :: ps) (q :: qs) = if p.2 < q.1 then jn ps (q :: qs) else if p.2 > q.1 then jn (p :: ps) qs else (p.1, q.2) :: jn ps qs := by
  rw [jn]

/-- What lies below x is let go. -/
def cut (x : Int) : List (Int × Int) → List (Int × Int)
  | [] => []
  | q :: qs => if q.1 < x then cut x qs else q :: qs
def jr : List (Int × Int) → List (Int × Int) → List (Int × Int)
  | [], _ => []
  | p :: ps, q => match cut p.2 q with
    | [] => jr ps []
    | c :: cs => if c.1 = p.2 then (p.1, c.2) :: jr ps (c :: cs) else jr ps (c :: cs)

theorem jr_skip {y : Int × Int} {q : List (Int × Int)} : ∀ (p : List (Int × Int)) (a b n m : Int), rise p a b n m → y.1 < b → jr p (y :: q) = jr p q
  | [], _, _, _, _, _, _ => rfl
  | p :: ps, a, b, n, m, ⟨_, h2, _, _, _⟩, hy => by
    simp only [jr, cut]
    rw [if_pos (by omega)]
theorem jr_nil : ∀ (p : List (Int × Int)), jr p [] = []
  | [] => rfl
  | p :: ps => by simp only [jr, cut]; exact jr_nil ps
theorem jn_jr : ∀ (p q : List (Int × Int)) (a b n m : Int), rise p a b n m → jn p q = jr p q
  | [], q, _, _, _, _, _ => by rw [jn_nil']; rfl
  | p :: ps, [], _, _, _, _, _ => by rw [jn_nil, jr_nil]
  | p :: ps, q :: qs, a, b, n, m, h => by
    have h5 := h.2.2.2.2
    rw [jn_cons]
    by_cases h1 : p.2 < q.1
    · rw [if_pos h1, jn_jr ps (q :: qs) _ _ _ _ h5]
      simp only [jr, cut]
      rw [if_neg (by omega)]
      dsimp only
      rw [if_neg (by omega)]
    · rw [if_neg h1]
      by_cases h2 : p.2 > q.1
      · rw [if_pos h2, jn_jr (p :: ps) qs _ _ _ _ h]
        simp only [jr, cut]
        rw [if_pos (by omega)]
      · rw [if_neg h2, jn_jr ps qs _ _ _ _ h5]
        simp only [jr, cut]
        rw [if_neg (by omega)]
        dsimp only
        rw [if_pos (by omega), jr_skip ps _ _ _ _ h5 (by omega)]
termination_by p q => p.length + q.length
theorem rise_jn : ∀ (p q : List (Int × Int)) (a b c d n m k : Int), rise p a b n m → rise q c d m k → rise (jn p q) a d n k
  | [], q, _, _, _, _, _, _, _, _, _ => by rw [jn_nil']; trivial
  | p :: ps, [], _, _, _, _, _, _, _, _, _ => by rw [jn_nil]; trivial
  | p :: ps, q :: qs, a, b, c, d, n, m, k, hp, hq => by
    obtain ⟨p1, p2, p3, p4, p5⟩ := hp
    obtain ⟨q1, q2, q3, q4, q5⟩ := hq
    rw [jn_cons]
    by_cases h1 : p.2 < q.1
    · rw [if_pos h1]
      exact rise_mono _ (rise_jn ps (q :: qs) _ _ _ _ n m k p5 ⟨q1, q2, q3, q4, q5⟩) (by omega) (by omega)
    · rw [if_neg h1]
      by_cases h2 : p.2 > q.1
      · rw [if_pos h2]
        exact rise_mono _ (rise_jn (p :: ps) qs _ _ _ _ n m k ⟨p1, p2, p3, p4, p5⟩ q5) (by omega) (by omega)
      · rw [if_neg h2]
        exact ⟨p1, q2, p3, q4, rise_jn ps qs _ _ _ _ n m k p5 q5⟩
termination_by p q => p.length + q.length

def joinG (s t : List Chg) (n m k : Int) : List Chg := ofG (jn (pairsF s 0 0 n) (pairsF t 0 0 m)) 0 0 n k
theorem join_of {s t : List Chg} {n m k : Int} (hs : validE s n m = 0) (ht : validE t m k = 0) : ofE (jn (pairsF s 0 0 n) (pairsF t 0 0 m)) n k = (joinG s t n m k, 0) ∧
    rise (jn (pairsF s 0 0 n) (pairsF t 0 0 m)) 0 0 n k := by
  obtain ⟨r1, r2, r3, r4, r5⟩ := valid_range hs
  obtain ⟨t1, t2, t3, t4, t5⟩ := valid_range ht
  have h1 := rise_pairs s 0 0 n m r5 (by omega) (by omega)
  have h2 := rise_pairs t 0 0 m k t5 (by omega) (by omega)
  have h3 := rise_jn _ _ _ _ _ _ _ _ _ h1 h2
  refine ⟨?_, h3⟩
  unfold ofE joinG
  rw [if_neg (by omega), ofF_rise _ _ _ _ _ _ h3, List.nil_append]
theorem jn_len : ∀ (p q : List (Int × Int)), (jn p q).length ≤ p.length
  | [], q => by rw [jn_nil']; exact Nat.le_refl _
  | p :: ps, [] => by rw [jn_nil]; simp
  | p :: ps, q :: qs => by
    rw [jn_cons]
    have h1 := jn_len ps (q :: qs)
    have h2 := jn_len (p :: ps) qs
    have h3 := jn_len ps qs
    split
    · simp only [List.length_cons]; omega
    · split
      · exact h2
      · simp only [List.length_cons]; omega
termination_by p q => p.length + q.length
end Go.Proofs.YtiihmggoebohkaaDoor
