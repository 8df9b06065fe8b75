/- Chapter 1: the law of texts without tabulators, walked. -/
import Derived.Test.YtcfpbcnledjnoaaDoorE1
namespace Go.Proofs.YtcfpbcnledjnoaaDoor
open Go Go.RowKit Vc

set_option maxRecDepth 100000 in
set_option maxHeartbeats 4000000 in
theorem exp_arg (s : Byt) (w : Int) (hw : w < 1 ∨ w > 255) : Con Tryd.prog glob 4 [str s, .v (.int .i64 w)] [] 0 (retV 0 (.t [str [], .v (.iface 31 (.int .i64 1))])) := by
  refine spec_intro (tab := tab) (N := 58) Tryd.func4 rfl rfl tab_ok mix rfl rfl _ rfl ?_
  intro B hG
  repeat' (first | refine And.intro (by first | omega | (dsimp only; omega) | (show (_ : Bool) = true; kernel_rfl) | decide | (repeat' (first | refine And.intro ?_ ?_ | exact trivial | exact rfl))) ?_ | refine bcs_dec (fun h => ?_) (fun h => False.elim (by first | omega | exact h rfl)) | refine bcs_dec (fun h => False.elim (by omega)) (fun h => ?_) | refine bcs_dec (fun h => ?_) (fun h => ?_) | refine bcs_ndec (fun h => ?_) (fun h => ?_) | refine bcs_not ?_ | refine bcs_intro (fun h => ?_) (fun h => ?_) | refine And.intro ?_ ?_ | refine reg_tail (by kernel_rfl) ?_)
  all_goals first
    | (exfalso; omega)
    | (refine ret_plain ?_
       repeat' (first | refine And.intro ?_ ?_ | exact trivial)
       all_goals exact rfl
       done)

theorem exp_none {w : Nat} (h1 : 1 ≤ w) (h2 : w ≤ 255) : ∀ (r out : Byt) (col : Nat), col ≤ out.length → expG w r out col = none → out.length + 255 * r.length > 4194304
  | [], _, _, _, h => by cases h
  | c :: r, out, col, hc, h => by
    obtain ⟨k1, k2, k3⟩ := expN_len h1 out col c hc
    simp only [expG] at h
    simp only [List.length_cons]
    split at h
    · omega
    · have := exp_none h1 h2 r _ _ k3 h
      omega
theorem exp_all {w : Nat} (h1 : 1 ≤ w) : ∀ (r out : Byt) (col : Nat) (t : Byt), col ≤ out.length → out.length ≤ 4194304 → expG w r out col = some t →
    out.length + r.length ≤ t.length ∧ t.length ≤ 4194304 ∧ t.count 10 = out.count 10 + r.count 10 ∧ ((9 : UInt8) ∉ out → (9 : UInt8) ∉ t) ∧ (t.getLast? = some 10 ↔ (if r = [] then out.getLast? = some 10 else r.getLast? = some 10))
  | [], out, _, t, _, hl, h => by
    simp only [expG, Option.some.injEq] at h
    subst h
    exact ⟨by simp, hl, by simp, fun h => h, by simp⟩
  | c :: r, out, col, t, hc, _, h => by
    obtain ⟨k1, k2, k3⟩ := expN_len h1 out col c hc
    simp only [expG] at h
    split at h
    · cases h
    · rename_i hle
      obtain ⟨g1, g2, g3, g4, g5⟩ := exp_all h1 r _ _ t k3 (by omega) h
      have e1 : (expN w out col c).1.count 10 = out.count 10 + [c].count 10 := by
        unfold expN
        by_cases a : c = 10
        · rw [if_pos a, a, List.count_append]
        · rw [if_neg a]
          by_cases b : c = 9
          · rw [if_pos b, b, List.count_append]
            have : (List.replicate (w - col % w) (32 : UInt8)).count 10 = 0 := List.count_eq_zero.2 (by simp)
            rw [this]; rfl
          · rw [if_neg b, List.count_append]
      have e2 : (9 : UInt8) ∉ out → (9 : UInt8) ∉ (expN w out col c).1 := by
        intro hn
        unfold expN
        by_cases a : c = 10
        · rw [if_pos a]; simp [hn]
        · rw [if_neg a]
          by_cases b : c = 9
          · rw [if_pos b]; simp [hn]
          · rw [if_neg b]; simp [hn, Ne.symm b]
      have e3 : (expN w out col c).1.getLast? = some 10 ↔ c = 10 := by
        have hm : col % w < w := Nat.mod_lt _ (by omega)
        unfold expN
        by_cases a : c = 10
        · rw [if_pos a]; simp [a]
        · rw [if_neg a]
          by_cases b : c = 9
          · rw [if_pos b]
            obtain ⟨n, hn⟩ : ∃ n, w - col % w = n + 1 := ⟨w - col % w - 1, by omega⟩
            rw [hn, List.replicate_succ', ← List.append_assoc]
            simp [a]
          · rw [if_neg b]; simp
      refine ⟨by simp only [List.length_cons]; omega, g2, ?_, fun hn => g4 (e2 hn), ?_⟩
      · rw [g3, e1, show c :: r = [c] ++ r from rfl, List.count_append]; omega
      · rw [g5, if_neg (by simp : c :: r ≠ [])]
        cases r with
        | nil => simp [e3]
        | cons d q => simp [List.getLast?_cons_cons]
theorem exp_fix {w : Nat} : ∀ (r out : Byt) (col : Nat), (9 : UInt8) ∉ r → out.length + r.length ≤ 4194304 → expG w r out col = some (out ++ r)
  | [], out, _, _, _ => by simp [expG]
  | c :: r, out, col, hn, hl => by
    simp only [List.mem_cons, not_or] at hn
    simp only [List.length_cons] at hl
    have e : (expN w out col c).1 = out ++ [c] := by
      unfold expN
      by_cases a : c = 10
      · rw [if_pos a, a]
      · rw [if_neg a, if_neg fun b => hn.1 b.symm]
    simp only [expG]
    rw [e, if_neg (by simp; omega), exp_fix r _ _ hn.2 (by simp; omega)]
    simp
theorem exp_lines {w : Nat} (h1 : 1 ≤ w) {s t : Byt} (h : expG w s [] 0 = some t) : s.length ≤ t.length ∧ t.length ≤ 4194304 ∧ (9 : UInt8) ∉ t ∧ (splitF t).length = (splitF s).length := by
  obtain ⟨g1, g2, g3, g4, g5⟩ := exp_all h1 s [] 0 t (by simp) (by simp) h
  refine ⟨by simpa using g1, g2, g4 (by simp), ?_⟩
  rw [count_eq, count_eq, g3, whole_last, whole_last]
  have e1 : t = [] ↔ s = [] := by
    constructor
    · intro e
      rw [e] at g1
      exact List.eq_nil_of_length_eq_zero (by simp only [List.length_nil] at g1; omega)
    · intro e
      rw [e] at h
      simp [expG] at h
      exact h
  by_cases hs : s = []
  · have ht := e1.2 hs
    subst hs
    subst ht
    rfl
  · rw [if_neg hs] at g5
    have ht : t ≠ [] := fun e => hs (e1.1 e)
    simp only [ne_eq, hs, ht, not_false_iff, true_and, decide_eq_false_iff_not, g5, List.count_nil, Nat.zero_add]
end Go.Proofs.YtcfpbcnledjnoaaDoor
