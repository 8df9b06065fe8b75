/- Chapter 1: two lists of strings held against each other; a line's end; how many lines. -/
import Derived.Test.YtcfpbcnledjnoaaDoorS3
namespace Go.Proofs.YtcfpbcnledjnoaaDoor
open Go Go.RowKit Vc

/-- Has a line its end? -/
def wholeF (l : Byt) : Bool := Lib.hasSuffix l [10]
def bareF (l : Byt) : Byt := Lib.trimSuffix l [10]
theorem whole_con (l : Byt) (hl : l.length ≤ 9223372036854775807) : Con Tryd.prog glob 19 [str l] [] 0 (retV 0 (.v (.bool (wholeF l)))) := by
  have h := suf_con l hl
  refine spec_intro (tab := tab) (N := 5) Tryd.func19 rfl rfl tab_ok mix rfl rfl _ rfl ?_
  intro B hG
  repeat' (first | refine And.intro (by first | omega | (dsimp only; omega) | (show (_ : Bool) = true; kernel_rfl) | decide | (repeat' (first | refine And.intro ?_ ?_ | exact trivial | exact rfl))) ?_ | refine bcs_dec (fun h => ?_) (fun h => ?_) | refine bcs_ndec (fun h => ?_) (fun h => ?_) | refine bcs_not ?_ | refine bcs_intro (fun h => ?_) (fun h => ?_) | refine And.intro ?_ ?_ | refine reg_tail (by kernel_rfl) ?_)
  refine call_rule [] (h) hG ?_ ?_
  · (refine ⟨?_, ?_, rfl, rfl, rfl⟩ <;> repeat' (first | refine And.intro ?_ ?_ | exact trivial | exact rfl | refine lt0 | refine lt1 ?_ | refine lt2 ?_ ?_ | refine lt3 ?_ ?_ ?_ | refine lt4 ?_ ?_ ?_ ?_ | exact veq_refl _ | decide | (intro i hi; repeat' (first | refine And.intro ?_ ?_ | exact trivial | exact rfl))))
    all_goals first | exact Nat.le_refl _ | omega
  rintro _ _ _ ⟨rfl, rfl, rfl⟩
  repeat' (first | refine And.intro (by first | omega | (dsimp only; omega) | (show (_ : Bool) = true; kernel_rfl) | decide | (repeat' (first | refine And.intro ?_ ?_ | exact trivial | exact rfl))) ?_ | refine bcs_dec (fun h => ?_) (fun h => ?_) | refine bcs_ndec (fun h => ?_) (fun h => ?_) | refine bcs_not ?_ | refine bcs_intro (fun h => ?_) (fun h => ?_) | refine And.intro ?_ ?_ | refine reg_tail (by kernel_rfl) ?_)
  refine ret_plain ?_
  exact rfl
theorem bare_con (l : Byt) (hl : l.length ≤ 9223372036854775807) : Con Tryd.prog glob 18 [str l] [] 0 (retV 0 (str (bareF l))) := by
  have h := trs_con l hl
  refine spec_intro (tab := tab) (N := 5) Tryd.func18 rfl rfl tab_ok mix rfl rfl _ rfl ?_
  intro B hG
  repeat' (first | refine And.intro (by first | omega | (dsimp only; omega) | (show (_ : Bool) = true; kernel_rfl) | decide | (repeat' (first | refine And.intro ?_ ?_ | exact trivial | exact rfl))) ?_ | refine bcs_dec (fun h => ?_) (fun h => ?_) | refine bcs_ndec (fun h => ?_) (fun h => ?_) | refine bcs_not ?_ | refine bcs_intro (fun h => ?_) (fun h => ?_) | refine And.intro ?_ ?_ | refine reg_tail (by kernel_rfl) ?_)
  refine call_rule [] (h) hG ?_ ?_
  · (refine ⟨?_, ?_, rfl, rfl, rfl⟩ <;> repeat' (first | refine And.intro ?_ ?_ | exact trivial | exact rfl | refine lt0 | refine lt1 ?_ | refine lt2 ?_ ?_ | refine lt3 ?_ ?_ ?_ | refine lt4 ?_ ?_ ?_ ?_ | exact veq_refl _ | decide | (intro i hi; repeat' (first | refine And.intro ?_ ?_ | exact trivial | exact rfl))))
    all_goals first | exact Nat.le_refl _ | omega
  rintro _ _ _ ⟨rfl, rfl, rfl⟩
  repeat' (first | refine And.intro (by first | omega | (dsimp only; omega) | (show (_ : Bool) = true; kernel_rfl) | decide | (repeat' (first | refine And.intro ?_ ?_ | exact trivial | exact rfl))) ?_ | refine bcs_dec (fun h => ?_) (fun h => ?_) | refine bcs_ndec (fun h => ?_) (fun h => ?_) | refine bcs_not ?_ | refine bcs_intro (fun h => ?_) (fun h => ?_) | refine And.intro ?_ ?_ | refine reg_tail (by kernel_rfl) ?_)
  refine ret_plain ?_
  exact rfl
theorem whole_eq (l : Byt) : wholeF l = decide (0 < l.length ∧ l.getD (l.length - 1) 0 = 10) := by
  unfold wholeF Lib.hasSuffix
  rcases List.eq_nil_or_concat l with rfl | ⟨q, c, rfl⟩
  · rfl
  · have e : ([10] : Byt).isSuffixOf (q ++ [c]) = decide (c = 10) := by
      simp only [List.isSuffixOf, List.reverse_append, List.reverse_cons, List.reverse_nil, List.nil_append, List.cons_append, List.isPrefixOf]
      by_cases h : c = 10
      · simp [h]
      · simp [h, Ne.symm h]
    rw [List.concat_eq_append, e]
    by_cases h : c = 10 <;> simp [h]
theorem bare_eq (l : Byt) : bareF l = if wholeF l then l.take (l.length - 1) else l := rfl

theorem whole_last (l : Byt) : wholeF l = decide (l.getLast? = some 10) := by
  rw [whole_eq]
  rcases List.eq_nil_or_concat l with rfl | ⟨q, c, rfl⟩
  · rfl
  · by_cases h : c = 10 <;> simp [h]
theorem count_ne : ∀ (r cur : Byt), r ≠ [] → (splitG r cur).length = r.count 10 + (if r.getLast? = some 10 then 0 else 1)
  | [], _, h => absurd rfl h
  | [c], cur, _ => by
    simp only [splitG]
    by_cases h : c = 10
    · rw [if_pos h]; simp [h]
    · rw [if_neg h, splitG_end (by simp)]; simp [h]
  | c :: d :: r, cur, _ => by
    have e : (c :: d :: r).getLast? = (d :: r).getLast? := by simp [List.getLast?_cons_cons]
    rw [e, splitG]
    by_cases h : c = 10
    · rw [if_pos h, List.length_cons, count_ne (d :: r) [] (by simp), h, List.count_cons_self]; omega
    · rw [if_neg h, count_ne (d :: r) (cur ++ [c]) (by simp), List.count_cons_of_ne h]
theorem count_eq (l : Byt) : (splitF l).length = l.count 10 + (if l ≠ [] ∧ wholeF l = false then 1 else 0) := by
  by_cases h : l = []
  · subst h; rfl
  · rw [splitF, count_ne l [] h, whole_last]
    by_cases k : l.getLast? = some 10 <;> simp [h, k]

set_option maxRecDepth 100000 in
set_option maxHeartbeats 4000000 in
theorem count_con (l : Byt) (hl : l.length ≤ 4194304) : Con Tryd.prog glob 20 [str l] [] 0 (retV 0 (.v (.int .i64 ((splitF l).length : Int)))) := by
  have hc := cnt_con l
  have hw := whole_con l (by omega)
  have hn : l.count 10 ≤ l.length := List.count_le_length
  have he := count_eq l
  refine spec_intro (tab := tab) (N := 16) Tryd.func20 rfl rfl tab_ok mix rfl rfl _ rfl ?_
  intro B hG
  repeat' (first | refine And.intro (by first | omega | (dsimp only; omega) | (show (_ : Bool) = true; kernel_rfl) | decide | (repeat' (first | refine And.intro ?_ ?_ | exact trivial | exact rfl))) ?_ | refine bcs_dec (fun h => ?_) (fun h => ?_) | refine bcs_ndec (fun h => ?_) (fun h => ?_) | refine bcs_not ?_ | refine bcs_intro (fun h => ?_) (fun h => ?_) | refine And.intro ?_ ?_ | refine reg_tail (by kernel_rfl) ?_)
  refine call_rule [] (hc) hG ?_ ?_
  · (refine ⟨?_, ?_, rfl, rfl, rfl⟩ <;> repeat' (first | refine And.intro ?_ ?_ | exact trivial | exact rfl | refine lt0 | refine lt1 ?_ | refine lt2 ?_ ?_ | refine lt3 ?_ ?_ ?_ | refine lt4 ?_ ?_ ?_ ?_ | exact veq_refl _ | decide | (intro i hi; repeat' (first | refine And.intro ?_ ?_ | exact trivial | exact rfl))))
    all_goals first | exact Nat.le_refl _ | omega
  rintro _ _ _ ⟨rfl, rfl, rfl⟩
  repeat' (first | refine And.intro (by first | omega | (dsimp only; omega) | (show (_ : Bool) = true; kernel_rfl) | decide | (repeat' (first | refine And.intro ?_ ?_ | exact trivial | exact rfl))) ?_ | refine bcs_dec (fun h => ?_) (fun h => ?_) | refine bcs_ndec (fun h => ?_) (fun h => ?_) | refine bcs_not ?_ | refine bcs_intro (fun h => ?_) (fun h => ?_) | refine And.intro ?_ ?_ | refine reg_tail (by kernel_rfl) ?_)
  · have := nil_of h
    subst this
    refine ret_plain ?_
    exact rfl
  · have hne := cons_of h
    cases hk : wholeF l with
    | true =>
      rw [hk] at hw he
      refine call_rule [] (hw) hG ?_ ?_
      · (refine ⟨?_, ?_, rfl, rfl, rfl⟩ <;> repeat' (first | refine And.intro ?_ ?_ | exact trivial | exact rfl | refine lt0 | refine lt1 ?_ | refine lt2 ?_ ?_ | refine lt3 ?_ ?_ ?_ | refine lt4 ?_ ?_ ?_ ?_ | exact veq_refl _ | decide | (intro i hi; repeat' (first | refine And.intro ?_ ?_ | exact trivial | exact rfl))))
        all_goals first | exact Nat.le_refl _ | omega
      rintro _ _ _ ⟨rfl, rfl, rfl⟩
      repeat' (first | refine And.intro (by first | omega | (dsimp only; omega) | (show (_ : Bool) = true; kernel_rfl) | decide | (repeat' (first | refine And.intro ?_ ?_ | exact trivial | exact rfl))) ?_ | refine bcs_dec (fun h => ?_) (fun h => ?_) | refine bcs_ndec (fun h => ?_) (fun h => ?_) | refine bcs_not ?_ | refine bcs_intro (fun h => ?_) (fun h => ?_) | refine And.intro ?_ ?_ | refine reg_tail (by kernel_rfl) ?_)
      refine ret_plain ?_
      refine veq_of_eq (congrArg (Value.int .i64) ?_)
      rw [he]; simp
    | false =>
      rw [hk] at hw he
      refine call_rule [] (hw) hG ?_ ?_
      · (refine ⟨?_, ?_, rfl, rfl, rfl⟩ <;> repeat' (first | refine And.intro ?_ ?_ | exact trivial | exact rfl | refine lt0 | refine lt1 ?_ | refine lt2 ?_ ?_ | refine lt3 ?_ ?_ ?_ | refine lt4 ?_ ?_ ?_ ?_ | exact veq_refl _ | decide | (intro i hi; repeat' (first | refine And.intro ?_ ?_ | exact trivial | exact rfl))))
        all_goals first | exact Nat.le_refl _ | omega
      rintro _ _ _ ⟨rfl, rfl, rfl⟩
      repeat' (first | refine And.intro (by first | omega | (dsimp only; omega) | (show (_ : Bool) = true; kernel_rfl) | decide | (repeat' (first | refine And.intro ?_ ?_ | exact trivial | exact rfl))) ?_ | refine bcs_dec (fun h => ?_) (fun h => ?_) | refine bcs_ndec (fun h => ?_) (fun h => ?_) | refine bcs_not ?_ | refine bcs_intro (fun h => ?_) (fun h => ?_) | refine And.intro ?_ ?_ | refine reg_tail (by kernel_rfl) ?_)
      refine ret_plain ?_
      refine veq_of_eq (congrArg (Value.int .i64) ?_)
      rw [he]; simp [hne]

end Go.Proofs.YtcfpbcnledjnoaaDoor
