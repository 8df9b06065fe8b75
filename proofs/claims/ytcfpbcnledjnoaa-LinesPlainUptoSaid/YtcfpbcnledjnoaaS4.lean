/- Chapter 1: two lists of strings held against each other; a line's end; how many lines. -/
import Derived.Test.YtcfpbcnledjnoaaS3
namespace Go.Proofs.Ytcfpbcnledjnoaa
open Go Go.RowKit Vc

set_option maxRecDepth 100000 in
set_option maxHeartbeats 4000000 in
theorem same_con {L : List Byt} (hL : L.length ≤ 9223372036854775807) : Con Try.prog glob 10 [.s 0 0 L.length, .s 1 0 L.length] [(0, stRo L), (1, stRo L)] 2 (retV 2 (.v (.bool true))) := by
  refine spec_intro (tab := tab) (N := 26) Try.func10 rfl rfl tab_ok mix rfl rfl _ rfl ?_
  intro B hG
  repeat' (first | refine And.intro (by first | omega | (dsimp only; omega) | (show (_ : Bool) = true; kernel_rfl) | decide | (repeat' (first | refine And.intro ?_ ?_ | exact trivial | exact rfl))) ?_ | refine bcs_dec (fun h => ?_) (fun h => ?_) | refine bcs_ndec (fun h => ?_) (fun h => ?_) | refine bcs_not ?_ | refine bcs_intro (fun h => ?_) (fun h => ?_) | refine And.intro ?_ ?_ | refine reg_tail (by kernel_rfl) ?_)
  · exact absurd rfl h
  refine loop_rule (α := Nat) (fun k => ⟨[(0, .s 0 0 L.length), (1, .s 1 0 L.length), (5, .v (.int .i64 k))], [(0, stRo L), (1, stRo L)], 2⟩)
    (fun k => k ≤ L.length) (fun k => L.length - k) 0 [] ?_ ?_ ?_
  · simp
  · (refine ⟨rfl, rfl, ?_, ?_⟩ <;> repeat' (first | refine And.intro ?_ ?_ | exact trivial | exact rfl | refine lt0 | refine lt1 ?_ | refine lt2 ?_ ?_ | refine lt3 ?_ ?_ ?_ | refine lt4 ?_ ?_ ?_ ?_ | exact veq_refl _ | decide | (intro i hi; repeat' (first | refine And.intro ?_ ?_ | exact trivial | exact rfl))))
    all_goals exact Nat.le_refl _
  rintro k h1
  repeat' (first | refine And.intro (by first | omega | (dsimp only; omega) | (show (_ : Bool) = true; kernel_rfl) | decide | (repeat' (first | refine And.intro ?_ ?_ | exact trivial | exact rfl))) ?_ | refine bcs_dec (fun h => ?_) (fun h => ?_) | refine bcs_ndec (fun h => ?_) (fun h => ?_) | refine bcs_not ?_ | refine bcs_intro (fun h => ?_) (fun h => ?_) | refine And.intro ?_ ?_ | refine reg_tail (by kernel_rfl) ?_)
  · refine ⟨k + 1, [], ?_, ?_, ?_⟩
    · show k + 1 ≤ L.length
      omega
    · show L.length - (k + 1) < L.length - k
      omega
    · (refine ⟨rfl, rfl, ?_, ?_⟩ <;> repeat' (first | refine And.intro ?_ ?_ | exact trivial | exact rfl | refine lt0 | refine lt1 ?_ | refine lt2 ?_ ?_ | refine lt3 ?_ ?_ ?_ | refine lt4 ?_ ?_ ?_ ?_ | exact veq_refl _ | decide | (intro i hi; repeat' (first | refine And.intro ?_ ?_ | exact trivial | exact rfl))))
      all_goals exact Nat.le_refl _
  · exfalso
    rw [bs_eq] at h
    simp at h
  · refine ret_plain ?_
    exact rfl

/-- Has a line its end? -/
def wholeF (l : Byt) : Bool := Lib.hasSuffix l [10]
def bareF (l : Byt) : Byt := Lib.trimSuffix l [10]
theorem whole_con (l : Byt) (hl : l.length ≤ 9223372036854775807) : Con Try.prog glob 22 [str l] [] 0 (retV 0 (.v (.bool (wholeF l)))) := by
  have h := suf_con l hl
  refine spec_intro (tab := tab) (N := 5) Try.func22 rfl rfl tab_ok mix rfl rfl _ rfl ?_
  intro B hG
  repeat' (first | refine And.intro (by first | omega | (dsimp only; omega) | (show (_ : Bool) = true; kernel_rfl) | decide | (repeat' (first | refine And.intro ?_ ?_ | exact trivial | exact rfl))) ?_ | refine bcs_dec (fun h => ?_) (fun h => ?_) | refine bcs_ndec (fun h => ?_) (fun h => ?_) | refine bcs_not ?_ | refine bcs_intro (fun h => ?_) (fun h => ?_) | refine And.intro ?_ ?_ | refine reg_tail (by kernel_rfl) ?_)
  refine call_rule [] (h) hG ?_ ?_
  · (refine ⟨?_, ?_, rfl, rfl, rfl⟩ <;> repeat' (first | refine And.intro ?_ ?_ | exact trivial | exact rfl | refine lt0 | refine lt1 ?_ | refine lt2 ?_ ?_ | refine lt3 ?_ ?_ ?_ | refine lt4 ?_ ?_ ?_ ?_ | exact veq_refl _ | decide | (intro i hi; repeat' (first | refine And.intro ?_ ?_ | exact trivial | exact rfl))))
    all_goals first | exact Nat.le_refl _ | omega
  rintro _ _ _ ⟨rfl, rfl, rfl⟩
  repeat' (first | refine And.intro (by first | omega | (dsimp only; omega) | (show (_ : Bool) = true; kernel_rfl) | decide | (repeat' (first | refine And.intro ?_ ?_ | exact trivial | exact rfl))) ?_ | refine bcs_dec (fun h => ?_) (fun h => ?_) | refine bcs_ndec (fun h => ?_) (fun h => ?_) | refine bcs_not ?_ | refine bcs_intro (fun h => ?_) (fun h => ?_) | refine And.intro ?_ ?_ | refine reg_tail (by kernel_rfl) ?_)
  refine ret_plain ?_
  exact rfl
theorem bare_con (l : Byt) (hl : l.length ≤ 9223372036854775807) : Con Try.prog glob 20 [str l] [] 0 (retV 0 (str (bareF l))) := by
  have h := trs_con l hl
  refine spec_intro (tab := tab) (N := 5) Try.func20 rfl rfl tab_ok mix rfl rfl _ rfl ?_
  intro B hG
  repeat' (first | refine And.intro (by first | omega | (dsimp only; omega) | (show (_ : Bool) = true; kernel_rfl) | decide | (repeat' (first | refine And.intro ?_ ?_ | exact trivial | exact rfl))) ?_ | refine bcs_dec (fun h => ?_) (fun h => ?_) | refine bcs_ndec (fun h => ?_) (fun h => ?_) | refine bcs_not ?_ | refine bcs_intro (fun h => ?_) (fun h => ?_) | refine And.intro ?_ ?_ | refine reg_tail (by kernel_rfl) ?_)
  refine call_rule [] (h) hG ?_ ?_
  · (refine ⟨?_, ?_, rfl, rfl, rfl⟩ <;> repeat' (first | refine And.intro ?_ ?_ | exact trivial | exact rfl | refine lt0 | refine lt1 ?_ | refine lt2 ?_ ?_ | refine lt3 ?_ ?_ ?_ | refine lt4 ?_ ?_ ?_ ?_ | exact veq_refl _ | decide | (intro i hi; repeat' (first | refine And.intro ?_ ?_ | exact trivial | exact rfl))))
    all_goals first | exact Nat.le_refl _ | omega
  rintro _ _ _ ⟨rfl, rfl, rfl⟩
  repeat' (first | refine And.intro (by first | omega | (dsimp only; omega) | (show (_ : Bool) = true; kernel_rfl) | decide | (repeat' (first | refine And.intro ?_ ?_ | exact trivial | exact rfl))) ?_ | refine bcs_dec (fun h => ?_) (fun h => ?_) | refine bcs_ndec (fun h => ?_) (fun h => ?_) | refine bcs_not ?_ | refine bcs_intro (fun h => ?_) (fun h => ?_) | refine And.intro ?_ ?_ | refine reg_tail (by kernel_rfl) ?_)
  refine ret_plain ?_
  exact rfl
theorem whole_eq (l : Byt) : wholeF l = decide (0 < l.length ∧ l.getD (l.length - 1) 0 = 10) := by
  unfold wholeF Lib.hasSuffix
  rcases List.eq_nil_or_concat l with rfl | ⟨q, c, rfl⟩
  · rfl
  · have e : ([10] : Byt).isSuffixOf (q ++ [c]) = decide (c = 10) := by
      simp only [List.isSuffixOf, List.reverse_append, List.reverse_cons, List.reverse_nil, List.nil_append, List.cons_append, List.isPrefixOf]
      by_cases h : c = 10
      · simp [h]
      · simp [h, Ne.symm h]
    rw [List.concat_eq_append, e]
    by_cases h : c = 10 <;> simp [h]
theorem bare_eq (l : Byt) : bareF l = if wholeF l then l.take (l.length - 1) else l := rfl

set_option maxRecDepth 100000 in
set_option maxHeartbeats 4000000 in
theorem rWhole_con (l : Byt) (hl : l.length ≤ 9223372036854775807) : Con Try.prog glob 23 [str l] [] 0 (retV 0 (.v (.bool (wholeF l)))) := by
  have hb : (bs l).size = l.length := bs_size l
  have hw := whole_eq l
  refine spec_intro (tab := tab) (N := 14) Try.func23 rfl rfl tab_ok mix rfl rfl _ rfl ?_
  intro B hG
  repeat' (first | refine And.intro (by first | omega | (dsimp only; omega) | (show (_ : Bool) = true; kernel_rfl) | decide | (repeat' (first | refine And.intro ?_ ?_ | exact trivial | exact rfl))) ?_ | refine bcs_dec (fun h => ?_) (fun h => ?_) | refine bcs_ndec (fun h => ?_) (fun h => ?_) | refine bcs_not ?_ | refine bcs_intro (fun h => ?_) (fun h => ?_) | refine And.intro ?_ ?_ | refine reg_tail (by kernel_rfl) ?_)
  · refine ret_plain ?_
    refine veq_of_eq (congrArg Value.bool ?_)
    rw [hw, hb] at *
    have e : bt (bs l) ((l.length : Int) - 1) = 10 ↔ l.getD (l.length - 1) 0 = 10 := by
      rw [show (l.length : Int) - 1 = ((l.length - 1 : Nat) : Int) by omega]
      exact bt10 l (l.length - 1)
    by_cases k : l.getD (l.length - 1) 0 = 10
    · rw [e.2 k]
      simp only [k, and_true]
      simp; omega
    · have : ¬ bt (bs l) ((l.length : Int) - 1) = 10 := fun x => k (e.1 x)
      simp only [k, and_false, decide_false]
      simp [this]
  · refine ret_plain ?_
    refine veq_of_eq (congrArg Value.bool ?_)
    rw [hw]
    simp
    omega

theorem rBare_con (l : Byt) (hl : l.length ≤ 9223372036854775807) : Con Try.prog glob 21 [str l] [] 0 (retV 0 (str (bareF l))) := by
  have hb : (bs l).size = l.length := bs_size l
  have hw := whole_eq l
  have h := rWhole_con l hl
  refine spec_intro (tab := tab) (N := 11) Try.func21 rfl rfl tab_ok mix rfl rfl _ rfl ?_
  intro B hG
  repeat' (first | refine And.intro (by first | omega | (dsimp only; omega) | (show (_ : Bool) = true; kernel_rfl) | decide | (repeat' (first | refine And.intro ?_ ?_ | exact trivial | exact rfl))) ?_ | refine bcs_dec (fun h => ?_) (fun h => ?_) | refine bcs_ndec (fun h => ?_) (fun h => ?_) | refine bcs_not ?_ | refine bcs_intro (fun h => ?_) (fun h => ?_) | refine And.intro ?_ ?_ | refine reg_tail (by kernel_rfl) ?_)
  rw [bare_eq]
  cases hc : wholeF l with
  | true =>
    rw [hc] at h hw
    simp at hw
    refine call_rule [] (h) hG ?_ ?_
    · (refine ⟨?_, ?_, rfl, rfl, rfl⟩ <;> repeat' (first | refine And.intro ?_ ?_ | exact trivial | exact rfl | refine lt0 | refine lt1 ?_ | refine lt2 ?_ ?_ | refine lt3 ?_ ?_ ?_ | refine lt4 ?_ ?_ ?_ ?_ | exact veq_refl _ | decide | (intro i hi; repeat' (first | refine And.intro ?_ ?_ | exact trivial | exact rfl))))
      all_goals first | exact Nat.le_refl _ | omega
    rintro _ _ _ ⟨rfl, rfl, rfl⟩
    repeat' (first | refine And.intro (by first | omega | (dsimp only; omega) | (show (_ : Bool) = true; kernel_rfl) | decide | (repeat' (first | refine And.intro ?_ ?_ | exact trivial | exact rfl))) ?_ | refine bcs_dec (fun h => ?_) (fun h => ?_) | refine bcs_ndec (fun h => ?_) (fun h => ?_) | refine bcs_not ?_ | refine bcs_intro (fun h => ?_) (fun h => ?_) | refine And.intro ?_ ?_ | refine reg_tail (by kernel_rfl) ?_)
    refine ret_plain ?_
    refine veq_of_eq (congrArg Value.string ?_)
    rw [hb, if_pos rfl]
    refine Eq.symm ((cut0 l _).trans ?_)
    rw [show ((l.length : Int) - 1).toNat = l.length - 1 by omega]
  | false =>
    rw [hc] at h hw
    refine call_rule [] (h) hG ?_ ?_
    · (refine ⟨?_, ?_, rfl, rfl, rfl⟩ <;> repeat' (first | refine And.intro ?_ ?_ | exact trivial | exact rfl | refine lt0 | refine lt1 ?_ | refine lt2 ?_ ?_ | refine lt3 ?_ ?_ ?_ | refine lt4 ?_ ?_ ?_ ?_ | exact veq_refl _ | decide | (intro i hi; repeat' (first | refine And.intro ?_ ?_ | exact trivial | exact rfl))))
      all_goals first | exact Nat.le_refl _ | omega
    rintro _ _ _ ⟨rfl, rfl, rfl⟩
    repeat' (first | refine And.intro (by first | omega | (dsimp only; omega) | (show (_ : Bool) = true; kernel_rfl) | decide | (repeat' (first | refine And.intro ?_ ?_ | exact trivial | exact rfl))) ?_ | refine bcs_dec (fun h => ?_) (fun h => ?_) | refine bcs_ndec (fun h => ?_) (fun h => ?_) | refine bcs_not ?_ | refine bcs_intro (fun h => ?_) (fun h => ?_) | refine And.intro ?_ ?_ | refine reg_tail (by kernel_rfl) ?_)
    refine ret_plain ?_
    exact rfl

theorem whole_last (l : Byt) : wholeF l = decide (l.getLast? = some 10) := by
  rw [whole_eq]
  rcases List.eq_nil_or_concat l with rfl | ⟨q, c, rfl⟩
  · rfl
  · by_cases h : c = 10 <;> simp [h]
theorem count_ne : ∀ (r cur : Byt), r ≠ [] → (splitG r cur).length = r.count 10 + (if r.getLast? = some 10 then 0 else 1)
  | [], _, h => absurd rfl h
  | [c], cur, _ => by
    simp only [splitG]
    by_cases h : c = 10
    · rw [if_pos h]; simp [h]
    · rw [if_neg h, splitG_end (by simp)]; simp [h]
  | c :: d :: r, cur, _ => by
    have e : (c :: d :: r).getLast? = (d :: r).getLast? := by simp [List.getLast?_cons_cons]
    rw [e, splitG]
    by_cases h : c = 10
    · rw [if_pos h, List.length_cons, count_ne (d :: r) [] (by simp), h, List.count_cons_self]; omega
    · rw [if_neg h, count_ne (d :: r) (cur ++ [c]) (by simp), List.count_cons_of_ne h]
theorem count_eq (l : Byt) : (splitF l).length = l.count 10 + (if l ≠ [] ∧ wholeF l = false then 1 else 0) := by
  by_cases h : l = []
  · subst h; rfl
  · rw [splitF, count_ne l [] h, whole_last]
    by_cases k : l.getLast? = some 10 <;> simp [h, k]

set_option maxRecDepth 100000 in
set_option maxHeartbeats 4000000 in
theorem count_con (l : Byt) (hl : l.length ≤ 4194304) : Con Try.prog glob 13 [str l] [] 0 (retV 0 (.v (.int .i64 ((splitF l).length : Int)))) := by
  have hc := cnt_con l
  have hw := whole_con l (by omega)
  have hn : l.count 10 ≤ l.length := List.count_le_length
  have he := count_eq l
  refine spec_intro (tab := tab) (N := 16) Try.func13 rfl rfl tab_ok mix rfl rfl _ rfl ?_
  intro B hG
  repeat' (first | refine And.intro (by first | omega | (dsimp only; omega) | (show (_ : Bool) = true; kernel_rfl) | decide | (repeat' (first | refine And.intro ?_ ?_ | exact trivial | exact rfl))) ?_ | refine bcs_dec (fun h => ?_) (fun h => ?_) | refine bcs_ndec (fun h => ?_) (fun h => ?_) | refine bcs_not ?_ | refine bcs_intro (fun h => ?_) (fun h => ?_) | refine And.intro ?_ ?_ | refine reg_tail (by kernel_rfl) ?_)
  refine call_rule [] (hc) hG ?_ ?_
  · (refine ⟨?_, ?_, rfl, rfl, rfl⟩ <;> repeat' (first | refine And.intro ?_ ?_ | exact trivial | exact rfl | refine lt0 | refine lt1 ?_ | refine lt2 ?_ ?_ | refine lt3 ?_ ?_ ?_ | refine lt4 ?_ ?_ ?_ ?_ | exact veq_refl _ | decide | (intro i hi; repeat' (first | refine And.intro ?_ ?_ | exact trivial | exact rfl))))
    all_goals first | exact Nat.le_refl _ | omega
  rintro _ _ _ ⟨rfl, rfl, rfl⟩
  repeat' (first | refine And.intro (by first | omega | (dsimp only; omega) | (show (_ : Bool) = true; kernel_rfl) | decide | (repeat' (first | refine And.intro ?_ ?_ | exact trivial | exact rfl))) ?_ | refine bcs_dec (fun h => ?_) (fun h => ?_) | refine bcs_ndec (fun h => ?_) (fun h => ?_) | refine bcs_not ?_ | refine bcs_intro (fun h => ?_) (fun h => ?_) | refine And.intro ?_ ?_ | refine reg_tail (by kernel_rfl) ?_)
  · have := nil_of h
    subst this
    refine ret_plain ?_
    exact rfl
  · have hne := cons_of h
    cases hk : wholeF l with
    | true =>
      rw [hk] at hw he
      refine call_rule [] (hw) hG ?_ ?_
      · (refine ⟨?_, ?_, rfl, rfl, rfl⟩ <;> repeat' (first | refine And.intro ?_ ?_ | exact trivial | exact rfl | refine lt0 | refine lt1 ?_ | refine lt2 ?_ ?_ | refine lt3 ?_ ?_ ?_ | refine lt4 ?_ ?_ ?_ ?_ | exact veq_refl _ | decide | (intro i hi; repeat' (first | refine And.intro ?_ ?_ | exact trivial | exact rfl))))
        all_goals first | exact Nat.le_refl _ | omega
      rintro _ _ _ ⟨rfl, rfl, rfl⟩
      repeat' (first | refine And.intro (by first | omega | (dsimp only; omega) | (show (_ : Bool) = true; kernel_rfl) | decide | (repeat' (first | refine And.intro ?_ ?_ | exact trivial | exact rfl))) ?_ | refine bcs_dec (fun h => ?_) (fun h => ?_) | refine bcs_ndec (fun h => ?_) (fun h => ?_) | refine bcs_not ?_ | refine bcs_intro (fun h => ?_) (fun h => ?_) | refine And.intro ?_ ?_ | refine reg_tail (by kernel_rfl) ?_)
      refine ret_plain ?_
      refine veq_of_eq (congrArg (Value.int .i64) ?_)
      rw [he]; simp
    | false =>
      rw [hk] at hw he
      refine call_rule [] (hw) hG ?_ ?_
      · (refine ⟨?_, ?_, rfl, rfl, rfl⟩ <;> repeat' (first | refine And.intro ?_ ?_ | exact trivial | exact rfl | refine lt0 | refine lt1 ?_ | refine lt2 ?_ ?_ | refine lt3 ?_ ?_ ?_ | refine lt4 ?_ ?_ ?_ ?_ | exact veq_refl _ | decide | (intro i hi; repeat' (first | refine And.intro ?_ ?_ | exact trivial | exact rfl))))
        all_goals first | exact Nat.le_refl _ | omega
      rintro _ _ _ ⟨rfl, rfl, rfl⟩
      repeat' (first | refine And.intro (by first | omega | (dsimp only; omega) | (show (_ : Bool) = true; kernel_rfl) | decide | (repeat' (first | refine And.intro ?_ ?_ | exact trivial | exact rfl))) ?_ | refine bcs_dec (fun h => ?_) (fun h => ?_) | refine bcs_ndec (fun h => ?_) (fun h => ?_) | refine bcs_not ?_ | refine bcs_intro (fun h => ?_) (fun h => ?_) | refine And.intro ?_ ?_ | refine reg_tail (by kernel_rfl) ?_)
      refine ret_plain ?_
      refine veq_of_eq (congrArg (Value.int .i64) ?_)
      rw [he]; simp [hne]

set_option maxRecDepth 100000 in
set_option maxHeartbeats 4000000 in
theorem rCount_con (l : Byt) (hl : l.length ≤ 4194304) : Con Try.prog glob 14 [str l] [] 0 (retV 0 (.v (.int .i64 ((splitF l).length : Int)))) := by
  have h := rSplit_con l hl
  refine spec_intro (tab := tab) (N := 6) Try.func14 rfl rfl tab_ok mix rfl rfl _ rfl ?_
  intro B hG
  repeat' (first | refine And.intro (by first | omega | (dsimp only; omega) | (show (_ : Bool) = true; kernel_rfl) | decide | (repeat' (first | refine And.intro ?_ ?_ | exact trivial | exact rfl))) ?_ | refine bcs_dec (fun h => ?_) (fun h => ?_) | refine bcs_ndec (fun h => ?_) (fun h => ?_) | refine bcs_not ?_ | refine bcs_intro (fun h => ?_) (fun h => ?_) | refine And.intro ?_ ?_ | refine reg_tail (by kernel_rfl) ?_)
  refine call_rule [] (h) hG ?_ ?_
  · (refine ⟨?_, ?_, rfl, rfl, rfl⟩ <;> repeat' (first | refine And.intro ?_ ?_ | exact trivial | exact rfl | refine lt0 | refine lt1 ?_ | refine lt2 ?_ ?_ | refine lt3 ?_ ?_ ?_ | refine lt4 ?_ ?_ ?_ ?_ | exact veq_refl _ | decide | (intro i hi; repeat' (first | refine And.intro ?_ ?_ | exact trivial | exact rfl))))
    all_goals first | exact Nat.le_refl _ | omega
  rintro _ _ _ ⟨rfl, rfl, rfl⟩
  repeat' (first | refine And.intro (by first | omega | (dsimp only; omega) | (show (_ : Bool) = true; kernel_rfl) | decide | (repeat' (first | refine And.intro ?_ ?_ | exact trivial | exact rfl))) ?_ | refine bcs_dec (fun h => ?_) (fun h => ?_) | refine bcs_ndec (fun h => ?_) (fun h => ?_) | refine bcs_not ?_ | refine bcs_intro (fun h => ?_) (fun h => ?_) | refine And.intro ?_ ?_ | refine reg_tail (by kernel_rfl) ?_)
  refine ret_plain ?_
  exact rfl
end Go.Proofs.Ytcfpbcnledjnoaa
