/- Chapter 15: lines: their ends, whether strings are a text's lines, the lines of a text: walked. -/
import Derived.Test.YtjlobgcmhnkgnaaDoorW4
namespace Go.Proofs.YtjlobgcmhnkgnaaDoor
open Go Go.RowKit Vc


/-- The lines of a text, behind what has been read of the first one. -/
def splitG : Byt → Byt → List Byt
  | [], [] => []
  | [], c :: cur => [c :: cur]
  | c :: r, cur => if c = 10 then (cur ++ [c]) :: splitG r [] else splitG r (cur ++ [c])
def splitF (l : Byt) : List Byt := splitG l []
theorem splitG_end {cur : Byt} (h : cur ≠ []) : splitG [] cur = [cur] := by
  cases cur with
  | nil => exact absurd rfl h
  | cons c r => rfl
theorem idx_nil : Lib.indexByte [] 10 = -1 := rfl
theorem idx_cons (c : UInt8) (r : Byt) : Lib.indexByte (c :: r) 10 = if c = 10 then 0 else if Lib.indexByte r 10 = -1 then -1 else Lib.indexByte r 10 + 1 := by
  by_cases h : c = 10 <;> simp [Lib.indexByte, h]
theorem idx_cases : ∀ l : Byt, (Lib.indexByte l 10 = -1 ∧ (10 : UInt8) ∉ l) ∨ ∃ k : Nat, Lib.indexByte l 10 = k ∧ k < l.length ∧ l.getD k 0 = 10 ∧ (10 : UInt8) ∉ l.take k
  | [] => .inl ⟨rfl, by simp⟩
  | c :: r => by
    rw [idx_cons]
    by_cases h : c = 10
    · rw [if_pos h]
      exact .inr ⟨0, rfl, by simp, by simp [h], by simp⟩
    · rw [if_neg h]
      have hne : ¬ (10 : UInt8) = c := fun e => h e.symm
      rcases idx_cases r with ⟨h1, h2⟩ | ⟨k, h1, h2, h3, h4⟩
      · rw [if_pos h1]
        exact .inl ⟨rfl, by simp [hne, h2]⟩
      · rw [if_neg (by omega)]
        exact .inr ⟨k + 1, by omega, by simp; omega, by simpa using h3, by simp [hne, h4]⟩
theorem splitG_none : ∀ {r : Byt} (cur : Byt), (10 : UInt8) ∉ r → splitG r cur = splitG [] (cur ++ r)
  | [], cur, _ => by rw [List.append_nil]
  | c :: r, cur, h => by
    simp only [List.mem_cons, not_or] at h
    simp only [splitG]
    rw [if_neg fun e => h.1 e.symm, splitG_none (cur ++ [c]) h.2, List.append_assoc]
    rfl
theorem splitG_some : ∀ {r : Byt} {k : Nat} (cur : Byt), k < r.length → r.getD k 0 = 10 → (10 : UInt8) ∉ r.take k → splitG r cur = (cur ++ r.take (k + 1)) :: splitG (r.drop (k + 1)) []
  | [], _, _, h, _, _ => by simp at h
  | c :: r, 0, cur, _, h, _ => by
    simp at h
    simp [splitG, h]
  | c :: r, k + 1, cur, h, h1, h2 => by
    simp only [List.take_succ_cons, List.mem_cons, not_or] at h2
    simp only [splitG]
    rw [if_neg fun e => h2.1 e.symm, splitG_some (k := k) (cur ++ [c]) (by simpa using h) (by simpa using h1) h2.2]
    simp
theorem splitG_flat : ∀ (r cur : Byt), (splitG r cur).flatten = cur ++ r
  | [], [] => rfl
  | [], c :: cur => by simp [splitG]
  | c :: r, cur => by
    simp only [splitG]
    split
    · simp [splitG_flat r []]
    · simp [splitG_flat r (cur ++ [c])]
theorem splitF_flat (l : Byt) : (splitF l).flatten = l := splitG_flat l []
theorem splitG_len : ∀ (r cur : Byt), (splitG r cur).length ≤ r.length + min 1 cur.length
  | [], [] => by simp [splitG]
  | [], c :: cur => by simp [splitG]
  | c :: r, cur => by
    simp only [splitG]
    split
    · have := splitG_len r []
      simp only [List.length_cons, List.length_nil] at this ⊢; omega
    · have := splitG_len r (cur ++ [c])
      simp only [List.length_cons, List.length_append, List.length_nil] at this ⊢; omega
theorem splitF_len (l : Byt) : (splitF l).length ≤ l.length := by
  have := splitG_len l []
  simpa [splitF] using this
theorem u8_iff {x y : UInt8} : (x.toNat : Int) = (y.toNat : Int) ↔ x = y := by
  constructor
  · intro h
    exact UInt8.toNat_inj.1 (by omega)
  · intro h; rw [h]
theorem bt10 (l : Byt) (i : Nat) : bt (bs l) (i : Int) = 10 ↔ l.getD i 0 = 10 := by
  rw [bs_bt]
  exact u8_iff (y := 10)
set_option maxRecDepth 100000 in
set_option maxHeartbeats 4000000 in
theorem split_con (l : Byt) (hl : l.length ≤ 4194304) : Con Tryd.prog glob 22 [str l] [] 0 (retM (.o 0) [(0, stOwn (splitF l))] 1) := by
  refine spec_intro (tab := tab) (N := 24) Tryd.func22 rfl rfl tab_ok mix rfl rfl _ rfl ?_
  intro B hG
  repeat' (first | refine And.intro (by first | omega | (dsimp only; omega) | (show (_ : Bool) = true; kernel_rfl) | decide | (repeat' (first | refine And.intro ?_ ?_ | exact trivial | exact rfl))) ?_ | refine bcs_dec (fun h => ?_) (fun h => ?_) | refine bcs_ndec (fun h => ?_) (fun h => ?_) | refine bcs_not ?_ | refine bcs_intro (fun h => ?_) (fun h => ?_) | refine And.intro ?_ ?_ | refine reg_tail (by kernel_rfl) ?_)
  refine loop_rule (α := Byt × List Byt) (fun (r, out) => ⟨[(0, str r), (3, .o 0)], [(0, stOwn out)], 1⟩)
    (fun (r, out) => r.length ≤ 4194304 ∧ out.length + r.length ≤ 4194304 ∧ out ++ splitF r = splitF l) (fun (r, _) => r.length) (l, []) [.nil 1] ?_ ?_ ?_
  · exact ⟨hl, by simpa using hl, rfl⟩
  · (refine ⟨rfl, rfl, ?_, ?_⟩ <;> repeat' (first | refine And.intro ?_ ?_ | exact trivial | exact rfl | refine lt0 | refine lt1 ?_ | refine lt2 ?_ ?_ | refine lt3 ?_ ?_ ?_ | refine lt4 ?_ ?_ ?_ ?_ | exact veq_refl _ | decide | (intro i hi; repeat' (first | refine And.intro ?_ ?_ | exact trivial | exact rfl))))
  rintro ⟨r, out⟩ ⟨h1, h2, h3⟩
  have hi := idx_con r
  have hb : (bs r).size = r.length := bs_size r
  repeat' (first | refine And.intro (by first | omega | (dsimp only; omega) | (show (_ : Bool) = true; kernel_rfl) | decide | (repeat' (first | refine And.intro ?_ ?_ | exact trivial | exact rfl))) ?_ | refine bcs_dec (fun h => ?_) (fun h => ?_) | refine bcs_ndec (fun h => ?_) (fun h => ?_) | refine bcs_not ?_ | refine bcs_intro (fun h => ?_) (fun h => ?_) | refine And.intro ?_ ?_ | refine reg_tail (by kernel_rfl) ?_)
  · obtain rfl := nil_of h
    have e : out = splitF l := by rw [← h3]; simp [splitF, splitG]
    subst e
    refine ret_mem [.at 0 0] rfl rfl ?_ ?_
    · repeat' (first | refine And.intro ?_ ?_ | exact trivial)
      all_goals exact rfl
    · repeat' (first | refine And.intro ?_ ?_ | exact trivial)
      · exact rfl
      · intro i hi
        repeat' (first | refine And.intro ?_ ?_ | exact trivial)
        all_goals exact rfl
  · have hr := cons_of h
    rcases idx_cases r with ⟨k1, k2⟩ | ⟨k, k1, k2, k3, k4⟩
    · rw [k1] at hi
      refine call_rule [] (hi) hG ?_ ?_
      · (refine ⟨?_, ?_, rfl, rfl, rfl⟩ <;> repeat' (first | refine And.intro ?_ ?_ | exact trivial | exact rfl | refine lt0 | refine lt1 ?_ | refine lt2 ?_ ?_ | refine lt3 ?_ ?_ ?_ | refine lt4 ?_ ?_ ?_ ?_ | exact veq_refl _ | decide | (intro i hi; repeat' (first | refine And.intro ?_ ?_ | exact trivial | exact rfl))))
        all_goals first | exact Nat.le_refl _ | omega
      rintro _ _ _ ⟨rfl, rfl, rfl⟩
      repeat' (first | refine And.intro (by first | omega | (dsimp only; omega) | (show (_ : Bool) = true; kernel_rfl) | decide | (repeat' (first | refine And.intro ?_ ?_ | exact trivial | exact rfl))) ?_ | refine bcs_dec (fun h => ?_) (fun h => ?_) | refine bcs_ndec (fun h => ?_) (fun h => ?_) | refine bcs_not ?_ | refine bcs_intro (fun h => ?_) (fun h => ?_) | refine And.intro ?_ ?_ | refine reg_tail (by kernel_rfl) ?_)
      refine app1 stEnc [] out r rfl (enc_eq ((cut0 r _).trans (by rw [hb]; simp))) ?_
      repeat' (first | refine And.intro (by first | omega | (dsimp only; omega) | (show (_ : Bool) = true; kernel_rfl) | decide | (repeat' (first | refine And.intro ?_ ?_ | exact trivial | exact rfl))) ?_ | refine bcs_dec (fun h => ?_) (fun h => ?_) | refine bcs_ndec (fun h => ?_) (fun h => ?_) | refine bcs_not ?_ | refine bcs_intro (fun h => ?_) (fun h => ?_) | refine And.intro ?_ ?_ | refine reg_tail (by kernel_rfl) ?_)
      refine ⟨([], out ++ [r]), [.at 2 0], ?_, ?_, ?_⟩
      · refine ⟨by simp, by cases r with | nil => exact absurd rfl hr | cons c q => simp at h1 h2 ⊢; omega, ?_⟩
        rw [← h3]
        simp only [splitF, splitG_none [] k2, List.nil_append, splitG_end hr]
        simp [splitG]
      · show 0 < r.length
        cases r with
        | nil => exact absurd rfl hr
        | cons c q => simp
      · (refine ⟨rfl, rfl, ?_, ?_⟩ <;> repeat' (first | refine And.intro ?_ ?_ | exact trivial | exact rfl | refine lt0 | refine lt1 ?_ | refine lt2 ?_ ?_ | refine lt3 ?_ ?_ ?_ | refine lt4 ?_ ?_ ?_ ?_ | exact veq_refl _ | decide | (intro i hi; repeat' (first | refine And.intro ?_ ?_ | exact trivial | exact rfl))))
        · exact veq_of_eq (congrArg Value.string ((cutE r _).trans (by rw [hb]; simp)).symm)
        · simp
    · rw [k1] at hi
      refine call_rule [] (hi) hG ?_ ?_
      · (refine ⟨?_, ?_, rfl, rfl, rfl⟩ <;> repeat' (first | refine And.intro ?_ ?_ | exact trivial | exact rfl | refine lt0 | refine lt1 ?_ | refine lt2 ?_ ?_ | refine lt3 ?_ ?_ ?_ | refine lt4 ?_ ?_ ?_ ?_ | exact veq_refl _ | decide | (intro i hi; repeat' (first | refine And.intro ?_ ?_ | exact trivial | exact rfl))))
        all_goals first | exact Nat.le_refl _ | omega
      rintro _ _ _ ⟨rfl, rfl, rfl⟩
      repeat' (first | refine And.intro (by first | omega | (dsimp only; omega) | (show (_ : Bool) = true; kernel_rfl) | decide | (repeat' (first | refine And.intro ?_ ?_ | exact trivial | exact rfl))) ?_ | refine bcs_dec (fun h => ?_) (fun h => ?_) | refine bcs_ndec (fun h => ?_) (fun h => ?_) | refine bcs_not ?_ | refine bcs_intro (fun h => ?_) (fun h => ?_) | refine And.intro ?_ ?_ | refine reg_tail (by kernel_rfl) ?_)
      refine app1 stEnc [] out (r.take (k + 1)) rfl (enc_eq (cut0 r (k + 1))) ?_
      repeat' (first | refine And.intro (by first | omega | (dsimp only; omega) | (show (_ : Bool) = true; kernel_rfl) | decide | (repeat' (first | refine And.intro ?_ ?_ | exact trivial | exact rfl))) ?_ | refine bcs_dec (fun h => ?_) (fun h => ?_) | refine bcs_ndec (fun h => ?_) (fun h => ?_) | refine bcs_not ?_ | refine bcs_intro (fun h => ?_) (fun h => ?_) | refine And.intro ?_ ?_ | refine reg_tail (by kernel_rfl) ?_)
      refine ⟨(r.drop (k + 1), out ++ [r.take (k + 1)]), [.at 2 0], ?_, ?_, ?_⟩
      · refine ⟨by simp; omega, by simp; omega, ?_⟩
        rw [← h3]
        simp only [splitF, splitG_some [] k2 k3 k4, List.nil_append, List.append_assoc, List.cons_append]
      · show (r.drop (k + 1)).length < r.length
        simp; omega
      · (refine ⟨rfl, rfl, ?_, ?_⟩ <;> repeat' (first | refine And.intro ?_ ?_ | exact trivial | exact rfl | refine lt0 | refine lt1 ?_ | refine lt2 ?_ ?_ | refine lt3 ?_ ?_ ?_ | refine lt4 ?_ ?_ ?_ ?_ | exact veq_refl _ | decide | (intro i hi; repeat' (first | refine And.intro ?_ ?_ | exact trivial | exact rfl))))
        · exact veq_of_eq (congrArg Value.string (cutE r (k + 1)).symm)
        · simp

/-- Has a line its end? -/
def wholeF (l : Byt) : Bool := Lib.hasSuffix l [10]
def bareF (l : Byt) : Byt := Lib.trimSuffix l [10]
theorem whole_con (l : Byt) (hl : l.length ≤ 9223372036854775807) : Con Tryd.prog glob 55 [str l] [] 0 (retV 0 (.v (.bool (wholeF l)))) := by
  have h := suf_con l hl
  refine spec_intro (tab := tab) (N := 5) Tryd.func55 rfl rfl tab_ok mix rfl rfl _ rfl ?_
  intro B hG
  repeat' (first | refine And.intro (by first | omega | (dsimp only; omega) | (show (_ : Bool) = true; kernel_rfl) | decide | (repeat' (first | refine And.intro ?_ ?_ | exact trivial | exact rfl))) ?_ | refine bcs_dec (fun h => ?_) (fun h => ?_) | refine bcs_ndec (fun h => ?_) (fun h => ?_) | refine bcs_not ?_ | refine bcs_intro (fun h => ?_) (fun h => ?_) | refine And.intro ?_ ?_ | refine reg_tail (by kernel_rfl) ?_)
  refine call_rule [] (h) hG ?_ ?_
  · (refine ⟨?_, ?_, rfl, rfl, rfl⟩ <;> repeat' (first | refine And.intro ?_ ?_ | exact trivial | exact rfl | refine lt0 | refine lt1 ?_ | refine lt2 ?_ ?_ | refine lt3 ?_ ?_ ?_ | refine lt4 ?_ ?_ ?_ ?_ | exact veq_refl _ | decide | (intro i hi; repeat' (first | refine And.intro ?_ ?_ | exact trivial | exact rfl))))
    all_goals first | exact Nat.le_refl _ | omega
  rintro _ _ _ ⟨rfl, rfl, rfl⟩
  repeat' (first | refine And.intro (by first | omega | (dsimp only; omega) | (show (_ : Bool) = true; kernel_rfl) | decide | (repeat' (first | refine And.intro ?_ ?_ | exact trivial | exact rfl))) ?_ | refine bcs_dec (fun h => ?_) (fun h => ?_) | refine bcs_ndec (fun h => ?_) (fun h => ?_) | refine bcs_not ?_ | refine bcs_intro (fun h => ?_) (fun h => ?_) | refine And.intro ?_ ?_ | refine reg_tail (by kernel_rfl) ?_)
  refine ret_plain ?_
  exact rfl
theorem bare_con (l : Byt) (hl : l.length ≤ 9223372036854775807) : Con Tryd.prog glob 23 [str l] [] 0 (retV 0 (str (bareF l))) := by
  have h := trs_con l hl
  refine spec_intro (tab := tab) (N := 5) Tryd.func23 rfl rfl tab_ok mix rfl rfl _ rfl ?_
  intro B hG
  repeat' (first | refine And.intro (by first | omega | (dsimp only; omega) | (show (_ : Bool) = true; kernel_rfl) | decide | (repeat' (first | refine And.intro ?_ ?_ | exact trivial | exact rfl))) ?_ | refine bcs_dec (fun h => ?_) (fun h => ?_) | refine bcs_ndec (fun h => ?_) (fun h => ?_) | refine bcs_not ?_ | refine bcs_intro (fun h => ?_) (fun h => ?_) | refine And.intro ?_ ?_ | refine reg_tail (by kernel_rfl) ?_)
  refine call_rule [] (h) hG ?_ ?_
  · (refine ⟨?_, ?_, rfl, rfl, rfl⟩ <;> repeat' (first | refine And.intro ?_ ?_ | exact trivial | exact rfl | refine lt0 | refine lt1 ?_ | refine lt2 ?_ ?_ | refine lt3 ?_ ?_ ?_ | refine lt4 ?_ ?_ ?_ ?_ | exact veq_refl _ | decide | (intro i hi; repeat' (first | refine And.intro ?_ ?_ | exact trivial | exact rfl))))
    all_goals first | exact Nat.le_refl _ | omega
  rintro _ _ _ ⟨rfl, rfl, rfl⟩
  repeat' (first | refine And.intro (by first | omega | (dsimp only; omega) | (show (_ : Bool) = true; kernel_rfl) | decide | (repeat' (first | refine And.intro ?_ ?_ | exact trivial | exact rfl))) ?_ | refine bcs_dec (fun h => ?_) (fun h => ?_) | refine bcs_ndec (fun h => ?_) (fun h => ?_) | refine bcs_not ?_ | refine bcs_intro (fun h => ?_) (fun h => ?_) | refine And.intro ?_ ?_ | refine reg_tail (by kernel_rfl) ?_)
  refine ret_plain ?_
  exact rfl
theorem whole_eq (l : Byt) : wholeF l = decide (0 < l.length ∧ l.getD (l.length - 1) 0 = 10) := by
  unfold wholeF Lib.hasSuffix
  rcases List.eq_nil_or_concat l with rfl | ⟨q, c, rfl⟩
  · rfl
  · have e : ([10] : Byt).isSuffixOf (q ++ [c]) = decide (c = 10) := by
      simp only [List.isSuffixOf, List.reverse_append, List.reverse_cons, List.reverse_nil, List.nil_append, List.cons_append, List.isPrefixOf]
      by_cases h : c = 10
      · simp [h]
      · simp [h, Ne.symm h]
    rw [List.concat_eq_append, e]
    by_cases h : c = 10 <;> simp [h]
theorem bare_eq (l : Byt) : bareF l = if wholeF l then l.take (l.length - 1) else l := rfl

set_option maxRecDepth 100000 in
set_option maxHeartbeats 4000000 in
theorem rWhole_con (l : Byt) (hl : l.length ≤ 9223372036854775807) : Con Tryd.prog glob 57 [str l] [] 0 (retV 0 (.v (.bool (wholeF l)))) := by
  have hb : (bs l).size = l.length := bs_size l
  have hw := whole_eq l
  refine spec_intro (tab := tab) (N := 14) Tryd.func57 rfl rfl tab_ok mix rfl rfl _ rfl ?_
  intro B hG
  repeat' (first | refine And.intro (by first | omega | (dsimp only; omega) | (show (_ : Bool) = true; kernel_rfl) | decide | (repeat' (first | refine And.intro ?_ ?_ | exact trivial | exact rfl))) ?_ | refine bcs_dec (fun h => ?_) (fun h => ?_) | refine bcs_ndec (fun h => ?_) (fun h => ?_) | refine bcs_not ?_ | refine bcs_intro (fun h => ?_) (fun h => ?_) | refine And.intro ?_ ?_ | refine reg_tail (by kernel_rfl) ?_)
  · refine ret_plain ?_
    refine veq_of_eq (congrArg Value.bool ?_)
    rw [hw, hb] at *
    have e : bt (bs l) ((l.length : Int) - 1) = 10 ↔ l.getD (l.length - 1) 0 = 10 := by
      rw [show (l.length : Int) - 1 = ((l.length - 1 : Nat) : Int) by omega]
      exact bt10 l (l.length - 1)
    by_cases k : l.getD (l.length - 1) 0 = 10
    · rw [e.2 k]
      simp only [k, and_true]
      simp; omega
    · have : ¬ bt (bs l) ((l.length : Int) - 1) = 10 := fun x => k (e.1 x)
      simp only [k, and_false, decide_false]
      simp [this]
  · refine ret_plain ?_
    refine veq_of_eq (congrArg Value.bool ?_)
    rw [hw]
    simp
    omega

theorem rBare_con (l : Byt) (hl : l.length ≤ 9223372036854775807) : Con Tryd.prog glob 44 [str l] [] 0 (retV 0 (str (bareF l))) := by
  have hb : (bs l).size = l.length := bs_size l
  have hw := whole_eq l
  have h := rWhole_con l hl
  refine spec_intro (tab := tab) (N := 11) Tryd.func44 rfl rfl tab_ok mix rfl rfl _ rfl ?_
  intro B hG
  repeat' (first | refine And.intro (by first | omega | (dsimp only; omega) | (show (_ : Bool) = true; kernel_rfl) | decide | (repeat' (first | refine And.intro ?_ ?_ | exact trivial | exact rfl))) ?_ | refine bcs_dec (fun h => ?_) (fun h => ?_) | refine bcs_ndec (fun h => ?_) (fun h => ?_) | refine bcs_not ?_ | refine bcs_intro (fun h => ?_) (fun h => ?_) | refine And.intro ?_ ?_ | refine reg_tail (by kernel_rfl) ?_)
  rw [bare_eq]
  cases hc : wholeF l with
  | true =>
    rw [hc] at h hw
    simp at hw
    refine call_rule [] (h) hG ?_ ?_
    · (refine ⟨?_, ?_, rfl, rfl, rfl⟩ <;> repeat' (first | refine And.intro ?_ ?_ | exact trivial | exact rfl | refine lt0 | refine lt1 ?_ | refine lt2 ?_ ?_ | refine lt3 ?_ ?_ ?_ | refine lt4 ?_ ?_ ?_ ?_ | exact veq_refl _ | decide | (intro i hi; repeat' (first | refine And.intro ?_ ?_ | exact trivial | exact rfl))))
      all_goals first | exact Nat.le_refl _ | omega
    rintro _ _ _ ⟨rfl, rfl, rfl⟩
    repeat' (first | refine And.intro (by first | omega | (dsimp only; omega) | (show (_ : Bool) = true; kernel_rfl) | decide | (repeat' (first | refine And.intro ?_ ?_ | exact trivial | exact rfl))) ?_ | refine bcs_dec (fun h => ?_) (fun h => ?_) | refine bcs_ndec (fun h => ?_) (fun h => ?_) | refine bcs_not ?_ | refine bcs_intro (fun h => ?_) (fun h => ?_) | refine And.intro ?_ ?_ | refine reg_tail (by kernel_rfl) ?_)
    refine ret_plain ?_
    refine veq_of_eq (congrArg Value.string ?_)
    rw [hb, if_pos rfl]
    refine Eq.symm ((cut0 l _).trans ?_)
    rw [show ((l.length : Int) - 1).toNat = l.length - 1 by omega]
  | false =>
    rw [hc] at h hw
    refine call_rule [] (h) hG ?_ ?_
    · (refine ⟨?_, ?_, rfl, rfl, rfl⟩ <;> repeat' (first | refine And.intro ?_ ?_ | exact trivial | exact rfl | refine lt0 | refine lt1 ?_ | refine lt2 ?_ ?_ | refine lt3 ?_ ?_ ?_ | refine lt4 ?_ ?_ ?_ ?_ | exact veq_refl _ | decide | (intro i hi; repeat' (first | refine And.intro ?_ ?_ | exact trivial | exact rfl))))
      all_goals first | exact Nat.le_refl _ | omega
    rintro _ _ _ ⟨rfl, rfl, rfl⟩
    repeat' (first | refine And.intro (by first | omega | (dsimp only; omega) | (show (_ : Bool) = true; kernel_rfl) | decide | (repeat' (first | refine And.intro ?_ ?_ | exact trivial | exact rfl))) ?_ | refine bcs_dec (fun h => ?_) (fun h => ?_) | refine bcs_ndec (fun h => ?_) (fun h => ?_) | refine bcs_not ?_ | refine bcs_intro (fun h => ?_) (fun h => ?_) | refine And.intro ?_ ?_ | refine reg_tail (by kernel_rfl) ?_)
    refine ret_plain ?_
    exact rfl

theorem whole_last (l : Byt) : wholeF l = decide (l.getLast? = some 10) := by
  rw [whole_eq]
  rcases List.eq_nil_or_concat l with rfl | ⟨q, c, rfl⟩
  · rfl
  · by_cases h : c = 10 <;> simp [h]


abbrev okI (x : Byt) (last : Prop) : Prop := x ≠ [] ∧ (Lib.indexByte x 10 = (x.length : Int) - 1 ∨ (Lib.indexByte x 10 = -1 ∧ last))
def validB (L : List Byt) : Bool := decide (∀ i, i < L.length → okI (L.getD i []) (i + 1 = L.length))
theorem valid_yes {L : List Byt} (h : ∀ i, i < L.length → okI (L.getD i []) (i + 1 = L.length)) : validB L = true := decide_eq_true h
theorem valid_not {L : List Byt} {i : Nat} (hi : i < L.length) (h : ¬ okI (L.getD i []) (i + 1 = L.length)) : validB L = false := decide_eq_false fun k => h (k i hi)
theorem getD_le {L : List Byt} {m : Nat} (h : ∀ x ∈ L, x.length ≤ m) (i : Nat) : (L.getD i []).length ≤ m := by
  rcases Nat.lt_or_ge i L.length with hlt | hge
  · rw [List.getD_eq_getElem?_getD, List.getElem?_eq_getElem hlt]
    exact h _ (List.getElem_mem hlt)
  · rw [List.getD_eq_getElem?_getD, List.getElem?_eq_none hge]
    simp

set_option maxRecDepth 100000 in
set_option maxHeartbeats 4000000 in
theorem lvalid_con (L : List Byt) (hl : L.length ≤ 9223372036854775807) (hx : ∀ x ∈ L, x.length ≤ 140737488355328) : Con Tryd.prog glob 35 [.s 0 0 L.length] [(0, stRo L)] 1 (retV 1 (.v (.bool (validB L)))) := by
  refine spec_intro (tab := tab) (N := 40) Tryd.func35 rfl rfl tab_ok mix rfl rfl _ rfl ?_
  intro B hG
  repeat' (first | refine And.intro (by first | omega | (dsimp only; omega) | (show (_ : Bool) = true; kernel_rfl) | decide | (repeat' (first | refine And.intro ?_ ?_ | exact trivial | exact rfl))) ?_ | refine bcs_dec (fun h => ?_) (fun h => ?_) | refine bcs_ndec (fun h => ?_) (fun h => ?_) | refine bcs_not ?_ | refine bcs_intro (fun h => ?_) (fun h => ?_) | refine And.intro ?_ ?_ | refine reg_tail (by kernel_rfl) ?_)
  refine loop_rule (α := Nat) (fun k => ⟨[(0, .s 0 0 L.length), (6, .s 0 0 L.length), (7, .v (.int .i64 L.length)), (8, .v (.int .i64 k))], [(0, stRo L)], 1⟩)
    (fun k => k ≤ L.length ∧ ∀ i, i < k → okI (L.getD i []) (i + 1 = L.length)) (fun k => L.length - k) 0 [] ?_ ?_ ?_
  · exact ⟨by omega, fun i h => absurd h (by omega)⟩
  · (refine ⟨rfl, rfl, ?_, ?_⟩ <;> repeat' (first | refine And.intro ?_ ?_ | exact trivial | exact rfl | refine lt0 | refine lt1 ?_ | refine lt2 ?_ ?_ | refine lt3 ?_ ?_ ?_ | refine lt4 ?_ ?_ ?_ ?_ | exact veq_refl _ | decide | (intro i hi; repeat' (first | refine And.intro ?_ ?_ | exact trivial | exact rfl))))
    all_goals exact Nat.le_refl _
  rintro k ⟨h1, h2⟩
  have ek : (L.getD (0 + (k : Int).toNat) []) = L.getD k [] := by simp
  have hb : (bs (L.getD (0 + (k : Int).toNat) [])).size = (L.getD k []).length := by rw [ek, bs_size]
  have hm := getD_le hx k
  have hi := idx_con (L.getD (0 + (k : Int).toNat) [])
  have step : k < L.length → okI (L.getD k []) (k + 1 = L.length) → (k + 1 ≤ L.length ∧ ∀ i, i < k + 1 → okI (L.getD i []) (i + 1 = L.length)) := fun h h' => ⟨h, fun i hi => by
    rcases Nat.lt_succ_iff_lt_or_eq.1 hi with h3 | rfl
    · exact h2 i h3
    · exact h'⟩
  rcases idx_cases (L.getD (0 + (k : Int).toNat) []) with ⟨k1, _⟩ | ⟨q, k1, k2, _, _⟩
  all_goals
    rw [k1] at hi
    rw [ek] at k1
    try rw [ek] at k2
    repeat' (first | refine And.intro (by first | omega | (dsimp only; omega) | (show (_ : Bool) = true; kernel_rfl) | decide | (repeat' (first | refine And.intro ?_ ?_ | exact trivial | exact rfl))) ?_ | refine bcs_dec (fun h => ?_) (fun h => ?_) | refine bcs_ndec (fun h => ?_) (fun h => ?_) | refine bcs_not ?_ | refine bcs_intro (fun h => ?_) (fun h => ?_) | refine And.intro ?_ ?_ | refine reg_tail (by kernel_rfl) ?_)
    refine call_rule [] (hi) hG ?_ ?_
    · (refine ⟨?_, ?_, rfl, rfl, rfl⟩ <;> repeat' (first | refine And.intro ?_ ?_ | exact trivial | exact rfl | refine lt0 | refine lt1 ?_ | refine lt2 ?_ ?_ | refine lt3 ?_ ?_ ?_ | refine lt4 ?_ ?_ ?_ ?_ | exact veq_refl _ | decide | (intro i hi; repeat' (first | refine And.intro ?_ ?_ | exact trivial | exact rfl))))
      all_goals first | exact Nat.le_refl _ | omega
    rintro _ _ _ ⟨rfl, rfl, rfl⟩
    repeat' (first | refine And.intro (by first | omega | (dsimp only; omega) | (show (_ : Bool) = true; kernel_rfl) | decide | (repeat' (first | refine And.intro ?_ ?_ | exact trivial | exact rfl))) ?_ | refine bcs_dec (fun h => ?_) (fun h => ?_) | refine bcs_ndec (fun h => ?_) (fun h => ?_) | refine bcs_not ?_ | refine bcs_intro (fun h => ?_) (fun h => ?_) | refine And.intro ?_ ?_ | refine reg_tail (by kernel_rfl) ?_)
    all_goals first
      | (refine ret_plain ?_
         refine veq_of_eq (congrArg Value.bool ?_)
         refine (valid_not (i := k) (by omega) ?_)
         rintro ⟨g1, g2⟩
         have g0 := List.length_pos_iff.2 g1
         first
           | (rcases g2 with g2 | ⟨g2, g3⟩ <;> omega)
           | exact g1 (by rw [← ek]; exact nil_of (by assumption))
         done)
      | (refine ⟨k + 1, [], ?_, ?_, ?_⟩
         · exact step (by omega) ⟨by rw [← ek]; exact cons_of (by assumption), by first | exact .inl (by omega) | exact .inr ⟨k1, by omega⟩⟩
         · show L.length - (k + 1) < L.length - k
           omega
         · (refine ⟨rfl, rfl, ?_, ?_⟩ <;> repeat' (first | refine And.intro ?_ ?_ | exact trivial | exact rfl | refine lt0 | refine lt1 ?_ | refine lt2 ?_ ?_ | refine lt3 ?_ ?_ ?_ | refine lt4 ?_ ?_ ?_ ?_ | exact veq_refl _ | decide | (intro i hi; repeat' (first | refine And.intro ?_ ?_ | exact trivial | exact rfl))))
           all_goals exact Nat.le_refl _
         done)
      | (refine ret_plain ?_
         refine veq_of_eq (congrArg Value.bool ?_)
         exact valid_yes fun i hi => h2 i (by omega))

theorem idx_is {x : Byt} {q : Nat} (h1 : q < x.length) (h2 : x.getD q 0 = 10) (h3 : ∀ j, j < q → x.getD j 0 ≠ 10) : Lib.indexByte x 10 = q := by
  rcases idx_cases x with ⟨_, k2⟩ | ⟨r, k1, k2, k3, k4⟩
  · exact absurd (by rw [← h2, List.getD_eq_getElem?_getD, List.getElem?_eq_getElem h1]; exact List.getElem_mem h1) k2
  · rcases Nat.lt_trichotomy q r with hlt | rfl | hgt
    · refine absurd ?_ k4
      rw [← h2]
      refine List.mem_iff_getElem?.2 ⟨q, ?_⟩
      rw [List.getElem?_take_of_lt hlt, List.getD_eq_getElem?_getD, List.getElem?_eq_getElem h1]
      rfl
    · exact k1
    · exact absurd k3 (h3 r hgt)
theorem idx_no {x : Byt} (h : ∀ j, j < x.length → x.getD j 0 ≠ 10) : Lib.indexByte x 10 = -1 := by
  rcases idx_cases x with ⟨k1, _⟩ | ⟨r, _, k2, k3, _⟩
  · exact k1
  · exact absurd k3 (h r k2)
theorem idx_none {x : Byt} (h : Lib.indexByte x 10 = -1) {j : Nat} (hj : j < x.length) : x.getD j 0 ≠ 10 := by
  intro e
  rcases idx_cases x with ⟨_, k2⟩ | ⟨r, k1, _⟩
  · refine k2 ?_
    rw [← e, List.getD_eq_getElem?_getD, List.getElem?_eq_getElem hj]
    exact List.getElem_mem hj
  · omega
theorem idx_at {x : Byt} {q : Nat} (h : Lib.indexByte x 10 = q) : q < x.length ∧ x.getD q 0 = 10 ∧ ∀ j, j < q → x.getD j 0 ≠ 10 := by
  rcases idx_cases x with ⟨k1, _⟩ | ⟨r, k1, k2, k3, k4⟩
  · omega
  · obtain rfl : r = q := by omega
    refine ⟨k2, k3, fun j hj e => k4 ?_⟩
    rw [← e]
    refine List.mem_iff_getElem?.2 ⟨j, ?_⟩
    rw [List.getElem?_take_of_lt hj, List.getD_eq_getElem?_getD, List.getElem?_eq_getElem (by omega)]
    rfl
theorem ok_iff (x : Byt) (last : Prop) : okI x last ↔ 0 < x.length ∧ (∀ j, j + 1 < x.length → x.getD j 0 ≠ 10) ∧ (last ∨ x.getD (x.length - 1) 0 = 10) := by
  constructor
  · rintro ⟨g1, g2⟩
    have g0 := List.length_pos_iff.2 g1
    refine ⟨g0, fun j hj => ?_, ?_⟩
    · rcases g2 with g2 | ⟨g2, _⟩
      · exact (idx_at (q := x.length - 1) (by omega)).2.2 j (by omega)
      · exact idx_none g2 (by omega)
    · rcases g2 with g2 | ⟨_, g2⟩
      · exact .inr (idx_at (q := x.length - 1) (by omega)).2.1
      · exact .inl g2
  · rintro ⟨g0, g1, g2⟩
    refine ⟨List.length_pos_iff.1 g0, ?_⟩
    by_cases e : x.getD (x.length - 1) 0 = 10
    · left
      rw [idx_is (q := x.length - 1) (by omega) e fun j hj => g1 j (by omega)]
      omega
    · right
      refine ⟨idx_no fun j hj => ?_, g2.resolve_right e⟩
      rcases Nat.lt_or_ge (j + 1) x.length with h | h
      · exact g1 j h
      · rwa [show j = x.length - 1 by omega]

set_option maxRecDepth 100000 in
set_option maxHeartbeats 4000000 in
theorem lrValid_con (L : List Byt) (hl : L.length ≤ 9223372036854775807) (hx : ∀ x ∈ L, x.length ≤ 140737488355328) : Con Tryd.prog glob 39 [.s 0 0 L.length] [(0, stRo L)] 1 (retV 1 (.v (.bool (validB L)))) := by
  refine spec_intro (tab := tab) (N := 49) Tryd.func39 rfl rfl tab_ok mix rfl rfl _ rfl ?_
  intro B hG
  repeat' (first | refine And.intro (by first | omega | (dsimp only; omega) | (show (_ : Bool) = true; kernel_rfl) | decide | (repeat' (first | refine And.intro ?_ ?_ | exact trivial | exact rfl))) ?_ | refine bcs_dec (fun h => ?_) (fun h => ?_) | refine bcs_ndec (fun h => ?_) (fun h => ?_) | refine bcs_not ?_ | refine bcs_intro (fun h => ?_) (fun h => ?_) | refine And.intro ?_ ?_ | refine reg_tail (by kernel_rfl) ?_)
  refine loop_rule (α := Nat) (fun k => ⟨[(0, .s 0 0 L.length), (3, .v (.int .i64 k))], [(0, stRo L)], 1⟩)
    (fun k => k ≤ L.length ∧ ∀ i, i < k → okI (L.getD i []) (i + 1 = L.length)) (fun k => L.length - k) 0 [] ?_ ?_ ?_
  · exact ⟨by omega, fun i h => absurd h (by omega)⟩
  · (refine ⟨rfl, rfl, ?_, ?_⟩ <;> repeat' (first | refine And.intro ?_ ?_ | exact trivial | exact rfl | refine lt0 | refine lt1 ?_ | refine lt2 ?_ ?_ | refine lt3 ?_ ?_ ?_ | refine lt4 ?_ ?_ ?_ ?_ | exact veq_refl _ | decide | (intro i hi; repeat' (first | refine And.intro ?_ ?_ | exact trivial | exact rfl))))
    all_goals exact Nat.le_refl _
  rintro k ⟨h1, h2⟩
  have ek : (L.getD (0 + (k : Int).toNat) []) = L.getD k [] := by simp
  have hb : (bs (L.getD (0 + (k : Int).toNat) [])).size = (L.getD k []).length := by rw [ek, bs_size]
  have hm := getD_le hx k
  have step : k < L.length → okI (L.getD k []) (k + 1 = L.length) → (k + 1 ≤ L.length ∧ ∀ i, i < k + 1 → okI (L.getD i []) (i + 1 = L.length)) := fun h h' => ⟨h, fun i hi => by
    rcases Nat.lt_succ_iff_lt_or_eq.1 hi with h3 | rfl
    · exact h2 i h3
    · exact h'⟩
  repeat' (first | refine And.intro (by first | omega | (dsimp only; omega) | (show (_ : Bool) = true; kernel_rfl) | decide | (repeat' (first | refine And.intro ?_ ?_ | exact trivial | exact rfl))) ?_ | refine bcs_dec (fun h => ?_) (fun h => ?_) | refine bcs_ndec (fun h => ?_) (fun h => ?_) | refine bcs_not ?_ | refine bcs_intro (fun h => ?_) (fun h => ?_) | refine And.intro ?_ ?_ | refine reg_tail (by kernel_rfl) ?_)
  · refine loop_rule (α := Nat) (fun j => ⟨[(0, .s 0 0 L.length), (3, .v (.int .i64 k)), (4, .v (.int .i64 (bs (L.getD (0 + (k : Int).toNat) [])).size)), (5, .v (.int .i64 j))], [(0, stRo L)], 1⟩)
      (fun j => j ≤ (L.getD k []).length ∧ ∀ i, i < j → i + 1 < (L.getD k []).length → (L.getD k []).getD i 0 ≠ 10) (fun j => (L.getD k []).length - j) 0 [] ?_ ?_ ?_
    · exact ⟨by omega, fun i h => absurd h (by omega)⟩
    · (refine ⟨rfl, rfl, ?_, ?_⟩ <;> repeat' (first | refine And.intro ?_ ?_ | exact trivial | exact rfl | refine lt0 | refine lt1 ?_ | refine lt2 ?_ ?_ | refine lt3 ?_ ?_ ?_ | refine lt4 ?_ ?_ ?_ ?_ | exact veq_refl _ | decide | (intro i hi; repeat' (first | refine And.intro ?_ ?_ | exact trivial | exact rfl))))
      all_goals exact Nat.le_refl _
    rintro j ⟨g1, g2⟩
    have hbt : bt (bs (L.getD (0 + (k : Int).toNat) [])) (j : Int) = 10 ↔ (L.getD k []).getD j 0 = 10 := by rw [ek]; exact bt10 _ _
    have hbl : 0 < (L.getD k []).length → (bt (bs (L.getD (0 + (k : Int).toNat) [])) ((((bs (L.getD (0 + (k : Int).toNat) [])).size : Nat) : Int) - 1) = 10 ↔ (L.getD k []).getD ((L.getD k []).length - 1) 0 = 10) := fun h => by
      rw [hb, show ((L.getD k []).length : Int) - 1 = (((L.getD k []).length - 1 : Nat) : Int) by omega, ek]
      exact bt10 _ _
    repeat' (first | refine And.intro (by first | omega | (dsimp only; omega) | (show (_ : Bool) = true; kernel_rfl) | decide | (repeat' (first | refine And.intro ?_ ?_ | exact trivial | exact rfl))) ?_ | refine bcs_dec (fun h => ?_) (fun h => ?_) | refine bcs_ndec (fun h => ?_) (fun h => ?_) | refine bcs_not ?_ | refine bcs_intro (fun h => ?_) (fun h => ?_) | refine And.intro ?_ ?_ | refine reg_tail (by kernel_rfl) ?_)
    all_goals first
      | (refine ret_plain ?_
         refine veq_of_eq (congrArg Value.bool ?_)
         refine (valid_not (i := k) (by omega) ?_)
         rw [ok_iff]
         rintro ⟨e1, e2, e3⟩
         first
           | omega
           | exact e2 j (by omega) (hbt.1 (by assumption))
           | (rcases e3 with e3 | e3
              · omega
              · exact absurd ((hbl e1).2 e3) (by assumption))
         done)
      | (refine ⟨j + 1, [], ?_, ?_, ?_⟩
         · refine ⟨by omega, fun i hi hl => ?_⟩
           rcases Nat.lt_succ_iff_lt_or_eq.1 hi with h3 | rfl
           · exact g2 i h3 hl
           · exact fun e => absurd (hbt.2 e) (by assumption)
         · show (L.getD k []).length - (j + 1) < (L.getD k []).length - j
           omega
         · (refine ⟨rfl, rfl, ?_, ?_⟩ <;> repeat' (first | refine And.intro ?_ ?_ | exact trivial | exact rfl | refine lt0 | refine lt1 ?_ | refine lt2 ?_ ?_ | refine lt3 ?_ ?_ ?_ | refine lt4 ?_ ?_ ?_ ?_ | exact veq_refl _ | decide | (intro i hi; repeat' (first | refine And.intro ?_ ?_ | exact trivial | exact rfl))))
           all_goals exact Nat.le_refl _
         done)
      | (refine ⟨k + 1, [], ?_, ?_, ?_⟩
         · refine step (by omega) ((ok_iff _ _).2 ⟨by omega, fun i hi => g2 i (by omega) hi, ?_⟩)
           first
             | exact .inl (by omega)
             | exact .inr ((hbl (by omega)).1 (by assumption))
         · show L.length - (k + 1) < L.length - k
           omega
         · (refine ⟨rfl, rfl, ?_, ?_⟩ <;> repeat' (first | refine And.intro ?_ ?_ | exact trivial | exact rfl | refine lt0 | refine lt1 ?_ | refine lt2 ?_ ?_ | refine lt3 ?_ ?_ ?_ | refine lt4 ?_ ?_ ?_ ?_ | exact veq_refl _ | decide | (intro i hi; repeat' (first | refine And.intro ?_ ?_ | exact trivial | exact rfl))))
           all_goals exact Nat.le_refl _
         done)
  · refine ret_plain ?_
    refine veq_of_eq (congrArg Value.bool ?_)
    exact valid_yes fun i hi => h2 i (by omega)
end Go.Proofs.YtjlobgcmhnkgnaaDoor
