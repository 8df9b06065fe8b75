/- Chapter 15: the document's pieces of a text, walked. -/
import Derived.Test.YtjlobgcmhnkgnaaW2
namespace Go.Proofs.Ytjlobgcmhnkgnaa
open Go Go.RowKit Vc

theorem class_ne (c p : UInt8) : classF c = classF p ↔ kindF c = kindF p := by
  have h1 := kind_le c
  have h2 := kind_le p
  unfold classF
  split <;> split <;> (try split) <;> (try split) <;> omega
theorem class_0 (c : UInt8) : classF c = 0 ↔ kindF c = 2 := by
  have h1 := kind_le c
  unfold classF
  split <;> (try split) <;> omega
theorem seg_snoc {s : Byt} {a i : Nat} (h : i < s.length) (ha : a ≤ i) : (s.drop a).take (i + 1 - a) = (s.drop a).take (i - a) ++ [s.getD i 0] := by
  rw [show i + 1 - a = (i - a) + 1 by omega, List.take_add_one, List.getElem?_drop, show a + (i - a) = i by omega]
  simp [h]
theorem seg_one {s : Byt} {i : Nat} (h : i < s.length) : (s.drop i).take (i + 1 - i) = [s.getD i 0] := by
  have := seg_snoc (s := s) (a := i) h (Nat.le_refl _)
  simpa using this
theorem seg_last {s : Byt} {a i : Nat} (h : i ≤ s.length) (ha : a < i) : lastB ((s.drop a).take (i - a)) = s.getD (i - 1) 0 := by
  obtain ⟨m, rfl⟩ : ∃ m, i = m + 1 := ⟨i - 1, by omega⟩
  rw [seg_snoc (by omega) (by omega), lastB_snoc, Nat.add_sub_cancel]
set_option maxRecDepth 100000 in
set_option maxHeartbeats 4000000 in
theorem rWords_con (s : Byt) (hs : s.length ≤ 4194304) : Con Try.prog glob 6 [str s] [] 0 (retM (.o 0) [(0, stOwn (wordsF s))] 1) := by
  have hb : (bs s).size = s.length := bs_size s
  refine spec_intro (tab := tab) (N := 44) Try.func6 rfl rfl tab_ok mix rfl rfl _ rfl ?_
  intro B hG
  repeat' (first | refine And.intro (by first | omega | (dsimp only; omega) | (show (_ : Bool) = true; kernel_rfl) | decide | (repeat' (first | refine And.intro ?_ ?_ | exact trivial | exact rfl))) ?_ | refine bcs_dec (fun h => ?_) (fun h => ?_) | refine bcs_ndec (fun h => ?_) (fun h => ?_) | refine bcs_not ?_ | refine bcs_intro (fun h => ?_) (fun h => ?_) | refine And.intro ?_ ?_ | refine reg_tail (by kernel_rfl) ?_)
  refine loop_rule (α := Nat × Nat × List Byt) (fun (i, a, out) => ⟨[(0, str s), (3, .o 0), (4, .v (.int .i64 a)), (5, .v (.int .i64 i))], [(0, stOwn out)], 1⟩)
    (fun (i, a, out) => 1 ≤ i ∧ i ≤ s.length + 1 ∧ a < i ∧ out.length ≤ i ∧ (i ≤ s.length → out ++ wordG (s.drop i) ((s.drop a).take (i - a)) = wordsF s) ∧ (s.length < i → out = wordsF s)) (fun (i, _) => s.length + 1 - i) (1, 0, []) [.nil 1] ?_ ?_ ?_
  · refine ⟨by omega, by omega, by omega, by simp, fun h => ?_, fun h => ?_⟩
    · cases s with
      | nil => simp at h
      | cons c r => simp [wordsF]
    · have : s = [] := List.eq_nil_of_length_eq_zero (by omega)
      subst this
      rfl
  · (refine ⟨rfl, rfl, ?_, ?_⟩ <;> repeat' (first | refine And.intro ?_ ?_ | exact trivial | exact rfl | refine lt0 | refine lt1 ?_ | refine lt2 ?_ ?_ | refine lt3 ?_ ?_ ?_ | refine lt4 ?_ ?_ ?_ ?_ | exact veq_refl _ | decide | (intro i hi; repeat' (first | refine And.intro ?_ ?_ | exact trivial | exact rfl))))
  rintro ⟨i, a, out⟩ ⟨h1, h2, h3, h4, h5, h6⟩
  have hc1 := class_con (s.getD i 0)
  have hc2 := class_con (s.getD ((i : Int) - 1).toNat 0)
  have ei : s.getD ((i : Int) - 1).toNat 0 = s.getD (i - 1) 0 := by rw [show ((i : Int) - 1).toNat = i - 1 by omega]
  have hcn : classF (s.getD i 0) = classF (s.getD ((i : Int) - 1).toNat 0) ↔ kindF (s.getD i 0) = kindF (s.getD (i - 1) 0) := by rw [ei]; exact class_ne _ _
  have hc0 := class_0 (s.getD i 0)
  have hst : i < s.length → out ++ (if kindF (s.getD i 0) = 2 ∨ kindF (s.getD i 0) ≠ kindF (s.getD (i - 1) 0) then (s.drop a).take (i - a) :: wordG (s.drop (i + 1)) ((s.drop i).take (i + 1 - i)) else wordG (s.drop (i + 1)) ((s.drop a).take (i + 1 - a))) = wordsF s := fun h => by
    rw [← h5 (by omega), seg_one h, seg_snoc h (by omega), drop_get 0 s i h]
    simp only [wordG]
    rw [seg_last (by omega) h3]
  repeat' (first | refine And.intro (by first | omega | (dsimp only; omega) | (show (_ : Bool) = true; kernel_rfl) | decide | (repeat' (first | refine And.intro ?_ ?_ | exact trivial | exact rfl))) ?_ | refine bcs_dec (fun h => ?_) (fun h => ?_) | refine bcs_ndec (fun h => ?_) (fun h => ?_) | refine bcs_not ?_ | refine bcs_intro (fun h => ?_) (fun h => ?_) | refine And.intro ?_ ?_)
  · refine reg_mix [] [(0, true), (1, false), (2, false), (3, false), (4, false), (5, true), (6, true), (7, true), (9, true), (10, true), (11, true), (12, true), (8, false), (13, false), (14, false), (15, false), (16, false), (17, true), (18, false), (19, false), (20, false), (21, false), (22, false)] (by decide +kernel) rfl ?_
    intro B' hB'
    have hG' := hG
    have hG := hB'.trans hG
    repeat' (first | refine And.intro (by first | omega | (dsimp only; omega) | (show (_ : Bool) = true; kernel_rfl) | decide | (repeat' (first | refine And.intro ?_ ?_ | exact trivial | exact rfl))) ?_ | refine bcs_dec (fun h => ?_) (fun h => ?_) | refine bcs_ndec (fun h => ?_) (fun h => ?_) | refine bcs_not ?_ | refine bcs_intro (fun h => ?_) (fun h => ?_) | refine And.intro ?_ ?_ | refine reg_tail (by kernel_rfl) ?_)
    · skip
      have hG := hG'
      refine app1 stEnc [] out ((s.drop a).take (i - a)) rfl (enc_eq (bs_cut s a i)) ?_
      repeat' (first | refine And.intro (by first | omega | (dsimp only; omega) | (show (_ : Bool) = true; kernel_rfl) | decide | (repeat' (first | refine And.intro ?_ ?_ | exact trivial | exact rfl))) ?_ | refine bcs_dec (fun h => ?_) (fun h => ?_) | refine bcs_ndec (fun h => ?_) (fun h => ?_) | refine bcs_not ?_ | refine bcs_intro (fun h => ?_) (fun h => ?_) | refine And.intro ?_ ?_ | refine reg_tail (by kernel_rfl) ?_)
      refine ⟨(i + 1, i, out ++ [(s.drop a).take (i - a)]), [.at 2 0], ?_, ?_, ?_⟩
      · refine ⟨by omega, by omega, by omega, by simp; omega, fun hle => ?_, fun hlt => ?_⟩
        · omega
        · have e : s.drop i = [] := List.drop_of_length_le (by omega)
          rw [← h5 (by omega), e]
          rfl
      · show s.length + 1 - (i + 1) < s.length + 1 - i
        omega
      · (refine ⟨rfl, rfl, ?_, ?_⟩ <;> repeat' (first | refine And.intro ?_ ?_ | exact trivial | exact rfl | refine lt0 | refine lt1 ?_ | refine lt2 ?_ ?_ | refine lt3 ?_ ?_ ?_ | refine lt4 ?_ ?_ ?_ ?_ | exact veq_refl _ | decide | (intro i hi; repeat' (first | refine And.intro ?_ ?_ | exact trivial | exact rfl))))
        simp
    · skip
      refine call_rule [] (hc1) hG ?_ ?_
      · (refine ⟨?_, ?_, rfl, rfl, rfl⟩ <;> repeat' (first | refine And.intro ?_ ?_ | exact trivial | exact rfl | refine lt0 | refine lt1 ?_ | refine lt2 ?_ ?_ | refine lt3 ?_ ?_ ?_ | refine lt4 ?_ ?_ ?_ ?_ | exact veq_refl _ | decide | (intro i hi; repeat' (first | refine And.intro ?_ ?_ | exact trivial | exact rfl))))
        all_goals first | exact Nat.le_refl _ | omega
      rintro _ _ _ ⟨rfl, rfl, rfl⟩
      repeat' (first | refine And.intro (by first | omega | (dsimp only; omega) | (show (_ : Bool) = true; kernel_rfl) | decide | (repeat' (first | refine And.intro ?_ ?_ | exact trivial | exact rfl))) ?_ | refine bcs_dec (fun h => ?_) (fun h => ?_) | refine bcs_ndec (fun h => ?_) (fun h => ?_) | refine bcs_not ?_ | refine bcs_intro (fun h => ?_) (fun h => ?_) | refine And.intro ?_ ?_ | refine reg_tail (by kernel_rfl) ?_)
      refine call_rule [] (hc2) hG ?_ ?_
      · (refine ⟨?_, ?_, rfl, rfl, rfl⟩ <;> repeat' (first | refine And.intro ?_ ?_ | exact trivial | exact rfl | refine lt0 | refine lt1 ?_ | refine lt2 ?_ ?_ | refine lt3 ?_ ?_ ?_ | refine lt4 ?_ ?_ ?_ ?_ | exact veq_refl _ | decide | (intro i hi; repeat' (first | refine And.intro ?_ ?_ | exact trivial | exact rfl))))
        all_goals first | exact Nat.le_refl _ | omega
      rintro _ _ _ ⟨rfl, rfl, rfl⟩
      repeat' (first | refine And.intro (by first | omega | (dsimp only; omega) | (show (_ : Bool) = true; kernel_rfl) | decide | (repeat' (first | refine And.intro ?_ ?_ | exact trivial | exact rfl))) ?_ | refine bcs_dec (fun h => ?_) (fun h => ?_) | refine bcs_ndec (fun h => ?_) (fun h => ?_) | refine bcs_not ?_ | refine bcs_intro (fun h => ?_) (fun h => ?_) | refine And.intro ?_ ?_ | refine reg_tail (by kernel_rfl) ?_)
      · skip
        have hG := hG'
        refine app1 stEnc [] out ((s.drop a).take (i - a)) rfl (enc_eq (bs_cut s a i)) ?_
        repeat' (first | refine And.intro (by first | omega | (dsimp only; omega) | (show (_ : Bool) = true; kernel_rfl) | decide | (repeat' (first | refine And.intro ?_ ?_ | exact trivial | exact rfl))) ?_ | refine bcs_dec (fun h => ?_) (fun h => ?_) | refine bcs_ndec (fun h => ?_) (fun h => ?_) | refine bcs_not ?_ | refine bcs_intro (fun h => ?_) (fun h => ?_) | refine And.intro ?_ ?_ | refine reg_tail (by kernel_rfl) ?_)
        refine ⟨(i + 1, i, out ++ [(s.drop a).take (i - a)]), [.at 2 0], ?_, ?_, ?_⟩
        · refine ⟨by omega, by omega, by omega, by simp; omega, fun hle => ?_, fun hlt => ?_⟩
          · have e := hst (by omega)
            rw [if_pos (by first | exact .inl (by omega) | exact .inr (by omega))] at e
            rw [← e]
            simp
          · omega
        · show s.length + 1 - (i + 1) < s.length + 1 - i
          omega
        · (refine ⟨rfl, rfl, ?_, ?_⟩ <;> repeat' (first | refine And.intro ?_ ?_ | exact trivial | exact rfl | refine lt0 | refine lt1 ?_ | refine lt2 ?_ ?_ | refine lt3 ?_ ?_ ?_ | refine lt4 ?_ ?_ ?_ ?_ | exact veq_refl _ | decide | (intro i hi; repeat' (first | refine And.intro ?_ ?_ | exact trivial | exact rfl))))
          simp
      · skip
        refine call_rule [] (hc1) hG ?_ ?_
        · (refine ⟨?_, ?_, rfl, rfl, rfl⟩ <;> repeat' (first | refine And.intro ?_ ?_ | exact trivial | exact rfl | refine lt0 | refine lt1 ?_ | refine lt2 ?_ ?_ | refine lt3 ?_ ?_ ?_ | refine lt4 ?_ ?_ ?_ ?_ | exact veq_refl _ | decide | (intro i hi; repeat' (first | refine And.intro ?_ ?_ | exact trivial | exact rfl))))
          all_goals first | exact Nat.le_refl _ | omega
        rintro _ _ _ ⟨rfl, rfl, rfl⟩
        repeat' (first | refine And.intro (by first | omega | (dsimp only; omega) | (show (_ : Bool) = true; kernel_rfl) | decide | (repeat' (first | refine And.intro ?_ ?_ | exact trivial | exact rfl))) ?_ | refine bcs_dec (fun h => ?_) (fun h => ?_) | refine bcs_ndec (fun h => ?_) (fun h => ?_) | refine bcs_not ?_ | refine bcs_intro (fun h => ?_) (fun h => ?_) | refine And.intro ?_ ?_ | refine reg_tail (by kernel_rfl) ?_)
        · skip
          have hG := hG'
          refine app1 stEnc [] out ((s.drop a).take (i - a)) rfl (enc_eq (bs_cut s a i)) ?_
          repeat' (first | refine And.intro (by first | omega | (dsimp only; omega) | (show (_ : Bool) = true; kernel_rfl) | decide | (repeat' (first | refine And.intro ?_ ?_ | exact trivial | exact rfl))) ?_ | refine bcs_dec (fun h => ?_) (fun h => ?_) | refine bcs_ndec (fun h => ?_) (fun h => ?_) | refine bcs_not ?_ | refine bcs_intro (fun h => ?_) (fun h => ?_) | refine And.intro ?_ ?_ | refine reg_tail (by kernel_rfl) ?_)
          refine ⟨(i + 1, i, out ++ [(s.drop a).take (i - a)]), [.at 2 0], ?_, ?_, ?_⟩
          · refine ⟨by omega, by omega, by omega, by simp; omega, fun hle => ?_, fun hlt => ?_⟩
            · have e := hst (by omega)
              rw [if_pos (by first | exact .inl (by omega) | exact .inr (by omega))] at e
              rw [← e]
              simp
            · omega
          · show s.length + 1 - (i + 1) < s.length + 1 - i
            omega
          · (refine ⟨rfl, rfl, ?_, ?_⟩ <;> repeat' (first | refine And.intro ?_ ?_ | exact trivial | exact rfl | refine lt0 | refine lt1 ?_ | refine lt2 ?_ ?_ | refine lt3 ?_ ?_ ?_ | refine lt4 ?_ ?_ ?_ ?_ | exact veq_refl _ | decide | (intro i hi; repeat' (first | refine And.intro ?_ ?_ | exact trivial | exact rfl))))
            simp
        · skip
          have hG := hG'
          refine ⟨(i + 1, a, out), [.at 0 0], ?_, ?_, ?_⟩
          · refine ⟨by omega, by omega, by omega, by omega, fun hle => ?_, fun hlt => by omega⟩
            have e := hst (by omega)
            rw [if_neg (by omega)] at e
            exact e
          · show s.length + 1 - (i + 1) < s.length + 1 - i
            omega
          · (refine ⟨rfl, rfl, ?_, ?_⟩ <;> repeat' (first | refine And.intro ?_ ?_ | exact trivial | exact rfl | refine lt0 | refine lt1 ?_ | refine lt2 ?_ ?_ | refine lt3 ?_ ?_ ?_ | refine lt4 ?_ ?_ ?_ ?_ | exact veq_refl _ | decide | (intro i hi; repeat' (first | refine And.intro ?_ ?_ | exact trivial | exact rfl))))
  · have e : out = wordsF s := h6 (by omega)
    subst e
    refine ret_mem [.at 0 0] rfl rfl ?_ ?_
    · repeat' (first | refine And.intro ?_ ?_ | exact trivial)
      all_goals exact rfl
    · repeat' (first | refine And.intro ?_ ?_ | exact trivial)
      · exact rfl
      · intro i hi
        repeat' (first | refine And.intro ?_ ?_ | exact trivial)
        all_goals exact rfl
end Go.Proofs.Ytjlobgcmhnkgnaa
