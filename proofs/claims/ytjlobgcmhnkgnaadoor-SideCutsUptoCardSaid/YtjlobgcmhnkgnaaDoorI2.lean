/- Chapter 15: one text with marks, walked. Printed by gen_i2.py. -/
import Derived.Test.YtjlobgcmhnkgnaaDoorI1
namespace Go.Proofs.YtjlobgcmhnkgnaaDoor
open Go Go.RowKit Vc

set_option maxRecDepth 100000 in
set_option maxHeartbeats 16000000 in
theorem inline_ok (s L : List Chg) (a b : List Byt) (ha : a.length ≤ 4194304) (hb : b.length ≤ 4194304)
    (cN : Con Tryd.prog glob 24 [.s 0 0 s.length, .v (.int .i64 a.length), .v (.int .i64 b.length)] [(0, chRo s)] 1 (retM (.t [.o 1, .v .nilIface]) [(1, chOwn L)] 2)) (hL : L.length ≤ 9223372036854775807)
    (hv : validF L 0 0 a.length b.length = 0) (hT : (inlF a b L 0).length ≤ 4194304) :
    Con Tryd.prog glob 8 [.s 0 0 s.length, .s 1 0 a.length, .s 2 0 b.length] [(0, chRo s), (1, stRo a), (2, stRo b)] 3 (retV 3 (.t [str (inlF a b L 0), .v .nilIface])) := by
  obtain ⟨T, hTe⟩ : ∃ T, T = inlF a b L 0 := ⟨_, rfl⟩
  rw [← hTe] at hT ⊢
  have q1 : (ByteArray.mk #[91, 45]).size = 2 := rfl
  have q2 : (ByteArray.mk #[45, 93]).size = 2 := rfl
  have q3 : (ByteArray.mk #[123, 43]).size = 2 := rfl
  have q4 : (ByteArray.mk #[43, 125]).size = 2 := rfl
  refine spec_intro (tab := tab) (N := 83) Tryd.func8 rfl rfl tab_ok mix rfl rfl _ rfl ?_
  intro B hG
  repeat' (first | refine And.intro (by first | omega | (dsimp only; omega) | (show (_ : Bool) = true; kernel_rfl) | decide | (repeat' (first | refine And.intro ?_ ?_ | exact trivial | exact rfl))) ?_ | refine bcs_dec (fun h => ?_) (fun h => False.elim (by first | omega | exact h rfl)) | refine bcs_dec (fun h => False.elim (by omega)) (fun h => ?_) | refine bcs_dec (fun h => ?_) (fun h => ?_) | refine bcs_ndec (fun h => ?_) (fun h => ?_) | refine bcs_not ?_ | refine bcs_intro (fun h => ?_) (fun h => ?_) | refine And.intro ?_ ?_ | refine reg_tail (by kernel_rfl) ?_)
  refine call_rule [.at 0 0] (cN) hG ?_ ?_
  · (refine ⟨?_, ?_, rfl, rfl, rfl⟩ <;> repeat' (first | refine And.intro ?_ ?_ | exact trivial | exact rfl | refine lt0 | refine lt1 ?_ | refine lt2 ?_ ?_ | refine lt3 ?_ ?_ ?_ | refine lt4 ?_ ?_ ?_ ?_ | exact veq_refl _ | decide | (intro i hi; repeat' (first | refine And.intro ?_ ?_ | exact trivial | exact rfl))))
    all_goals first | exact Nat.le_refl _ | omega
  rintro _ _ _ ⟨rfl, rfl, rfl⟩
  repeat' (first | refine And.intro (by first | omega | (dsimp only; omega) | (show (_ : Bool) = true; kernel_rfl) | decide | (repeat' (first | refine And.intro ?_ ?_ | exact trivial | exact rfl))) ?_ | refine bcs_dec (fun h => ?_) (fun h => False.elim (by first | omega | exact h rfl)) | refine bcs_dec (fun h => False.elim (by omega)) (fun h => ?_) | refine bcs_dec (fun h => ?_) (fun h => ?_) | refine bcs_ndec (fun h => ?_) (fun h => ?_) | refine bcs_not ?_ | refine bcs_intro (fun h => ?_) (fun h => ?_) | refine And.intro ?_ ?_ | refine reg_tail (by kernel_rfl) ?_)
  refine loop_rule (α := Nat × Int × Int × Option Byt) (fun (k, _, p, o) => iSt a b L k p o)
    (fun (k, x, p, o) => k ≤ L.length ∧ 0 ≤ x ∧ 0 ≤ p ∧ p ≤ b.length ∧ x ≤ a.length ∧ validF (L.drop k) x p a.length b.length = 0 ∧ iOut o ++ inlF a b (L.drop k) p = T) (fun (k, _) => L.length - k) (0, 0, 0, none) [.at 3 0, .at 4 0] ?_ ?_ ?_
  · exact ⟨by omega, by omega, by omega, by omega, by omega, hv, hTe.symm⟩
  · (refine ⟨rfl, rfl, ?_, ?_⟩ <;> repeat' (first | refine And.intro ?_ ?_ | exact trivial | exact rfl | refine lt0 | refine lt1 ?_ | refine lt2 ?_ ?_ | refine lt3 ?_ ?_ ?_ | refine lt4 ?_ ?_ ?_ ?_ | exact veq_refl _ | decide | (intro i hi; repeat' (first | refine And.intro ?_ ?_ | exact trivial | exact rfl))))
    all_goals first | omega | exact Nat.le_refl _
  rintro ⟨k, x, p, o⟩ ⟨h1, h2, h3, h4, h5, h6, h7⟩
  by_cases hk : k < L.length
  · rw [drop_get Chg.d L k hk] at h6 h7
    obtain ⟨hbad, h6⟩ := valid_cons h6
    unfold bad at hbad
    simp only [inlF] at h7
    have hC : L.getD k Chg.d = L.getD (k : Int).toNat Chg.d := rfl
    rw [hC] at h6 h7 hbad
    obtain ⟨X1, hX1⟩ : ∃ X1, X1 = segF b p (L.getD (k : Int).toNat Chg.d).B := ⟨_, rfl⟩
    obtain ⟨X2, hX2⟩ : ∃ X2, X2 = segF a (L.getD (k : Int).toNat Chg.d).A ((L.getD (k : Int).toNat Chg.d).A + (L.getD (k : Int).toNat Chg.d).N) := ⟨_, rfl⟩
    obtain ⟨X3, hX3⟩ : ∃ X3, X3 = segF b (L.getD (k : Int).toNat Chg.d).B ((L.getD (k : Int).toNat Chg.d).B + (L.getD (k : Int).toNat Chg.d).M) := ⟨_, rfl⟩
    rw [← hX1, ← hX2, ← hX3] at h7
    have z1 : (bs X1).size = X1.length := bs_size X1
    have z2 : (ByteArray.mk #[91, 45] ++ bs X2).size = 2 + X2.length := size2 [91, 45] X2
    have z2' : (bs X2).size = X2.length := bs_size X2
    have z3 : (ByteArray.mk #[123, 43] ++ bs X3).size = 2 + X3.length := size2 [123, 43] X3
    have z3' : (bs X3).size = X3.length := bs_size X3
    have hl := congrArg List.length h7
    simp only [List.length_append] at hl
    have j1 := fun h => join_seg b p.toNat ((L.getD (k : Int).toNat Chg.d).B.toNat - p.toNat) (by omega) (by omega) h
    rw [show ((b.drop p.toNat).take ((L.getD (k : Int).toNat Chg.d).B.toNat - p.toNat)).flatten = X1 from hX1.symm] at j1
    have j1 := j1 (by omega)
    cases o with
    | none =>
      by_cases hN : (L.getD (k : Int).toNat Chg.d).N > 0
      · by_cases hM : (L.getD (k : Int).toNat Chg.d).M > 0
        · skip
          rw [if_pos hN] at h7 hl
          rw [if_pos hM] at h7 hl
          simp only [iOut, List.length_append, List.length_cons, List.length_nil, List.nil_append] at h7 hl
          repeat' (first | refine And.intro (by first | omega | (dsimp only; omega) | (show (_ : Bool) = true; kernel_rfl) | decide | (repeat' (first | refine And.intro ?_ ?_ | exact trivial | exact rfl))) ?_ | refine bcs_dec (fun h => ?_) (fun h => False.elim (by first | omega | exact h rfl)) | refine bcs_dec (fun h => False.elim (by omega)) (fun h => ?_) | refine bcs_dec (fun h => ?_) (fun h => ?_) | refine bcs_ndec (fun h => ?_) (fun h => ?_) | refine bcs_not ?_ | refine bcs_intro (fun h => ?_) (fun h => ?_) | refine And.intro ?_ ?_ | refine reg_tail (by kernel_rfl) ?_)
          refine call_rule [.at 2 p.toNat] (j1) hG ?_ ?_
          · (refine ⟨?_, ?_, rfl, rfl, rfl⟩ <;> repeat' (first | refine And.intro ?_ ?_ | exact trivial | exact rfl | refine lt0 | refine lt1 ?_ | refine lt2 ?_ ?_ | refine lt3 ?_ ?_ ?_ | refine lt4 ?_ ?_ ?_ ?_ | exact veq_refl _ | decide | (intro i hi; repeat' (first | refine And.intro ?_ ?_ | exact trivial | exact rfl))))
            all_goals first | exact Nat.le_refl _ | omega
          rintro _ _ _ ⟨rfl, rfl, rfl⟩
          repeat' (first | refine And.intro (by first | omega | (dsimp only; omega) | (show (_ : Bool) = true; kernel_rfl) | decide | (repeat' (first | refine And.intro ?_ ?_ | exact trivial | exact rfl))) ?_ | refine bcs_dec (fun h => ?_) (fun h => False.elim (by first | omega | exact h rfl)) | refine bcs_dec (fun h => False.elim (by omega)) (fun h => ?_) | refine bcs_dec (fun h => ?_) (fun h => ?_) | refine bcs_ndec (fun h => ?_) (fun h => ?_) | refine bcs_not ?_ | refine bcs_intro (fun h => ?_) (fun h => ?_) | refine And.intro ?_ ?_ | refine reg_tail (by kernel_rfl) ?_)
          refine call_rule [.at 4 0] (wsF_con X1 (by omega)) hG ?_ ?_
          · (refine ⟨?_, ?_, rfl, rfl, rfl⟩ <;> repeat' (first | refine And.intro ?_ ?_ | exact trivial | exact rfl | refine lt0 | refine lt1 ?_ | refine lt2 ?_ ?_ | refine lt3 ?_ ?_ ?_ | refine lt4 ?_ ?_ ?_ ?_ | exact veq_refl _ | decide | (intro i hi; repeat' (first | refine And.intro ?_ ?_ | exact trivial | exact rfl))))
            all_goals first | exact Nat.le_refl _ | omega
          rintro _ _ _ ⟨rfl, rfl, rfl⟩
          repeat' (first | refine And.intro (by first | omega | (dsimp only; omega) | (show (_ : Bool) = true; kernel_rfl) | decide | (repeat' (first | refine And.intro ?_ ?_ | exact trivial | exact rfl))) ?_ | refine bcs_dec (fun h => ?_) (fun h => False.elim (by first | omega | exact h rfl)) | refine bcs_dec (fun h => False.elim (by omega)) (fun h => ?_) | refine bcs_dec (fun h => ?_) (fun h => ?_) | refine bcs_ndec (fun h => ?_) (fun h => ?_) | refine bcs_not ?_ | refine bcs_intro (fun h => ?_) (fun h => ?_) | refine And.intro ?_ ?_ | refine reg_tail (by kernel_rfl) ?_)
          have j2 := fun h => join_seg a (L.getD (k : Int).toNat Chg.d).A.toNat (((L.getD (k : Int).toNat Chg.d).A + (L.getD (k : Int).toNat Chg.d).N).toNat - (L.getD (k : Int).toNat Chg.d).A.toNat) (by omega) (by omega) h
          rw [show ((a.drop (L.getD (k : Int).toNat Chg.d).A.toNat).take (((L.getD (k : Int).toNat Chg.d).A + (L.getD (k : Int).toNat Chg.d).N).toNat - (L.getD (k : Int).toNat Chg.d).A.toNat)).flatten = X2 from hX2.symm] at j2
          have j2 := j2 (by omega)
          refine call_rule [.at 1 (L.getD (k : Int).toNat Chg.d).A.toNat] (j2) hG ?_ ?_
          · (refine ⟨?_, ?_, rfl, rfl, rfl⟩ <;> repeat' (first | refine And.intro ?_ ?_ | exact trivial | exact rfl | refine lt0 | refine lt1 ?_ | refine lt2 ?_ ?_ | refine lt3 ?_ ?_ ?_ | refine lt4 ?_ ?_ ?_ ?_ | exact veq_refl _ | decide | (intro i hi; repeat' (first | refine And.intro ?_ ?_ | exact trivial | exact rfl))))
            all_goals first | exact Nat.le_refl _ | omega
          rintro _ _ _ ⟨rfl, rfl, rfl⟩
          repeat' (first | refine And.intro (by first | omega | (dsimp only; omega) | (show (_ : Bool) = true; kernel_rfl) | decide | (repeat' (first | refine And.intro ?_ ?_ | exact trivial | exact rfl))) ?_ | refine bcs_dec (fun h => ?_) (fun h => False.elim (by first | omega | exact h rfl)) | refine bcs_dec (fun h => False.elim (by omega)) (fun h => ?_) | refine bcs_dec (fun h => ?_) (fun h => ?_) | refine bcs_ndec (fun h => ?_) (fun h => ?_) | refine bcs_not ?_ | refine bcs_intro (fun h => ?_) (fun h => ?_) | refine And.intro ?_ ?_ | refine reg_tail (by kernel_rfl) ?_)
          have w2 := wsU_con ([91, 45] ++ X2 ++ [45, 93]) X1 (by simp only [List.length_append, List.length_cons, List.length_nil]; omega)
          unfold str at w2
          rw [← cat3] at w2
          refine call_rule [.at 4 0, .at 6 0] (w2) hG ?_ ?_
          · (refine ⟨?_, ?_, rfl, rfl, rfl⟩ <;> repeat' (first | refine And.intro ?_ ?_ | exact trivial | exact rfl | refine lt0 | refine lt1 ?_ | refine lt2 ?_ ?_ | refine lt3 ?_ ?_ ?_ | refine lt4 ?_ ?_ ?_ ?_ | exact veq_refl _ | decide | (intro i hi; repeat' (first | refine And.intro ?_ ?_ | exact trivial | exact rfl))))
            all_goals first | exact Nat.le_refl _ | omega
          rintro _ _ _ ⟨rfl, rfl, rfl⟩
          repeat' (first | refine And.intro (by first | omega | (dsimp only; omega) | (show (_ : Bool) = true; kernel_rfl) | decide | (repeat' (first | refine And.intro ?_ ?_ | exact trivial | exact rfl))) ?_ | refine bcs_dec (fun h => ?_) (fun h => False.elim (by first | omega | exact h rfl)) | refine bcs_dec (fun h => False.elim (by omega)) (fun h => ?_) | refine bcs_dec (fun h => ?_) (fun h => ?_) | refine bcs_ndec (fun h => ?_) (fun h => ?_) | refine bcs_not ?_ | refine bcs_intro (fun h => ?_) (fun h => ?_) | refine And.intro ?_ ?_ | refine reg_tail (by kernel_rfl) ?_)
          have j3 := fun h => join_seg b (L.getD (k : Int).toNat Chg.d).B.toNat (((L.getD (k : Int).toNat Chg.d).B + (L.getD (k : Int).toNat Chg.d).M).toNat - (L.getD (k : Int).toNat Chg.d).B.toNat) (by omega) (by omega) h
          rw [show ((b.drop (L.getD (k : Int).toNat Chg.d).B.toNat).take (((L.getD (k : Int).toNat Chg.d).B + (L.getD (k : Int).toNat Chg.d).M).toNat - (L.getD (k : Int).toNat Chg.d).B.toNat)).flatten = X3 from hX3.symm] at j3
          have j3 := j3 (by omega)
          refine call_rule [.at 2 (L.getD (k : Int).toNat Chg.d).B.toNat] (j3) hG ?_ ?_
          · (refine ⟨?_, ?_, rfl, rfl, rfl⟩ <;> repeat' (first | refine And.intro ?_ ?_ | exact trivial | exact rfl | refine lt0 | refine lt1 ?_ | refine lt2 ?_ ?_ | refine lt3 ?_ ?_ ?_ | refine lt4 ?_ ?_ ?_ ?_ | exact veq_refl _ | decide | (intro i hi; repeat' (first | refine And.intro ?_ ?_ | exact trivial | exact rfl))))
            all_goals first | exact Nat.le_refl _ | omega
          rintro _ _ _ ⟨rfl, rfl, rfl⟩
          repeat' (first | refine And.intro (by first | omega | (dsimp only; omega) | (show (_ : Bool) = true; kernel_rfl) | decide | (repeat' (first | refine And.intro ?_ ?_ | exact trivial | exact rfl))) ?_ | refine bcs_dec (fun h => ?_) (fun h => False.elim (by first | omega | exact h rfl)) | refine bcs_dec (fun h => False.elim (by omega)) (fun h => ?_) | refine bcs_dec (fun h => ?_) (fun h => ?_) | refine bcs_ndec (fun h => ?_) (fun h => ?_) | refine bcs_not ?_ | refine bcs_intro (fun h => ?_) (fun h => ?_) | refine And.intro ?_ ?_ | refine reg_tail (by kernel_rfl) ?_)
          have w3 := wsU_con ([123, 43] ++ X3 ++ [43, 125]) (X1 ++ ([91, 45] ++ X2 ++ [45, 93])) (by simp only [List.length_append, List.length_cons, List.length_nil]; omega)
          unfold str at w3
          rw [← cat3] at w3
          refine call_rule [.at 4 0, .at 7 0] (w3) hG ?_ ?_
          · (refine ⟨?_, ?_, rfl, rfl, rfl⟩ <;> repeat' (first | refine And.intro ?_ ?_ | exact trivial | exact rfl | refine lt0 | refine lt1 ?_ | refine lt2 ?_ ?_ | refine lt3 ?_ ?_ ?_ | refine lt4 ?_ ?_ ?_ ?_ | exact veq_refl _ | decide | (intro i hi; repeat' (first | refine And.intro ?_ ?_ | exact trivial | exact rfl))))
            all_goals first | exact Nat.le_refl _ | omega
          rintro _ _ _ ⟨rfl, rfl, rfl⟩
          repeat' (first | refine And.intro (by first | omega | (dsimp only; omega) | (show (_ : Bool) = true; kernel_rfl) | decide | (repeat' (first | refine And.intro ?_ ?_ | exact trivial | exact rfl))) ?_ | refine bcs_dec (fun h => ?_) (fun h => False.elim (by first | omega | exact h rfl)) | refine bcs_dec (fun h => False.elim (by omega)) (fun h => ?_) | refine bcs_dec (fun h => ?_) (fun h => ?_) | refine bcs_ndec (fun h => ?_) (fun h => ?_) | refine bcs_not ?_ | refine bcs_intro (fun h => ?_) (fun h => ?_) | refine And.intro ?_ ?_ | refine reg_tail (by kernel_rfl) ?_)
          refine ⟨(k + 1, (L.getD (k : Int).toNat Chg.d).A + (L.getD (k : Int).toNat Chg.d).N, (L.getD (k : Int).toNat Chg.d).B + (L.getD (k : Int).toNat Chg.d).M, some ((X1 ++ ([91, 45] ++ X2 ++ [45, 93])) ++ ([123, 43] ++ X3 ++ [43, 125]))), [.at 3 0, .at 4 0, .at 8 0], ?_, ?_, ?_⟩
          · refine ⟨by omega, by omega, by omega, by omega, by omega, h6, ?_⟩
            show ((X1 ++ ([91, 45] ++ X2 ++ [45, 93])) ++ ([123, 43] ++ X3 ++ [43, 125])) ++ inlF a b (L.drop (k + 1)) ((L.getD (k : Int).toNat Chg.d).B + (L.getD (k : Int).toNat Chg.d).M) = T
            rw [← h7]
            simp only [List.append_assoc, List.nil_append, List.cons_append]
          · show L.length - (k + 1) < L.length - k
            omega
          · (refine ⟨rfl, rfl, ?_, ?_⟩ <;> repeat' (first | refine And.intro ?_ ?_ | exact trivial | exact rfl | refine lt0 | refine lt1 ?_ | refine lt2 ?_ ?_ | refine lt3 ?_ ?_ ?_ | refine lt4 ?_ ?_ ?_ ?_ | exact veq_refl _ | decide | (intro i hi; repeat' (first | refine And.intro ?_ ?_ | exact trivial | exact rfl))))
            all_goals first | omega | exact Nat.le_refl _
        · skip
          rw [if_pos hN] at h7 hl
          rw [if_neg hM] at h7 hl
          simp only [iOut, List.length_append, List.length_cons, List.length_nil, List.nil_append] at h7 hl
          repeat' (first | refine And.intro (by first | omega | (dsimp only; omega) | (show (_ : Bool) = true; kernel_rfl) | decide | (repeat' (first | refine And.intro ?_ ?_ | exact trivial | exact rfl))) ?_ | refine bcs_dec (fun h => ?_) (fun h => False.elim (by first | omega | exact h rfl)) | refine bcs_dec (fun h => False.elim (by omega)) (fun h => ?_) | refine bcs_dec (fun h => ?_) (fun h => ?_) | refine bcs_ndec (fun h => ?_) (fun h => ?_) | refine bcs_not ?_ | refine bcs_intro (fun h => ?_) (fun h => ?_) | refine And.intro ?_ ?_ | refine reg_tail (by kernel_rfl) ?_)
          refine call_rule [.at 2 p.toNat] (j1) hG ?_ ?_
          · (refine ⟨?_, ?_, rfl, rfl, rfl⟩ <;> repeat' (first | refine And.intro ?_ ?_ | exact trivial | exact rfl | refine lt0 | refine lt1 ?_ | refine lt2 ?_ ?_ | refine lt3 ?_ ?_ ?_ | refine lt4 ?_ ?_ ?_ ?_ | exact veq_refl _ | decide | (intro i hi; repeat' (first | refine And.intro ?_ ?_ | exact trivial | exact rfl))))
            all_goals first | exact Nat.le_refl _ | omega
          rintro _ _ _ ⟨rfl, rfl, rfl⟩
          repeat' (first | refine And.intro (by first | omega | (dsimp only; omega) | (show (_ : Bool) = true; kernel_rfl) | decide | (repeat' (first | refine And.intro ?_ ?_ | exact trivial | exact rfl))) ?_ | refine bcs_dec (fun h => ?_) (fun h => False.elim (by first | omega | exact h rfl)) | refine bcs_dec (fun h => False.elim (by omega)) (fun h => ?_) | refine bcs_dec (fun h => ?_) (fun h => ?_) | refine bcs_ndec (fun h => ?_) (fun h => ?_) | refine bcs_not ?_ | refine bcs_intro (fun h => ?_) (fun h => ?_) | refine And.intro ?_ ?_ | refine reg_tail (by kernel_rfl) ?_)
          refine call_rule [.at 4 0] (wsF_con X1 (by omega)) hG ?_ ?_
          · (refine ⟨?_, ?_, rfl, rfl, rfl⟩ <;> repeat' (first | refine And.intro ?_ ?_ | exact trivial | exact rfl | refine lt0 | refine lt1 ?_ | refine lt2 ?_ ?_ | refine lt3 ?_ ?_ ?_ | refine lt4 ?_ ?_ ?_ ?_ | exact veq_refl _ | decide | (intro i hi; repeat' (first | refine And.intro ?_ ?_ | exact trivial | exact rfl))))
            all_goals first | exact Nat.le_refl _ | omega
          rintro _ _ _ ⟨rfl, rfl, rfl⟩
          repeat' (first | refine And.intro (by first | omega | (dsimp only; omega) | (show (_ : Bool) = true; kernel_rfl) | decide | (repeat' (first | refine And.intro ?_ ?_ | exact trivial | exact rfl))) ?_ | refine bcs_dec (fun h => ?_) (fun h => False.elim (by first | omega | exact h rfl)) | refine bcs_dec (fun h => False.elim (by omega)) (fun h => ?_) | refine bcs_dec (fun h => ?_) (fun h => ?_) | refine bcs_ndec (fun h => ?_) (fun h => ?_) | refine bcs_not ?_ | refine bcs_intro (fun h => ?_) (fun h => ?_) | refine And.intro ?_ ?_ | refine reg_tail (by kernel_rfl) ?_)
          have j2 := fun h => join_seg a (L.getD (k : Int).toNat Chg.d).A.toNat (((L.getD (k : Int).toNat Chg.d).A + (L.getD (k : Int).toNat Chg.d).N).toNat - (L.getD (k : Int).toNat Chg.d).A.toNat) (by omega) (by omega) h
          rw [show ((a.drop (L.getD (k : Int).toNat Chg.d).A.toNat).take (((L.getD (k : Int).toNat Chg.d).A + (L.getD (k : Int).toNat Chg.d).N).toNat - (L.getD (k : Int).toNat Chg.d).A.toNat)).flatten = X2 from hX2.symm] at j2
          have j2 := j2 (by omega)
          refine call_rule [.at 1 (L.getD (k : Int).toNat Chg.d).A.toNat] (j2) hG ?_ ?_
          · (refine ⟨?_, ?_, rfl, rfl, rfl⟩ <;> repeat' (first | refine And.intro ?_ ?_ | exact trivial | exact rfl | refine lt0 | refine lt1 ?_ | refine lt2 ?_ ?_ | refine lt3 ?_ ?_ ?_ | refine lt4 ?_ ?_ ?_ ?_ | exact veq_refl _ | decide | (intro i hi; repeat' (first | refine And.intro ?_ ?_ | exact trivial | exact rfl))))
            all_goals first | exact Nat.le_refl _ | omega
          rintro _ _ _ ⟨rfl, rfl, rfl⟩
          repeat' (first | refine And.intro (by first | omega | (dsimp only; omega) | (show (_ : Bool) = true; kernel_rfl) | decide | (repeat' (first | refine And.intro ?_ ?_ | exact trivial | exact rfl))) ?_ | refine bcs_dec (fun h => ?_) (fun h => False.elim (by first | omega | exact h rfl)) | refine bcs_dec (fun h => False.elim (by omega)) (fun h => ?_) | refine bcs_dec (fun h => ?_) (fun h => ?_) | refine bcs_ndec (fun h => ?_) (fun h => ?_) | refine bcs_not ?_ | refine bcs_intro (fun h => ?_) (fun h => ?_) | refine And.intro ?_ ?_ | refine reg_tail (by kernel_rfl) ?_)
          have w2 := wsU_con ([91, 45] ++ X2 ++ [45, 93]) X1 (by simp only [List.length_append, List.length_cons, List.length_nil]; omega)
          unfold str at w2
          rw [← cat3] at w2
          refine call_rule [.at 4 0, .at 6 0] (w2) hG ?_ ?_
          · (refine ⟨?_, ?_, rfl, rfl, rfl⟩ <;> repeat' (first | refine And.intro ?_ ?_ | exact trivial | exact rfl | refine lt0 | refine lt1 ?_ | refine lt2 ?_ ?_ | refine lt3 ?_ ?_ ?_ | refine lt4 ?_ ?_ ?_ ?_ | exact veq_refl _ | decide | (intro i hi; repeat' (first | refine And.intro ?_ ?_ | exact trivial | exact rfl))))
            all_goals first | exact Nat.le_refl _ | omega
          rintro _ _ _ ⟨rfl, rfl, rfl⟩
          repeat' (first | refine And.intro (by first | omega | (dsimp only; omega) | (show (_ : Bool) = true; kernel_rfl) | decide | (repeat' (first | refine And.intro ?_ ?_ | exact trivial | exact rfl))) ?_ | refine bcs_dec (fun h => ?_) (fun h => False.elim (by first | omega | exact h rfl)) | refine bcs_dec (fun h => False.elim (by omega)) (fun h => ?_) | refine bcs_dec (fun h => ?_) (fun h => ?_) | refine bcs_ndec (fun h => ?_) (fun h => ?_) | refine bcs_not ?_ | refine bcs_intro (fun h => ?_) (fun h => ?_) | refine And.intro ?_ ?_ | refine reg_tail (by kernel_rfl) ?_)
          refine ⟨(k + 1, (L.getD (k : Int).toNat Chg.d).A + (L.getD (k : Int).toNat Chg.d).N, (L.getD (k : Int).toNat Chg.d).B + (L.getD (k : Int).toNat Chg.d).M, some (X1 ++ ([91, 45] ++ X2 ++ [45, 93]))), [.at 3 0, .at 4 0, .at 7 0], ?_, ?_, ?_⟩
          · refine ⟨by omega, by omega, by omega, by omega, by omega, h6, ?_⟩
            show (X1 ++ ([91, 45] ++ X2 ++ [45, 93])) ++ inlF a b (L.drop (k + 1)) ((L.getD (k : Int).toNat Chg.d).B + (L.getD (k : Int).toNat Chg.d).M) = T
            rw [← h7]
            simp only [List.append_assoc, List.nil_append, List.cons_append]
          · show L.length - (k + 1) < L.length - k
            omega
          · (refine ⟨rfl, rfl, ?_, ?_⟩ <;> repeat' (first | refine And.intro ?_ ?_ | exact trivial | exact rfl | refine lt0 | refine lt1 ?_ | refine lt2 ?_ ?_ | refine lt3 ?_ ?_ ?_ | refine lt4 ?_ ?_ ?_ ?_ | exact veq_refl _ | decide | (intro i hi; repeat' (first | refine And.intro ?_ ?_ | exact trivial | exact rfl))))
            all_goals first | omega | exact Nat.le_refl _
      · by_cases hM : (L.getD (k : Int).toNat Chg.d).M > 0
        · skip
          rw [if_neg hN] at h7 hl
          rw [if_pos hM] at h7 hl
          simp only [iOut, List.length_append, List.length_cons, List.length_nil, List.nil_append] at h7 hl
          repeat' (first | refine And.intro (by first | omega | (dsimp only; omega) | (show (_ : Bool) = true; kernel_rfl) | decide | (repeat' (first | refine And.intro ?_ ?_ | exact trivial | exact rfl))) ?_ | refine bcs_dec (fun h => ?_) (fun h => False.elim (by first | omega | exact h rfl)) | refine bcs_dec (fun h => False.elim (by omega)) (fun h => ?_) | refine bcs_dec (fun h => ?_) (fun h => ?_) | refine bcs_ndec (fun h => ?_) (fun h => ?_) | refine bcs_not ?_ | refine bcs_intro (fun h => ?_) (fun h => ?_) | refine And.intro ?_ ?_ | refine reg_tail (by kernel_rfl) ?_)
          refine call_rule [.at 2 p.toNat] (j1) hG ?_ ?_
          · (refine ⟨?_, ?_, rfl, rfl, rfl⟩ <;> repeat' (first | refine And.intro ?_ ?_ | exact trivial | exact rfl | refine lt0 | refine lt1 ?_ | refine lt2 ?_ ?_ | refine lt3 ?_ ?_ ?_ | refine lt4 ?_ ?_ ?_ ?_ | exact veq_refl _ | decide | (intro i hi; repeat' (first | refine And.intro ?_ ?_ | exact trivial | exact rfl))))
            all_goals first | exact Nat.le_refl _ | omega
          rintro _ _ _ ⟨rfl, rfl, rfl⟩
          repeat' (first | refine And.intro (by first | omega | (dsimp only; omega) | (show (_ : Bool) = true; kernel_rfl) | decide | (repeat' (first | refine And.intro ?_ ?_ | exact trivial | exact rfl))) ?_ | refine bcs_dec (fun h => ?_) (fun h => False.elim (by first | omega | exact h rfl)) | refine bcs_dec (fun h => False.elim (by omega)) (fun h => ?_) | refine bcs_dec (fun h => ?_) (fun h => ?_) | refine bcs_ndec (fun h => ?_) (fun h => ?_) | refine bcs_not ?_ | refine bcs_intro (fun h => ?_) (fun h => ?_) | refine And.intro ?_ ?_ | refine reg_tail (by kernel_rfl) ?_)
          refine call_rule [.at 4 0] (wsF_con X1 (by omega)) hG ?_ ?_
          · (refine ⟨?_, ?_, rfl, rfl, rfl⟩ <;> repeat' (first | refine And.intro ?_ ?_ | exact trivial | exact rfl | refine lt0 | refine lt1 ?_ | refine lt2 ?_ ?_ | refine lt3 ?_ ?_ ?_ | refine lt4 ?_ ?_ ?_ ?_ | exact veq_refl _ | decide | (intro i hi; repeat' (first | refine And.intro ?_ ?_ | exact trivial | exact rfl))))
            all_goals first | exact Nat.le_refl _ | omega
          rintro _ _ _ ⟨rfl, rfl, rfl⟩
          repeat' (first | refine And.intro (by first | omega | (dsimp only; omega) | (show (_ : Bool) = true; kernel_rfl) | decide | (repeat' (first | refine And.intro ?_ ?_ | exact trivial | exact rfl))) ?_ | refine bcs_dec (fun h => ?_) (fun h => False.elim (by first | omega | exact h rfl)) | refine bcs_dec (fun h => False.elim (by omega)) (fun h => ?_) | refine bcs_dec (fun h => ?_) (fun h => ?_) | refine bcs_ndec (fun h => ?_) (fun h => ?_) | refine bcs_not ?_ | refine bcs_intro (fun h => ?_) (fun h => ?_) | refine And.intro ?_ ?_ | refine reg_tail (by kernel_rfl) ?_)
          have j3 := fun h => join_seg b (L.getD (k : Int).toNat Chg.d).B.toNat (((L.getD (k : Int).toNat Chg.d).B + (L.getD (k : Int).toNat Chg.d).M).toNat - (L.getD (k : Int).toNat Chg.d).B.toNat) (by omega) (by omega) h
          rw [show ((b.drop (L.getD (k : Int).toNat Chg.d).B.toNat).take (((L.getD (k : Int).toNat Chg.d).B + (L.getD (k : Int).toNat Chg.d).M).toNat - (L.getD (k : Int).toNat Chg.d).B.toNat)).flatten = X3 from hX3.symm] at j3
          have j3 := j3 (by omega)
          refine call_rule [.at 2 (L.getD (k : Int).toNat Chg.d).B.toNat] (j3) hG ?_ ?_
          · (refine ⟨?_, ?_, rfl, rfl, rfl⟩ <;> repeat' (first | refine And.intro ?_ ?_ | exact trivial | exact rfl | refine lt0 | refine lt1 ?_ | refine lt2 ?_ ?_ | refine lt3 ?_ ?_ ?_ | refine lt4 ?_ ?_ ?_ ?_ | exact veq_refl _ | decide | (intro i hi; repeat' (first | refine And.intro ?_ ?_ | exact trivial | exact rfl))))
            all_goals first | exact Nat.le_refl _ | omega
          rintro _ _ _ ⟨rfl, rfl, rfl⟩
          repeat' (first | refine And.intro (by first | omega | (dsimp only; omega) | (show (_ : Bool) = true; kernel_rfl) | decide | (repeat' (first | refine And.intro ?_ ?_ | exact trivial | exact rfl))) ?_ | refine bcs_dec (fun h => ?_) (fun h => False.elim (by first | omega | exact h rfl)) | refine bcs_dec (fun h => False.elim (by omega)) (fun h => ?_) | refine bcs_dec (fun h => ?_) (fun h => ?_) | refine bcs_ndec (fun h => ?_) (fun h => ?_) | refine bcs_not ?_ | refine bcs_intro (fun h => ?_) (fun h => ?_) | refine And.intro ?_ ?_ | refine reg_tail (by kernel_rfl) ?_)
          have w3 := wsU_con ([123, 43] ++ X3 ++ [43, 125]) X1 (by simp only [List.length_append, List.length_cons, List.length_nil]; omega)
          unfold str at w3
          rw [← cat3] at w3
          refine call_rule [.at 4 0, .at 6 0] (w3) hG ?_ ?_
          · (refine ⟨?_, ?_, rfl, rfl, rfl⟩ <;> repeat' (first | refine And.intro ?_ ?_ | exact trivial | exact rfl | refine lt0 | refine lt1 ?_ | refine lt2 ?_ ?_ | refine lt3 ?_ ?_ ?_ | refine lt4 ?_ ?_ ?_ ?_ | exact veq_refl _ | decide | (intro i hi; repeat' (first | refine And.intro ?_ ?_ | exact trivial | exact rfl))))
            all_goals first | exact Nat.le_refl _ | omega
          rintro _ _ _ ⟨rfl, rfl, rfl⟩
          repeat' (first | refine And.intro (by first | omega | (dsimp only; omega) | (show (_ : Bool) = true; kernel_rfl) | decide | (repeat' (first | refine And.intro ?_ ?_ | exact trivial | exact rfl))) ?_ | refine bcs_dec (fun h => ?_) (fun h => False.elim (by first | omega | exact h rfl)) | refine bcs_dec (fun h => False.elim (by omega)) (fun h => ?_) | refine bcs_dec (fun h => ?_) (fun h => ?_) | refine bcs_ndec (fun h => ?_) (fun h => ?_) | refine bcs_not ?_ | refine bcs_intro (fun h => ?_) (fun h => ?_) | refine And.intro ?_ ?_ | refine reg_tail (by kernel_rfl) ?_)
          refine ⟨(k + 1, (L.getD (k : Int).toNat Chg.d).A + (L.getD (k : Int).toNat Chg.d).N, (L.getD (k : Int).toNat Chg.d).B + (L.getD (k : Int).toNat Chg.d).M, some (X1 ++ ([123, 43] ++ X3 ++ [43, 125]))), [.at 3 0, .at 4 0, .at 7 0], ?_, ?_, ?_⟩
          · refine ⟨by omega, by omega, by omega, by omega, by omega, h6, ?_⟩
            show (X1 ++ ([123, 43] ++ X3 ++ [43, 125])) ++ inlF a b (L.drop (k + 1)) ((L.getD (k : Int).toNat Chg.d).B + (L.getD (k : Int).toNat Chg.d).M) = T
            rw [← h7]
            simp only [List.append_assoc, List.nil_append, List.cons_append]
          · show L.length - (k + 1) < L.length - k
            omega
          · (refine ⟨rfl, rfl, ?_, ?_⟩ <;> repeat' (first | refine And.intro ?_ ?_ | exact trivial | exact rfl | refine lt0 | refine lt1 ?_ | refine lt2 ?_ ?_ | refine lt3 ?_ ?_ ?_ | refine lt4 ?_ ?_ ?_ ?_ | exact veq_refl _ | decide | (intro i hi; repeat' (first | refine And.intro ?_ ?_ | exact trivial | exact rfl))))
            all_goals first | omega | exact Nat.le_refl _
        · exfalso; omega
    | some out =>
      by_cases hN : (L.getD (k : Int).toNat Chg.d).N > 0
      · by_cases hM : (L.getD (k : Int).toNat Chg.d).M > 0
        · skip
          rw [if_pos hN] at h7 hl
          rw [if_pos hM] at h7 hl
          simp only [iOut, List.length_append, List.length_cons, List.length_nil] at h7 hl
          repeat' (first | refine And.intro (by first | omega | (dsimp only; omega) | (show (_ : Bool) = true; kernel_rfl) | decide | (repeat' (first | refine And.intro ?_ ?_ | exact trivial | exact rfl))) ?_ | refine bcs_dec (fun h => ?_) (fun h => False.elim (by first | omega | exact h rfl)) | refine bcs_dec (fun h => False.elim (by omega)) (fun h => ?_) | refine bcs_dec (fun h => ?_) (fun h => ?_) | refine bcs_ndec (fun h => ?_) (fun h => ?_) | refine bcs_not ?_ | refine bcs_intro (fun h => ?_) (fun h => ?_) | refine And.intro ?_ ?_ | refine reg_tail (by kernel_rfl) ?_)
          refine call_rule [.at 2 p.toNat] (j1) hG ?_ ?_
          · (refine ⟨?_, ?_, rfl, rfl, rfl⟩ <;> repeat' (first | refine And.intro ?_ ?_ | exact trivial | exact rfl | refine lt0 | refine lt1 ?_ | refine lt2 ?_ ?_ | refine lt3 ?_ ?_ ?_ | refine lt4 ?_ ?_ ?_ ?_ | exact veq_refl _ | decide | (intro i hi; repeat' (first | refine And.intro ?_ ?_ | exact trivial | exact rfl))))
            all_goals first | exact Nat.le_refl _ | omega
          rintro _ _ _ ⟨rfl, rfl, rfl⟩
          repeat' (first | refine And.intro (by first | omega | (dsimp only; omega) | (show (_ : Bool) = true; kernel_rfl) | decide | (repeat' (first | refine And.intro ?_ ?_ | exact trivial | exact rfl))) ?_ | refine bcs_dec (fun h => ?_) (fun h => False.elim (by first | omega | exact h rfl)) | refine bcs_dec (fun h => False.elim (by omega)) (fun h => ?_) | refine bcs_dec (fun h => ?_) (fun h => ?_) | refine bcs_ndec (fun h => ?_) (fun h => ?_) | refine bcs_not ?_ | refine bcs_intro (fun h => ?_) (fun h => ?_) | refine And.intro ?_ ?_ | refine reg_tail (by kernel_rfl) ?_)
          refine call_rule [.at 4 0, .at 5 0] (wsU_con X1 out (by omega)) hG ?_ ?_
          · (refine ⟨?_, ?_, rfl, rfl, rfl⟩ <;> repeat' (first | refine And.intro ?_ ?_ | exact trivial | exact rfl | refine lt0 | refine lt1 ?_ | refine lt2 ?_ ?_ | refine lt3 ?_ ?_ ?_ | refine lt4 ?_ ?_ ?_ ?_ | exact veq_refl _ | decide | (intro i hi; repeat' (first | refine And.intro ?_ ?_ | exact trivial | exact rfl))))
            all_goals first | exact Nat.le_refl _ | omega
          rintro _ _ _ ⟨rfl, rfl, rfl⟩
          repeat' (first | refine And.intro (by first | omega | (dsimp only; omega) | (show (_ : Bool) = true; kernel_rfl) | decide | (repeat' (first | refine And.intro ?_ ?_ | exact trivial | exact rfl))) ?_ | refine bcs_dec (fun h => ?_) (fun h => False.elim (by first | omega | exact h rfl)) | refine bcs_dec (fun h => False.elim (by omega)) (fun h => ?_) | refine bcs_dec (fun h => ?_) (fun h => ?_) | refine bcs_ndec (fun h => ?_) (fun h => ?_) | refine bcs_not ?_ | refine bcs_intro (fun h => ?_) (fun h => ?_) | refine And.intro ?_ ?_ | refine reg_tail (by kernel_rfl) ?_)
          have j2 := fun h => join_seg a (L.getD (k : Int).toNat Chg.d).A.toNat (((L.getD (k : Int).toNat Chg.d).A + (L.getD (k : Int).toNat Chg.d).N).toNat - (L.getD (k : Int).toNat Chg.d).A.toNat) (by omega) (by omega) h
          rw [show ((a.drop (L.getD (k : Int).toNat Chg.d).A.toNat).take (((L.getD (k : Int).toNat Chg.d).A + (L.getD (k : Int).toNat Chg.d).N).toNat - (L.getD (k : Int).toNat Chg.d).A.toNat)).flatten = X2 from hX2.symm] at j2
          have j2 := j2 (by omega)
          refine call_rule [.at 1 (L.getD (k : Int).toNat Chg.d).A.toNat] (j2) hG ?_ ?_
          · (refine ⟨?_, ?_, rfl, rfl, rfl⟩ <;> repeat' (first | refine And.intro ?_ ?_ | exact trivial | exact rfl | refine lt0 | refine lt1 ?_ | refine lt2 ?_ ?_ | refine lt3 ?_ ?_ ?_ | refine lt4 ?_ ?_ ?_ ?_ | exact veq_refl _ | decide | (intro i hi; repeat' (first | refine And.intro ?_ ?_ | exact trivial | exact rfl))))
            all_goals first | exact Nat.le_refl _ | omega
          rintro _ _ _ ⟨rfl, rfl, rfl⟩
          repeat' (first | refine And.intro (by first | omega | (dsimp only; omega) | (show (_ : Bool) = true; kernel_rfl) | decide | (repeat' (first | refine And.intro ?_ ?_ | exact trivial | exact rfl))) ?_ | refine bcs_dec (fun h => ?_) (fun h => False.elim (by first | omega | exact h rfl)) | refine bcs_dec (fun h => False.elim (by omega)) (fun h => ?_) | refine bcs_dec (fun h => ?_) (fun h => ?_) | refine bcs_ndec (fun h => ?_) (fun h => ?_) | refine bcs_not ?_ | refine bcs_intro (fun h => ?_) (fun h => ?_) | refine And.intro ?_ ?_ | refine reg_tail (by kernel_rfl) ?_)
          have w2 := wsU_con ([91, 45] ++ X2 ++ [45, 93]) (out ++ X1) (by simp only [List.length_append, List.length_cons, List.length_nil]; omega)
          unfold str at w2
          rw [← cat3] at w2
          refine call_rule [.at 4 0, .at 7 0] (w2) hG ?_ ?_
          · (refine ⟨?_, ?_, rfl, rfl, rfl⟩ <;> repeat' (first | refine And.intro ?_ ?_ | exact trivial | exact rfl | refine lt0 | refine lt1 ?_ | refine lt2 ?_ ?_ | refine lt3 ?_ ?_ ?_ | refine lt4 ?_ ?_ ?_ ?_ | exact veq_refl _ | decide | (intro i hi; repeat' (first | refine And.intro ?_ ?_ | exact trivial | exact rfl))))
            all_goals first | exact Nat.le_refl _ | omega
          rintro _ _ _ ⟨rfl, rfl, rfl⟩
          repeat' (first | refine And.intro (by first | omega | (dsimp only; omega) | (show (_ : Bool) = true; kernel_rfl) | decide | (repeat' (first | refine And.intro ?_ ?_ | exact trivial | exact rfl))) ?_ | refine bcs_dec (fun h => ?_) (fun h => False.elim (by first | omega | exact h rfl)) | refine bcs_dec (fun h => False.elim (by omega)) (fun h => ?_) | refine bcs_dec (fun h => ?_) (fun h => ?_) | refine bcs_ndec (fun h => ?_) (fun h => ?_) | refine bcs_not ?_ | refine bcs_intro (fun h => ?_) (fun h => ?_) | refine And.intro ?_ ?_ | refine reg_tail (by kernel_rfl) ?_)
          have j3 := fun h => join_seg b (L.getD (k : Int).toNat Chg.d).B.toNat (((L.getD (k : Int).toNat Chg.d).B + (L.getD (k : Int).toNat Chg.d).M).toNat - (L.getD (k : Int).toNat Chg.d).B.toNat) (by omega) (by omega) h
          rw [show ((b.drop (L.getD (k : Int).toNat Chg.d).B.toNat).take (((L.getD (k : Int).toNat Chg.d).B + (L.getD (k : Int).toNat Chg.d).M).toNat - (L.getD (k : Int).toNat Chg.d).B.toNat)).flatten = X3 from hX3.symm] at j3
          have j3 := j3 (by omega)
          refine call_rule [.at 2 (L.getD (k : Int).toNat Chg.d).B.toNat] (j3) hG ?_ ?_
          · (refine ⟨?_, ?_, rfl, rfl, rfl⟩ <;> repeat' (first | refine And.intro ?_ ?_ | exact trivial | exact rfl | refine lt0 | refine lt1 ?_ | refine lt2 ?_ ?_ | refine lt3 ?_ ?_ ?_ | refine lt4 ?_ ?_ ?_ ?_ | exact veq_refl _ | decide | (intro i hi; repeat' (first | refine And.intro ?_ ?_ | exact trivial | exact rfl))))
            all_goals first | exact Nat.le_refl _ | omega
          rintro _ _ _ ⟨rfl, rfl, rfl⟩
          repeat' (first | refine And.intro (by first | omega | (dsimp only; omega) | (show (_ : Bool) = true; kernel_rfl) | decide | (repeat' (first | refine And.intro ?_ ?_ | exact trivial | exact rfl))) ?_ | refine bcs_dec (fun h => ?_) (fun h => False.elim (by first | omega | exact h rfl)) | refine bcs_dec (fun h => False.elim (by omega)) (fun h => ?_) | refine bcs_dec (fun h => ?_) (fun h => ?_) | refine bcs_ndec (fun h => ?_) (fun h => ?_) | refine bcs_not ?_ | refine bcs_intro (fun h => ?_) (fun h => ?_) | refine And.intro ?_ ?_ | refine reg_tail (by kernel_rfl) ?_)
          have w3 := wsU_con ([123, 43] ++ X3 ++ [43, 125]) ((out ++ X1) ++ ([91, 45] ++ X2 ++ [45, 93])) (by simp only [List.length_append, List.length_cons, List.length_nil]; omega)
          unfold str at w3
          rw [← cat3] at w3
          refine call_rule [.at 4 0, .at 8 0] (w3) hG ?_ ?_
          · (refine ⟨?_, ?_, rfl, rfl, rfl⟩ <;> repeat' (first | refine And.intro ?_ ?_ | exact trivial | exact rfl | refine lt0 | refine lt1 ?_ | refine lt2 ?_ ?_ | refine lt3 ?_ ?_ ?_ | refine lt4 ?_ ?_ ?_ ?_ | exact veq_refl _ | decide | (intro i hi; repeat' (first | refine And.intro ?_ ?_ | exact trivial | exact rfl))))
            all_goals first | exact Nat.le_refl _ | omega
          rintro _ _ _ ⟨rfl, rfl, rfl⟩
          repeat' (first | refine And.intro (by first | omega | (dsimp only; omega) | (show (_ : Bool) = true; kernel_rfl) | decide | (repeat' (first | refine And.intro ?_ ?_ | exact trivial | exact rfl))) ?_ | refine bcs_dec (fun h => ?_) (fun h => False.elim (by first | omega | exact h rfl)) | refine bcs_dec (fun h => False.elim (by omega)) (fun h => ?_) | refine bcs_dec (fun h => ?_) (fun h => ?_) | refine bcs_ndec (fun h => ?_) (fun h => ?_) | refine bcs_not ?_ | refine bcs_intro (fun h => ?_) (fun h => ?_) | refine And.intro ?_ ?_ | refine reg_tail (by kernel_rfl) ?_)
          refine ⟨(k + 1, (L.getD (k : Int).toNat Chg.d).A + (L.getD (k : Int).toNat Chg.d).N, (L.getD (k : Int).toNat Chg.d).B + (L.getD (k : Int).toNat Chg.d).M, some (((out ++ X1) ++ ([91, 45] ++ X2 ++ [45, 93])) ++ ([123, 43] ++ X3 ++ [43, 125]))), [.at 3 0, .at 4 0, .at 9 0], ?_, ?_, ?_⟩
          · refine ⟨by omega, by omega, by omega, by omega, by omega, h6, ?_⟩
            show (((out ++ X1) ++ ([91, 45] ++ X2 ++ [45, 93])) ++ ([123, 43] ++ X3 ++ [43, 125])) ++ inlF a b (L.drop (k + 1)) ((L.getD (k : Int).toNat Chg.d).B + (L.getD (k : Int).toNat Chg.d).M) = T
            rw [← h7]
            simp only [List.append_assoc, List.nil_append, List.cons_append]
          · show L.length - (k + 1) < L.length - k
            omega
          · (refine ⟨rfl, rfl, ?_, ?_⟩ <;> repeat' (first | refine And.intro ?_ ?_ | exact trivial | exact rfl | refine lt0 | refine lt1 ?_ | refine lt2 ?_ ?_ | refine lt3 ?_ ?_ ?_ | refine lt4 ?_ ?_ ?_ ?_ | exact veq_refl _ | decide | (intro i hi; repeat' (first | refine And.intro ?_ ?_ | exact trivial | exact rfl))))
            all_goals first | omega | exact Nat.le_refl _
        · skip
          rw [if_pos hN] at h7 hl
          rw [if_neg hM] at h7 hl
          simp only [iOut, List.length_append, List.length_cons, List.length_nil, List.nil_append] at h7 hl
          repeat' (first | refine And.intro (by first | omega | (dsimp only; omega) | (show (_ : Bool) = true; kernel_rfl) | decide | (repeat' (first | refine And.intro ?_ ?_ | exact trivial | exact rfl))) ?_ | refine bcs_dec (fun h => ?_) (fun h => False.elim (by first | omega | exact h rfl)) | refine bcs_dec (fun h => False.elim (by omega)) (fun h => ?_) | refine bcs_dec (fun h => ?_) (fun h => ?_) | refine bcs_ndec (fun h => ?_) (fun h => ?_) | refine bcs_not ?_ | refine bcs_intro (fun h => ?_) (fun h => ?_) | refine And.intro ?_ ?_ | refine reg_tail (by kernel_rfl) ?_)
          refine call_rule [.at 2 p.toNat] (j1) hG ?_ ?_
          · (refine ⟨?_, ?_, rfl, rfl, rfl⟩ <;> repeat' (first | refine And.intro ?_ ?_ | exact trivial | exact rfl | refine lt0 | refine lt1 ?_ | refine lt2 ?_ ?_ | refine lt3 ?_ ?_ ?_ | refine lt4 ?_ ?_ ?_ ?_ | exact veq_refl _ | decide | (intro i hi; repeat' (first | refine And.intro ?_ ?_ | exact trivial | exact rfl))))
            all_goals first | exact Nat.le_refl _ | omega
          rintro _ _ _ ⟨rfl, rfl, rfl⟩
          repeat' (first | refine And.intro (by first | omega | (dsimp only; omega) | (show (_ : Bool) = true; kernel_rfl) | decide | (repeat' (first | refine And.intro ?_ ?_ | exact trivial | exact rfl))) ?_ | refine bcs_dec (fun h => ?_) (fun h => False.elim (by first | omega | exact h rfl)) | refine bcs_dec (fun h => False.elim (by omega)) (fun h => ?_) | refine bcs_dec (fun h => ?_) (fun h => ?_) | refine bcs_ndec (fun h => ?_) (fun h => ?_) | refine bcs_not ?_ | refine bcs_intro (fun h => ?_) (fun h => ?_) | refine And.intro ?_ ?_ | refine reg_tail (by kernel_rfl) ?_)
          refine call_rule [.at 4 0, .at 5 0] (wsU_con X1 out (by omega)) hG ?_ ?_
          · (refine ⟨?_, ?_, rfl, rfl, rfl⟩ <;> repeat' (first | refine And.intro ?_ ?_ | exact trivial | exact rfl | refine lt0 | refine lt1 ?_ | refine lt2 ?_ ?_ | refine lt3 ?_ ?_ ?_ | refine lt4 ?_ ?_ ?_ ?_ | exact veq_refl _ | decide | (intro i hi; repeat' (first | refine And.intro ?_ ?_ | exact trivial | exact rfl))))
            all_goals first | exact Nat.le_refl _ | omega
          rintro _ _ _ ⟨rfl, rfl, rfl⟩
          repeat' (first | refine And.intro (by first | omega | (dsimp only; omega) | (show (_ : Bool) = true; kernel_rfl) | decide | (repeat' (first | refine And.intro ?_ ?_ | exact trivial | exact rfl))) ?_ | refine bcs_dec (fun h => ?_) (fun h => False.elim (by first | omega | exact h rfl)) | refine bcs_dec (fun h => False.elim (by omega)) (fun h => ?_) | refine bcs_dec (fun h => ?_) (fun h => ?_) | refine bcs_ndec (fun h => ?_) (fun h => ?_) | refine bcs_not ?_ | refine bcs_intro (fun h => ?_) (fun h => ?_) | refine And.intro ?_ ?_ | refine reg_tail (by kernel_rfl) ?_)
          have j2 := fun h => join_seg a (L.getD (k : Int).toNat Chg.d).A.toNat (((L.getD (k : Int).toNat Chg.d).A + (L.getD (k : Int).toNat Chg.d).N).toNat - (L.getD (k : Int).toNat Chg.d).A.toNat) (by omega) (by omega) h
          rw [show ((a.drop (L.getD (k : Int).toNat Chg.d).A.toNat).take (((L.getD (k : Int).toNat Chg.d).A + (L.getD (k : Int).toNat Chg.d).N).toNat - (L.getD (k : Int).toNat Chg.d).A.toNat)).flatten = X2 from hX2.symm] at j2
          have j2 := j2 (by omega)
          refine call_rule [.at 1 (L.getD (k : Int).toNat Chg.d).A.toNat] (j2) hG ?_ ?_
          · (refine ⟨?_, ?_, rfl, rfl, rfl⟩ <;> repeat' (first | refine And.intro ?_ ?_ | exact trivial | exact rfl | refine lt0 | refine lt1 ?_ | refine lt2 ?_ ?_ | refine lt3 ?_ ?_ ?_ | refine lt4 ?_ ?_ ?_ ?_ | exact veq_refl _ | decide | (intro i hi; repeat' (first | refine And.intro ?_ ?_ | exact trivial | exact rfl))))
            all_goals first | exact Nat.le_refl _ | omega
          rintro _ _ _ ⟨rfl, rfl, rfl⟩
          repeat' (first | refine And.intro (by first | omega | (dsimp only; omega) | (show (_ : Bool) = true; kernel_rfl) | decide | (repeat' (first | refine And.intro ?_ ?_ | exact trivial | exact rfl))) ?_ | refine bcs_dec (fun h => ?_) (fun h => False.elim (by first | omega | exact h rfl)) | refine bcs_dec (fun h => False.elim (by omega)) (fun h => ?_) | refine bcs_dec (fun h => ?_) (fun h => ?_) | refine bcs_ndec (fun h => ?_) (fun h => ?_) | refine bcs_not ?_ | refine bcs_intro (fun h => ?_) (fun h => ?_) | refine And.intro ?_ ?_ | refine reg_tail (by kernel_rfl) ?_)
          have w2 := wsU_con ([91, 45] ++ X2 ++ [45, 93]) (out ++ X1) (by simp only [List.length_append, List.length_cons, List.length_nil]; omega)
          unfold str at w2
          rw [← cat3] at w2
          refine call_rule [.at 4 0, .at 7 0] (w2) hG ?_ ?_
          · (refine ⟨?_, ?_, rfl, rfl, rfl⟩ <;> repeat' (first | refine And.intro ?_ ?_ | exact trivial | exact rfl | refine lt0 | refine lt1 ?_ | refine lt2 ?_ ?_ | refine lt3 ?_ ?_ ?_ | refine lt4 ?_ ?_ ?_ ?_ | exact veq_refl _ | decide | (intro i hi; repeat' (first | refine And.intro ?_ ?_ | exact trivial | exact rfl))))
            all_goals first | exact Nat.le_refl _ | omega
          rintro _ _ _ ⟨rfl, rfl, rfl⟩
          repeat' (first | refine And.intro (by first | omega | (dsimp only; omega) | (show (_ : Bool) = true; kernel_rfl) | decide | (repeat' (first | refine And.intro ?_ ?_ | exact trivial | exact rfl))) ?_ | refine bcs_dec (fun h => ?_) (fun h => False.elim (by first | omega | exact h rfl)) | refine bcs_dec (fun h => False.elim (by omega)) (fun h => ?_) | refine bcs_dec (fun h => ?_) (fun h => ?_) | refine bcs_ndec (fun h => ?_) (fun h => ?_) | refine bcs_not ?_ | refine bcs_intro (fun h => ?_) (fun h => ?_) | refine And.intro ?_ ?_ | refine reg_tail (by kernel_rfl) ?_)
          refine ⟨(k + 1, (L.getD (k : Int).toNat Chg.d).A + (L.getD (k : Int).toNat Chg.d).N, (L.getD (k : Int).toNat Chg.d).B + (L.getD (k : Int).toNat Chg.d).M, some ((out ++ X1) ++ ([91, 45] ++ X2 ++ [45, 93]))), [.at 3 0, .at 4 0, .at 8 0], ?_, ?_, ?_⟩
          · refine ⟨by omega, by omega, by omega, by omega, by omega, h6, ?_⟩
            show ((out ++ X1) ++ ([91, 45] ++ X2 ++ [45, 93])) ++ inlF a b (L.drop (k + 1)) ((L.getD (k : Int).toNat Chg.d).B + (L.getD (k : Int).toNat Chg.d).M) = T
            rw [← h7]
            simp only [List.append_assoc, List.nil_append, List.cons_append]
          · show L.length - (k + 1) < L.length - k
            omega
          · (refine ⟨rfl, rfl, ?_, ?_⟩ <;> repeat' (first | refine And.intro ?_ ?_ | exact trivial | exact rfl | refine lt0 | refine lt1 ?_ | refine lt2 ?_ ?_ | refine lt3 ?_ ?_ ?_ | refine lt4 ?_ ?_ ?_ ?_ | exact veq_refl _ | decide | (intro i hi; repeat' (first | refine And.intro ?_ ?_ | exact trivial | exact rfl))))
            all_goals first | omega | exact Nat.le_refl _
      · by_cases hM : (L.getD (k : Int).toNat Chg.d).M > 0
        · skip
          rw [if_neg hN] at h7 hl
          rw [if_pos hM] at h7 hl
          simp only [iOut, List.length_append, List.length_cons, List.length_nil, List.nil_append] at h7 hl
          repeat' (first | refine And.intro (by first | omega | (dsimp only; omega) | (show (_ : Bool) = true; kernel_rfl) | decide | (repeat' (first | refine And.intro ?_ ?_ | exact trivial | exact rfl))) ?_ | refine bcs_dec (fun h => ?_) (fun h => False.elim (by first | omega | exact h rfl)) | refine bcs_dec (fun h => False.elim (by omega)) (fun h => ?_) | refine bcs_dec (fun h => ?_) (fun h => ?_) | refine bcs_ndec (fun h => ?_) (fun h => ?_) | refine bcs_not ?_ | refine bcs_intro (fun h => ?_) (fun h => ?_) | refine And.intro ?_ ?_ | refine reg_tail (by kernel_rfl) ?_)
          refine call_rule [.at 2 p.toNat] (j1) hG ?_ ?_
          · (refine ⟨?_, ?_, rfl, rfl, rfl⟩ <;> repeat' (first | refine And.intro ?_ ?_ | exact trivial | exact rfl | refine lt0 | refine lt1 ?_ | refine lt2 ?_ ?_ | refine lt3 ?_ ?_ ?_ | refine lt4 ?_ ?_ ?_ ?_ | exact veq_refl _ | decide | (intro i hi; repeat' (first | refine And.intro ?_ ?_ | exact trivial | exact rfl))))
            all_goals first | exact Nat.le_refl _ | omega
          rintro _ _ _ ⟨rfl, rfl, rfl⟩
          repeat' (first | refine And.intro (by first | omega | (dsimp only; omega) | (show (_ : Bool) = true; kernel_rfl) | decide | (repeat' (first | refine And.intro ?_ ?_ | exact trivial | exact rfl))) ?_ | refine bcs_dec (fun h => ?_) (fun h => False.elim (by first | omega | exact h rfl)) | refine bcs_dec (fun h => False.elim (by omega)) (fun h => ?_) | refine bcs_dec (fun h => ?_) (fun h => ?_) | refine bcs_ndec (fun h => ?_) (fun h => ?_) | refine bcs_not ?_ | refine bcs_intro (fun h => ?_) (fun h => ?_) | refine And.intro ?_ ?_ | refine reg_tail (by kernel_rfl) ?_)
          refine call_rule [.at 4 0, .at 5 0] (wsU_con X1 out (by omega)) hG ?_ ?_
          · (refine ⟨?_, ?_, rfl, rfl, rfl⟩ <;> repeat' (first | refine And.intro ?_ ?_ | exact trivial | exact rfl | refine lt0 | refine lt1 ?_ | refine lt2 ?_ ?_ | refine lt3 ?_ ?_ ?_ | refine lt4 ?_ ?_ ?_ ?_ | exact veq_refl _ | decide | (intro i hi; repeat' (first | refine And.intro ?_ ?_ | exact trivial | exact rfl))))
            all_goals first | exact Nat.le_refl _ | omega
          rintro _ _ _ ⟨rfl, rfl, rfl⟩
          repeat' (first | refine And.intro (by first | omega | (dsimp only; omega) | (show (_ : Bool) = true; kernel_rfl) | decide | (repeat' (first | refine And.intro ?_ ?_ | exact trivial | exact rfl))) ?_ | refine bcs_dec (fun h => ?_) (fun h => False.elim (by first | omega | exact h rfl)) | refine bcs_dec (fun h => False.elim (by omega)) (fun h => ?_) | refine bcs_dec (fun h => ?_) (fun h => ?_) | refine bcs_ndec (fun h => ?_) (fun h => ?_) | refine bcs_not ?_ | refine bcs_intro (fun h => ?_) (fun h => ?_) | refine And.intro ?_ ?_ | refine reg_tail (by kernel_rfl) ?_)
          have j3 := fun h => join_seg b (L.getD (k : Int).toNat Chg.d).B.toNat (((L.getD (k : Int).toNat Chg.d).B + (L.getD (k : Int).toNat Chg.d).M).toNat - (L.getD (k : Int).toNat Chg.d).B.toNat) (by omega) (by omega) h
          rw [show ((b.drop (L.getD (k : Int).toNat Chg.d).B.toNat).take (((L.getD (k : Int).toNat Chg.d).B + (L.getD (k : Int).toNat Chg.d).M).toNat - (L.getD (k : Int).toNat Chg.d).B.toNat)).flatten = X3 from hX3.symm] at j3
          have j3 := j3 (by omega)
          refine call_rule [.at 2 (L.getD (k : Int).toNat Chg.d).B.toNat] (j3) hG ?_ ?_
          · (refine ⟨?_, ?_, rfl, rfl, rfl⟩ <;> repeat' (first | refine And.intro ?_ ?_ | exact trivial | exact rfl | refine lt0 | refine lt1 ?_ | refine lt2 ?_ ?_ | refine lt3 ?_ ?_ ?_ | refine lt4 ?_ ?_ ?_ ?_ | exact veq_refl _ | decide | (intro i hi; repeat' (first | refine And.intro ?_ ?_ | exact trivial | exact rfl))))
            all_goals first | exact Nat.le_refl _ | omega
          rintro _ _ _ ⟨rfl, rfl, rfl⟩
          repeat' (first | refine And.intro (by first | omega | (dsimp only; omega) | (show (_ : Bool) = true; kernel_rfl) | decide | (repeat' (first | refine And.intro ?_ ?_ | exact trivial | exact rfl))) ?_ | refine bcs_dec (fun h => ?_) (fun h => False.elim (by first | omega | exact h rfl)) | refine bcs_dec (fun h => False.elim (by omega)) (fun h => ?_) | refine bcs_dec (fun h => ?_) (fun h => ?_) | refine bcs_ndec (fun h => ?_) (fun h => ?_) | refine bcs_not ?_ | refine bcs_intro (fun h => ?_) (fun h => ?_) | refine And.intro ?_ ?_ | refine reg_tail (by kernel_rfl) ?_)
          have w3 := wsU_con ([123, 43] ++ X3 ++ [43, 125]) (out ++ X1) (by simp only [List.length_append, List.length_cons, List.length_nil]; omega)
          unfold str at w3
          rw [← cat3] at w3
          refine call_rule [.at 4 0, .at 7 0] (w3) hG ?_ ?_
          · (refine ⟨?_, ?_, rfl, rfl, rfl⟩ <;> repeat' (first | refine And.intro ?_ ?_ | exact trivial | exact rfl | refine lt0 | refine lt1 ?_ | refine lt2 ?_ ?_ | refine lt3 ?_ ?_ ?_ | refine lt4 ?_ ?_ ?_ ?_ | exact veq_refl _ | decide | (intro i hi; repeat' (first | refine And.intro ?_ ?_ | exact trivial | exact rfl))))
            all_goals first | exact Nat.le_refl _ | omega
          rintro _ _ _ ⟨rfl, rfl, rfl⟩
          repeat' (first | refine And.intro (by first | omega | (dsimp only; omega) | (show (_ : Bool) = true; kernel_rfl) | decide | (repeat' (first | refine And.intro ?_ ?_ | exact trivial | exact rfl))) ?_ | refine bcs_dec (fun h => ?_) (fun h => False.elim (by first | omega | exact h rfl)) | refine bcs_dec (fun h => False.elim (by omega)) (fun h => ?_) | refine bcs_dec (fun h => ?_) (fun h => ?_) | refine bcs_ndec (fun h => ?_) (fun h => ?_) | refine bcs_not ?_ | refine bcs_intro (fun h => ?_) (fun h => ?_) | refine And.intro ?_ ?_ | refine reg_tail (by kernel_rfl) ?_)
          refine ⟨(k + 1, (L.getD (k : Int).toNat Chg.d).A + (L.getD (k : Int).toNat Chg.d).N, (L.getD (k : Int).toNat Chg.d).B + (L.getD (k : Int).toNat Chg.d).M, some ((out ++ X1) ++ ([123, 43] ++ X3 ++ [43, 125]))), [.at 3 0, .at 4 0, .at 8 0], ?_, ?_, ?_⟩
          · refine ⟨by omega, by omega, by omega, by omega, by omega, h6, ?_⟩
            show ((out ++ X1) ++ ([123, 43] ++ X3 ++ [43, 125])) ++ inlF a b (L.drop (k + 1)) ((L.getD (k : Int).toNat Chg.d).B + (L.getD (k : Int).toNat Chg.d).M) = T
            rw [← h7]
            simp only [List.append_assoc, List.nil_append, List.cons_append]
          · show L.length - (k + 1) < L.length - k
            omega
          · (refine ⟨rfl, rfl, ?_, ?_⟩ <;> repeat' (first | refine And.intro ?_ ?_ | exact trivial | exact rfl | refine lt0 | refine lt1 ?_ | refine lt2 ?_ ?_ | refine lt3 ?_ ?_ ?_ | refine lt4 ?_ ?_ ?_ ?_ | exact veq_refl _ | decide | (intro i hi; repeat' (first | refine And.intro ?_ ?_ | exact trivial | exact rfl))))
            all_goals first | omega | exact Nat.le_refl _
        · exfalso; omega
  · rw [List.drop_of_length_le (by omega)] at h7
    simp only [inlF] at h7
    obtain ⟨X1, hX1⟩ : ∃ X1, X1 = segF b p b.length := ⟨_, rfl⟩
    rw [← hX1] at h7
    have hl := congrArg List.length h7
    simp only [List.length_append] at hl
    have j1 := fun h => join_seg b p.toNat ((b.length : Int).toNat - p.toNat) (by omega) (by omega) h
    rw [show ((b.drop p.toNat).take ((b.length : Int).toNat - p.toNat)).flatten = X1 from hX1.symm] at j1
    have j1 := j1 (by omega)
    cases o with
    | none =>
      simp only [iOut, List.nil_append] at h7
      subst h7
      repeat' (first | refine And.intro (by first | omega | (dsimp only; omega) | (show (_ : Bool) = true; kernel_rfl) | decide | (repeat' (first | refine And.intro ?_ ?_ | exact trivial | exact rfl))) ?_ | refine bcs_dec (fun h => ?_) (fun h => False.elim (by first | omega | exact h rfl)) | refine bcs_dec (fun h => False.elim (by omega)) (fun h => ?_) | refine bcs_dec (fun h => ?_) (fun h => ?_) | refine bcs_ndec (fun h => ?_) (fun h => ?_) | refine bcs_not ?_ | refine bcs_intro (fun h => ?_) (fun h => ?_) | refine And.intro ?_ ?_ | refine reg_tail (by kernel_rfl) ?_)
      refine call_rule [.at 2 p.toNat] (j1) hG ?_ ?_
      · (refine ⟨?_, ?_, rfl, rfl, rfl⟩ <;> repeat' (first | refine And.intro ?_ ?_ | exact trivial | exact rfl | refine lt0 | refine lt1 ?_ | refine lt2 ?_ ?_ | refine lt3 ?_ ?_ ?_ | refine lt4 ?_ ?_ ?_ ?_ | exact veq_refl _ | decide | (intro i hi; repeat' (first | refine And.intro ?_ ?_ | exact trivial | exact rfl))))
        all_goals first | exact Nat.le_refl _ | omega
      rintro _ _ _ ⟨rfl, rfl, rfl⟩
      repeat' (first | refine And.intro (by first | omega | (dsimp only; omega) | (show (_ : Bool) = true; kernel_rfl) | decide | (repeat' (first | refine And.intro ?_ ?_ | exact trivial | exact rfl))) ?_ | refine bcs_dec (fun h => ?_) (fun h => False.elim (by first | omega | exact h rfl)) | refine bcs_dec (fun h => False.elim (by omega)) (fun h => ?_) | refine bcs_dec (fun h => ?_) (fun h => ?_) | refine bcs_ndec (fun h => ?_) (fun h => ?_) | refine bcs_not ?_ | refine bcs_intro (fun h => ?_) (fun h => ?_) | refine And.intro ?_ ?_ | refine reg_tail (by kernel_rfl) ?_)
      refine call_rule [.at 4 0] (wsF_con X1 (by omega)) hG ?_ ?_
      · (refine ⟨?_, ?_, rfl, rfl, rfl⟩ <;> repeat' (first | refine And.intro ?_ ?_ | exact trivial | exact rfl | refine lt0 | refine lt1 ?_ | refine lt2 ?_ ?_ | refine lt3 ?_ ?_ ?_ | refine lt4 ?_ ?_ ?_ ?_ | exact veq_refl _ | decide | (intro i hi; repeat' (first | refine And.intro ?_ ?_ | exact trivial | exact rfl))))
        all_goals first | exact Nat.le_refl _ | omega
      rintro _ _ _ ⟨rfl, rfl, rfl⟩
      repeat' (first | refine And.intro (by first | omega | (dsimp only; omega) | (show (_ : Bool) = true; kernel_rfl) | decide | (repeat' (first | refine And.intro ?_ ?_ | exact trivial | exact rfl))) ?_ | refine bcs_dec (fun h => ?_) (fun h => False.elim (by first | omega | exact h rfl)) | refine bcs_dec (fun h => False.elim (by omega)) (fun h => ?_) | refine bcs_dec (fun h => ?_) (fun h => ?_) | refine bcs_ndec (fun h => ?_) (fun h => ?_) | refine bcs_not ?_ | refine bcs_intro (fun h => ?_) (fun h => ?_) | refine And.intro ?_ ?_ | refine reg_tail (by kernel_rfl) ?_)
      refine call_rule [.at 4 0, .at 5 0] (strU_con (.p 0 0 0) X1) hG ?_ ?_
      · (refine ⟨?_, ?_, rfl, rfl, rfl⟩ <;> repeat' (first | refine And.intro ?_ ?_ | exact trivial | exact rfl | refine lt0 | refine lt1 ?_ | refine lt2 ?_ ?_ | refine lt3 ?_ ?_ ?_ | refine lt4 ?_ ?_ ?_ ?_ | exact veq_refl _ | decide | (intro i hi; repeat' (first | refine And.intro ?_ ?_ | exact trivial | exact rfl))))
        all_goals first | exact Nat.le_refl _ | omega
      rintro _ _ _ ⟨rfl, rfl, rfl⟩
      repeat' (first | refine And.intro (by first | omega | (dsimp only; omega) | (show (_ : Bool) = true; kernel_rfl) | decide | (repeat' (first | refine And.intro ?_ ?_ | exact trivial | exact rfl))) ?_ | refine bcs_dec (fun h => ?_) (fun h => False.elim (by first | omega | exact h rfl)) | refine bcs_dec (fun h => False.elim (by omega)) (fun h => ?_) | refine bcs_dec (fun h => ?_) (fun h => ?_) | refine bcs_ndec (fun h => ?_) (fun h => ?_) | refine bcs_not ?_ | refine bcs_intro (fun h => ?_) (fun h => ?_) | refine And.intro ?_ ?_ | refine reg_tail (by kernel_rfl) ?_)
      refine ret_plain ?_
      repeat' (first | refine And.intro ?_ ?_ | exact trivial)
      all_goals exact rfl
    | some out =>
      simp only [iOut] at h7
      subst h7
      repeat' (first | refine And.intro (by first | omega | (dsimp only; omega) | (show (_ : Bool) = true; kernel_rfl) | decide | (repeat' (first | refine And.intro ?_ ?_ | exact trivial | exact rfl))) ?_ | refine bcs_dec (fun h => ?_) (fun h => False.elim (by first | omega | exact h rfl)) | refine bcs_dec (fun h => False.elim (by omega)) (fun h => ?_) | refine bcs_dec (fun h => ?_) (fun h => ?_) | refine bcs_ndec (fun h => ?_) (fun h => ?_) | refine bcs_not ?_ | refine bcs_intro (fun h => ?_) (fun h => ?_) | refine And.intro ?_ ?_ | refine reg_tail (by kernel_rfl) ?_)
      refine call_rule [.at 2 p.toNat] (j1) hG ?_ ?_
      · (refine ⟨?_, ?_, rfl, rfl, rfl⟩ <;> repeat' (first | refine And.intro ?_ ?_ | exact trivial | exact rfl | refine lt0 | refine lt1 ?_ | refine lt2 ?_ ?_ | refine lt3 ?_ ?_ ?_ | refine lt4 ?_ ?_ ?_ ?_ | exact veq_refl _ | decide | (intro i hi; repeat' (first | refine And.intro ?_ ?_ | exact trivial | exact rfl))))
        all_goals first | exact Nat.le_refl _ | omega
      rintro _ _ _ ⟨rfl, rfl, rfl⟩
      repeat' (first | refine And.intro (by first | omega | (dsimp only; omega) | (show (_ : Bool) = true; kernel_rfl) | decide | (repeat' (first | refine And.intro ?_ ?_ | exact trivial | exact rfl))) ?_ | refine bcs_dec (fun h => ?_) (fun h => False.elim (by first | omega | exact h rfl)) | refine bcs_dec (fun h => False.elim (by omega)) (fun h => ?_) | refine bcs_dec (fun h => ?_) (fun h => ?_) | refine bcs_ndec (fun h => ?_) (fun h => ?_) | refine bcs_not ?_ | refine bcs_intro (fun h => ?_) (fun h => ?_) | refine And.intro ?_ ?_ | refine reg_tail (by kernel_rfl) ?_)
      refine call_rule [.at 4 0, .at 5 0] (wsU_con X1 out (by simp only [iOut] at hl; omega)) hG ?_ ?_
      · (refine ⟨?_, ?_, rfl, rfl, rfl⟩ <;> repeat' (first | refine And.intro ?_ ?_ | exact trivial | exact rfl | refine lt0 | refine lt1 ?_ | refine lt2 ?_ ?_ | refine lt3 ?_ ?_ ?_ | refine lt4 ?_ ?_ ?_ ?_ | exact veq_refl _ | decide | (intro i hi; repeat' (first | refine And.intro ?_ ?_ | exact trivial | exact rfl))))
        all_goals first | exact Nat.le_refl _ | omega
      rintro _ _ _ ⟨rfl, rfl, rfl⟩
      repeat' (first | refine And.intro (by first | omega | (dsimp only; omega) | (show (_ : Bool) = true; kernel_rfl) | decide | (repeat' (first | refine And.intro ?_ ?_ | exact trivial | exact rfl))) ?_ | refine bcs_dec (fun h => ?_) (fun h => False.elim (by first | omega | exact h rfl)) | refine bcs_dec (fun h => False.elim (by omega)) (fun h => ?_) | refine bcs_dec (fun h => ?_) (fun h => ?_) | refine bcs_ndec (fun h => ?_) (fun h => ?_) | refine bcs_not ?_ | refine bcs_intro (fun h => ?_) (fun h => ?_) | refine And.intro ?_ ?_ | refine reg_tail (by kernel_rfl) ?_)
      refine call_rule [.at 4 0, .at 6 0] (strU_con (.p 0 0 0) (out ++ X1)) hG ?_ ?_
      · (refine ⟨?_, ?_, rfl, rfl, rfl⟩ <;> repeat' (first | refine And.intro ?_ ?_ | exact trivial | exact rfl | refine lt0 | refine lt1 ?_ | refine lt2 ?_ ?_ | refine lt3 ?_ ?_ ?_ | refine lt4 ?_ ?_ ?_ ?_ | exact veq_refl _ | decide | (intro i hi; repeat' (first | refine And.intro ?_ ?_ | exact trivial | exact rfl))))
        all_goals first | exact Nat.le_refl _ | omega
      rintro _ _ _ ⟨rfl, rfl, rfl⟩
      repeat' (first | refine And.intro (by first | omega | (dsimp only; omega) | (show (_ : Bool) = true; kernel_rfl) | decide | (repeat' (first | refine And.intro ?_ ?_ | exact trivial | exact rfl))) ?_ | refine bcs_dec (fun h => ?_) (fun h => False.elim (by first | omega | exact h rfl)) | refine bcs_dec (fun h => False.elim (by omega)) (fun h => ?_) | refine bcs_dec (fun h => ?_) (fun h => ?_) | refine bcs_ndec (fun h => ?_) (fun h => ?_) | refine bcs_not ?_ | refine bcs_intro (fun h => ?_) (fun h => ?_) | refine And.intro ?_ ?_ | refine reg_tail (by kernel_rfl) ?_)
      refine ret_plain ?_
      repeat' (first | refine And.intro ?_ ?_ | exact trivial)
      all_goals exact rfl
end Go.Proofs.YtjlobgcmhnkgnaaDoor
