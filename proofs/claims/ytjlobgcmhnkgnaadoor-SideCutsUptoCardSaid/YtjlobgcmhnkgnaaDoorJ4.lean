/- Chapter 15: the reference's marked text, walked. Printed by gen_j4.py. -/
import Derived.Test.YtjlobgcmhnkgnaaDoorJ3
import Derived.Test.YtjlobgcmhnkgnaaDoorB13
import Derived.Test.YtjlobgcmhnkgnaaDoorVc27
namespace Go.Proofs.YtjlobgcmhnkgnaaDoor
open Go Go.RowKit Vc

theorem appBe {out x : Byt} {b : ByteArray} {n : Nat} {K : (Nat → List SV) → Prop} (hb : b = bs x) (hn : n = out.length) (hk : K (byRow (out ++ x))) :
    ∃ f' : Nat → List SV, (∀ j, j < n → f' j = byRow out j) ∧ (∀ j, j < b.size → f' (n + j) = [.v (.int .u8 (bt b (j : Int)))]) ∧ K f' := by
  subst hb
  exact appB hn hk
set_option maxRecDepth 100000 in
set_option maxHeartbeats 16000000 in
theorem rInline_ok (s L : List Chg) (a b : List Byt) (ha : a.length ≤ 4194304) (hb : b.length ≤ 4194304)
    (cN : Con Tryd.prog glob 13 [.s 0 0 s.length, .v (.int .i64 a.length), .v (.int .i64 b.length)] [(0, chRo s)] 1 (retM (.t [.o 1, .v (.int .i64 0)]) [(1, chOwn L)] 2)) (hL : L.length ≤ 4194304)
    (hv : validF L 0 0 a.length b.length = 0) (hT : (inlF a b L 0).length ≤ 4194304) :
    Con Tryd.prog glob 9 [.s 0 0 s.length, .s 1 0 a.length, .s 2 0 b.length] [(0, chRo s), (1, stRo a), (2, stRo b)] 3 (retV 3 (.t [str (inlF a b L 0), .v (.int .i64 0)])) := by
  have hok := okR_end L 0 0 hv (by omega) (by omega) (by omega) (by omega)
  obtain ⟨T, hTe⟩ : ∃ T, T = inlF a b L 0 := ⟨_, rfl⟩
  rw [← hTe] at hT ⊢
  rw [← inlR_end a b L 0] at hTe
  obtain ⟨R, hR⟩ : ∃ R, R = L ++ [⟨(a.length : Int), 0, (b.length : Int), 0⟩] := ⟨_, rfl⟩
  have hRl : R.length = L.length + 1 := by rw [hR]; simp
  have q1 : (ByteArray.mk #[91, 45]).size = 2 := rfl
  have q2 : (ByteArray.mk #[45, 93]).size = 2 := rfl
  have q3 : (ByteArray.mk #[123, 43]).size = 2 := rfl
  have q4 : (ByteArray.mk #[43, 125]).size = 2 := rfl
  refine spec_intro (tab := tab) (N := 121) Tryd.func9 rfl rfl tab_ok mix rfl rfl _ rfl ?_
  intro B hG
  repeat' (first | refine And.intro (by first | omega | (dsimp only; omega) | (show (_ : Bool) = true; kernel_rfl) | decide | (repeat' (first | refine And.intro ?_ ?_ | exact trivial | exact rfl))) ?_ | refine bcs_dec (fun h => ?_) (fun h => False.elim (by first | omega | exact h rfl)) | refine bcs_dec (fun h => False.elim (by omega)) (fun h => ?_) | refine bcs_dec (fun h => ?_) (fun h => ?_) | refine bcs_ndec (fun h => ?_) (fun h => ?_) | refine bcs_not ?_ | refine bcs_intro (fun h => ?_) (fun h => ?_) | refine And.intro ?_ ?_ | refine reg_tail (by kernel_rfl) ?_)
  refine call_rule [.at 0 0] (cN) hG ?_ ?_
  · (refine ⟨?_, ?_, rfl, rfl, rfl⟩ <;> repeat' (first | refine And.intro ?_ ?_ | exact trivial | exact rfl | refine lt0 | refine lt1 ?_ | refine lt2 ?_ ?_ | refine lt3 ?_ ?_ ?_ | refine lt4 ?_ ?_ ?_ ?_ | exact veq_refl _ | decide | (intro i hi; repeat' (first | refine And.intro ?_ ?_ | exact trivial | exact rfl))))
    all_goals first | exact Nat.le_refl _ | omega
  rintro _ _ _ ⟨rfl, rfl, rfl⟩
  repeat' (first | refine And.intro (by first | omega | (dsimp only; omega) | (show (_ : Bool) = true; kernel_rfl) | decide | (repeat' (first | refine And.intro ?_ ?_ | exact trivial | exact rfl))) ?_ | refine bcs_dec (fun h => ?_) (fun h => False.elim (by first | omega | exact h rfl)) | refine bcs_dec (fun h => False.elim (by omega)) (fun h => ?_) | refine bcs_dec (fun h => ?_) (fun h => ?_) | refine bcs_ndec (fun h => ?_) (fun h => ?_) | refine bcs_not ?_ | refine bcs_intro (fun h => ?_) (fun h => ?_) | refine And.intro ?_ ?_ | refine reg_tail (by kernel_rfl) ?_)
  refine app1 Chg.enc Chg.d L ⟨a.length, 0, b.length, 0⟩ rfl rfl ?_
  rw [← hR] at hok hTe ⊢
  repeat' (first | refine And.intro (by first | omega | (dsimp only; omega) | (show (_ : Bool) = true; kernel_rfl) | decide | (repeat' (first | refine And.intro ?_ ?_ | exact trivial | exact rfl))) ?_ | refine bcs_dec (fun h => ?_) (fun h => False.elim (by first | omega | exact h rfl)) | refine bcs_dec (fun h => False.elim (by omega)) (fun h => ?_) | refine bcs_dec (fun h => ?_) (fun h => ?_) | refine bcs_ndec (fun h => ?_) (fun h => ?_) | refine bcs_not ?_ | refine bcs_intro (fun h => ?_) (fun h => ?_) | refine And.intro ?_ ?_ | refine reg_tail (by kernel_rfl) ?_)
  refine loop_rule (α := Nat × Int × Byt) (fun (k, p, out) => ⟨[(1, .s 1 0 a.length), (2, .s 2 0 b.length), (8, .s 3 0 R.length), (10, .o 4), (11, .v (.int .i64 p)), (12, .v (.int .i64 k))], [(1, stRo a), (2, stRo b), (3, chRo R), (4, byOwn out)], 5⟩)
    (fun (k, p, out) => k ≤ R.length ∧ okR a.length b.length (R.drop k) p ∧ out ++ inlR a b (R.drop k) p = T) (fun (k, _) => R.length - k) (0, 0, []) [.at 5 0, .nil 1] ?_ ?_ ?_
  · exact ⟨by omega, hok, hTe.symm⟩
  · (refine ⟨rfl, rfl, ?_, ?_⟩ <;> repeat' (first | refine And.intro ?_ ?_ | exact trivial | exact rfl | refine lt0 | refine lt1 ?_ | refine lt2 ?_ ?_ | refine lt3 ?_ ?_ ?_ | refine lt4 ?_ ?_ ?_ ?_ | exact veq_refl _ | decide | (intro i hi; repeat' (first | refine And.intro ?_ ?_ | exact trivial | exact rfl))))
    all_goals first | omega | exact Nat.le_refl _
  rintro ⟨k, p, out⟩ ⟨h1, h2, h3⟩
  by_cases hk : k < R.length
  · rw [drop_get Chg.d R k hk] at h2 h3
    obtain ⟨hbad, h2⟩ := h2
    simp only [inlR] at h3
    have hC : R.getD k Chg.d = R.getD (0 + (k : Int).toNat) Chg.d := by rw [Nat.zero_add]; rfl
    rw [hC] at h2 h3 hbad
    obtain ⟨X1, hX1⟩ : ∃ X1, X1 = segF b p (R.getD (0 + (k : Int).toNat) Chg.d).B := ⟨_, rfl⟩
    obtain ⟨X2, hX2⟩ : ∃ X2, X2 = segF a (R.getD (0 + (k : Int).toNat) Chg.d).A ((R.getD (0 + (k : Int).toNat) Chg.d).A + (R.getD (0 + (k : Int).toNat) Chg.d).N) := ⟨_, rfl⟩
    obtain ⟨X3, hX3⟩ : ∃ X3, X3 = segF b (R.getD (0 + (k : Int).toNat) Chg.d).B ((R.getD (0 + (k : Int).toNat) Chg.d).B + (R.getD (0 + (k : Int).toNat) Chg.d).M) := ⟨_, rfl⟩
    rw [← hX1, ← hX2, ← hX3] at h3
    have z1 : (bs X1).size = X1.length := bs_size X1
    have z2 : (bs X2).size = X2.length := bs_size X2
    have z3 : (bs X3).size = X3.length := bs_size X3
    have y2 : (ByteArray.mk #[91, 45] ++ bs X2).size = 2 + X2.length := size2 [91, 45] X2
    have y3 : (ByteArray.mk #[123, 43] ++ bs X3).size = 2 + X3.length := size2 [123, 43] X3
    have u2 : (ByteArray.mk #[91, 45] ++ bs X2 ++ ByteArray.mk #[45, 93]).size = 4 + X2.length := by rw [show ByteArray.mk #[91, 45] ++ bs X2 ++ ByteArray.mk #[45, 93] = bs ([91, 45] ++ X2 ++ [45, 93]) from cat3 _ _ _, bs_size]; simp; omega
    have u3 : (ByteArray.mk #[123, 43] ++ bs X3 ++ ByteArray.mk #[43, 125]).size = 4 + X3.length := by rw [show ByteArray.mk #[123, 43] ++ bs X3 ++ ByteArray.mk #[43, 125] = bs ([123, 43] ++ X3 ++ [43, 125]) from cat3 _ _ _, bs_size]; simp; omega
    have hl := congrArg List.length h3
    simp only [List.length_append] at hl
    have j1 := fun h => rJoin_seg b p.toNat ((R.getD (0 + (k : Int).toNat) Chg.d).B.toNat - p.toNat) (by omega) (by omega) h
    rw [show ((b.drop p.toNat).take ((R.getD (0 + (k : Int).toNat) Chg.d).B.toNat - p.toNat)).flatten = X1 from hX1.symm] at j1
    have j1 := j1 (by omega)
    by_cases hN : (R.getD (0 + (k : Int).toNat) Chg.d).N > 0
    · by_cases hM : (R.getD (0 + (k : Int).toNat) Chg.d).M > 0
      · skip
        rw [if_pos hN] at h3 hl
        rw [if_pos hM] at h3 hl
        simp only [List.length_append, List.length_cons, List.length_nil] at h3 hl
        repeat' (first | refine And.intro (by first | omega | (dsimp only; omega) | (show (_ : Bool) = true; kernel_rfl) | decide | (repeat' (first | refine And.intro ?_ ?_ | exact trivial | exact rfl))) ?_ | refine bcs_dec (fun h => ?_) (fun h => False.elim (by first | omega | exact h rfl)) | refine bcs_dec (fun h => False.elim (by omega)) (fun h => ?_) | refine bcs_dec (fun h => ?_) (fun h => ?_) | refine bcs_ndec (fun h => ?_) (fun h => ?_) | refine bcs_not ?_ | refine bcs_intro (fun h => ?_) (fun h => ?_) | refine And.intro ?_ ?_ | refine reg_tail (by kernel_rfl) ?_)
        refine call_rule [.at 2 p.toNat] (j1) hG ?_ ?_
        · (refine ⟨?_, ?_, rfl, rfl, rfl⟩ <;> repeat' (first | refine And.intro ?_ ?_ | exact trivial | exact rfl | refine lt0 | refine lt1 ?_ | refine lt2 ?_ ?_ | refine lt3 ?_ ?_ ?_ | refine lt4 ?_ ?_ ?_ ?_ | exact veq_refl _ | decide | (intro i hi; repeat' (first | refine And.intro ?_ ?_ | exact trivial | exact rfl))))
          all_goals first | exact Nat.le_refl _ | omega
        rintro _ _ _ ⟨rfl, rfl, rfl⟩
        repeat' (first | refine And.intro (by first | omega | (dsimp only; omega) | (show (_ : Bool) = true; kernel_rfl) | decide | (repeat' (first | refine And.intro ?_ ?_ | exact trivial | exact rfl))) ?_ | refine bcs_dec (fun h => ?_) (fun h => False.elim (by first | omega | exact h rfl)) | refine bcs_dec (fun h => False.elim (by omega)) (fun h => ?_) | refine bcs_dec (fun h => ?_) (fun h => ?_) | refine bcs_ndec (fun h => ?_) (fun h => ?_) | refine bcs_not ?_ | refine bcs_intro (fun h => ?_) (fun h => ?_) | refine And.intro ?_ ?_ | refine reg_tail (by kernel_rfl) ?_)
        refine ext_apps Tryd.underlying55 Tryd.underlying9 (te := Tryd.t5) (by kernel_rfl) rfl rfl rfl rfl ?_
        repeat' (first | refine And.intro (by first | omega | (dsimp only; omega) | (show (_ : Bool) = true; kernel_rfl) | decide | (repeat' (first | refine And.intro ?_ ?_ | exact trivial | exact rfl))) ?_ | refine bcs_dec (fun h => ?_) (fun h => ?_) | refine bcs_ndec (fun h => ?_) (fun h => ?_) | refine bcs_not ?_ | refine bcs_intro (fun h => ?_) (fun h => ?_) | refine And.intro ?_ ?_)
        refine appB rfl ?_
        repeat' (first | refine And.intro (by first | omega | (dsimp only; omega) | (show (_ : Bool) = true; kernel_rfl) | decide | (repeat' (first | refine And.intro ?_ ?_ | exact trivial | exact rfl))) ?_ | refine bcs_dec (fun h => ?_) (fun h => False.elim (by first | omega | exact h rfl)) | refine bcs_dec (fun h => False.elim (by omega)) (fun h => ?_) | refine bcs_dec (fun h => ?_) (fun h => ?_) | refine bcs_ndec (fun h => ?_) (fun h => ?_) | refine bcs_not ?_ | refine bcs_intro (fun h => ?_) (fun h => ?_) | refine And.intro ?_ ?_)
        refine reg_mix [] [(0, true), (1, true), (2, true), (3, true), (4, true), (5, true), (6, true), (7, true), (8, true), (9, true), (10, true), (11, true), (12, true), (13, false), (14, false), (15, false), (16, false), (17, false), (18, false), (19, false), (20, false), (21, false), (22, false), (23, false)] (by decide +kernel) rfl ?_
        intro B' hB'
        have hG' := hG
        have hG := hB'.trans hG
        have j2 := fun h => rJoin_seg a (R.getD (0 + (k : Int).toNat) Chg.d).A.toNat (((R.getD (0 + (k : Int).toNat) Chg.d).A + (R.getD (0 + (k : Int).toNat) Chg.d).N).toNat - (R.getD (0 + (k : Int).toNat) Chg.d).A.toNat) (by omega) (by omega) h
        rw [show ((a.drop (R.getD (0 + (k : Int).toNat) Chg.d).A.toNat).take (((R.getD (0 + (k : Int).toNat) Chg.d).A + (R.getD (0 + (k : Int).toNat) Chg.d).N).toNat - (R.getD (0 + (k : Int).toNat) Chg.d).A.toNat)).flatten = X2 from hX2.symm] at j2
        have j2 := j2 (by omega)
        repeat' (first | refine And.intro (by first | omega | (dsimp only; omega) | (show (_ : Bool) = true; kernel_rfl) | decide | (repeat' (first | refine And.intro ?_ ?_ | exact trivial | exact rfl))) ?_ | refine bcs_dec (fun h => ?_) (fun h => False.elim (by first | omega | exact h rfl)) | refine bcs_dec (fun h => False.elim (by omega)) (fun h => ?_) | refine bcs_dec (fun h => ?_) (fun h => ?_) | refine bcs_ndec (fun h => ?_) (fun h => ?_) | refine bcs_not ?_ | refine bcs_intro (fun h => ?_) (fun h => ?_) | refine And.intro ?_ ?_ | refine reg_tail (by kernel_rfl) ?_)
        refine call_rule [.at 1 (R.getD (0 + (k : Int).toNat) Chg.d).A.toNat] (j2) hG ?_ ?_
        · (refine ⟨?_, ?_, rfl, rfl, rfl⟩ <;> repeat' (first | refine And.intro ?_ ?_ | exact trivial | exact rfl | refine lt0 | refine lt1 ?_ | refine lt2 ?_ ?_ | refine lt3 ?_ ?_ ?_ | refine lt4 ?_ ?_ ?_ ?_ | exact veq_refl _ | decide | (intro i hi; repeat' (first | refine And.intro ?_ ?_ | exact trivial | exact rfl))))
          all_goals first | exact Nat.le_refl _ | omega
        rintro _ _ _ ⟨rfl, rfl, rfl⟩
        repeat' (first | refine And.intro (by first | omega | (dsimp only; omega) | (show (_ : Bool) = true; kernel_rfl) | decide | (repeat' (first | refine And.intro ?_ ?_ | exact trivial | exact rfl))) ?_ | refine bcs_dec (fun h => ?_) (fun h => False.elim (by first | omega | exact h rfl)) | refine bcs_dec (fun h => False.elim (by omega)) (fun h => ?_) | refine bcs_dec (fun h => ?_) (fun h => ?_) | refine bcs_ndec (fun h => ?_) (fun h => ?_) | refine bcs_not ?_ | refine bcs_intro (fun h => ?_) (fun h => ?_) | refine And.intro ?_ ?_ | refine reg_tail (by kernel_rfl) ?_)
        refine ext_apps Tryd.underlying55 Tryd.underlying9 (te := Tryd.t5) (by kernel_rfl) rfl rfl rfl rfl ?_
        repeat' (first | refine And.intro (by first | omega | (dsimp only; omega) | (show (_ : Bool) = true; kernel_rfl) | decide | (repeat' (first | refine And.intro ?_ ?_ | exact trivial | exact rfl))) ?_ | refine bcs_dec (fun h => ?_) (fun h => ?_) | refine bcs_ndec (fun h => ?_) (fun h => ?_) | refine bcs_not ?_ | refine bcs_intro (fun h => ?_) (fun h => ?_) | refine And.intro ?_ ?_)
        refine appBe (cat3 [91, 45] X2 [45, 93]) (by simp only [List.length_append]; omega) ?_
        repeat' (first | refine And.intro (by first | omega | (dsimp only; omega) | (show (_ : Bool) = true; kernel_rfl) | decide | (repeat' (first | refine And.intro ?_ ?_ | exact trivial | exact rfl))) ?_ | refine bcs_dec (fun h => ?_) (fun h => False.elim (by first | omega | exact h rfl)) | refine bcs_dec (fun h => False.elim (by omega)) (fun h => ?_) | refine bcs_dec (fun h => ?_) (fun h => ?_) | refine bcs_ndec (fun h => ?_) (fun h => ?_) | refine bcs_not ?_ | refine bcs_intro (fun h => ?_) (fun h => ?_) | refine And.intro ?_ ?_)
        have hG := hG'
        refine reg_mix [] [(0, true), (1, true), (2, true), (3, true), (4, true), (5, true), (6, true), (7, true), (8, true), (9, true), (10, true), (11, true), (12, true), (13, false), (14, false), (15, false), (16, false), (17, false), (18, false), (19, false), (20, false), (21, false), (22, false), (23, false)] (by decide +kernel) rfl ?_
        intro B' hB'
        have hG' := hG
        have hG := hB'.trans hG
        have j3 := fun h => rJoin_seg b (R.getD (0 + (k : Int).toNat) Chg.d).B.toNat (((R.getD (0 + (k : Int).toNat) Chg.d).B + (R.getD (0 + (k : Int).toNat) Chg.d).M).toNat - (R.getD (0 + (k : Int).toNat) Chg.d).B.toNat) (by omega) (by omega) h
        rw [show ((b.drop (R.getD (0 + (k : Int).toNat) Chg.d).B.toNat).take (((R.getD (0 + (k : Int).toNat) Chg.d).B + (R.getD (0 + (k : Int).toNat) Chg.d).M).toNat - (R.getD (0 + (k : Int).toNat) Chg.d).B.toNat)).flatten = X3 from hX3.symm] at j3
        have j3 := j3 (by omega)
        repeat' (first | refine And.intro (by first | omega | (dsimp only; omega) | (show (_ : Bool) = true; kernel_rfl) | decide | (repeat' (first | refine And.intro ?_ ?_ | exact trivial | exact rfl))) ?_ | refine bcs_dec (fun h => ?_) (fun h => False.elim (by first | omega | exact h rfl)) | refine bcs_dec (fun h => False.elim (by omega)) (fun h => ?_) | refine bcs_dec (fun h => ?_) (fun h => ?_) | refine bcs_ndec (fun h => ?_) (fun h => ?_) | refine bcs_not ?_ | refine bcs_intro (fun h => ?_) (fun h => ?_) | refine And.intro ?_ ?_ | refine reg_tail (by kernel_rfl) ?_)
        refine call_rule [.at 2 (R.getD (0 + (k : Int).toNat) Chg.d).B.toNat] (j3) hG ?_ ?_
        · (refine ⟨?_, ?_, rfl, rfl, rfl⟩ <;> repeat' (first | refine And.intro ?_ ?_ | exact trivial | exact rfl | refine lt0 | refine lt1 ?_ | refine lt2 ?_ ?_ | refine lt3 ?_ ?_ ?_ | refine lt4 ?_ ?_ ?_ ?_ | exact veq_refl _ | decide | (intro i hi; repeat' (first | refine And.intro ?_ ?_ | exact trivial | exact rfl))))
          all_goals first | exact Nat.le_refl _ | omega
        rintro _ _ _ ⟨rfl, rfl, rfl⟩
        repeat' (first | refine And.intro (by first | omega | (dsimp only; omega) | (show (_ : Bool) = true; kernel_rfl) | decide | (repeat' (first | refine And.intro ?_ ?_ | exact trivial | exact rfl))) ?_ | refine bcs_dec (fun h => ?_) (fun h => False.elim (by first | omega | exact h rfl)) | refine bcs_dec (fun h => False.elim (by omega)) (fun h => ?_) | refine bcs_dec (fun h => ?_) (fun h => ?_) | refine bcs_ndec (fun h => ?_) (fun h => ?_) | refine bcs_not ?_ | refine bcs_intro (fun h => ?_) (fun h => ?_) | refine And.intro ?_ ?_ | refine reg_tail (by kernel_rfl) ?_)
        refine ext_apps Tryd.underlying55 Tryd.underlying9 (te := Tryd.t5) (by kernel_rfl) rfl rfl rfl rfl ?_
        repeat' (first | refine And.intro (by first | omega | (dsimp only; omega) | (show (_ : Bool) = true; kernel_rfl) | decide | (repeat' (first | refine And.intro ?_ ?_ | exact trivial | exact rfl))) ?_ | refine bcs_dec (fun h => ?_) (fun h => ?_) | refine bcs_ndec (fun h => ?_) (fun h => ?_) | refine bcs_not ?_ | refine bcs_intro (fun h => ?_) (fun h => ?_) | refine And.intro ?_ ?_)
        refine appBe (cat3 [123, 43] X3 [43, 125]) (by simp only [List.length_append, List.length_cons, List.length_nil]; omega) ?_
        repeat' (first | refine And.intro (by first | omega | (dsimp only; omega) | (show (_ : Bool) = true; kernel_rfl) | decide | (repeat' (first | refine And.intro ?_ ?_ | exact trivial | exact rfl))) ?_ | refine bcs_dec (fun h => ?_) (fun h => False.elim (by first | omega | exact h rfl)) | refine bcs_dec (fun h => False.elim (by omega)) (fun h => ?_) | refine bcs_dec (fun h => ?_) (fun h => ?_) | refine bcs_ndec (fun h => ?_) (fun h => ?_) | refine bcs_not ?_ | refine bcs_intro (fun h => ?_) (fun h => ?_) | refine And.intro ?_ ?_ | refine reg_tail (by kernel_rfl) ?_)
        have hG := hG'
        refine ⟨(k + 1, (R.getD (0 + (k : Int).toNat) Chg.d).B + (R.getD (0 + (k : Int).toNat) Chg.d).M, (((out ++ X1) ++ ([91, 45] ++ X2 ++ [45, 93])) ++ ([123, 43] ++ X3 ++ [43, 125]))), [.at 3 0, .at 7 0], ?_, ?_, ?_⟩
        · refine ⟨by omega, h2, ?_⟩
          show (((out ++ X1) ++ ([91, 45] ++ X2 ++ [45, 93])) ++ ([123, 43] ++ X3 ++ [43, 125])) ++ inlR a b (R.drop (k + 1)) ((R.getD (0 + (k : Int).toNat) Chg.d).B + (R.getD (0 + (k : Int).toNat) Chg.d).M) = T
          rw [← h3]
          simp only [List.append_assoc, List.nil_append, List.cons_append]
        · show R.length - (k + 1) < R.length - k
          omega
        · (refine ⟨rfl, rfl, ?_, ?_⟩ <;> repeat' (first | refine And.intro ?_ ?_ | exact trivial | exact rfl | refine lt0 | refine lt1 ?_ | refine lt2 ?_ ?_ | refine lt3 ?_ ?_ ?_ | refine lt4 ?_ ?_ ?_ ?_ | exact veq_refl _ | decide | (intro i hi; repeat' (first | refine And.intro ?_ ?_ | exact trivial | exact rfl))))
          all_goals first | omega | exact Nat.le_refl _ | (simp; omega)
      · skip
        rw [if_pos hN] at h3 hl
        rw [if_neg hM] at h3 hl
        simp only [List.length_append, List.length_cons, List.length_nil, List.nil_append] at h3 hl
        repeat' (first | refine And.intro (by first | omega | (dsimp only; omega) | (show (_ : Bool) = true; kernel_rfl) | decide | (repeat' (first | refine And.intro ?_ ?_ | exact trivial | exact rfl))) ?_ | refine bcs_dec (fun h => ?_) (fun h => False.elim (by first | omega | exact h rfl)) | refine bcs_dec (fun h => False.elim (by omega)) (fun h => ?_) | refine bcs_dec (fun h => ?_) (fun h => ?_) | refine bcs_ndec (fun h => ?_) (fun h => ?_) | refine bcs_not ?_ | refine bcs_intro (fun h => ?_) (fun h => ?_) | refine And.intro ?_ ?_ | refine reg_tail (by kernel_rfl) ?_)
        refine call_rule [.at 2 p.toNat] (j1) hG ?_ ?_
        · (refine ⟨?_, ?_, rfl, rfl, rfl⟩ <;> repeat' (first | refine And.intro ?_ ?_ | exact trivial | exact rfl | refine lt0 | refine lt1 ?_ | refine lt2 ?_ ?_ | refine lt3 ?_ ?_ ?_ | refine lt4 ?_ ?_ ?_ ?_ | exact veq_refl _ | decide | (intro i hi; repeat' (first | refine And.intro ?_ ?_ | exact trivial | exact rfl))))
          all_goals first | exact Nat.le_refl _ | omega
        rintro _ _ _ ⟨rfl, rfl, rfl⟩
        repeat' (first | refine And.intro (by first | omega | (dsimp only; omega) | (show (_ : Bool) = true; kernel_rfl) | decide | (repeat' (first | refine And.intro ?_ ?_ | exact trivial | exact rfl))) ?_ | refine bcs_dec (fun h => ?_) (fun h => False.elim (by first | omega | exact h rfl)) | refine bcs_dec (fun h => False.elim (by omega)) (fun h => ?_) | refine bcs_dec (fun h => ?_) (fun h => ?_) | refine bcs_ndec (fun h => ?_) (fun h => ?_) | refine bcs_not ?_ | refine bcs_intro (fun h => ?_) (fun h => ?_) | refine And.intro ?_ ?_ | refine reg_tail (by kernel_rfl) ?_)
        refine ext_apps Tryd.underlying55 Tryd.underlying9 (te := Tryd.t5) (by kernel_rfl) rfl rfl rfl rfl ?_
        repeat' (first | refine And.intro (by first | omega | (dsimp only; omega) | (show (_ : Bool) = true; kernel_rfl) | decide | (repeat' (first | refine And.intro ?_ ?_ | exact trivial | exact rfl))) ?_ | refine bcs_dec (fun h => ?_) (fun h => ?_) | refine bcs_ndec (fun h => ?_) (fun h => ?_) | refine bcs_not ?_ | refine bcs_intro (fun h => ?_) (fun h => ?_) | refine And.intro ?_ ?_)
        refine appB rfl ?_
        repeat' (first | refine And.intro (by first | omega | (dsimp only; omega) | (show (_ : Bool) = true; kernel_rfl) | decide | (repeat' (first | refine And.intro ?_ ?_ | exact trivial | exact rfl))) ?_ | refine bcs_dec (fun h => ?_) (fun h => False.elim (by first | omega | exact h rfl)) | refine bcs_dec (fun h => False.elim (by omega)) (fun h => ?_) | refine bcs_dec (fun h => ?_) (fun h => ?_) | refine bcs_ndec (fun h => ?_) (fun h => ?_) | refine bcs_not ?_ | refine bcs_intro (fun h => ?_) (fun h => ?_) | refine And.intro ?_ ?_)
        refine reg_mix [] [(0, true), (1, true), (2, true), (3, true), (4, true), (5, true), (6, true), (7, true), (8, true), (9, true), (10, true), (11, true), (12, true), (13, false), (14, false), (15, false), (16, false), (17, false), (18, false), (19, false), (20, false), (21, false), (22, false), (23, false)] (by decide +kernel) rfl ?_
        intro B' hB'
        have hG' := hG
        have hG := hB'.trans hG
        have j2 := fun h => rJoin_seg a (R.getD (0 + (k : Int).toNat) Chg.d).A.toNat (((R.getD (0 + (k : Int).toNat) Chg.d).A + (R.getD (0 + (k : Int).toNat) Chg.d).N).toNat - (R.getD (0 + (k : Int).toNat) Chg.d).A.toNat) (by omega) (by omega) h
        rw [show ((a.drop (R.getD (0 + (k : Int).toNat) Chg.d).A.toNat).take (((R.getD (0 + (k : Int).toNat) Chg.d).A + (R.getD (0 + (k : Int).toNat) Chg.d).N).toNat - (R.getD (0 + (k : Int).toNat) Chg.d).A.toNat)).flatten = X2 from hX2.symm] at j2
        have j2 := j2 (by omega)
        repeat' (first | refine And.intro (by first | omega | (dsimp only; omega) | (show (_ : Bool) = true; kernel_rfl) | decide | (repeat' (first | refine And.intro ?_ ?_ | exact trivial | exact rfl))) ?_ | refine bcs_dec (fun h => ?_) (fun h => False.elim (by first | omega | exact h rfl)) | refine bcs_dec (fun h => False.elim (by omega)) (fun h => ?_) | refine bcs_dec (fun h => ?_) (fun h => ?_) | refine bcs_ndec (fun h => ?_) (fun h => ?_) | refine bcs_not ?_ | refine bcs_intro (fun h => ?_) (fun h => ?_) | refine And.intro ?_ ?_ | refine reg_tail (by kernel_rfl) ?_)
        refine call_rule [.at 1 (R.getD (0 + (k : Int).toNat) Chg.d).A.toNat] (j2) hG ?_ ?_
        · (refine ⟨?_, ?_, rfl, rfl, rfl⟩ <;> repeat' (first | refine And.intro ?_ ?_ | exact trivial | exact rfl | refine lt0 | refine lt1 ?_ | refine lt2 ?_ ?_ | refine lt3 ?_ ?_ ?_ | refine lt4 ?_ ?_ ?_ ?_ | exact veq_refl _ | decide | (intro i hi; repeat' (first | refine And.intro ?_ ?_ | exact trivial | exact rfl))))
          all_goals first | exact Nat.le_refl _ | omega
        rintro _ _ _ ⟨rfl, rfl, rfl⟩
        repeat' (first | refine And.intro (by first | omega | (dsimp only; omega) | (show (_ : Bool) = true; kernel_rfl) | decide | (repeat' (first | refine And.intro ?_ ?_ | exact trivial | exact rfl))) ?_ | refine bcs_dec (fun h => ?_) (fun h => False.elim (by first | omega | exact h rfl)) | refine bcs_dec (fun h => False.elim (by omega)) (fun h => ?_) | refine bcs_dec (fun h => ?_) (fun h => ?_) | refine bcs_ndec (fun h => ?_) (fun h => ?_) | refine bcs_not ?_ | refine bcs_intro (fun h => ?_) (fun h => ?_) | refine And.intro ?_ ?_ | refine reg_tail (by kernel_rfl) ?_)
        refine ext_apps Tryd.underlying55 Tryd.underlying9 (te := Tryd.t5) (by kernel_rfl) rfl rfl rfl rfl ?_
        repeat' (first | refine And.intro (by first | omega | (dsimp only; omega) | (show (_ : Bool) = true; kernel_rfl) | decide | (repeat' (first | refine And.intro ?_ ?_ | exact trivial | exact rfl))) ?_ | refine bcs_dec (fun h => ?_) (fun h => ?_) | refine bcs_ndec (fun h => ?_) (fun h => ?_) | refine bcs_not ?_ | refine bcs_intro (fun h => ?_) (fun h => ?_) | refine And.intro ?_ ?_)
        refine appBe (cat3 [91, 45] X2 [45, 93]) (by simp only [List.length_append]; omega) ?_
        repeat' (first | refine And.intro (by first | omega | (dsimp only; omega) | (show (_ : Bool) = true; kernel_rfl) | decide | (repeat' (first | refine And.intro ?_ ?_ | exact trivial | exact rfl))) ?_ | refine bcs_dec (fun h => ?_) (fun h => False.elim (by first | omega | exact h rfl)) | refine bcs_dec (fun h => False.elim (by omega)) (fun h => ?_) | refine bcs_dec (fun h => ?_) (fun h => ?_) | refine bcs_ndec (fun h => ?_) (fun h => ?_) | refine bcs_not ?_ | refine bcs_intro (fun h => ?_) (fun h => ?_) | refine And.intro ?_ ?_ | refine reg_tail (by kernel_rfl) ?_)
        have hG := hG'
        refine ⟨(k + 1, (R.getD (0 + (k : Int).toNat) Chg.d).B + (R.getD (0 + (k : Int).toNat) Chg.d).M, ((out ++ X1) ++ ([91, 45] ++ X2 ++ [45, 93]))), [.at 3 0, .at 6 0], ?_, ?_, ?_⟩
        · refine ⟨by omega, h2, ?_⟩
          show ((out ++ X1) ++ ([91, 45] ++ X2 ++ [45, 93])) ++ inlR a b (R.drop (k + 1)) ((R.getD (0 + (k : Int).toNat) Chg.d).B + (R.getD (0 + (k : Int).toNat) Chg.d).M) = T
          rw [← h3]
          simp only [List.append_assoc, List.nil_append, List.cons_append]
        · show R.length - (k + 1) < R.length - k
          omega
        · (refine ⟨rfl, rfl, ?_, ?_⟩ <;> repeat' (first | refine And.intro ?_ ?_ | exact trivial | exact rfl | refine lt0 | refine lt1 ?_ | refine lt2 ?_ ?_ | refine lt3 ?_ ?_ ?_ | refine lt4 ?_ ?_ ?_ ?_ | exact veq_refl _ | decide | (intro i hi; repeat' (first | refine And.intro ?_ ?_ | exact trivial | exact rfl))))
          all_goals first | omega | exact Nat.le_refl _ | (simp; omega)
    · by_cases hM : (R.getD (0 + (k : Int).toNat) Chg.d).M > 0
      · skip
        rw [if_neg hN] at h3 hl
        rw [if_pos hM] at h3 hl
        simp only [List.length_append, List.length_cons, List.length_nil, List.nil_append] at h3 hl
        repeat' (first | refine And.intro (by first | omega | (dsimp only; omega) | (show (_ : Bool) = true; kernel_rfl) | decide | (repeat' (first | refine And.intro ?_ ?_ | exact trivial | exact rfl))) ?_ | refine bcs_dec (fun h => ?_) (fun h => False.elim (by first | omega | exact h rfl)) | refine bcs_dec (fun h => False.elim (by omega)) (fun h => ?_) | refine bcs_dec (fun h => ?_) (fun h => ?_) | refine bcs_ndec (fun h => ?_) (fun h => ?_) | refine bcs_not ?_ | refine bcs_intro (fun h => ?_) (fun h => ?_) | refine And.intro ?_ ?_ | refine reg_tail (by kernel_rfl) ?_)
        refine call_rule [.at 2 p.toNat] (j1) hG ?_ ?_
        · (refine ⟨?_, ?_, rfl, rfl, rfl⟩ <;> repeat' (first | refine And.intro ?_ ?_ | exact trivial | exact rfl | refine lt0 | refine lt1 ?_ | refine lt2 ?_ ?_ | refine lt3 ?_ ?_ ?_ | refine lt4 ?_ ?_ ?_ ?_ | exact veq_refl _ | decide | (intro i hi; repeat' (first | refine And.intro ?_ ?_ | exact trivial | exact rfl))))
          all_goals first | exact Nat.le_refl _ | omega
        rintro _ _ _ ⟨rfl, rfl, rfl⟩
        repeat' (first | refine And.intro (by first | omega | (dsimp only; omega) | (show (_ : Bool) = true; kernel_rfl) | decide | (repeat' (first | refine And.intro ?_ ?_ | exact trivial | exact rfl))) ?_ | refine bcs_dec (fun h => ?_) (fun h => False.elim (by first | omega | exact h rfl)) | refine bcs_dec (fun h => False.elim (by omega)) (fun h => ?_) | refine bcs_dec (fun h => ?_) (fun h => ?_) | refine bcs_ndec (fun h => ?_) (fun h => ?_) | refine bcs_not ?_ | refine bcs_intro (fun h => ?_) (fun h => ?_) | refine And.intro ?_ ?_ | refine reg_tail (by kernel_rfl) ?_)
        refine ext_apps Tryd.underlying55 Tryd.underlying9 (te := Tryd.t5) (by kernel_rfl) rfl rfl rfl rfl ?_
        repeat' (first | refine And.intro (by first | omega | (dsimp only; omega) | (show (_ : Bool) = true; kernel_rfl) | decide | (repeat' (first | refine And.intro ?_ ?_ | exact trivial | exact rfl))) ?_ | refine bcs_dec (fun h => ?_) (fun h => ?_) | refine bcs_ndec (fun h => ?_) (fun h => ?_) | refine bcs_not ?_ | refine bcs_intro (fun h => ?_) (fun h => ?_) | refine And.intro ?_ ?_)
        refine appB rfl ?_
        repeat' (first | refine And.intro (by first | omega | (dsimp only; omega) | (show (_ : Bool) = true; kernel_rfl) | decide | (repeat' (first | refine And.intro ?_ ?_ | exact trivial | exact rfl))) ?_ | refine bcs_dec (fun h => ?_) (fun h => False.elim (by first | omega | exact h rfl)) | refine bcs_dec (fun h => False.elim (by omega)) (fun h => ?_) | refine bcs_dec (fun h => ?_) (fun h => ?_) | refine bcs_ndec (fun h => ?_) (fun h => ?_) | refine bcs_not ?_ | refine bcs_intro (fun h => ?_) (fun h => ?_) | refine And.intro ?_ ?_)
        refine reg_mix [] [(0, true), (1, true), (2, true), (3, true), (4, true), (5, true), (6, true), (7, true), (8, true), (9, true), (10, true), (11, true), (12, true), (13, false), (14, false), (15, false), (16, false), (17, false), (18, false), (19, false), (20, false), (21, false), (22, false), (23, false)] (by decide +kernel) rfl ?_
        intro B' hB'
        have hG' := hG
        have hG := hB'.trans hG
        have j3 := fun h => rJoin_seg b (R.getD (0 + (k : Int).toNat) Chg.d).B.toNat (((R.getD (0 + (k : Int).toNat) Chg.d).B + (R.getD (0 + (k : Int).toNat) Chg.d).M).toNat - (R.getD (0 + (k : Int).toNat) Chg.d).B.toNat) (by omega) (by omega) h
        rw [show ((b.drop (R.getD (0 + (k : Int).toNat) Chg.d).B.toNat).take (((R.getD (0 + (k : Int).toNat) Chg.d).B + (R.getD (0 + (k : Int).toNat) Chg.d).M).toNat - (R.getD (0 + (k : Int).toNat) Chg.d).B.toNat)).flatten = X3 from hX3.symm] at j3
        have j3 := j3 (by omega)
        repeat' (first | refine And.intro (by first | omega | (dsimp only; omega) | (show (_ : Bool) = true; kernel_rfl) | decide | (repeat' (first | refine And.intro ?_ ?_ | exact trivial | exact rfl))) ?_ | refine bcs_dec (fun h => ?_) (fun h => False.elim (by first | omega | exact h rfl)) | refine bcs_dec (fun h => False.elim (by omega)) (fun h => ?_) | refine bcs_dec (fun h => ?_) (fun h => ?_) | refine bcs_ndec (fun h => ?_) (fun h => ?_) | refine bcs_not ?_ | refine bcs_intro (fun h => ?_) (fun h => ?_) | refine And.intro ?_ ?_ | refine reg_tail (by kernel_rfl) ?_)
        refine call_rule [.at 2 (R.getD (0 + (k : Int).toNat) Chg.d).B.toNat] (j3) hG ?_ ?_
        · (refine ⟨?_, ?_, rfl, rfl, rfl⟩ <;> repeat' (first | refine And.intro ?_ ?_ | exact trivial | exact rfl | refine lt0 | refine lt1 ?_ | refine lt2 ?_ ?_ | refine lt3 ?_ ?_ ?_ | refine lt4 ?_ ?_ ?_ ?_ | exact veq_refl _ | decide | (intro i hi; repeat' (first | refine And.intro ?_ ?_ | exact trivial | exact rfl))))
          all_goals first | exact Nat.le_refl _ | omega
        rintro _ _ _ ⟨rfl, rfl, rfl⟩
        repeat' (first | refine And.intro (by first | omega | (dsimp only; omega) | (show (_ : Bool) = true; kernel_rfl) | decide | (repeat' (first | refine And.intro ?_ ?_ | exact trivial | exact rfl))) ?_ | refine bcs_dec (fun h => ?_) (fun h => False.elim (by first | omega | exact h rfl)) | refine bcs_dec (fun h => False.elim (by omega)) (fun h => ?_) | refine bcs_dec (fun h => ?_) (fun h => ?_) | refine bcs_ndec (fun h => ?_) (fun h => ?_) | refine bcs_not ?_ | refine bcs_intro (fun h => ?_) (fun h => ?_) | refine And.intro ?_ ?_ | refine reg_tail (by kernel_rfl) ?_)
        refine ext_apps Tryd.underlying55 Tryd.underlying9 (te := Tryd.t5) (by kernel_rfl) rfl rfl rfl rfl ?_
        repeat' (first | refine And.intro (by first | omega | (dsimp only; omega) | (show (_ : Bool) = true; kernel_rfl) | decide | (repeat' (first | refine And.intro ?_ ?_ | exact trivial | exact rfl))) ?_ | refine bcs_dec (fun h => ?_) (fun h => ?_) | refine bcs_ndec (fun h => ?_) (fun h => ?_) | refine bcs_not ?_ | refine bcs_intro (fun h => ?_) (fun h => ?_) | refine And.intro ?_ ?_)
        refine appBe (cat3 [123, 43] X3 [43, 125]) (by simp only [List.length_append]; omega) ?_
        repeat' (first | refine And.intro (by first | omega | (dsimp only; omega) | (show (_ : Bool) = true; kernel_rfl) | decide | (repeat' (first | refine And.intro ?_ ?_ | exact trivial | exact rfl))) ?_ | refine bcs_dec (fun h => ?_) (fun h => False.elim (by first | omega | exact h rfl)) | refine bcs_dec (fun h => False.elim (by omega)) (fun h => ?_) | refine bcs_dec (fun h => ?_) (fun h => ?_) | refine bcs_ndec (fun h => ?_) (fun h => ?_) | refine bcs_not ?_ | refine bcs_intro (fun h => ?_) (fun h => ?_) | refine And.intro ?_ ?_ | refine reg_tail (by kernel_rfl) ?_)
        have hG := hG'
        refine ⟨(k + 1, (R.getD (0 + (k : Int).toNat) Chg.d).B + (R.getD (0 + (k : Int).toNat) Chg.d).M, ((out ++ X1) ++ ([123, 43] ++ X3 ++ [43, 125]))), [.at 3 0, .at 6 0], ?_, ?_, ?_⟩
        · refine ⟨by omega, h2, ?_⟩
          show ((out ++ X1) ++ ([123, 43] ++ X3 ++ [43, 125])) ++ inlR a b (R.drop (k + 1)) ((R.getD (0 + (k : Int).toNat) Chg.d).B + (R.getD (0 + (k : Int).toNat) Chg.d).M) = T
          rw [← h3]
          simp only [List.append_assoc, List.nil_append, List.cons_append]
        · show R.length - (k + 1) < R.length - k
          omega
        · (refine ⟨rfl, rfl, ?_, ?_⟩ <;> repeat' (first | refine And.intro ?_ ?_ | exact trivial | exact rfl | refine lt0 | refine lt1 ?_ | refine lt2 ?_ ?_ | refine lt3 ?_ ?_ ?_ | refine lt4 ?_ ?_ ?_ ?_ | exact veq_refl _ | decide | (intro i hi; repeat' (first | refine And.intro ?_ ?_ | exact trivial | exact rfl))))
          all_goals first | omega | exact Nat.le_refl _ | (simp; omega)
      · skip
        rw [if_neg hN] at h3 hl
        rw [if_neg hM] at h3 hl
        simp only [List.nil_append] at h3 hl
        repeat' (first | refine And.intro (by first | omega | (dsimp only; omega) | (show (_ : Bool) = true; kernel_rfl) | decide | (repeat' (first | refine And.intro ?_ ?_ | exact trivial | exact rfl))) ?_ | refine bcs_dec (fun h => ?_) (fun h => False.elim (by first | omega | exact h rfl)) | refine bcs_dec (fun h => False.elim (by omega)) (fun h => ?_) | refine bcs_dec (fun h => ?_) (fun h => ?_) | refine bcs_ndec (fun h => ?_) (fun h => ?_) | refine bcs_not ?_ | refine bcs_intro (fun h => ?_) (fun h => ?_) | refine And.intro ?_ ?_ | refine reg_tail (by kernel_rfl) ?_)
        refine call_rule [.at 2 p.toNat] (j1) hG ?_ ?_
        · (refine ⟨?_, ?_, rfl, rfl, rfl⟩ <;> repeat' (first | refine And.intro ?_ ?_ | exact trivial | exact rfl | refine lt0 | refine lt1 ?_ | refine lt2 ?_ ?_ | refine lt3 ?_ ?_ ?_ | refine lt4 ?_ ?_ ?_ ?_ | exact veq_refl _ | decide | (intro i hi; repeat' (first | refine And.intro ?_ ?_ | exact trivial | exact rfl))))
          all_goals first | exact Nat.le_refl _ | omega
        rintro _ _ _ ⟨rfl, rfl, rfl⟩
        repeat' (first | refine And.intro (by first | omega | (dsimp only; omega) | (show (_ : Bool) = true; kernel_rfl) | decide | (repeat' (first | refine And.intro ?_ ?_ | exact trivial | exact rfl))) ?_ | refine bcs_dec (fun h => ?_) (fun h => False.elim (by first | omega | exact h rfl)) | refine bcs_dec (fun h => False.elim (by omega)) (fun h => ?_) | refine bcs_dec (fun h => ?_) (fun h => ?_) | refine bcs_ndec (fun h => ?_) (fun h => ?_) | refine bcs_not ?_ | refine bcs_intro (fun h => ?_) (fun h => ?_) | refine And.intro ?_ ?_ | refine reg_tail (by kernel_rfl) ?_)
        refine ext_apps Tryd.underlying55 Tryd.underlying9 (te := Tryd.t5) (by kernel_rfl) rfl rfl rfl rfl ?_
        repeat' (first | refine And.intro (by first | omega | (dsimp only; omega) | (show (_ : Bool) = true; kernel_rfl) | decide | (repeat' (first | refine And.intro ?_ ?_ | exact trivial | exact rfl))) ?_ | refine bcs_dec (fun h => ?_) (fun h => ?_) | refine bcs_ndec (fun h => ?_) (fun h => ?_) | refine bcs_not ?_ | refine bcs_intro (fun h => ?_) (fun h => ?_) | refine And.intro ?_ ?_)
        refine appB rfl ?_
        repeat' (first | refine And.intro (by first | omega | (dsimp only; omega) | (show (_ : Bool) = true; kernel_rfl) | decide | (repeat' (first | refine And.intro ?_ ?_ | exact trivial | exact rfl))) ?_ | refine bcs_dec (fun h => ?_) (fun h => False.elim (by first | omega | exact h rfl)) | refine bcs_dec (fun h => False.elim (by omega)) (fun h => ?_) | refine bcs_dec (fun h => ?_) (fun h => ?_) | refine bcs_ndec (fun h => ?_) (fun h => ?_) | refine bcs_not ?_ | refine bcs_intro (fun h => ?_) (fun h => ?_) | refine And.intro ?_ ?_ | refine reg_tail (by kernel_rfl) ?_)
        refine ⟨(k + 1, (R.getD (0 + (k : Int).toNat) Chg.d).B + (R.getD (0 + (k : Int).toNat) Chg.d).M, (out ++ X1)), [.at 3 0, .at 5 0], ?_, ?_, ?_⟩
        · refine ⟨by omega, h2, ?_⟩
          show (out ++ X1) ++ inlR a b (R.drop (k + 1)) ((R.getD (0 + (k : Int).toNat) Chg.d).B + (R.getD (0 + (k : Int).toNat) Chg.d).M) = T
          rw [← h3]
          simp only [List.append_assoc]
        · show R.length - (k + 1) < R.length - k
          omega
        · (refine ⟨rfl, rfl, ?_, ?_⟩ <;> repeat' (first | refine And.intro ?_ ?_ | exact trivial | exact rfl | refine lt0 | refine lt1 ?_ | refine lt2 ?_ ?_ | refine lt3 ?_ ?_ ?_ | refine lt4 ?_ ?_ ?_ ?_ | exact veq_refl _ | decide | (intro i hi; repeat' (first | refine And.intro ?_ ?_ | exact trivial | exact rfl))))
          all_goals first | omega | exact Nat.le_refl _ | (simp; omega)
  · rw [List.drop_of_length_le (by omega)] at h3
    simp only [inlR, List.append_nil] at h3
    subst h3
    repeat' (first | refine And.intro (by first | omega | (dsimp only; omega) | (show (_ : Bool) = true; kernel_rfl) | decide | (repeat' (first | refine And.intro ?_ ?_ | exact trivial | exact rfl))) ?_ | refine bcs_dec (fun h => ?_) (fun h => False.elim (by first | omega | exact h rfl)) | refine bcs_dec (fun h => False.elim (by omega)) (fun h => ?_) | refine bcs_dec (fun h => ?_) (fun h => ?_) | refine bcs_ndec (fun h => ?_) (fun h => ?_) | refine bcs_not ?_ | refine bcs_intro (fun h => ?_) (fun h => ?_) | refine And.intro ?_ ?_ | refine reg_tail (by kernel_rfl) ?_)
    refine ext_b2s Tryd.underlying55 Tryd.underlying5 Tryd.underlying9 ?_
    refine ⟨_, rfl, fun j hj => by rw [Nat.zero_add], ?_⟩
    repeat' (first | refine And.intro (by first | omega | (dsimp only; omega) | (show (_ : Bool) = true; kernel_rfl) | decide | (repeat' (first | refine And.intro ?_ ?_ | exact trivial | exact rfl))) ?_ | refine bcs_dec (fun h => ?_) (fun h => False.elim (by first | omega | exact h rfl)) | refine bcs_dec (fun h => False.elim (by omega)) (fun h => ?_) | refine bcs_dec (fun h => ?_) (fun h => ?_) | refine bcs_ndec (fun h => ?_) (fun h => ?_) | refine bcs_not ?_ | refine bcs_intro (fun h => ?_) (fun h => ?_) | refine And.intro ?_ ?_ | refine reg_tail (by kernel_rfl) ?_)
    refine ret_plain ?_
    repeat' (first | refine And.intro ?_ ?_ | exact trivial)
    all_goals exact rfl
end Go.Proofs.YtjlobgcmhnkgnaaDoor
