/- Chapter 7: the document's table. -/
import Derived.Test.YtdabahipeepheaaS12
namespace Go.Proofs.Ytdabahipeepheaa
open Go Go.RowKit Vc

def uMem (A C : Nat → Int) (N M : Nat) (row next : List Int) : Mem := [(0, iRo N A), (1, iRo M C), (2, iOwn row), (3, iOwn next)]
def uSt (A C : Nat → Int) (N M : Nat) (i : Nat) (row next : List Int) (k : Nat) : St :=
  ⟨[(0, .s 0 0 N), (1, .s 1 0 M), (5, .o 2), (6, .v (.int .i64 i)), (7, .o 3), (8, .v (.int .i64 k))], uMem A C N M row next, 4⟩

set_option maxRecDepth 100000 in
set_option maxHeartbeats 64000000 in
theorem u_loop (A C : Nat → Int) (N M : Nat) (hN : N ≤ 1048576) (hM : M ≤ 1048576) (i : Nat) (hi : i < N) (row : List Int) (lr : row.length = M + 1) (hr : ∀ e, e ≤ M → row.getD e 0 = mq (fA A C N M) i e) (B : Bs) (E : Nat → St → Prop) (U : St → Prop) (s0 : St) (new0 : List Kp)
    (nx0 : List Int) (ln : nx0.length = M + 1) (h0 : nx0.getD 0 0 = 0) (hs : Sub 2 new0 s0 (uSt A C N M i row nx0 0)) :
    LoopP ⟨Try.prog, tab, B, 67, 2⟩ (loopOf 2 Try.f10) s0 (fun j s' => bif Nat.beq j 2 then (∃ (y : List Int) (new : List Kp), (y.length = M + 1 ∧ ∀ e, e ≤ M → y.getD e 0 = mq (fA A C N M) (i + 1) e) ∧ Sub 2 new s' (uSt A C N M i row y M)) else E j s') U := by
  refine loop_rule (α := Nat × List Int) (fun (k, y) => uSt A C N M i row y k) (fun (k, y) => k ≤ M ∧ y.length = M + 1 ∧ ∀ e, e ≤ k → y.getD e 0 = mq (fA A C N M) (i + 1) e) (fun (k, _) => M - k) (0, nx0) new0 ⟨Nat.zero_le _, ln, fun e he => ?_⟩ hs ?_
  · obtain rfl : e = 0 := by omega
    rw [h0, lc_left]; rfl
  clear hs ln h0 nx0
  rintro ⟨k, y⟩ ⟨h1, h2, h3⟩
  have e1 : row.getD (k : Int).toNat 0 = mq (fA A C N M) i k := by rw [Int.toNat_natCast]; exact hr k h1
  have e2 : k < M → row.getD ((k : Int) + 1).toNat 0 = mq (fA A C N M) i (k + 1) := fun _ => by
    rw [show ((k : Int) + 1).toNat = k + 1 by omega]; exact hr (k + 1) (by omega)
  have e3 : y.getD (k : Int).toNat 0 = mq (fA A C N M) (i + 1) k := by rw [Int.toNat_natCast]; exact h3 k (Nat.le_refl _)
  have b1 := (mq_most (fA A C N M) i k).1.le
  have b2 := (mq_most (fA A C N M) i (k + 1)).1.le
  have b3 := (mq_most (fA A C N M) (i + 1) k).1.le
  have y1 : k < M → A (0 + (i : Int).toNat) = C (0 + (k : Int).toNat) → mq (fA A C N M) (i + 1) (k + 1) = mq (fA A C N M) i k + 1 := fun hk hh => lc_yes (fA_iff.2 ⟨hi, hk, by rwa [Int.toNat_natCast, Int.toNat_natCast, Nat.zero_add, Nat.zero_add] at hh⟩)
  have y2 : ¬ A (0 + (i : Int).toNat) = C (0 + (k : Int).toNat) → mq (fA A C N M) (i + 1) (k + 1) = max (mq (fA A C N M) i (k + 1)) (mq (fA A C N M) (i + 1) k) := fun hh => lc_no (by
    rw [Bool.eq_false_iff]; intro hq; exact hh (by rw [Int.toNat_natCast, Int.toNat_natCast, Nat.zero_add, Nat.zero_add]; exact (fA_iff.1 hq).2.2))
  have fin : ∀ v : Int, v = mq (fA A C N M) (i + 1) (k + 1) → k < M → ∀ e, e ≤ k + 1 → (y.set ((k : Int) + 1).toNat v).getD e 0 = mq (fA A C N M) (i + 1) e := by
    intro v hv hk e he
    rw [show ((k : Int) + 1).toNat = k + 1 by omega, set_get (by omega)]
    by_cases q : e = k + 1
    · rw [if_pos q, hv, q]
    · rw [if_neg q]; exact h3 e (by omega)
  have hide := Hd.mk (And.intro y1 (And.intro y2 fin))
  have h3' := Hd.mk h3
  clear y1 y2 fin h3 hr
  by_cases hk : k < M
  · have e2' := e2 hk
    clear e2
    repeat' (first | refine And.intro (by first | omega | (dsimp only; omega) | (show (_ : Bool) = true; kernel_rfl) | decide | (repeat' (first | refine And.intro ?_ ?_ | exact trivial | exact rfl))) ?_ | refine bcs_dec (fun h => ?_) (fun h => False.elim (by first | omega | exact h rfl)) | refine bcs_dec (fun h => False.elim (by omega)) (fun h => ?_) | refine bcs_dec (fun h => ?_) (fun h => ?_) | refine bcs_ndec (fun h => ?_) (fun h => ?_) | refine bcs_not ?_ | refine bcs_intro (fun h => ?_) (fun h => ?_) | refine And.intro ?_ ?_ | refine reg_tail (by kernel_rfl) ?_)
    all_goals first
      | omega
      | skip
    · refine sto1 nEnc 0 y (row.getD (k : Int).toNat 0 + 1) rfl (by omega) rfl ?_
      repeat' (first | refine And.intro (by first | omega | (dsimp only; omega) | (show (_ : Bool) = true; kernel_rfl) | decide | (repeat' (first | refine And.intro ?_ ?_ | exact trivial | exact rfl))) ?_ | refine bcs_dec (fun h => ?_) (fun h => False.elim (by first | omega | exact h rfl)) | refine bcs_dec (fun h => False.elim (by omega)) (fun h => ?_) | refine bcs_dec (fun h => ?_) (fun h => ?_) | refine bcs_ndec (fun h => ?_) (fun h => ?_) | refine bcs_not ?_ | refine bcs_intro (fun h => ?_) (fun h => ?_) | refine And.intro ?_ ?_ | refine reg_tail (by kernel_rfl) ?_)
      all_goals first
        | omega
        | skip
      obtain ⟨y1, y2, fin⟩ := hide.out
      have hq := y1 hk h
      refine ⟨(k + 1, y.set ((k : Int) + 1).toNat (row.getD (k : Int).toNat 0 + 1)), [.at 2 0, .at 3 0], ⟨by omega, by rw [List.length_set]; exact h2, fin _ (by rw [e1, hq]; omega) hk⟩, by dsimp only; omega, ?_⟩
      (refine ⟨rfl, rfl, ?_, ?_⟩ <;> repeat' (first | refine And.intro ?_ ?_ | exact trivial | exact rfl | refine lt0 | refine lt1 ?_ | refine lt2 ?_ ?_ | refine lt3 ?_ ?_ ?_ | refine lt4 ?_ ?_ ?_ ?_ | exact veq_refl _ | decide | (intro i hi; repeat' (first | refine And.intro ?_ ?_ | exact trivial | exact rfl))))
      all_goals first | exact Nat.le_refl _ | omega | (dsimp only; omega) | (simp; done) | (show @Eq Int _ _; omega)
    · refine sto1 nEnc 0 y (max (row.getD ((k : Int) + 1).toNat 0) (y.getD (k : Int).toNat 0)) rfl (by omega) rfl ?_
      repeat' (first | refine And.intro (by first | omega | (dsimp only; omega) | (show (_ : Bool) = true; kernel_rfl) | decide | (repeat' (first | refine And.intro ?_ ?_ | exact trivial | exact rfl))) ?_ | refine bcs_dec (fun h => ?_) (fun h => False.elim (by first | omega | exact h rfl)) | refine bcs_dec (fun h => False.elim (by omega)) (fun h => ?_) | refine bcs_dec (fun h => ?_) (fun h => ?_) | refine bcs_ndec (fun h => ?_) (fun h => ?_) | refine bcs_not ?_ | refine bcs_intro (fun h => ?_) (fun h => ?_) | refine And.intro ?_ ?_ | refine reg_tail (by kernel_rfl) ?_)
      all_goals first
        | omega
        | skip
      obtain ⟨y1, y2, fin⟩ := hide.out
      have hq := y2 h
      refine ⟨(k + 1, y.set ((k : Int) + 1).toNat (max (row.getD ((k : Int) + 1).toNat 0) (y.getD (k : Int).toNat 0))), [.at 2 0, .at 3 0], ⟨by omega, by rw [List.length_set]; exact h2, fin _ (by rw [e2', e3, hq]; omega) hk⟩, by dsimp only; omega, ?_⟩
      (refine ⟨rfl, rfl, ?_, ?_⟩ <;> repeat' (first | refine And.intro ?_ ?_ | exact trivial | exact rfl | refine lt0 | refine lt1 ?_ | refine lt2 ?_ ?_ | refine lt3 ?_ ?_ ?_ | refine lt4 ?_ ?_ ?_ ?_ | exact veq_refl _ | decide | (intro i hi; repeat' (first | refine And.intro ?_ ?_ | exact trivial | exact rfl))))
      all_goals first | exact Nat.le_refl _ | omega | (dsimp only; omega) | (simp; done) | (show @Eq Int _ _; omega)
  · repeat' (first | refine And.intro (by first | omega | (dsimp only; omega) | (show (_ : Bool) = true; kernel_rfl) | decide | (repeat' (first | refine And.intro ?_ ?_ | exact trivial | exact rfl))) ?_ | refine bcs_dec (fun h => ?_) (fun h => False.elim (by first | omega | exact h rfl)) | refine bcs_dec (fun h => False.elim (by omega)) (fun h => ?_) | refine bcs_dec (fun h => ?_) (fun h => ?_) | refine bcs_ndec (fun h => ?_) (fun h => ?_) | refine bcs_not ?_ | refine bcs_intro (fun h => ?_) (fun h => ?_) | refine And.intro ?_ ?_ | refine reg_tail (by kernel_rfl) ?_)
    all_goals first
      | omega
      | skip
    have hkM : k = M := by omega
    refine ⟨y, [.at 2 0, .at 3 0], ⟨h2, fun e he => h3'.out e (by omega)⟩, ?_⟩
    (refine ⟨rfl, rfl, ?_, ?_⟩ <;> repeat' (first | refine And.intro ?_ ?_ | exact trivial | exact rfl | refine lt0 | refine lt1 ?_ | refine lt2 ?_ ?_ | refine lt3 ?_ ?_ ?_ | refine lt4 ?_ ?_ ?_ ?_ | exact veq_refl _ | decide | (intro i hi; repeat' (first | refine And.intro ?_ ?_ | exact trivial | exact rfl))))
    all_goals first | exact Nat.le_refl _ | omega | (dsimp only; omega) | (simp; done) | (show @Eq Int _ _; omega)

set_option maxRecDepth 100000 in
set_option maxHeartbeats 64000000 in
theorem refCommon_con (A C : Nat → Int) (N M : Nat) (hN : N ≤ 1048576) (hM : M ≤ 1048576) : Con Try.prog glob 10 [.s 0 0 N, .s 1 0 M] [(0, iRo N A), (1, iRo M C)] 2 (retV 2 (.v (.int .i64 (mq (fA A C N M) N M)))) := by
  have hz : ∀ e, (List.replicate (M + 1) (0 : Int)).getD e 0 = 0 := fun e => by
    rw [List.getD_eq_getElem?_getD, List.getElem?_replicate]
    split <;> rfl
  have lz : ((M : Int) + 1).toNat = (List.replicate (M + 1) (0 : Int)).length := by rw [List.length_replicate]; omega
  refine spec_intro (tab := tab) (N := 67) Try.func10 rfl rfl tab_ok mix rfl rfl _ rfl ?_
  intro B hG
  repeat' (first | refine And.intro (by first | omega | (dsimp only; omega) | (show (_ : Bool) = true; kernel_rfl) | decide | (repeat' (first | refine And.intro ?_ ?_ | exact trivial | exact rfl))) ?_ | refine bcs_dec (fun h => ?_) (fun h => False.elim (by first | omega | exact h rfl)) | refine bcs_dec (fun h => False.elim (by omega)) (fun h => ?_) | refine bcs_dec (fun h => ?_) (fun h => ?_) | refine bcs_ndec (fun h => ?_) (fun h => ?_) | refine bcs_not ?_ | refine bcs_intro (fun h => ?_) (fun h => ?_) | refine And.intro ?_ ?_ | refine reg_tail (by kernel_rfl) ?_)
  refine loop_rule (α := Nat × List Int) (fun (i, row) => ⟨[(0, .s 0 0 N), (1, .s 1 0 M), (5, .o 2), (6, .v (.int .i64 i))], [(0, iRo N A), (1, iRo M C), (2, iOwn row)], 3⟩) (fun (i, row) => i ≤ N ∧ row.length = M + 1 ∧ ∀ e, e ≤ M → row.getD e 0 = mq (fA A C N M) i e) (fun (i, _) => N - i) (0, List.replicate (M + 1) 0) [.at 2 0] ⟨Nat.zero_le _, by simp, fun e he => by rw [hz, lc_zero]; rfl⟩ ?_ ?_
  · (refine ⟨rfl, rfl, ?_, ?_⟩ <;> repeat' (first | refine And.intro ?_ ?_ | exact trivial | exact rfl | refine lt0 | refine lt1 ?_ | refine lt2 ?_ ?_ | refine lt3 ?_ ?_ ?_ | refine lt4 ?_ ?_ ?_ ?_ | exact veq_refl _ | decide | (intro i hi; repeat' (first | refine And.intro ?_ ?_ | exact trivial | exact rfl))))
    all_goals first | exact Nat.le_refl _ | exact lz.symm | omega | (show @Eq Int _ _; exact hz _)
  · rintro ⟨i, row⟩ ⟨h1, h2, h3⟩
    by_cases hi : i < N
    · repeat' (first | refine And.intro (by first | omega | (dsimp only; omega) | (show (_ : Bool) = true; kernel_rfl) | decide | (repeat' (first | refine And.intro ?_ ?_ | exact trivial | exact rfl))) ?_ | refine bcs_dec (fun h => ?_) (fun h => False.elim (by first | omega | exact h rfl)) | refine bcs_dec (fun h => False.elim (by omega)) (fun h => ?_) | refine bcs_dec (fun h => ?_) (fun h => ?_) | refine bcs_ndec (fun h => ?_) (fun h => ?_) | refine bcs_not ?_ | refine bcs_intro (fun h => ?_) (fun h => ?_) | refine And.intro ?_ ?_ | refine reg_tail (by kernel_rfl) ?_)
      all_goals first
        | omega
        | skip
      refine loop_out (fun y : List Int => uSt A C N M i row y M) _ (u_loop A C N M hN hM i hi row h2 h3 B _ _ _ [.at 2 0, .at 3 0] (List.replicate (M + 1) 0) (by simp) (hz 0) ?_) ?_
      · (refine ⟨rfl, rfl, ?_, ?_⟩ <;> repeat' (first | refine And.intro ?_ ?_ | exact trivial | exact rfl | refine lt0 | refine lt1 ?_ | refine lt2 ?_ ?_ | refine lt3 ?_ ?_ ?_ | refine lt4 ?_ ?_ ?_ ?_ | exact veq_refl _ | decide | (intro i hi; repeat' (first | refine And.intro ?_ ?_ | exact trivial | exact rfl))))
        all_goals first | exact Nat.le_refl _ | exact lz.symm | omega | (show @Eq Int _ _; exact hz _)
      · rintro y ⟨q1, q2⟩
        repeat' (first | refine And.intro (by first | omega | (dsimp only; omega) | (show (_ : Bool) = true; kernel_rfl) | decide | (repeat' (first | refine And.intro ?_ ?_ | exact trivial | exact rfl))) ?_ | refine bcs_dec (fun h => ?_) (fun h => False.elim (by first | omega | exact h rfl)) | refine bcs_dec (fun h => False.elim (by omega)) (fun h => ?_) | refine bcs_dec (fun h => ?_) (fun h => ?_) | refine bcs_ndec (fun h => ?_) (fun h => ?_) | refine bcs_not ?_ | refine bcs_intro (fun h => ?_) (fun h => ?_) | refine And.intro ?_ ?_ | refine reg_tail (by kernel_rfl) ?_)
        all_goals first
          | omega
          | skip
        refine ⟨(i + 1, y), [.at 3 0], ⟨by omega, q1, q2⟩, by dsimp only; omega, ?_⟩
        (refine ⟨rfl, rfl, ?_, ?_⟩ <;> repeat' (first | refine And.intro ?_ ?_ | exact trivial | exact rfl | refine lt0 | refine lt1 ?_ | refine lt2 ?_ ?_ | refine lt3 ?_ ?_ ?_ | refine lt4 ?_ ?_ ?_ ?_ | exact veq_refl _ | decide | (intro i hi; repeat' (first | refine And.intro ?_ ?_ | exact trivial | exact rfl))))
        all_goals first | exact Nat.le_refl _ | omega | (dsimp only; omega) | (simp; done) | (show @Eq Int _ _; omega)
    · repeat' (first | refine And.intro (by first | omega | (dsimp only; omega) | (show (_ : Bool) = true; kernel_rfl) | decide | (repeat' (first | refine And.intro ?_ ?_ | exact trivial | exact rfl))) ?_ | refine bcs_dec (fun h => ?_) (fun h => False.elim (by first | omega | exact h rfl)) | refine bcs_dec (fun h => False.elim (by omega)) (fun h => ?_) | refine bcs_dec (fun h => ?_) (fun h => ?_) | refine bcs_ndec (fun h => ?_) (fun h => ?_) | refine bcs_not ?_ | refine bcs_intro (fun h => ?_) (fun h => ?_) | refine And.intro ?_ ?_ | refine reg_tail (by kernel_rfl) ?_)
      all_goals first
        | omega
        | skip
      obtain rfl : i = N := by omega
      refine ret_plain ?_
      show @Eq Int _ _
      have := h3 M (Nat.le_refl _)
      rw [Int.toNat_natCast]
      exact this.symm

set_option maxRecDepth 100000 in
set_option maxHeartbeats 16000000 in
theorem refDist_con (A C : Nat → Int) (N M : Nat) (hN : N ≤ 1048576) (hM : M ≤ 1048576) : Con Try.prog glob 8 [.s 0 0 N, .s 1 0 M] [(0, iRo N A), (1, iRo M C)] 2 (retV 2 (.v (.int .i64 (dist A C N M)))) := by
  have cC := refCommon_con A C N M hN hM
  obtain ⟨h1, h2, h3⟩ := dist_far A C N M
  refine spec_intro (tab := tab) (N := 15) Try.func8 rfl rfl tab_ok mix rfl rfl _ rfl ?_
  intro B hG
  repeat' (first | refine And.intro (by first | omega | (dsimp only; omega) | (show (_ : Bool) = true; kernel_rfl) | decide | (repeat' (first | refine And.intro ?_ ?_ | exact trivial | exact rfl))) ?_ | refine bcs_dec (fun h => ?_) (fun h => False.elim (by first | omega | exact h rfl)) | refine bcs_dec (fun h => False.elim (by omega)) (fun h => ?_) | refine bcs_dec (fun h => ?_) (fun h => ?_) | refine bcs_ndec (fun h => ?_) (fun h => ?_) | refine bcs_not ?_ | refine bcs_intro (fun h => ?_) (fun h => ?_) | refine And.intro ?_ ?_ | refine reg_tail (by kernel_rfl) ?_)
  refine call_rule [.at 0 0, .at 1 0] (cC) hG ?_ ?_
  · (refine ⟨?_, ?_, rfl, rfl, rfl⟩ <;> repeat' (first | refine And.intro ?_ ?_ | exact trivial | exact rfl | refine lt0 | refine lt1 ?_ | refine lt2 ?_ ?_ | refine lt3 ?_ ?_ ?_ | refine lt4 ?_ ?_ ?_ ?_ | exact veq_refl _ | decide | (intro i hi; repeat' (first | refine And.intro ?_ ?_ | exact trivial | exact rfl))))
    all_goals first | exact Nat.le_refl _ | omega
  rintro _ _ _ ⟨rfl, rfl, rfl⟩
  repeat' (first | refine And.intro (by first | omega | (dsimp only; omega) | (show (_ : Bool) = true; kernel_rfl) | decide | (repeat' (first | refine And.intro ?_ ?_ | exact trivial | exact rfl))) ?_ | refine bcs_dec (fun h => ?_) (fun h => False.elim (by first | omega | exact h rfl)) | refine bcs_dec (fun h => False.elim (by omega)) (fun h => ?_) | refine bcs_dec (fun h => ?_) (fun h => ?_) | refine bcs_ndec (fun h => ?_) (fun h => ?_) | refine bcs_not ?_ | refine bcs_intro (fun h => ?_) (fun h => ?_) | refine And.intro ?_ ?_ | refine reg_tail (by kernel_rfl) ?_)
  refine ret_plain ?_
  show @Eq Int _ _
  omega
end Go.Proofs.Ytdabahipeepheaa
