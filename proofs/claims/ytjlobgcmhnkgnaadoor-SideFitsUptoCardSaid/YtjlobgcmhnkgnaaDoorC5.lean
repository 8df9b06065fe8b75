/- Chapter 15: one line of both columns: the document's, walked. -/
import Derived.Test.YtjlobgcmhnkgnaaDoorC3
namespace Go.Proofs.YtjlobgcmhnkgnaaDoor
open Go Go.RowKit Vc

theorem cat6 (x y z u v t : Byt) : ((((bs x ++ bs y) ++ bs z) ++ bs u) ++ bs v) ++ bs t = bs (x ++ y ++ z ++ u ++ v ++ t) := by rw [bs_app, bs_app, bs_app, bs_app, bs_app]
theorem last_rep (M : Byt) (j : Nat) : (M ++ List.replicate (j + 1) (32 : UInt8)).getD ((M ++ List.replicate (j + 1) (32 : UInt8)).length - 1) 0 = 32 := by
  rw [List.replicate_succ', ← List.append_assoc]
  simp
theorem take_rep (M : Byt) (j : Nat) : (M ++ List.replicate (j + 1) (32 : UInt8)).take ((M ++ List.replicate (j + 1) (32 : UInt8)).length - 1) = M ++ List.replicate j 32 := by
  rw [List.replicate_succ', ← List.append_assoc]
  exact List.take_left' (by simp)
theorem bt32 (l : Byt) (i : Nat) : bt (bs l) (i : Int) = 32 ↔ l.getD i 0 = 32 := by
  rw [bs_bt]
  exact u8_iff (y := 32)
set_option maxRecDepth 100000 in
set_option maxHeartbeats 16000000 in
theorem rRow_con (old fresh : Byt) (mk : UInt8) (half second : Int) (hold : old.length ≤ 4194304) (hfr : fresh.length ≤ 4194304) (hh1 : 2 ≤ half) (hh2 : half ≤ 4096) (hs1 : 0 ≤ second) (hs2 : second ≤ 8192) :
    Con Tryd.prog glob 40 [str old, str [mk], str fresh, .v (.int .i64 half), .v (.int .i64 second)] [] 0 (retV 0 (str (rowF old mk fresh half second))) := by
  have c1 := rCut_con old 0 half hold (by omega) (by omega) (by omega) (by omega)
  have c2 := rCut_con fresh second half hfr (by omega) (by omega) (by omega) (by omega)
  have l1 := cutF_le old 0 half
  have l2 := cutF_le fresh second half
  obtain ⟨X, hX⟩ : ∃ X, X = rowF old mk fresh half second := ⟨_, rfl⟩
  rw [← hX]
  unfold rowF at hX
  obtain ⟨S, hS⟩ : ∃ S, S = cutF old 0 half := ⟨_, rfl⟩
  obtain ⟨t, ht⟩ : ∃ t, t = cutF fresh second half := ⟨_, rfl⟩
  rw [← hS] at c1 l1 hX
  rw [← ht] at c2 l2 hX
  have hr := blanks_con (half - S.length).toNat (by omega)
  rw [show (((half - S.length).toNat : Nat) : Int) = half - (S.length : Int) by omega] at hr
  have zS : (bs S).size = S.length := bs_size S
  have zt : (bs t).size = t.length := bs_size t
  have z10 : (ByteArray.mk #[10]).size = 1 := rfl
  have z32 : (ByteArray.mk #[32]).size = 1 := rfl
  have zm : (bs [mk]).size = 1 := rfl
  have zR2 : (List.replicate (half - S.length).toNat 32 : Byt).length = (half - S.length).toNat := by simp
  have y2 : (bs (List.replicate (half - S.length).toNat 32 : Byt)).size = (half - S.length).toNat := by rw [bs_size, zR2]
  have y3 : (bs S ++ bs (List.replicate (half - S.length).toNat 32 : Byt)).size = S.length + (half - S.length).toNat := by rw [bs_app, bs_size, List.length_append, zR2]
  have y4 : (bs S ++ bs (List.replicate (half - S.length).toNat 32 : Byt) ++ ByteArray.mk #[32]).size = S.length + (half - S.length).toNat + 1 := by rw [ByteArray.size_append, y3]; rfl
  have y5 : (bs S ++ bs (List.replicate (half - S.length).toNat 32 : Byt) ++ ByteArray.mk #[32] ++ bs [mk]).size = S.length + (half - S.length).toNat + 2 := by rw [ByteArray.size_append, y4]; rfl
  have y6 : (bs S ++ bs (List.replicate (half - S.length).toNat 32 : Byt) ++ ByteArray.mk #[32] ++ bs [mk] ++ ByteArray.mk #[32]).size = S.length + (half - S.length).toNat + 3 := by rw [ByteArray.size_append, y5]; rfl
  have y7 : (bs S ++ bs (List.replicate (half - S.length).toNat 32 : Byt) ++ ByteArray.mk #[32] ++ bs [mk] ++ ByteArray.mk #[32] ++ bs t).size = S.length + (half - S.length).toNat + 3 + t.length := by rw [ByteArray.size_append, y6, zt]
  have e6 : bs S ++ bs (List.replicate (half - S.length).toNat 32 : Byt) ++ ByteArray.mk #[32] ++ bs [mk] ++ ByteArray.mk #[32] ++ bs t = bs (S ++ (List.replicate (half - S.length).toNat 32 : Byt) ++ [32] ++ [mk] ++ [32] ++ t) := cat6 S (List.replicate (half - S.length).toNat 32 : Byt) [32] [mk] [32] t
  refine spec_intro (tab := tab) (N := 69) Tryd.func40 rfl rfl tab_ok mix rfl rfl _ rfl ?_
  intro B hG
  repeat' (first | refine And.intro (by first | omega | (dsimp only; omega) | (show (_ : Bool) = true; kernel_rfl) | (simp; done) | decide | (repeat' (first | refine And.intro ?_ ?_ | exact trivial | exact rfl | (simp; done)))) ?_ | refine bcs_dec (fun h => ?_) (fun h => False.elim (by first | omega | exact h rfl)) | refine bcs_dec (fun h => False.elim (by omega)) (fun h => ?_) | refine bcs_dec (fun h => ?_) (fun h => ?_) | refine bcs_ndec (fun h => ?_) (fun h => ?_) | refine bcs_not ?_ | refine And.intro ?_ ?_ | refine reg_tail (by kernel_rfl) ?_)
  refine call_rule [] (c1) hG ?_ ?_
  · (refine ⟨?_, ?_, rfl, rfl, rfl⟩ <;> repeat' (first | refine And.intro ?_ ?_ | exact trivial | exact rfl | refine lt0 | refine lt1 ?_ | refine lt2 ?_ ?_ | refine lt3 ?_ ?_ ?_ | refine lt4 ?_ ?_ ?_ ?_ | exact veq_refl _ | decide | (intro i hi; repeat' (first | refine And.intro ?_ ?_ | exact trivial | exact rfl))))
    all_goals first | exact Nat.le_refl _ | omega
  rintro _ _ _ ⟨rfl, rfl, rfl⟩
  repeat' (first | refine And.intro (by first | omega | (dsimp only; omega) | (show (_ : Bool) = true; kernel_rfl) | (simp; done) | decide | (repeat' (first | refine And.intro ?_ ?_ | exact trivial | exact rfl | (simp; done)))) ?_ | refine bcs_dec (fun h => ?_) (fun h => False.elim (by first | omega | exact h rfl)) | refine bcs_dec (fun h => False.elim (by omega)) (fun h => ?_) | refine bcs_dec (fun h => ?_) (fun h => ?_) | refine bcs_ndec (fun h => ?_) (fun h => ?_) | refine bcs_not ?_ | refine And.intro ?_ ?_ | refine reg_tail (by kernel_rfl) ?_)
  refine call_rule [] (hr) hG ?_ ?_
  · (refine ⟨?_, ?_, rfl, rfl, rfl⟩ <;> repeat' (first | refine And.intro ?_ ?_ | exact trivial | exact rfl | refine lt0 | refine lt1 ?_ | refine lt2 ?_ ?_ | refine lt3 ?_ ?_ ?_ | refine lt4 ?_ ?_ ?_ ?_ | exact veq_refl _ | decide | (intro i hi; repeat' (first | refine And.intro ?_ ?_ | exact trivial | exact rfl))))
    all_goals first | exact Nat.le_refl _ | omega
  rintro _ _ _ ⟨rfl, rfl, rfl⟩
  repeat' (first | refine And.intro (by first | omega | (dsimp only; omega) | (show (_ : Bool) = true; kernel_rfl) | (simp; done) | decide | (repeat' (first | refine And.intro ?_ ?_ | exact trivial | exact rfl | (simp; done)))) ?_ | refine bcs_dec (fun h => ?_) (fun h => False.elim (by first | omega | exact h rfl)) | refine bcs_dec (fun h => False.elim (by omega)) (fun h => ?_) | refine bcs_dec (fun h => ?_) (fun h => ?_) | refine bcs_ndec (fun h => ?_) (fun h => ?_) | refine bcs_not ?_ | refine And.intro ?_ ?_ | refine reg_tail (by kernel_rfl) ?_)
  refine call_rule [] (c2) hG ?_ ?_
  · (refine ⟨?_, ?_, rfl, rfl, rfl⟩ <;> repeat' (first | refine And.intro ?_ ?_ | exact trivial | exact rfl | refine lt0 | refine lt1 ?_ | refine lt2 ?_ ?_ | refine lt3 ?_ ?_ ?_ | refine lt4 ?_ ?_ ?_ ?_ | exact veq_refl _ | decide | (intro i hi; repeat' (first | refine And.intro ?_ ?_ | exact trivial | exact rfl))))
    all_goals first | exact Nat.le_refl _ | omega
  rintro _ _ _ ⟨rfl, rfl, rfl⟩
  repeat' (first | refine And.intro (by first | omega | (dsimp only; omega) | (show (_ : Bool) = true; kernel_rfl) | (simp; done) | decide | (repeat' (first | refine And.intro ?_ ?_ | exact trivial | exact rfl | (simp; done)))) ?_ | refine bcs_dec (fun h => ?_) (fun h => False.elim (by first | omega | exact h rfl)) | refine bcs_dec (fun h => False.elim (by omega)) (fun h => ?_) | refine bcs_dec (fun h => ?_) (fun h => ?_) | refine bcs_ndec (fun h => ?_) (fun h => ?_) | refine bcs_not ?_ | refine And.intro ?_ ?_ | refine reg_tail (by kernel_rfl) ?_)
  by_cases k1 : t = []
  · refine bcs_t (by rw [eqE]; simpa using k1) ?_
    obtain ⟨M, j0, hM1, hM2, hM3, hM4, hM5⟩ : ∃ (M : Byt) (j0 : Nat), S ++ (List.replicate (half - S.length).toNat 32 : Byt) ++ [32] ++ [mk] ++ [32] ++ t = M ++ List.replicate j0 (32 : UInt8) ∧ S.length ≤ M.length ∧ M.length + j0 ≤ 8192 ∧ X = M ++ [10] ∧ (M.length = S.length ∨ (0 < M.length ∧ M.getD (M.length - 1) 0 ≠ 32)) := by
      by_cases k2 : mk = 32
      · rw [if_pos ⟨k1, k2⟩] at hX
        refine ⟨S, (half - S.length).toNat + 3, ?_, Nat.le_refl _, by omega, hX, .inl rfl⟩
        rw [k1, k2, List.append_nil]
        simp only [List.append_assoc, List.append_cancel_left_eq]
        rw [← List.replicate_append_replicate]
        rfl
      · rw [if_neg fun h => k2 h.2, if_pos k1, List.append_nil] at hX
        refine ⟨S ++ (List.replicate (half - S.length).toNat 32 : Byt) ++ [32] ++ [mk], 1, by rw [k1, List.append_nil]; rfl, by first | (simp; done) | (simp; omega), by first | (simp; done) | (simp; omega), hX, .inr ⟨by first | (simp; done) | (simp; omega), ?_⟩⟩
        simpa using k2
    rw [hM1] at e6
    repeat' (first | refine And.intro (by first | omega | (dsimp only; omega) | (show (_ : Bool) = true; kernel_rfl) | (simp; done) | decide | (repeat' (first | refine And.intro ?_ ?_ | exact trivial | exact rfl | (simp; done)))) ?_ | refine bcs_dec (fun h => ?_) (fun h => False.elim (by first | omega | exact h rfl)) | refine bcs_dec (fun h => False.elim (by omega)) (fun h => ?_) | refine bcs_dec (fun h => ?_) (fun h => ?_) | refine bcs_ndec (fun h => ?_) (fun h => ?_) | refine bcs_not ?_ | refine And.intro ?_ ?_ | refine reg_tail (by kernel_rfl) ?_)
    refine loop_rule (α := Nat) (fun j => ⟨[(11, str S), (13, str (M ++ List.replicate j (32 : UInt8)))], [], 0⟩) (fun j => j ≤ j0) (fun j => j) j0 [] ?_ ?_ ?_
    · exact Nat.le_refl _
    · (refine ⟨rfl, rfl, ?_, ?_⟩ <;> repeat' (first | refine And.intro ?_ ?_ | exact trivial | exact rfl | refine lt0 | refine lt1 ?_ | refine lt2 ?_ ?_ | refine lt3 ?_ ?_ ?_ | refine lt4 ?_ ?_ ?_ ?_ | exact veq_refl _ | decide | (intro i hi; repeat' (first | refine And.intro ?_ ?_ | exact trivial | exact rfl))))
      all_goals exact veq_of_eq (congrArg Value.string e6.symm)
    rintro j hj
    have hml : (M ++ List.replicate j (32 : UInt8)).length = M.length + j := by simp
    have hmb : (bs (M ++ List.replicate j (32 : UInt8))).size = M.length + j := by rw [bs_size, hml]
    cases j with
    | zero =>
      simp only [List.replicate_zero, List.append_nil] at hmb ⊢
      have hb9 : 0 < M.length → (bt (bs M) (((bs M).size : Int) - 1) = 32 ↔ M.getD (M.length - 1) 0 = 32) := fun h => by
        rw [hmb, show ((M.length + 0 : Nat) : Int) - 1 = ((M.length - 1 : Nat) : Int) by omega]
        exact bt32 M _
      have hend : (0 < M.length ∧ bt (bs M) (((bs M).size : Int) - 1) = 32) → M.length = S.length := fun h => by
        rcases hM5 with h5 | h5
        · exact h5
        · exact absurd ((hb9 h.1).1 h.2) h5.2
      have zX : (bs M).size + (ByteArray.mk #[10]).size ≤ 9223372036854775807 := by omega
      repeat' (first | refine And.intro (by first | omega | (dsimp only; omega) | (show (_ : Bool) = true; kernel_rfl) | (simp; done) | decide | (repeat' (first | refine And.intro ?_ ?_ | exact trivial | exact rfl | (simp; done)))) ?_ | refine bcs_dec (fun h => ?_) (fun h => False.elim (by first | omega | exact h rfl)) | refine bcs_dec (fun h => False.elim (by omega)) (fun h => ?_) | refine bcs_dec (fun h => ?_) (fun h => ?_) | refine bcs_ndec (fun h => ?_) (fun h => ?_) | refine bcs_not ?_ | refine And.intro ?_ ?_ | refine reg_tail (by kernel_rfl) ?_)
      all_goals first
        | omega
        | (have := hend ⟨by omega, by assumption⟩
           omega)
        | (refine ret_plain ?_
           rw [hM4]
           exact veq_of_eq (congrArg Value.string (bs_app M [10]).symm))
    | succ j =>
      have hb9 : bt (bs (M ++ List.replicate (j + 1) (32 : UInt8))) (((bs (M ++ List.replicate (j + 1) (32 : UInt8))).size : Int) - 1) = 32 := by
        rw [hmb, show ((M.length + (j + 1) : Nat) : Int) - 1 = (((M ++ List.replicate (j + 1) (32 : UInt8)).length - 1 : Nat) : Int) by rw [hml]; omega]
        exact (bt32 _ _).2 (last_rep M j)
      repeat' (first | refine And.intro (by first | omega | (dsimp only; omega) | (show (_ : Bool) = true; kernel_rfl) | (simp; done) | decide | (repeat' (first | refine And.intro ?_ ?_ | exact trivial | exact rfl | (simp; done)))) ?_ | refine bcs_dec (fun h => ?_) (fun h => False.elim (by first | omega | exact h rfl)) | refine bcs_dec (fun h => False.elim (by omega)) (fun h => ?_) | refine bcs_dec (fun h => ?_) (fun h => ?_) | refine bcs_ndec (fun h => ?_) (fun h => ?_) | refine bcs_not ?_ | refine And.intro ?_ ?_ | refine reg_tail (by kernel_rfl) ?_)
      all_goals first
        | omega
        | (refine ⟨j, [], ?_, ?_, ?_⟩
           · omega
           · show j < j + 1
             omega
           · (refine ⟨rfl, rfl, ?_, ?_⟩ <;> repeat' (first | refine And.intro ?_ ?_ | exact trivial | exact rfl | refine lt0 | refine lt1 ?_ | refine lt2 ?_ ?_ | refine lt3 ?_ ?_ ?_ | refine lt4 ?_ ?_ ?_ ?_ | exact veq_refl _ | decide | (intro i hi; repeat' (first | refine And.intro ?_ ?_ | exact trivial | exact rfl))))
             refine veq_of_eq (congrArg Value.string (Eq.symm ((cut0 _ _).trans ?_)))
             rw [← take_rep M j]
             congr 2
             rw [hmb, hml]
             omega)
        | (exact absurd hb9 (by assumption))
  · refine bcs_f (by rw [eqE]; simpa using k1) ?_
    rw [if_neg fun h => k1 h.1, if_neg k1] at hX
    have eX : X = (S ++ (List.replicate (half - S.length).toNat 32 : Byt) ++ [32] ++ [mk] ++ [32] ++ t) ++ [10] := by rw [hX]; simp only [List.append_assoc]
    repeat' (first | refine And.intro (by first | omega | (dsimp only; omega) | (show (_ : Bool) = true; kernel_rfl) | (simp; done) | decide | (repeat' (first | refine And.intro ?_ ?_ | exact trivial | exact rfl | (simp; done)))) ?_ | refine bcs_dec (fun h => ?_) (fun h => False.elim (by first | omega | exact h rfl)) | refine bcs_dec (fun h => False.elim (by omega)) (fun h => ?_) | refine bcs_dec (fun h => ?_) (fun h => ?_) | refine bcs_ndec (fun h => ?_) (fun h => ?_) | refine bcs_not ?_ | refine And.intro ?_ ?_ | refine reg_tail (by kernel_rfl) ?_)
    refine ret_plain ?_
    rw [eX]
    refine veq_of_eq (congrArg Value.string ?_)
    rw [← bs_app, ← e6]
    rfl
end Go.Proofs.YtjlobgcmhnkgnaaDoor
