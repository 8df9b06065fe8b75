/- Chapter 15: what of a line fits: the document's, walked; blanks; columns. -/
import Derived.Test.YtjlobgcmhnkgnaaDoorC1
namespace Go.Proofs.YtjlobgcmhnkgnaaDoor
open Go Go.RowKit Vc

theorem bt9 (l : Byt) (i : Nat) : bt (bs l) (i : Int) = 9 ↔ l.getD i 0 = 9 := by
  rw [bs_bt]
  exact u8_iff (y := 9)
set_option maxRecDepth 100000 in
set_option maxHeartbeats 16000000 in
theorem rCut_con (l : Byt) (column w : Int) (hl : l.length ≤ 4194304) (hc1 : -9223372036854775808 ≤ column) (hc2 : column ≤ 9223372036854775807) (hw1 : -9223372036854775808 ≤ w) (hw2 : w ≤ 9223372036854775807) :
    Con Tryd.prog glob 21 [str l, .v (.int .i64 column), .v (.int .i64 w)] [] 0 (retV 0 (.t [str (cutF l column w), .v (.int .i64 (cutF l column w).length)])) := by
  have hbr := rBare_con l (by omega)
  have hbl := bare_len l
  obtain ⟨s, hs⟩ : ∃ s, s = bareF l := ⟨_, rfl⟩
  obtain ⟨T, hT⟩ : ∃ T, T = cutF l column w := ⟨_, rfl⟩
  rw [← hT]
  unfold cutF at hT
  rw [← hs] at hbr hbl hT
  have hb : (bs s).size = s.length := bs_size s
  have htr : 0 ≤ (max column 0).tmod 8 ∧ (max column 0).tmod 8 < 8 := ⟨Int.tmod_nonneg _ (by omega), Int.tmod_lt_of_pos _ (by omega)⟩
  refine spec_intro (tab := tab) (N := 73) Tryd.func21 rfl rfl tab_ok mix rfl rfl _ rfl ?_
  intro B hG
  repeat' (first | refine And.intro (by first | omega | (dsimp only; omega) | (show (_ : Bool) = true; kernel_rfl) | decide | (repeat' (first | refine And.intro ?_ ?_ | exact trivial | exact rfl))) ?_ | refine bcs_dec (fun h => ?_) (fun h => False.elim (by first | omega | exact h rfl)) | refine bcs_dec (fun h => False.elim (by omega)) (fun h => ?_) | refine bcs_dec (fun h => ?_) (fun h => ?_) | refine bcs_ndec (fun h => ?_) (fun h => ?_) | refine bcs_not ?_ | refine bcs_intro (fun h => ?_) (fun h => ?_) | refine And.intro ?_ ?_ | refine reg_tail (by kernel_rfl) ?_)
  refine call_rule [] (hbr) hG ?_ ?_
  · (refine ⟨?_, ?_, rfl, rfl, rfl⟩ <;> repeat' (first | refine And.intro ?_ ?_ | exact trivial | exact rfl | refine lt0 | refine lt1 ?_ | refine lt2 ?_ ?_ | refine lt3 ?_ ?_ ?_ | refine lt4 ?_ ?_ ?_ ?_ | exact veq_refl _ | decide | (intro i hi; repeat' (first | refine And.intro ?_ ?_ | exact trivial | exact rfl))))
    all_goals first | exact Nat.le_refl _ | omega
  rintro _ _ _ ⟨rfl, rfl, rfl⟩
  repeat' (first | refine And.intro (by first | omega | (dsimp only; omega) | (show (_ : Bool) = true; kernel_rfl) | decide | (repeat' (first | refine And.intro ?_ ?_ | exact trivial | exact rfl))) ?_ | refine bcs_dec (fun h => ?_) (fun h => False.elim (by first | omega | exact h rfl)) | refine bcs_dec (fun h => False.elim (by omega)) (fun h => ?_) | refine bcs_dec (fun h => ?_) (fun h => ?_) | refine bcs_ndec (fun h => ?_) (fun h => ?_) | refine bcs_not ?_ | refine bcs_intro (fun h => ?_) (fun h => ?_) | refine And.intro ?_ ?_ | refine reg_tail (by kernel_rfl) ?_)
  refine loop_rule (α := Nat × Byt) (fun (i, out) => ⟨[(1, .v (.int .i64 (max column 0))), (2, .v (.int .i64 w)), (8, str s), (9, .o 0), (10, .v (.int .i64 out.length)), (11, .v (.int .i64 i))], [(0, byOwn out)], 1⟩)
    (fun (i, out) => i ≤ s.length ∧ out.length ≤ 8 * i ∧ (out.length = 0 ∨ (out.length : Int) ≤ w) ∧ cutG (max column 0).toNat w (s.drop i) out = T) (fun (i, _) => s.length - i) (0, []) [.nil 1] ?_ ?_ ?_
  · exact ⟨by omega, by simp, .inl rfl, hT.symm⟩
  · (refine ⟨rfl, rfl, ?_, ?_⟩ <;> repeat' (first | refine And.intro ?_ ?_ | exact trivial | exact rfl | refine lt0 | refine lt1 ?_ | refine lt2 ?_ ?_ | refine lt3 ?_ ?_ ?_ | refine lt4 ?_ ?_ ?_ ?_ | exact veq_refl _ | decide | (intro i hi; repeat' (first | refine And.intro ?_ ?_ | exact trivial | exact rfl))))
    all_goals first | omega | exact Nat.le_refl _
  rintro ⟨i, out⟩ ⟨h1, h2, h3, h4⟩
  have e9 := bt9 s i
  by_cases hi : i < s.length
  · rw [drop_get 0 s i hi] at h4
    simp only [cutG] at h4
    have htab := wdt_tab (column := column) out.length
    have hwr := wdt_range (max column 0).toNat out.length (s.getD i 0)
    have h4 : (if ((wdt (max column 0).toNat out.length (s.getD i 0)) : Int) > w - (out.length : Int) then out else cutG (max column 0).toNat w (s.drop (i + 1)) (out ++ cellF (max column 0).toNat out.length (s.getD i 0))) = T := h4
    by_cases hc : s.getD i 0 = 9
    · have g9 := e9.2 hc
      rw [hc] at h4 hwr
      have ecell : cellF (max column 0).toNat out.length 9 = List.replicate (wdt (max column 0).toNat out.length 9) 32 := rfl
      by_cases hq : (wdt (max column 0).toNat out.length 9 : Int) > w - (out.length : Int)
      · rw [if_pos hq] at h4
        subst h4
        repeat' (first | refine And.intro (by first | omega | (dsimp only; omega) | (show (_ : Bool) = true; kernel_rfl) | decide | (repeat' (first | refine And.intro ?_ ?_ | exact trivial | exact rfl))) ?_ | refine bcs_dec (fun h => ?_) (fun h => False.elim (by first | omega | exact h rfl)) | refine bcs_dec (fun h => False.elim (by omega)) (fun h => ?_) | refine bcs_dec (fun h => ?_) (fun h => ?_) | refine bcs_ndec (fun h => ?_) (fun h => ?_) | refine bcs_not ?_ | refine bcs_intro (fun h => ?_) (fun h => ?_) | refine And.intro ?_ ?_ | refine reg_tail (by kernel_rfl) ?_)
        refine ext_b2s Tryd.underlying55 Tryd.underlying5 Tryd.underlying9 ?_
        refine ⟨_, rfl, fun j hj => by rw [Nat.zero_add], ?_⟩
        repeat' (first | refine And.intro (by first | omega | (dsimp only; omega) | (show (_ : Bool) = true; kernel_rfl) | decide | (repeat' (first | refine And.intro ?_ ?_ | exact trivial | exact rfl))) ?_ | refine bcs_dec (fun h => ?_) (fun h => False.elim (by first | omega | exact h rfl)) | refine bcs_dec (fun h => False.elim (by omega)) (fun h => ?_) | refine bcs_dec (fun h => ?_) (fun h => ?_) | refine bcs_ndec (fun h => ?_) (fun h => ?_) | refine bcs_not ?_ | refine bcs_intro (fun h => ?_) (fun h => ?_) | refine And.intro ?_ ?_ | refine reg_tail (by kernel_rfl) ?_)
        refine ret_plain ?_
        repeat' (first | refine And.intro ?_ ?_ | exact trivial)
        all_goals exact rfl
      · rw [if_neg hq, ecell] at h4
        repeat' (first | refine And.intro (by first | omega | (dsimp only; omega) | (show (_ : Bool) = true; kernel_rfl) | decide | (repeat' (first | refine And.intro ?_ ?_ | exact trivial | exact rfl))) ?_ | refine bcs_dec (fun h => ?_) (fun h => False.elim (by first | omega | exact h rfl)) | refine bcs_dec (fun h => False.elim (by omega)) (fun h => ?_) | refine bcs_dec (fun h => ?_) (fun h => ?_) | refine bcs_ndec (fun h => ?_) (fun h => ?_) | refine bcs_not ?_ | refine bcs_intro (fun h => ?_) (fun h => ?_) | refine And.intro ?_ ?_ | refine reg_tail (by kernel_rfl) ?_)
        · exact absurd g9 (by assumption)
        refine loop_rule (α := Nat × Byt) (fun (k, q) => ⟨[(1, .v (.int .i64 (max column 0))), (2, .v (.int .i64 w)), (8, str s), (9, .o 0), (10, .v (.int .i64 out.length)), (11, .v (.int .i64 i)), (12, .v (.int .i64 (wdt (max column 0).toNat out.length 9))), (13, .v (.int .i64 k))], [(0, byOwn q)], 1⟩)
          (fun (k, q) => k ≤ wdt (max column 0).toNat out.length 9 ∧ q = out ++ List.replicate k 32) (fun (k, _) => wdt (max column 0).toNat out.length 9 - k) (0, out) [.at 0 0] ?_ ?_ ?_
        · exact ⟨Nat.zero_le _, by simp⟩
        · (refine ⟨rfl, rfl, ?_, ?_⟩ <;> repeat' (first | refine And.intro ?_ ?_ | exact trivial | exact rfl | refine lt0 | refine lt1 ?_ | refine lt2 ?_ ?_ | refine lt3 ?_ ?_ ?_ | refine lt4 ?_ ?_ ?_ ?_ | exact veq_refl _ | decide | (intro i hi; repeat' (first | refine And.intro ?_ ?_ | exact trivial | exact rfl))))
          all_goals first | omega | (refine veq_of_eq (congrArg (Value.int .i64) ?_); omega)
        rintro ⟨k, q⟩ ⟨hk, hqe⟩
        have hlk : q.length = out.length + k := by rw [hqe]; simp
        by_cases hkn : k < wdt (max column 0).toNat out.length 9
        · repeat' (first | refine And.intro (by first | omega | (dsimp only; omega) | (show (_ : Bool) = true; kernel_rfl) | decide | (repeat' (first | refine And.intro ?_ ?_ | exact trivial | exact rfl))) ?_ | refine bcs_dec (fun h => ?_) (fun h => False.elim (by first | omega | exact h rfl)) | refine bcs_dec (fun h => False.elim (by omega)) (fun h => ?_) | refine bcs_dec (fun h => ?_) (fun h => ?_) | refine bcs_ndec (fun h => ?_) (fun h => ?_) | refine bcs_not ?_ | refine bcs_intro (fun h => ?_) (fun h => ?_) | refine And.intro ?_ ?_ | refine reg_tail (by kernel_rfl) ?_)
          refine app1 byEnc 0 q 32 rfl rfl ?_
          repeat' (first | refine And.intro (by first | omega | (dsimp only; omega) | (show (_ : Bool) = true; kernel_rfl) | decide | (repeat' (first | refine And.intro ?_ ?_ | exact trivial | exact rfl))) ?_ | refine bcs_dec (fun h => ?_) (fun h => False.elim (by first | omega | exact h rfl)) | refine bcs_dec (fun h => False.elim (by omega)) (fun h => ?_) | refine bcs_dec (fun h => ?_) (fun h => ?_) | refine bcs_ndec (fun h => ?_) (fun h => ?_) | refine bcs_not ?_ | refine bcs_intro (fun h => ?_) (fun h => ?_) | refine And.intro ?_ ?_ | refine reg_tail (by kernel_rfl) ?_)
          refine ⟨(k + 1, q ++ [32]), [.at 2 0], ?_, ?_, ?_⟩
          · exact ⟨hkn, by rw [hqe, List.append_assoc, ← List.replicate_succ']⟩
          · show wdt (max column 0).toNat out.length 9 - (k + 1) < wdt (max column 0).toNat out.length 9 - k
            omega
          · (refine ⟨rfl, rfl, ?_, ?_⟩ <;> repeat' (first | refine And.intro ?_ ?_ | exact trivial | exact rfl | refine lt0 | refine lt1 ?_ | refine lt2 ?_ ?_ | refine lt3 ?_ ?_ ?_ | refine lt4 ?_ ?_ ?_ ?_ | exact veq_refl _ | decide | (intro i hi; repeat' (first | refine And.intro ?_ ?_ | exact trivial | exact rfl))))
            all_goals first | omega | (simp; done)
        · obtain rfl : k = wdt (max column 0).toNat out.length 9 := by omega
          rw [← hqe] at h4
          repeat' (first | refine And.intro (by first | omega | (dsimp only; omega) | (show (_ : Bool) = true; kernel_rfl) | decide | (repeat' (first | refine And.intro ?_ ?_ | exact trivial | exact rfl))) ?_ | refine bcs_dec (fun h => ?_) (fun h => False.elim (by first | omega | exact h rfl)) | refine bcs_dec (fun h => False.elim (by omega)) (fun h => ?_) | refine bcs_dec (fun h => ?_) (fun h => ?_) | refine bcs_ndec (fun h => ?_) (fun h => ?_) | refine bcs_not ?_ | refine bcs_intro (fun h => ?_) (fun h => ?_) | refine And.intro ?_ ?_ | refine reg_tail (by kernel_rfl) ?_)
          refine ⟨(i + 1, q), [.at 0 0], ?_, ?_, ?_⟩
          · exact ⟨by omega, by omega, .inr (by omega), h4⟩
          · show s.length - (i + 1) < s.length - i
            omega
          · (refine ⟨rfl, rfl, ?_, ?_⟩ <;> repeat' (first | refine And.intro ?_ ?_ | exact trivial | exact rfl | refine lt0 | refine lt1 ?_ | refine lt2 ?_ ?_ | refine lt3 ?_ ?_ ?_ | refine lt4 ?_ ?_ ?_ ?_ | exact veq_refl _ | decide | (intro i hi; repeat' (first | refine And.intro ?_ ?_ | exact trivial | exact rfl))))
            all_goals first | omega | (refine veq_of_eq (congrArg (Value.int .i64) ?_); omega)
    · have n9 : ¬ bt (bs s) (i : Int) = 9 := fun h => hc (e9.1 h)
      have ew : (wdt (max column 0).toNat out.length (s.getD i 0)) = 1 := wdt_one hc
      have ecell : cellF (max column 0).toNat out.length (s.getD i 0) = [s.getD i 0] := if_neg hc
      rw [ew] at h4
      by_cases hq : ((1 : Nat) : Int) > w - (out.length : Int)
      · rw [if_pos hq] at h4
        subst h4
        repeat' (first | refine And.intro (by first | omega | (dsimp only; omega) | (show (_ : Bool) = true; kernel_rfl) | decide | (repeat' (first | refine And.intro ?_ ?_ | exact trivial | exact rfl))) ?_ | refine bcs_dec (fun h => ?_) (fun h => False.elim (by first | omega | exact h rfl)) | refine bcs_dec (fun h => False.elim (by omega)) (fun h => ?_) | refine bcs_dec (fun h => ?_) (fun h => ?_) | refine bcs_ndec (fun h => ?_) (fun h => ?_) | refine bcs_not ?_ | refine bcs_intro (fun h => ?_) (fun h => ?_) | refine And.intro ?_ ?_ | refine reg_tail (by kernel_rfl) ?_)
        refine ext_b2s Tryd.underlying55 Tryd.underlying5 Tryd.underlying9 ?_
        refine ⟨_, rfl, fun j hj => by rw [Nat.zero_add], ?_⟩
        repeat' (first | refine And.intro (by first | omega | (dsimp only; omega) | (show (_ : Bool) = true; kernel_rfl) | decide | (repeat' (first | refine And.intro ?_ ?_ | exact trivial | exact rfl))) ?_ | refine bcs_dec (fun h => ?_) (fun h => False.elim (by first | omega | exact h rfl)) | refine bcs_dec (fun h => False.elim (by omega)) (fun h => ?_) | refine bcs_dec (fun h => ?_) (fun h => ?_) | refine bcs_ndec (fun h => ?_) (fun h => ?_) | refine bcs_not ?_ | refine bcs_intro (fun h => ?_) (fun h => ?_) | refine And.intro ?_ ?_ | refine reg_tail (by kernel_rfl) ?_)
        refine ret_plain ?_
        repeat' (first | refine And.intro ?_ ?_ | exact trivial)
        all_goals exact rfl
      · rw [if_neg hq, ecell] at h4
        have hX : (out ++ [s.getD i 0]).length = out.length + 1 := by simp
        repeat' (first | refine And.intro (by first | omega | (dsimp only; omega) | (show (_ : Bool) = true; kernel_rfl) | decide | (repeat' (first | refine And.intro ?_ ?_ | exact trivial | exact rfl))) ?_ | refine bcs_dec (fun h => ?_) (fun h => False.elim (by first | omega | exact h rfl)) | refine bcs_dec (fun h => False.elim (by omega)) (fun h => ?_) | refine bcs_dec (fun h => ?_) (fun h => ?_) | refine bcs_ndec (fun h => ?_) (fun h => ?_) | refine bcs_not ?_ | refine bcs_intro (fun h => ?_) (fun h => ?_) | refine And.intro ?_ ?_ | refine reg_tail (by kernel_rfl) ?_)
        rotate_left
        · exact absurd (by assumption) n9
        refine app1 byEnc 0 out (s.getD i 0) rfl (by rw [bs_bt]; rfl) ?_
        repeat' (first | refine And.intro (by first | omega | (dsimp only; omega) | (show (_ : Bool) = true; kernel_rfl) | decide | (repeat' (first | refine And.intro ?_ ?_ | exact trivial | exact rfl))) ?_ | refine bcs_dec (fun h => ?_) (fun h => False.elim (by first | omega | exact h rfl)) | refine bcs_dec (fun h => False.elim (by omega)) (fun h => ?_) | refine bcs_dec (fun h => ?_) (fun h => ?_) | refine bcs_ndec (fun h => ?_) (fun h => ?_) | refine bcs_not ?_ | refine bcs_intro (fun h => ?_) (fun h => ?_) | refine And.intro ?_ ?_ | refine reg_tail (by kernel_rfl) ?_)
        refine loop_rule (α := Unit) (fun _ => ⟨[(1, .v (.int .i64 (max column 0))), (2, .v (.int .i64 w)), (8, str s), (9, .o 0), (10, .v (.int .i64 out.length)), (11, .v (.int .i64 i)), (12, .v (.int .i64 1)), (13, .v (.int .i64 0))], [(0, byOwn (out ++ [s.getD i 0]))], 1⟩)
          (fun _ => True) (fun _ => 0) () [.at 2 0] ?_ ?_ ?_
        · trivial
        · (refine ⟨rfl, rfl, ?_, ?_⟩ <;> repeat' (first | refine And.intro ?_ ?_ | exact trivial | exact rfl | refine lt0 | refine lt1 ?_ | refine lt2 ?_ ?_ | refine lt3 ?_ ?_ ?_ | refine lt4 ?_ ?_ ?_ ?_ | exact veq_refl _ | decide | (intro i hi; repeat' (first | refine And.intro ?_ ?_ | exact trivial | exact rfl))))
          all_goals first | omega | (simp; done)
        rintro _ _
        repeat' (first | refine And.intro (by first | omega | (dsimp only; omega) | (show (_ : Bool) = true; kernel_rfl) | decide | (repeat' (first | refine And.intro ?_ ?_ | exact trivial | exact rfl))) ?_ | refine bcs_dec (fun h => ?_) (fun h => False.elim (by first | omega | exact h rfl)) | refine bcs_dec (fun h => False.elim (by omega)) (fun h => ?_) | refine bcs_dec (fun h => ?_) (fun h => ?_) | refine bcs_ndec (fun h => ?_) (fun h => ?_) | refine bcs_not ?_ | refine bcs_intro (fun h => ?_) (fun h => ?_) | refine And.intro ?_ ?_ | refine reg_tail (by kernel_rfl) ?_)
        refine ⟨(i + 1, out ++ [s.getD i 0]), [.at 0 0], ?_, ?_, ?_⟩
        · exact ⟨by omega, by omega, .inr (by omega), h4⟩
        · show s.length - (i + 1) < s.length - i
          omega
        · (refine ⟨rfl, rfl, ?_, ?_⟩ <;> repeat' (first | refine And.intro ?_ ?_ | exact trivial | exact rfl | refine lt0 | refine lt1 ?_ | refine lt2 ?_ ?_ | refine lt3 ?_ ?_ ?_ | refine lt4 ?_ ?_ ?_ ?_ | exact veq_refl _ | decide | (intro i hi; repeat' (first | refine And.intro ?_ ?_ | exact trivial | exact rfl))))
          all_goals first | omega | (simp; done) | (refine veq_of_eq (congrArg (Value.int .i64) ?_); omega)
  · rw [List.drop_of_length_le (by omega)] at h4
    simp only [cutG] at h4
    subst h4
    repeat' (first | refine And.intro (by first | omega | (dsimp only; omega) | (show (_ : Bool) = true; kernel_rfl) | decide | (repeat' (first | refine And.intro ?_ ?_ | exact trivial | exact rfl))) ?_ | refine bcs_dec (fun h => ?_) (fun h => False.elim (by first | omega | exact h rfl)) | refine bcs_dec (fun h => False.elim (by omega)) (fun h => ?_) | refine bcs_dec (fun h => ?_) (fun h => ?_) | refine bcs_ndec (fun h => ?_) (fun h => ?_) | refine bcs_not ?_ | refine bcs_intro (fun h => ?_) (fun h => ?_) | refine And.intro ?_ ?_ | refine reg_tail (by kernel_rfl) ?_)
    refine ext_b2s Tryd.underlying55 Tryd.underlying5 Tryd.underlying9 ?_
    refine ⟨_, rfl, fun j hj => by rw [Nat.zero_add], ?_⟩
    repeat' (first | refine And.intro (by first | omega | (dsimp only; omega) | (show (_ : Bool) = true; kernel_rfl) | decide | (repeat' (first | refine And.intro ?_ ?_ | exact trivial | exact rfl))) ?_ | refine bcs_dec (fun h => ?_) (fun h => False.elim (by first | omega | exact h rfl)) | refine bcs_dec (fun h => False.elim (by omega)) (fun h => ?_) | refine bcs_dec (fun h => ?_) (fun h => ?_) | refine bcs_ndec (fun h => ?_) (fun h => ?_) | refine bcs_not ?_ | refine bcs_intro (fun h => ?_) (fun h => ?_) | refine And.intro ?_ ?_ | refine reg_tail (by kernel_rfl) ?_)
    refine ret_plain ?_
    repeat' (first | refine And.intro ?_ ?_ | exact trivial)
    all_goals exact rfl
set_option maxRecDepth 100000 in
set_option maxHeartbeats 4000000 in
theorem blanks_con (n : Nat) (hn : n ≤ 4194304) : Con Tryd.prog glob 56 [.v (.int .i64 n)] [] 0 (retV 0 (str (List.replicate n 32))) := by
  refine spec_intro (tab := tab) (N := 15) Tryd.func56 rfl rfl tab_ok mix rfl rfl _ rfl ?_
  intro B hG
  repeat' (first | refine And.intro (by first | omega | (dsimp only; omega) | (show (_ : Bool) = true; kernel_rfl) | decide | (repeat' (first | refine And.intro ?_ ?_ | exact trivial | exact rfl))) ?_ | refine bcs_dec (fun h => ?_) (fun h => False.elim (by first | omega | exact h rfl)) | refine bcs_dec (fun h => False.elim (by omega)) (fun h => ?_) | refine bcs_dec (fun h => ?_) (fun h => ?_) | refine bcs_ndec (fun h => ?_) (fun h => ?_) | refine bcs_not ?_ | refine bcs_intro (fun h => ?_) (fun h => ?_) | refine And.intro ?_ ?_ | refine reg_tail (by kernel_rfl) ?_)
  refine loop_rule (α := Nat × Byt) (fun (k, q) => ⟨[(0, .v (.int .i64 n)), (3, .o 0), (4, .v (.int .i64 k))], [(0, byOwn q)], 1⟩) (fun (k, q) => k ≤ n ∧ q = List.replicate k 32) (fun (k, _) => n - k) (0, []) [.nil 1] ?_ ?_ ?_
  · exact ⟨Nat.zero_le _, rfl⟩
  · (refine ⟨rfl, rfl, ?_, ?_⟩ <;> repeat' (first | refine And.intro ?_ ?_ | exact trivial | exact rfl | refine lt0 | refine lt1 ?_ | refine lt2 ?_ ?_ | refine lt3 ?_ ?_ ?_ | refine lt4 ?_ ?_ ?_ ?_ | exact veq_refl _ | decide | (intro i hi; repeat' (first | refine And.intro ?_ ?_ | exact trivial | exact rfl))))
  rintro ⟨k, q⟩ ⟨hk, hq⟩
  have hlk : q.length = k := by rw [hq]; simp
  by_cases hkn : k < n
  · repeat' (first | refine And.intro (by first | omega | (dsimp only; omega) | (show (_ : Bool) = true; kernel_rfl) | decide | (repeat' (first | refine And.intro ?_ ?_ | exact trivial | exact rfl))) ?_ | refine bcs_dec (fun h => ?_) (fun h => False.elim (by first | omega | exact h rfl)) | refine bcs_dec (fun h => False.elim (by omega)) (fun h => ?_) | refine bcs_dec (fun h => ?_) (fun h => ?_) | refine bcs_ndec (fun h => ?_) (fun h => ?_) | refine bcs_not ?_ | refine bcs_intro (fun h => ?_) (fun h => ?_) | refine And.intro ?_ ?_ | refine reg_tail (by kernel_rfl) ?_)
    refine app1 byEnc 0 q 32 rfl rfl ?_
    repeat' (first | refine And.intro (by first | omega | (dsimp only; omega) | (show (_ : Bool) = true; kernel_rfl) | decide | (repeat' (first | refine And.intro ?_ ?_ | exact trivial | exact rfl))) ?_ | refine bcs_dec (fun h => ?_) (fun h => False.elim (by first | omega | exact h rfl)) | refine bcs_dec (fun h => False.elim (by omega)) (fun h => ?_) | refine bcs_dec (fun h => ?_) (fun h => ?_) | refine bcs_ndec (fun h => ?_) (fun h => ?_) | refine bcs_not ?_ | refine bcs_intro (fun h => ?_) (fun h => ?_) | refine And.intro ?_ ?_ | refine reg_tail (by kernel_rfl) ?_)
    refine ⟨(k + 1, q ++ [32]), [.at 2 0], ?_, ?_, ?_⟩
    · exact ⟨hkn, by rw [hq, ← List.replicate_succ']⟩
    · show n - (k + 1) < n - k
      omega
    · (refine ⟨rfl, rfl, ?_, ?_⟩ <;> repeat' (first | refine And.intro ?_ ?_ | exact trivial | exact rfl | refine lt0 | refine lt1 ?_ | refine lt2 ?_ ?_ | refine lt3 ?_ ?_ ?_ | refine lt4 ?_ ?_ ?_ ?_ | exact veq_refl _ | decide | (intro i hi; repeat' (first | refine And.intro ?_ ?_ | exact trivial | exact rfl))))
      all_goals first | omega | (simp; done)
  · obtain rfl : k = n := by omega
    subst hq
    repeat' (first | refine And.intro (by first | omega | (dsimp only; omega) | (show (_ : Bool) = true; kernel_rfl) | decide | (repeat' (first | refine And.intro ?_ ?_ | exact trivial | exact rfl))) ?_ | refine bcs_dec (fun h => ?_) (fun h => False.elim (by first | omega | exact h rfl)) | refine bcs_dec (fun h => False.elim (by omega)) (fun h => ?_) | refine bcs_dec (fun h => ?_) (fun h => ?_) | refine bcs_ndec (fun h => ?_) (fun h => ?_) | refine bcs_not ?_ | refine bcs_intro (fun h => ?_) (fun h => ?_) | refine And.intro ?_ ?_ | refine reg_tail (by kernel_rfl) ?_)
    refine ext_b2s Tryd.underlying55 Tryd.underlying5 Tryd.underlying9 ?_
    refine ⟨_, rfl, fun j hj => by rw [Nat.zero_add], ?_⟩
    repeat' (first | refine And.intro (by first | omega | (dsimp only; omega) | (show (_ : Bool) = true; kernel_rfl) | decide | (repeat' (first | refine And.intro ?_ ?_ | exact trivial | exact rfl))) ?_ | refine bcs_dec (fun h => ?_) (fun h => False.elim (by first | omega | exact h rfl)) | refine bcs_dec (fun h => False.elim (by omega)) (fun h => ?_) | refine bcs_dec (fun h => ?_) (fun h => ?_) | refine bcs_ndec (fun h => ?_) (fun h => ?_) | refine bcs_not ?_ | refine bcs_intro (fun h => ?_) (fun h => ?_) | refine And.intro ?_ ?_ | refine reg_tail (by kernel_rfl) ?_)
    refine ret_plain ?_
    exact rfl
/-- How wide each half is. -/
theorem columns_ok (w : Int) (h1 : 7 ≤ w) (h2 : w ≤ 4096) : Con Tryd.prog glob 17 [.v (.int .i64 w)] [] 0 (retV 0 (.t [.v (.int .i64 ((w - 3) / 2)), .v (.int .i64 ((w - 3) / 2 + 3)), .v .nilIface])) := by
  refine spec_intro (tab := tab) (N := 19) Tryd.func17 rfl rfl tab_ok mix rfl rfl _ rfl ?_
  intro B hG
  repeat' (first | refine And.intro (by first | omega | (dsimp only; omega) | (show (_ : Bool) = true; kernel_rfl) | decide | (repeat' (first | refine And.intro ?_ ?_ | exact trivial | exact rfl))) ?_ | refine bcs_dec (fun h => ?_) (fun h => False.elim (by first | omega | exact h rfl)) | refine bcs_dec (fun h => False.elim (by omega)) (fun h => ?_) | refine bcs_dec (fun h => ?_) (fun h => ?_) | refine bcs_ndec (fun h => ?_) (fun h => ?_) | refine bcs_not ?_ | refine bcs_intro (fun h => ?_) (fun h => ?_) | refine And.intro ?_ ?_ | refine reg_tail (by kernel_rfl) ?_)
  refine ret_plain ?_
  repeat' (first | refine And.intro ?_ ?_ | exact trivial)
  all_goals exact rfl
theorem columns_no (w : Int) (h : w < 7 ∨ 4096 < w) : Con Tryd.prog glob 17 [.v (.int .i64 w)] [] 0 (retV 0 (.t [.v (.int .i64 0), .v (.int .i64 0), .v (.iface 63 (.int .i64 1))])) := by
  refine spec_intro (tab := tab) (N := 19) Tryd.func17 rfl rfl tab_ok mix rfl rfl _ rfl ?_
  intro B hG
  repeat' (first | refine And.intro (by first | omega | (dsimp only; omega) | (show (_ : Bool) = true; kernel_rfl) | decide | (repeat' (first | refine And.intro ?_ ?_ | exact trivial | exact rfl))) ?_ | refine bcs_dec (fun h => ?_) (fun h => False.elim (by first | omega | exact h rfl)) | refine bcs_dec (fun h => False.elim (by omega)) (fun h => ?_) | refine bcs_dec (fun h => ?_) (fun h => ?_) | refine bcs_ndec (fun h => ?_) (fun h => ?_) | refine bcs_not ?_ | refine bcs_intro (fun h => ?_) (fun h => ?_) | refine And.intro ?_ ?_ | refine reg_tail (by kernel_rfl) ?_)
  all_goals first
    | (refine ret_plain ?_
       repeat' (first | refine And.intro ?_ ?_ | exact trivial)
       all_goals exact rfl)
    | omega
theorem rColumns_ok (w : Int) (h1 : 7 ≤ w) (h2 : w ≤ 4096) : Con Tryd.prog glob 18 [.v (.int .i64 w)] [] 0 (retV 0 (.t [.v (.int .i64 ((w - 3) / 2)), .v (.int .i64 ((w - 3) / 2 + 3)), .v (.int .i64 0)])) := by
  refine spec_intro (tab := tab) (N := 18) Tryd.func18 rfl rfl tab_ok mix rfl rfl _ rfl ?_
  intro B hG
  repeat' (first | refine And.intro (by first | omega | (dsimp only; omega) | (show (_ : Bool) = true; kernel_rfl) | decide | (repeat' (first | refine And.intro ?_ ?_ | exact trivial | exact rfl))) ?_ | refine bcs_dec (fun h => ?_) (fun h => False.elim (by first | omega | exact h rfl)) | refine bcs_dec (fun h => False.elim (by omega)) (fun h => ?_) | refine bcs_dec (fun h => ?_) (fun h => ?_) | refine bcs_ndec (fun h => ?_) (fun h => ?_) | refine bcs_not ?_ | refine bcs_intro (fun h => ?_) (fun h => ?_) | refine And.intro ?_ ?_ | refine reg_tail (by kernel_rfl) ?_)
  refine ret_plain ?_
  repeat' (first | refine And.intro ?_ ?_ | exact trivial)
  all_goals exact rfl
theorem rColumns_no (w : Int) (h : w < 7 ∨ 4096 < w) : Con Tryd.prog glob 18 [.v (.int .i64 w)] [] 0 (retV 0 (.t [.v (.int .i64 0), .v (.int .i64 0), .v (.int .i64 1)])) := by
  refine spec_intro (tab := tab) (N := 18) Tryd.func18 rfl rfl tab_ok mix rfl rfl _ rfl ?_
  intro B hG
  repeat' (first | refine And.intro (by first | omega | (dsimp only; omega) | (show (_ : Bool) = true; kernel_rfl) | decide | (repeat' (first | refine And.intro ?_ ?_ | exact trivial | exact rfl))) ?_ | refine bcs_dec (fun h => ?_) (fun h => False.elim (by first | omega | exact h rfl)) | refine bcs_dec (fun h => False.elim (by omega)) (fun h => ?_) | refine bcs_dec (fun h => ?_) (fun h => ?_) | refine bcs_ndec (fun h => ?_) (fun h => ?_) | refine bcs_not ?_ | refine bcs_intro (fun h => ?_) (fun h => ?_) | refine And.intro ?_ ?_ | refine reg_tail (by kernel_rfl) ?_)
  all_goals first
    | (refine ret_plain ?_
       repeat' (first | refine And.intro ?_ ?_ | exact trivial)
       all_goals exact rfl)
    | omega
end Go.Proofs.YtjlobgcmhnkgnaaDoor
