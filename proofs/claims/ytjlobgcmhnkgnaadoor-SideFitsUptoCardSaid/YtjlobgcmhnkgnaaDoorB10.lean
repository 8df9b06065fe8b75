/- Chapter 6: contracts: the document's pairs and normal scripts; the pairs. -/
import Derived.Test.YtjlobgcmhnkgnaaDoorB9
namespace Go.Proofs.YtjlobgcmhnkgnaaDoor
open Go Go.RowKit Vc

theorem diag_len : ∀ (c : Nat) (a b : Int), (diag a b c).length = c
  | 0, _, _ => rfl
  | c + 1, a, b => by simp [diag, diag_len c]

theorem pairsF_len : ∀ (s : List Chg) (a b n m : Int), validF s a b n m = 0 → 0 ≤ a → a ≤ n → ((pairsF s a b n).length : Int) ≤ n - a
  | [], a, b, n, m, _, _, _ => by simp only [pairsF, diag_len]; omega
  | c :: r, a, b, n, m, h, h0, h1 => by
    obtain ⟨hb, hv⟩ := valid_cons h
    unfold bad at hb
    have := pairsF_len r (c.A + c.N) (c.B + c.M) n m hv (by omega) (by omega)
    simp only [pairsF, List.length_append, diag_len]
    omega

set_option maxRecDepth 100000 in
set_option maxHeartbeats 4000000 in
theorem rNormal_no {s : List Chg} {n m : Int} (hs : s.length ≤ 9223372036854775807 - 1) (hv : validE s n m ≠ 0) : Con Tryd.prog glob 13 [.s 0 0 s.length, .v (.int .i64 n), .v (.int .i64 m)] [(0, chRo s)] 1
    (retM (.t [.o 1, .v (.int .i64 (validE s n m))]) [(1, chOwn [])] 2) := by
  refine spec_intro (tab := tab) (N := 24) Tryd.func13 rfl rfl tab_ok mix rfl rfl _ rfl ?_
  intro B hG
  repeat' (first | refine And.intro (by first | omega | (dsimp only; omega) | (show (_ : Bool) = true; kernel_rfl) | decide | (repeat' (first | refine And.intro ?_ ?_ | exact trivial | exact rfl))) ?_ | refine bcs_dec (fun h => ?_) (fun h => ?_) | refine bcs_ndec (fun h => ?_) (fun h => ?_) | refine bcs_not ?_ | refine bcs_intro (fun h => ?_) (fun h => ?_) | refine And.intro ?_ ?_ | refine reg_tail (by kernel_rfl) ?_)
  refine call_rule [.at 0 0] (validR_con s n m (by omega)) hG ?_ ?_
  · (refine ⟨?_, ?_, rfl, rfl, rfl⟩ <;> repeat' (first | refine And.intro ?_ ?_ | exact trivial | exact rfl | refine lt0 | refine lt1 ?_ | refine lt2 ?_ ?_ | refine lt3 ?_ ?_ ?_ | refine lt4 ?_ ?_ ?_ ?_ | exact veq_refl _ | decide | (intro i hi; repeat' (first | refine And.intro ?_ ?_ | exact trivial | exact rfl))))
    all_goals exact Nat.le_refl _
  rintro _ _ _ ⟨rfl, rfl, rfl⟩
  repeat' (first | refine And.intro (by first | omega | (dsimp only; omega) | (show (_ : Bool) = true; kernel_rfl) | decide | (repeat' (first | refine And.intro ?_ ?_ | exact trivial | exact rfl))) ?_ | refine bcs_dec (fun h => ?_) (fun h => ?_) | refine bcs_ndec (fun h => ?_) (fun h => ?_) | refine bcs_not ?_ | refine bcs_intro (fun h => ?_) (fun h => ?_) | refine And.intro ?_ ?_ | refine reg_tail (by kernel_rfl) ?_)
  · refine ret_mem [.nil 4] rfl rfl ?_ ?_
    · repeat' (first | refine And.intro ?_ ?_ | exact trivial)
      all_goals exact rfl
    · repeat' (first | refine And.intro ?_ ?_ | exact trivial)
      all_goals exact rfl
  · omega

set_option maxRecDepth 100000 in
set_option maxHeartbeats 4000000 in
theorem rNormal_ok {s : List Chg} {n m : Int} (hs : s.length ≤ 9223372036854775807 - 1) (hv : validE s n m = 0) : Con Tryd.prog glob 13 [.s 0 0 s.length, .v (.int .i64 n), .v (.int .i64 m)] [(0, chRo s)] 1
    (retM (.t [.o 1, .v (.int .i64 (ofE (pairsF s 0 0 n) n m).2)]) [(1, chOwn (ofE (pairsF s 0 0 n) n m).1)] 2) := by
  refine spec_intro (tab := tab) (N := 24) Tryd.func13 rfl rfl tab_ok mix rfl rfl _ rfl ?_
  intro B hG
  repeat' (first | refine And.intro (by first | omega | (dsimp only; omega) | (show (_ : Bool) = true; kernel_rfl) | decide | (repeat' (first | refine And.intro ?_ ?_ | exact trivial | exact rfl))) ?_ | refine bcs_dec (fun h => ?_) (fun h => ?_) | refine bcs_ndec (fun h => ?_) (fun h => ?_) | refine bcs_not ?_ | refine bcs_intro (fun h => ?_) (fun h => ?_) | refine And.intro ?_ ?_ | refine reg_tail (by kernel_rfl) ?_)
  refine call_rule [.at 0 0] (validR_con s n m (by omega)) hG ?_ ?_
  · (refine ⟨?_, ?_, rfl, rfl, rfl⟩ <;> repeat' (first | refine And.intro ?_ ?_ | exact trivial | exact rfl | refine lt0 | refine lt1 ?_ | refine lt2 ?_ ?_ | refine lt3 ?_ ?_ ?_ | refine lt4 ?_ ?_ ?_ ?_ | exact veq_refl _ | decide | (intro i hi; repeat' (first | refine And.intro ?_ ?_ | exact trivial | exact rfl))))
    all_goals exact Nat.le_refl _
  rintro _ _ _ ⟨rfl, rfl, rfl⟩
  obtain ⟨r1, r2, r3, r4, r5⟩ := valid_range hv
  have hl := pairsF_len s 0 0 n m r5 (by omega) (by omega)
  repeat' (first | refine And.intro (by first | omega | (dsimp only; omega) | (show (_ : Bool) = true; kernel_rfl) | decide | (repeat' (first | refine And.intro ?_ ?_ | exact trivial | exact rfl))) ?_ | refine bcs_dec (fun h => ?_) (fun h => ?_) | refine bcs_ndec (fun h => ?_) (fun h => ?_) | refine bcs_not ?_ | refine bcs_intro (fun h => ?_) (fun h => ?_) | refine And.intro ?_ ?_ | refine reg_tail (by kernel_rfl) ?_)
  · omega
  refine call_rule [.at 0 0] (pairsR_con hs hv) hG ?_ ?_
  · (refine ⟨?_, ?_, rfl, rfl, rfl⟩ <;> repeat' (first | refine And.intro ?_ ?_ | exact trivial | exact rfl | refine lt0 | refine lt1 ?_ | refine lt2 ?_ ?_ | refine lt3 ?_ ?_ ?_ | refine lt4 ?_ ?_ ?_ ?_ | exact veq_refl _ | decide | (intro i hi; repeat' (first | refine And.intro ?_ ?_ | exact trivial | exact rfl))))
    all_goals exact Nat.le_refl _
  rintro _ _ _ ⟨rfl, rfl, rfl⟩
  repeat' (first | refine And.intro (by first | omega | (dsimp only; omega) | (show (_ : Bool) = true; kernel_rfl) | decide | (repeat' (first | refine And.intro ?_ ?_ | exact trivial | exact rfl))) ?_ | refine bcs_dec (fun h => ?_) (fun h => ?_) | refine bcs_ndec (fun h => ?_) (fun h => ?_) | refine bcs_not ?_ | refine bcs_intro (fun h => ?_) (fun h => ?_) | refine And.intro ?_ ?_ | refine reg_tail (by kernel_rfl) ?_)
  refine call_rule [.at 1 0] (ofR_con (l := pairsF s 0 0 n) (n := n) (m := m) (by omega)) hG ?_ ?_
  · (refine ⟨?_, ?_, rfl, rfl, rfl⟩ <;> repeat' (first | refine And.intro ?_ ?_ | exact trivial | exact rfl | refine lt0 | refine lt1 ?_ | refine lt2 ?_ ?_ | refine lt3 ?_ ?_ ?_ | refine lt4 ?_ ?_ ?_ ?_ | exact veq_refl _ | decide | (intro i hi; repeat' (first | refine And.intro ?_ ?_ | exact trivial | exact rfl))))
    all_goals first | exact Nat.le_refl _ | skip
  rintro _ _ _ ⟨rfl, rfl, rfl⟩
  repeat' (first | refine And.intro (by first | omega | (dsimp only; omega) | (show (_ : Bool) = true; kernel_rfl) | decide | (repeat' (first | refine And.intro ?_ ?_ | exact trivial | exact rfl))) ?_ | refine bcs_dec (fun h => ?_) (fun h => ?_) | refine bcs_ndec (fun h => ?_) (fun h => ?_) | refine bcs_not ?_ | refine bcs_intro (fun h => ?_) (fun h => ?_) | refine And.intro ?_ ?_ | refine reg_tail (by kernel_rfl) ?_)
  refine ret_mem [.at 2 0] rfl rfl ?_ ?_
  · repeat' (first | refine And.intro ?_ ?_ | exact trivial)
    all_goals exact rfl
  · repeat' (first | refine And.intro ?_ ?_ | exact trivial)
    · exact rfl
    · intro i hi
      repeat' (first | refine And.intro ?_ ?_ | exact trivial)
      all_goals exact rfl
end Go.Proofs.YtjlobgcmhnkgnaaDoor
