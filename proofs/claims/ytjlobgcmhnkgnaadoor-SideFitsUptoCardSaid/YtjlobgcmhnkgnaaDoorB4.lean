/- Chapter 6: contracts: copies, comparisons, the script the other way round. -/
import Derived.Test.YtjlobgcmhnkgnaaDoorB5
namespace Go.Proofs.YtjlobgcmhnkgnaaDoor
open Go Go.RowKit Vc
abbrev inRow (l : List Int) : Nat → List SV := fun i => [.v (.int .i64 (l.getD i 0))]
abbrev inRo (l : List Int) : Ch := .ro 1 l.length (inRow l)
abbrev inOwn (l : List Int) : Ch := .own 2 1 l.length (inRow l)
abbrev prEnc (p : Int × Int) : List SV := [.v (.int .i64 p.1), .v (.int .i64 p.2)]
abbrev prRow (l : List (Int × Int)) : Nat → List SV := fun i => prEnc (l.getD i (0, 0))
abbrev prRo (l : List (Int × Int)) : Ch := .ro 2 l.length (prRow l)
abbrev prOwn (l : List (Int × Int)) : Ch := .own 98 2 l.length (prRow l)

theorem Chg.same {a b : Chg} (h : a.A = b.A ∧ a.N = b.N ∧ a.B = b.B ∧ a.M = b.M) : a = b := by
  cases a; cases b; simp at h ⊢; exact h

set_option maxRecDepth 100000 in
set_option maxHeartbeats 4000000 in
theorem validR_con (s : List Chg) (n m : Int) (hs : s.length ≤ 9223372036854775807) : Con Tryd.prog glob 32 [.s 0 0 s.length, .v (.int .i64 n), .v (.int .i64 m)] [(0, chRo s)] 1 (retV 1 (.v (.int .i64 (validE s n m)))) := by
  refine spec_intro (tab := tab) (N := 123) Tryd.func32 rfl rfl tab_ok mix rfl rfl _ rfl ?_
  intro B hG
  repeat' (first | refine And.intro (by first | omega | (dsimp only; omega) | (show (_ : Bool) = true; kernel_rfl) | decide | (repeat' (first | refine And.intro ?_ ?_ | exact trivial | exact rfl))) ?_ | refine bcs_dec (fun h => ?_) (fun h => ?_) | refine bcs_ndec (fun h => ?_) (fun h => ?_) | refine bcs_not ?_ | refine bcs_intro (fun h => ?_) (fun h => ?_) | refine And.intro ?_ ?_ | refine reg_tail (by kernel_rfl) ?_)
  all_goals first
    | (refine ret_plain ?_
       show @Eq Int _ _
       unfold validE
       rw [if_pos (by omega)]
       done)
    | skip
  have h0 : ¬ (n < 0 ∨ n > 4194304 ∨ m < 0 ∨ m > 4194304) := by omega
  refine loop_rule (α := Nat × Int × Int) (fun (k, a, b) => ⟨[(0, .s 0 0 s.length), (1, .v (.int .i64 n)), (2, .v (.int .i64 m)), (9, .v (.int .i64 k)), (7, .v (.int .i64 a)), (8, .v (.int .i64 b))], [(0, chRo s)], 1⟩)
    (fun (k, a, b) => k ≤ s.length ∧ 0 ≤ a ∧ a ≤ n ∧ 0 ≤ b ∧ b ≤ m ∧ validF (s.drop k) a b n m = validE s n m) (fun (k, a, b) => s.length - k) (0, 0, 0) [] ?_ ?_ ?_
  · refine ⟨by omega, by omega, by omega, by omega, by omega, ?_⟩
    unfold validE; rw [if_neg h0]; rfl
  · (refine ⟨rfl, rfl, ?_, ?_⟩ <;> repeat' (first | refine And.intro ?_ ?_ | exact trivial | exact rfl | refine lt0 | refine lt1 ?_ | refine lt2 ?_ ?_ | refine lt3 ?_ ?_ ?_ | refine lt4 ?_ ?_ ?_ ?_ | exact veq_refl _ | decide | (intro i hi; repeat' (first | refine And.intro ?_ ?_ | exact trivial | exact rfl))))
    exact Nat.le_refl _
  · rintro ⟨k, a, b⟩ ⟨h1, h2, h3, h4, h5, h6⟩
    repeat' (first | refine And.intro (by first | omega | (dsimp only; omega) | (show (_ : Bool) = true; kernel_rfl) | decide | (repeat' (first | refine And.intro ?_ ?_ | exact trivial | exact rfl))) ?_ | refine bcs_dec (fun h => ?_) (fun h => ?_) | refine bcs_ndec (fun h => ?_) (fun h => ?_) | refine bcs_not ?_ | refine bcs_intro (fun h => ?_) (fun h => ?_) | refine And.intro ?_ ?_ | refine reg_tail (by kernel_rfl) ?_)
    all_goals first
      | omega
      | (refine ret_plain ?_
         show @Eq Int _ _
         simp only [nm] at *
         rw [← h6, drop_get Chg.d s k (by omega)]
         simp only [validF]
         rw [if_pos (by unfold bad; omega)]
         done)
      | skip
    all_goals first
      | (refine ⟨(k + 1, (s.getD k Chg.d).A + (s.getD k Chg.d).N, (s.getD k Chg.d).B + (s.getD k Chg.d).M), [], ?_, ?_, ?_⟩
         · simp only [nm] at *
           refine ⟨by omega, by omega, by omega, by omega, by omega, ?_⟩
           rw [← h6, drop_get Chg.d s k (by omega)]
           simp only [validF]
           rw [if_neg (by unfold bad; omega)]
         · show s.length - (k + 1) < s.length - k
           omega
         · (refine ⟨rfl, rfl, ?_, ?_⟩ <;> repeat' (first | refine And.intro ?_ ?_ | exact trivial | exact rfl | refine lt0 | refine lt1 ?_ | refine lt2 ?_ ?_ | refine lt3 ?_ ?_ ?_ | refine lt4 ?_ ?_ ?_ ?_ | exact veq_refl _ | decide | (intro i hi; repeat' (first | refine And.intro ?_ ?_ | exact trivial | exact rfl))))
           · simp only [nm] at *; rfl
           · simp only [nm] at *; rfl
           · exact Nat.le_refl _
         done)
      | (refine ret_plain ?_
         show @Eq Int _ _
         rw [← h6, List.drop_of_length_le (by omega)]
         simp only [validF]
         first | rw [if_pos (by omega)] | rw [if_neg (by omega)])
end Go.Proofs.YtjlobgcmhnkgnaaDoor
