/- Chapter 7: the document's table; rows that are the same. -/
import Derived.Test.YtdabahipeepheaaS11
import Derived.Test.YtdabahipeepheaaY8
namespace Go.Proofs.Ytdabahipeepheaa
open Go Go.RowKit Vc

set_option maxRecDepth 100000 in
set_option maxHeartbeats 16000000 in
theorem same_con (A C : Nat → Int) (N M : Nat) (hN : N ≤ 1048576) (hM : M ≤ 1048576) : Con Try.prog glob 12 [.s 0 0 N, .s 1 0 M] [(0, iRo N A), (1, iRo M C)] 2 (retV 2 (.v (.bool (decide (N = M ∧ ∀ e, e < N → A e = C e))))) := by
  by_cases hNM : N = M
  · subst hNM
    refine spec_intro (tab := tab) (N := 26) Try.func12 rfl rfl tab_ok mix rfl rfl _ rfl ?_
    intro B hG
    repeat' (first | refine And.intro (by first | omega | (dsimp only; omega) | (show (_ : Bool) = true; kernel_rfl) | decide | (repeat' (first | refine And.intro ?_ ?_ | exact trivial | exact rfl))) ?_ | refine bcs_dec (fun h => ?_) (fun h => False.elim (by first | omega | exact h rfl)) | refine bcs_dec (fun h => False.elim (by omega)) (fun h => ?_) | refine bcs_dec (fun h => ?_) (fun h => ?_) | refine bcs_ndec (fun h => ?_) (fun h => ?_) | refine bcs_not ?_ | refine bcs_intro (fun h => ?_) (fun h => ?_) | refine And.intro ?_ ?_ | refine reg_tail (by kernel_rfl) ?_)
    all_goals first
      | omega
      | skip
    refine loop_rule (α := Nat) (fun i => ⟨[(0, .s 0 0 N), (1, .s 1 0 N), (5, .v (.int .i64 i))], [(0, iRo N A), (1, iRo N C)], 2⟩) (fun i => i ≤ N ∧ ∀ e, e < i → A e = C e) (fun i => N - i) 0 [] ⟨Nat.zero_le _, fun e he => by omega⟩ ?_ ?_
    · (refine ⟨rfl, rfl, ?_, ?_⟩ <;> repeat' (first | refine And.intro ?_ ?_ | exact trivial | exact rfl | refine lt0 | refine lt1 ?_ | refine lt2 ?_ ?_ | refine lt3 ?_ ?_ ?_ | refine lt4 ?_ ?_ ?_ ?_ | exact veq_refl _ | decide | (intro i hi; repeat' (first | refine And.intro ?_ ?_ | exact trivial | exact rfl))))
      all_goals first | exact Nat.le_refl _ | omega | (dsimp only; omega) | (simp; done) | (show @Eq Int _ _; omega)
    · rintro i ⟨h1, h2⟩
      repeat' (first | refine And.intro (by first | omega | (dsimp only; omega) | (show (_ : Bool) = true; kernel_rfl) | decide | (repeat' (first | refine And.intro ?_ ?_ | exact trivial | exact rfl))) ?_ | refine bcs_dec (fun h => ?_) (fun h => False.elim (by first | omega | exact h rfl)) | refine bcs_dec (fun h => False.elim (by omega)) (fun h => ?_) | refine bcs_dec (fun h => ?_) (fun h => ?_) | refine bcs_ndec (fun h => ?_) (fun h => ?_) | refine bcs_not ?_ | refine bcs_intro (fun h => ?_) (fun h => ?_) | refine And.intro ?_ ?_ | refine reg_tail (by kernel_rfl) ?_)
      all_goals first
        | omega
        | skip
      · refine ret_plain ?_
        show @Eq Bool _ _
        refine decide_eq_false ?_
        rintro ⟨_, h3⟩
        have h4 := h3 i (by omega)
        have h5 : ¬ A (0 + (i : Int).toNat) = C (0 + (i : Int).toNat) := h
        rw [Int.toNat_natCast, Nat.zero_add] at h5
        exact h5 h4
      · have h5 : A (0 + (i : Int).toNat) = C (0 + (i : Int).toNat) := h
        rw [Int.toNat_natCast, Nat.zero_add] at h5
        refine ⟨i + 1, [], ⟨by omega, fun e he => ?_⟩, by omega, ?_⟩
        · by_cases e1 : e = i
          · subst e1; exact h5
          · exact h2 e (by omega)
        · (refine ⟨rfl, rfl, ?_, ?_⟩ <;> repeat' (first | refine And.intro ?_ ?_ | exact trivial | exact rfl | refine lt0 | refine lt1 ?_ | refine lt2 ?_ ?_ | refine lt3 ?_ ?_ ?_ | refine lt4 ?_ ?_ ?_ ?_ | exact veq_refl _ | decide | (intro i hi; repeat' (first | refine And.intro ?_ ?_ | exact trivial | exact rfl))))
          all_goals first | exact Nat.le_refl _ | omega | (dsimp only; omega) | (simp; done) | (show @Eq Int _ _; omega)
      · refine ret_plain ?_
        show @Eq Bool _ _
        exact decide_eq_true ⟨rfl, fun e he => h2 e (by omega)⟩
  · refine spec_intro (tab := tab) (N := 26) Try.func12 rfl rfl tab_ok mix rfl rfl _ rfl ?_
    intro B hG
    repeat' (first | refine And.intro (by first | omega | (dsimp only; omega) | (show (_ : Bool) = true; kernel_rfl) | decide | (repeat' (first | refine And.intro ?_ ?_ | exact trivial | exact rfl))) ?_ | refine bcs_dec (fun h => ?_) (fun h => False.elim (by first | omega | exact h rfl)) | refine bcs_dec (fun h => False.elim (by omega)) (fun h => ?_) | refine bcs_dec (fun h => ?_) (fun h => ?_) | refine bcs_ndec (fun h => ?_) (fun h => ?_) | refine bcs_not ?_ | refine bcs_intro (fun h => ?_) (fun h => ?_) | refine And.intro ?_ ?_ | refine reg_tail (by kernel_rfl) ?_)
    all_goals first
      | omega
      | skip
    refine ret_plain ?_
    show @Eq Bool _ _
    exact decide_eq_false fun h => hNM h.1
end Go.Proofs.Ytdabahipeepheaa
