/- Chapter 7: what goes and what comes. -/
import Derived.Test.YtdabahipeepheaaS7
namespace Go.Proofs.Ytdabahipeepheaa
open Go Go.RowKit Vc

set_option maxRecDepth 100000 in
set_option maxHeartbeats 64000000 in
theorem mark_con (A C : Nat → Int) (N M : Nat) (hN : N ≤ 1048576) (hM : M ≤ 1048576) : Con Try.prog glob 17 [.s 0 0 N, .s 1 0 M] [(0, iRo N A), (1, iRo M C)] 2
    (retM (.a [.o 2, .o 3]) [(2, bOwn (endS A C N M).g), (3, bOwn (endS A C N M).c)] 4) := by
  have hN1 : (beg N M).g.length = ((N : Int)).toNat := by simp [beg]
  have hN2 : (beg N M).c.length = ((M : Int)).toNat := by simp [beg]
  have hA1 : ∀ i, (beg N M).g.getD i false = false := fun i => by
    simp only [beg]; rw [List.getD_eq_getElem?_getD, List.getElem?_replicate]; split <;> rfl
  have hA2 : ∀ i, (beg N M).c.getD i false = false := fun i => by
    simp only [beg]; rw [List.getD_eq_getElem?_getD, List.getElem?_replicate]; split <;> rfl
  refine spec_intro (tab := tab) (N := 122) Try.func17 rfl rfl tab_ok mix rfl rfl _ rfl ?_
  intro B hG
  repeat' (first | refine Both.mk ?_ ?_ | refine And.intro (by first | (show (_ : Bool) = true; kernel_rfl) | omega | (dsimp only; omega) | decide | (repeat' (first | refine And.intro ?_ ?_ | exact trivial | exact rfl))) ?_ | refine bcs_dec (fun h => ?_) (fun h => False.elim (by first | omega | exact h rfl)) | refine bcs_dec (fun h => False.elim (by omega)) (fun h => ?_) | refine bcs_dec (fun h => ?_) (fun h => ?_) | refine bcs_ndec (fun h => ?_) (fun h => ?_) | refine bcs_not ?_ | refine And.intro ?_ ?_)
  refine reg_ord [] (.early 0 (.early 1 (.early 3 (.early 4 (.fork3 2 (.fork 5 (.fork 6 (.late 7 (.late 8 .nil)) 7 (.late 6 (.late 8 .nil))) 7 (.late 5 (.late 6 (.late 8 .nil)))) 5 (.fork 2 (.fork 6 (.late 7 (.late 8 .nil)) 7 (.late 6 (.late 8 .nil))) 7 (.late 2 (.late 6 (.late 8 .nil)))) 7 (.fork 2 (.late 5 (.late 6 (.late 8 .nil))) 5 (.late 2 (.late 6 (.late 8 .nil))))))))) (by decide +kernel) rfl ?_
  intro B' hB'
  have hG' := hG
  have hG := hB'.trans hG
  repeat' (first | refine Both.mk ?_ ?_ | refine And.intro (by first | (show (_ : Bool) = true; kernel_rfl) | omega | (dsimp only; omega) | decide | (repeat' (first | refine And.intro ?_ ?_ | exact trivial | exact rfl))) ?_ | refine bcs_dec (fun h => ?_) (fun h => False.elim (by first | omega | exact h rfl)) | refine bcs_dec (fun h => False.elim (by omega)) (fun h => ?_) | refine bcs_dec (fun h => ?_) (fun h => ?_) | refine bcs_ndec (fun h => ?_) (fun h => ?_) | refine bcs_not ?_ | refine And.intro ?_ ?_)
  all_goals first
    | omega
    | skip
  all_goals have hG := hG'
  all_goals
    skip
    repeat' (first | refine Both.mk ?_ ?_ | refine And.intro (by first | (show (_ : Bool) = true; kernel_rfl) | omega | (dsimp only; omega) | decide | (repeat' (first | refine And.intro ?_ ?_ | exact trivial | exact rfl))) ?_ | refine bcs_dec (fun h => ?_) (fun h => False.elim (by first | omega | exact h rfl)) | refine bcs_dec (fun h => False.elim (by omega)) (fun h => ?_) | refine bcs_dec (fun h => ?_) (fun h => ?_) | refine bcs_ndec (fun h => ?_) (fun h => ?_) | refine bcs_not ?_ | refine And.intro ?_ ?_)
    first
    | (refine loop_out (fun _ : Unit => mSt A C N M (endS A C N M)) _ (m_loop A C N M hN hM B hG _ _ _ [.at 2 0, .at 3 0, .at 4 0, .at 5 0, .at 6 0] ?_) ?_
       · (refine ⟨rfl, rfl, ?_, ?_⟩ <;> repeat' (first | refine And.intro ?_ ?_ | exact trivial | exact rfl | refine lt0 | refine lt1 ?_ | refine lt2 ?_ ?_ | refine lt3 ?_ ?_ ?_ | refine lt4 ?_ ?_ ?_ ?_ | exact veq_refl _ | decide | (intro i hi; repeat' (first | refine And.intro ?_ ?_ | exact trivial | exact rfl))))
         all_goals first | exact Nat.le_refl _ | omega | exact hN1 | exact hN2 | exact hA1 _ | exact hA2 _ | (simp; done) | (show @Eq Int _ _; omega))
    | (refine loop_out (fun _ : Unit => mSt A C N M (endS A C N M)) _ (m_loop A C N M hN hM B hG _ _ _ [.at 2 0, .at 3 0, .at 5 0, .at 4 0, .at 6 0] ?_) ?_
       · (refine ⟨rfl, rfl, ?_, ?_⟩ <;> repeat' (first | refine And.intro ?_ ?_ | exact trivial | exact rfl | refine lt0 | refine lt1 ?_ | refine lt2 ?_ ?_ | refine lt3 ?_ ?_ ?_ | refine lt4 ?_ ?_ ?_ ?_ | exact veq_refl _ | decide | (intro i hi; repeat' (first | refine And.intro ?_ ?_ | exact trivial | exact rfl))))
         all_goals first | exact Nat.le_refl _ | omega | exact hN1 | exact hN2 | exact hA1 _ | exact hA2 _ | (simp; done) | (show @Eq Int _ _; omega))
    | (refine loop_out (fun _ : Unit => mSt A C N M (endS A C N M)) _ (m_loop A C N M hN hM B hG _ _ _ [.at 2 0, .at 4 0, .at 3 0, .at 5 0, .at 6 0] ?_) ?_
       · (refine ⟨rfl, rfl, ?_, ?_⟩ <;> repeat' (first | refine And.intro ?_ ?_ | exact trivial | exact rfl | refine lt0 | refine lt1 ?_ | refine lt2 ?_ ?_ | refine lt3 ?_ ?_ ?_ | refine lt4 ?_ ?_ ?_ ?_ | exact veq_refl _ | decide | (intro i hi; repeat' (first | refine And.intro ?_ ?_ | exact trivial | exact rfl))))
         all_goals first | exact Nat.le_refl _ | omega | exact hN1 | exact hN2 | exact hA1 _ | exact hA2 _ | (simp; done) | (show @Eq Int _ _; omega))
    | (refine loop_out (fun _ : Unit => mSt A C N M (endS A C N M)) _ (m_loop A C N M hN hM B hG _ _ _ [.at 2 0, .at 4 0, .at 5 0, .at 3 0, .at 6 0] ?_) ?_
       · (refine ⟨rfl, rfl, ?_, ?_⟩ <;> repeat' (first | refine And.intro ?_ ?_ | exact trivial | exact rfl | refine lt0 | refine lt1 ?_ | refine lt2 ?_ ?_ | refine lt3 ?_ ?_ ?_ | refine lt4 ?_ ?_ ?_ ?_ | exact veq_refl _ | decide | (intro i hi; repeat' (first | refine And.intro ?_ ?_ | exact trivial | exact rfl))))
         all_goals first | exact Nat.le_refl _ | omega | exact hN1 | exact hN2 | exact hA1 _ | exact hA2 _ | (simp; done) | (show @Eq Int _ _; omega))
    | (refine loop_out (fun _ : Unit => mSt A C N M (endS A C N M)) _ (m_loop A C N M hN hM B hG _ _ _ [.at 2 0, .at 5 0, .at 3 0, .at 4 0, .at 6 0] ?_) ?_
       · (refine ⟨rfl, rfl, ?_, ?_⟩ <;> repeat' (first | refine And.intro ?_ ?_ | exact trivial | exact rfl | refine lt0 | refine lt1 ?_ | refine lt2 ?_ ?_ | refine lt3 ?_ ?_ ?_ | refine lt4 ?_ ?_ ?_ ?_ | exact veq_refl _ | decide | (intro i hi; repeat' (first | refine And.intro ?_ ?_ | exact trivial | exact rfl))))
         all_goals first | exact Nat.le_refl _ | omega | exact hN1 | exact hN2 | exact hA1 _ | exact hA2 _ | (simp; done) | (show @Eq Int _ _; omega))
    | (refine loop_out (fun _ : Unit => mSt A C N M (endS A C N M)) _ (m_loop A C N M hN hM B hG _ _ _ [.at 2 0, .at 5 0, .at 4 0, .at 3 0, .at 6 0] ?_) ?_
       · (refine ⟨rfl, rfl, ?_, ?_⟩ <;> repeat' (first | refine And.intro ?_ ?_ | exact trivial | exact rfl | refine lt0 | refine lt1 ?_ | refine lt2 ?_ ?_ | refine lt3 ?_ ?_ ?_ | refine lt4 ?_ ?_ ?_ ?_ | exact veq_refl _ | decide | (intro i hi; repeat' (first | refine And.intro ?_ ?_ | exact trivial | exact rfl))))
         all_goals first | exact Nat.le_refl _ | omega | exact hN1 | exact hN2 | exact hA1 _ | exact hA2 _ | (simp; done) | (show @Eq Int _ _; omega))
  all_goals
    intro _ _
    repeat' (first | refine Both.mk ?_ ?_ | refine And.intro (by first | (show (_ : Bool) = true; kernel_rfl) | omega | (dsimp only; omega) | decide | (repeat' (first | refine And.intro ?_ ?_ | exact trivial | exact rfl))) ?_ | refine bcs_dec (fun h => ?_) (fun h => False.elim (by first | omega | exact h rfl)) | refine bcs_dec (fun h => False.elim (by omega)) (fun h => ?_) | refine bcs_dec (fun h => ?_) (fun h => ?_) | refine bcs_ndec (fun h => ?_) (fun h => ?_) | refine bcs_not ?_ | refine And.intro ?_ ?_)
    refine ret_mem [.at 3 0, .at 4 0] rfl rfl ?_ ?_
    · repeat' (first | refine And.intro ?_ ?_ | exact trivial)
      all_goals exact rfl
    · repeat' (first | refine And.intro ?_ ?_ | exact trivial)
      all_goals first | exact rfl | (intro i hi; repeat' (first | refine And.intro ?_ ?_ | exact trivial | exact rfl | exact veq_refl _))
end Go.Proofs.Ytdabahipeepheaa
