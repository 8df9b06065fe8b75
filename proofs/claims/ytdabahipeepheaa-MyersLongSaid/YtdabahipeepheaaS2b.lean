/- Chapter 7: the middle: along what is alike, from the end. -/
import Derived.Test.YtdabahipeepheaaS2
namespace Go.Proofs.Ytdabahipeepheaa
open Go Go.RowKit Vc

set_option maxRecDepth 100000 in
set_option maxHeartbeats 16000000 in
theorem slide_loop0 (A C : Nat → Int) (n m : Nat) (hn : n ≤ 1048576) (hm : m ≤ 1048576) (z : Nat) (odd h o : Int) (ho : o = 0) (p : Nat) (k : Int) (F R : List Int) (x y : Nat) (hx : x ≤ 4194304) (hy : y ≤ 4194304) (B : Bs) (E : Nat → St → Prop) (U : St → Prop) (s0 : St) (new0 : List Kp)
    (hs : Sub 2 new0 s0 (sSt A C n m z odd h o 3 2 p k F R x y 0)) :
    LoopP ⟨Try.prog, tab, B, 229, 2⟩ (loopOf 6 Try.f21) s0 (fun i s' => bif Nat.beq i 6 then (∃ (r : Nat) (new : List Kp), ((∀ e, e < r → gA A C n m (x + e) (y + e) = true) ∧ gA A C n m (x + r) (y + r) = false) ∧ Sub 2 new s' (sSt A C n m z odd h o 3 2 p k F R x y r)) else E i s') U := by
  refine loop_rule (α := Nat) (fun r => sSt A C n m z odd h o 3 2 p k F R x y r) (fun r => (∀ e, e < r → gA A C n m (x + e) (y + e) = true) ∧ r ≤ n) (fun r => n + 1 - r) 0 new0 ⟨fun e he => by omega, by omega⟩ hs ?_
  rintro r ⟨h1, h2⟩
  have e1 : (x : Int) + r < n → (0 + ((n : Int) - 1 - ((x : Int) + r)).toNat) = n - 1 - (x + r) := fun _ => by omega
  have e2 : (y : Int) + r < m → (0 + ((m : Int) - 1 - ((y : Int) + r)).toNat) = m - 1 - (y + r) := fun _ => by omega
  repeat' (first | refine And.intro (by first | omega | (dsimp only; omega) | (show (_ : Bool) = true; kernel_rfl) | decide | (repeat' (first | refine And.intro ?_ ?_ | exact trivial | exact rfl))) ?_ | refine bcs_dec (fun h => ?_) (fun h => False.elim (by first | omega | exact h rfl)) | refine bcs_dec (fun h => False.elim (by omega)) (fun h => ?_) | refine bcs_dec (fun h => ?_) (fun h => ?_) | refine bcs_ndec (fun h => ?_) (fun h => ?_) | refine bcs_not ?_ | refine bcs_intro (fun h => ?_) (fun h => ?_) | refine And.intro ?_ ?_ | refine reg_tail (by kernel_rfl) ?_)
  all_goals first
    | omega
    | (refine ⟨r + 1, [.at 2 0, .at 3 0, .at 4 0], ⟨fun e he => ?_, ?_⟩, ?_, ?_⟩
       · by_cases he' : e = r
         · subst he'
           refine gA_iff.2 ⟨by omega, by omega, ?_⟩
           rw [e1 (by omega), e2 (by omega)] at h
           exact h
         · exact h1 e (by omega)
       · omega
       · show n + 1 - (r + 1) < n + 1 - r
         omega
       · (refine ⟨rfl, rfl, ?_, ?_⟩ <;> repeat' (first | refine And.intro ?_ ?_ | exact trivial | exact rfl | refine lt0 | refine lt1 ?_ | refine lt2 ?_ ?_ | refine lt3 ?_ ?_ ?_ | refine lt4 ?_ ?_ ?_ ?_ | exact veq_refl _ | decide | (intro i hi; repeat' (first | refine And.intro ?_ ?_ | exact trivial | exact rfl))))
         all_goals first | omega | exact Nat.le_refl _
       done)
    | (refine ⟨r, [.at 2 0, .at 3 0, .at 4 0], ⟨h1, ?_⟩, ?_⟩
       · rw [Bool.eq_false_iff]
         intro hq
         have hq := gA_iff.1 hq
         first
           | omega
           | (rename_i hne _
              first
                | (rw [e1 (by omega), e2 (by omega)] at hne
                   exact hne hq.2.2)
                | (rw [e1 (by omega), e2 (by omega)] at h
                   exact h hq.2.2))
           | (rw [e1 (by omega), e2 (by omega)] at h
              exact h hq.2.2)
       · (refine ⟨rfl, rfl, ?_, ?_⟩ <;> repeat' (first | refine And.intro ?_ ?_ | exact trivial | exact rfl | refine lt0 | refine lt1 ?_ | refine lt2 ?_ ?_ | refine lt3 ?_ ?_ ?_ | refine lt4 ?_ ?_ ?_ ?_ | exact veq_refl _ | decide | (intro i hi; repeat' (first | refine And.intro ?_ ?_ | exact trivial | exact rfl))))
         all_goals first | omega | exact Nat.le_refl _
       done)
end Go.Proofs.Ytdabahipeepheaa
