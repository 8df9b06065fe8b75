/- Chapter 7: the middle: along what is alike. -/
import Derived.Test.YtdabahipeepheaaS1
namespace Go.Proofs.Ytdabahipeepheaa
open Go Go.RowKit Vc

/-- What stays in a round of 'snake': o is 1 ahead, 0 back. -/
def kFr (n m : Nat) (z : Nat) (odd h o : Int) (c d : Nat) (p : Nat) (k : Int) : List (Nat × SV) := [(0, .s 0 0 n), (1, .s 1 0 m), (8, .v (.int .i64 n)), (9, .v (.int .i64 m)), (10, .v (.int .i64 z)), (11, .o 2), (12, .o 3), (13, .v (.int .i64 odd)), (14, .v (.int .i64 h)), (16, .v (.int .i64 o)), (17, .s c 0 z), (18, .s d 0 z), (19, .v (.int .i64 k)), (44, .o 4), (45, .v (.int .i64 2)), (46, .v (.int .i64 p))]
def kMem (A B : Nat → Int) (n m : Nat) (F R : List Int) : Mem := [(0, iRo n A), (1, iRo m B), (2, iOwn F), (3, iOwn R), (4, .own 3 1 2 fun e => [.v (.int .i64 (1 - (e : Int)))])]
/-- .. along what is alike: from (x, y), r places on. -/
def sSt (A B : Nat → Int) (n m : Nat) (z : Nat) (odd h o : Int) (c d p : Nat) (k : Int) (F R : List Int) (x y r : Nat) : St :=
  ⟨(20, .v (.int .i64 ((x : Int) + r))) :: (21, .v (.int .i64 ((y : Int) + r))) :: (22, .v (.int .i64 x)) :: (23, .v (.int .i64 y)) :: kFr n m z odd h o c d p k, kMem A B n m F R, 5⟩

set_option maxRecDepth 100000 in
set_option maxHeartbeats 16000000 in
theorem slide_loop1 (A C : Nat → Int) (n m : Nat) (hn : n ≤ 1048576) (hm : m ≤ 1048576) (z : Nat) (odd h o : Int) (ho : o = 1) (p : Nat) (k : Int) (F R : List Int) (x y : Nat) (hx : x ≤ 4194304) (hy : y ≤ 4194304) (B : Bs) (E : Nat → St → Prop) (U : St → Prop) (s0 : St) (new0 : List Kp)
    (hs : Sub 2 new0 s0 (sSt A C n m z odd h o 2 3 p k F R x y 0)) :
    LoopP ⟨Try.prog, tab, B, 229, 2⟩ (loopOf 6 Try.f21) s0 (fun i s' => bif Nat.beq i 6 then (∃ (r : Nat) (new : List Kp), ((∀ e, e < r → fA A C n m (x + e) (y + e) = true) ∧ fA A C n m (x + r) (y + r) = false) ∧ Sub 2 new s' (sSt A C n m z odd h o 2 3 p k F R x y r)) else E i s') U := by
  refine loop_rule (α := Nat) (fun r => sSt A C n m z odd h o 2 3 p k F R x y r) (fun r => (∀ e, e < r → fA A C n m (x + e) (y + e) = true) ∧ r ≤ n) (fun r => n + 1 - r) 0 new0 ⟨fun e he => by omega, by omega⟩ hs ?_
  rintro r ⟨h1, h2⟩
  have e1 : (x : Int) + r < n → (0 + ((x : Int) + r).toNat) = x + r := fun _ => by omega
  have e2 : (y : Int) + r < m → (0 + ((y : Int) + r).toNat) = y + r := fun _ => by omega
  repeat' (first | refine And.intro (by first | omega | (dsimp only; omega) | (show (_ : Bool) = true; kernel_rfl) | decide | (repeat' (first | refine And.intro ?_ ?_ | exact trivial | exact rfl))) ?_ | refine bcs_dec (fun h => ?_) (fun h => False.elim (by first | omega | exact h rfl)) | refine bcs_dec (fun h => False.elim (by omega)) (fun h => ?_) | refine bcs_dec (fun h => ?_) (fun h => ?_) | refine bcs_ndec (fun h => ?_) (fun h => ?_) | refine bcs_not ?_ | refine bcs_intro (fun h => ?_) (fun h => ?_) | refine And.intro ?_ ?_ | refine reg_tail (by kernel_rfl) ?_)
  all_goals first
    | omega
    | (refine ⟨r + 1, [.at 2 0, .at 3 0, .at 4 0], ⟨fun e he => ?_, ?_⟩, ?_, ?_⟩
       · by_cases he' : e = r
         · subst he'
           refine fA_iff.2 ⟨by omega, by omega, ?_⟩
           rw [e1 (by omega), e2 (by omega)] at h
           exact h
         · exact h1 e (by omega)
       · omega
       · show n + 1 - (r + 1) < n + 1 - r
         omega
       · (refine ⟨rfl, rfl, ?_, ?_⟩ <;> repeat' (first | refine And.intro ?_ ?_ | exact trivial | exact rfl | refine lt0 | refine lt1 ?_ | refine lt2 ?_ ?_ | refine lt3 ?_ ?_ ?_ | refine lt4 ?_ ?_ ?_ ?_ | exact veq_refl _ | decide | (intro i hi; repeat' (first | refine And.intro ?_ ?_ | exact trivial | exact rfl))))
         all_goals first | omega | exact Nat.le_refl _
       done)
    | (refine ⟨r, [.at 2 0, .at 3 0, .at 4 0], ⟨h1, ?_⟩, ?_⟩
       · rw [Bool.eq_false_iff]
         intro hq
         have hq := fA_iff.1 hq
         first
           | omega
           | (rename_i hne _
              first
                | (rw [e1 (by omega), e2 (by omega)] at hne
                   exact hne hq.2.2)
                | (rw [e1 (by omega), e2 (by omega)] at h
                   exact h hq.2.2))
           | (rw [e1 (by omega), e2 (by omega)] at h
              exact h hq.2.2)
       · (refine ⟨rfl, rfl, ?_, ?_⟩ <;> repeat' (first | refine And.intro ?_ ?_ | exact trivial | exact rfl | refine lt0 | refine lt1 ?_ | refine lt2 ?_ ?_ | refine lt3 ?_ ?_ ?_ | refine lt4 ?_ ?_ ?_ ?_ | exact veq_refl _ | decide | (intro i hi; repeat' (first | refine And.intro ?_ ?_ | exact trivial | exact rfl))))
         all_goals first | omega | exact Nat.le_refl _
       done)
end Go.Proofs.Ytdabahipeepheaa
