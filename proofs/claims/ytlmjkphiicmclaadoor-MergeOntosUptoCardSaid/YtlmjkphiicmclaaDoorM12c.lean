/- Chapter 18: what stands behind a group in the document's loop of Chunks: walked (with one). Printed by gen_m12.py. -/
import Derived.Test.YtlmjkphiicmclaaDoorM12a
import Derived.Test.YtlmjkphiicmclaaDoorM9b
namespace Go.Proofs.YtlmjkphiicmclaaDoor
open Go Go.RowKit Vc

set_option maxRecDepth 100000 in
set_option maxHeartbeats 64000000 in
theorem restC_ok (P Q : List Chg) (b m y : List Byt) (f z : Int) (out : List Chk) (i j x w : Nat) (tw : Int) (B : Bs) (hG : B.glob = glob) (hbl : b.length ≤ 4194304) (hml : m.length ≤ 4194304) (hyl : y.length ≤ 4194304) (c4 : out.length ≤ 100000000)
    (cSx : Con Tryd.prog glob 31 [.s 0 0 P.length, .v (.int .i64 i)] [(0, chRo P)] 1 (retV 1 (.v (.int .i64 (shiftF P i))))) (cSy : Con Tryd.prog glob 31 [.s 0 0 Q.length, .v (.int .i64 j)] [(0, chRo Q)] 1 (retV 1 (.v (.int .i64 (shiftF Q j)))))
    (cTx : Con Tryd.prog glob 31 [.s 0 0 P.length, .v (.int .i64 x)] [(0, chRo P)] 1 (retV 1 (.v (.int .i64 (shiftF P x))))) (cTy : Con Tryd.prog glob 31 [.s 0 0 Q.length, .v (.int .i64 w)] [(0, chRo Q)] 1 (retV 1 (.v (.int .i64 (shiftF Q w)))))
    (hx : i ≤ x ∧ x ≤ P.length ∧ j ≤ w ∧ w ≤ Q.length) (r1 : 0 ≤ z ∧ 0 ≤ z + shiftF P i ∧ z + shiftF P i ≤ m.length ∧ 0 ≤ z + shiftF Q j ∧ z + shiftF Q j ≤ y.length ∧ z ≤ f)
    (r2 : f ≤ tw ∧ tw ≤ b.length ∧ 0 ≤ f + shiftF P i ∧ f + shiftF P i ≤ tw + shiftF P x ∧ tw + shiftF P x ≤ m.length ∧ 0 ≤ f + shiftF Q j ∧ f + shiftF Q j ≤ tw + shiftF Q w ∧ tw + shiftF Q w ≤ y.length) (hc : f > z)
    (K : St → Prop) (E : Nat → St → Prop) (R : St → Prop)
    (hK : ∀ (kd : Int) (s' : St) (new : List Kp), kindC m y (P.drop i) (Q.drop j) f (shiftF P i) (shiftF Q j) ⟨P.drop x, Q.drop w, tw, shiftF P x, shiftF Q w⟩ = kd → Sub 5 new s' (rSta P Q b m y x w tw ((out ++ [⟨1, z, z + shiftF P i, z + shiftF Q j, f - z, f - z, f - z⟩]) ++ [⟨kd, f, f + shiftF P i, f + shiftF Q j, tw - f, tw + shiftF P x - (f + shiftF P i), tw + shiftF Q w - (f + shiftF Q j)⟩])) → K s') :
    vcCode ⟨Tryd.prog, tab, B, 295, 5⟩ (restOf 2 Tryd.f13) ⟨(112, .v (.bool false)) :: (112, .v (.bool false)) :: (rGrp P Q b m y i j z out f x w tw false).fr, (rGrp P Q b m y i j z out f x w tw false).mem, 8⟩ K E R := by
  obtain ⟨g1, g2, g3, g4⟩ := hx
  obtain ⟨t1, t2, t3, t4, t5, t6⟩ := r1
  obtain ⟨u1, u2, u3, u4, u5, u6, u7, u8⟩ := r2
  have lx : (P.drop i).length = P.length - i := List.length_drop
  have ly : (Q.drop j).length = Q.length - j := List.length_drop
  have lx' : (P.drop x).length = P.length - x := List.length_drop
  have ly' : (Q.drop w).length = Q.length - w := List.length_drop
  have s1 := seg_len m (show 0 ≤ f + shiftF P i by omega) (show f + shiftF P i ≤ tw + shiftF P x by omega) (by omega)
  have s2 := seg_len y (show 0 ≤ f + shiftF Q j by omega) (show f + shiftF Q j ≤ tw + shiftF Q w by omega) (by omega)
  have cE := sameG_con (segL m (f + shiftF P i) (tw + shiftF P x)) (segL y (f + shiftF Q j) (tw + shiftF Q w)) (fun k => m.getD (k + (f + shiftF P i).toNat) []) (fun k => y.getD (k + (f + shiftF Q j).toNat) []) (by omega)
    (seg_row m (by omega) (by omega) (by omega)) (seg_row y (by omega) (by omega) (by omega))
  rw [s1, s2] at cE
  clear s1 s2
  repeat' (first | refine And.intro (by first | (show (_ : Bool) = true; kernel_rfl) | omega | (dsimp only; omega) | decide | (repeat' (first | refine And.intro ?_ ?_ | exact trivial | exact rfl))) ?_ | refine bcs_dec (fun h => ?_) (fun h => False.elim (by first | omega | exact h rfl)) | refine bcs_dec (fun h => False.elim (by omega)) (fun h => ?_) | refine bcs_dec (fun h => ?_) (fun h => ?_) | refine bcs_ndec (fun h => ?_) (fun h => ?_) | refine bcs_not ?_ | refine bcs_intro (fun h => ?_) (fun h => ?_) | refine And.intro ?_ ?_ | refine reg_tail (by kernel_rfl) ?_)
  all_goals first
    | omega
    | skip
  refine call_rule [.at 5 0] (cSx) hG ?_ ?_
  · (refine ⟨?_, ?_, rfl, rfl, rfl⟩ <;> repeat' (first | refine And.intro ?_ ?_ | exact trivial | exact rfl | refine lt0 | refine lt1 ?_ | refine lt2 ?_ ?_ | refine lt3 ?_ ?_ ?_ | refine lt4 ?_ ?_ ?_ ?_ | exact veq_refl _ | decide | (intro i hi; repeat' (first | refine And.intro ?_ ?_ | exact trivial | exact rfl))))
    all_goals first | exact Nat.le_refl _ | omega
  rintro _ _ _ ⟨rfl, rfl, rfl⟩
  repeat' (first | refine And.intro (by first | (show (_ : Bool) = true; kernel_rfl) | omega | (dsimp only; omega) | decide | (repeat' (first | refine And.intro ?_ ?_ | exact trivial | exact rfl))) ?_ | refine bcs_dec (fun h => ?_) (fun h => False.elim (by first | omega | exact h rfl)) | refine bcs_dec (fun h => False.elim (by omega)) (fun h => ?_) | refine bcs_dec (fun h => ?_) (fun h => ?_) | refine bcs_ndec (fun h => ?_) (fun h => ?_) | refine bcs_not ?_ | refine bcs_intro (fun h => ?_) (fun h => ?_) | refine And.intro ?_ ?_ | refine reg_tail (by kernel_rfl) ?_)
  refine call_rule [.at 6 0] (cSy) hG ?_ ?_
  · (refine ⟨?_, ?_, rfl, rfl, rfl⟩ <;> repeat' (first | refine And.intro ?_ ?_ | exact trivial | exact rfl | refine lt0 | refine lt1 ?_ | refine lt2 ?_ ?_ | refine lt3 ?_ ?_ ?_ | refine lt4 ?_ ?_ ?_ ?_ | exact veq_refl _ | decide | (intro i hi; repeat' (first | refine And.intro ?_ ?_ | exact trivial | exact rfl))))
    all_goals first | exact Nat.le_refl _ | omega
  rintro _ _ _ ⟨rfl, rfl, rfl⟩
  repeat' (first | refine And.intro (by first | (show (_ : Bool) = true; kernel_rfl) | omega | (dsimp only; omega) | decide | (repeat' (first | refine And.intro ?_ ?_ | exact trivial | exact rfl))) ?_ | refine bcs_dec (fun h => ?_) (fun h => False.elim (by first | omega | exact h rfl)) | refine bcs_dec (fun h => False.elim (by omega)) (fun h => ?_) | refine bcs_dec (fun h => ?_) (fun h => ?_) | refine bcs_ndec (fun h => ?_) (fun h => ?_) | refine bcs_not ?_ | refine bcs_intro (fun h => ?_) (fun h => ?_) | refine And.intro ?_ ?_ | refine reg_tail (by kernel_rfl) ?_)
  refine app1 ckEnc Chk.d out ⟨1, z, z + shiftF P i, z + shiftF Q j, f - z, f - z, f - z⟩ rfl rfl ?_
  repeat' (first | refine And.intro (by first | (show (_ : Bool) = true; kernel_rfl) | omega | (dsimp only; omega) | decide | (repeat' (first | refine And.intro ?_ ?_ | exact trivial | exact rfl))) ?_ | refine bcs_dec (fun h => ?_) (fun h => False.elim (by first | omega | exact h rfl)) | refine bcs_dec (fun h => False.elim (by omega)) (fun h => ?_) | refine bcs_dec (fun h => ?_) (fun h => ?_) | refine bcs_ndec (fun h => ?_) (fun h => ?_) | refine bcs_not ?_ | refine bcs_intro (fun h => ?_) (fun h => ?_) | refine And.intro ?_ ?_ | refine reg_tail (by kernel_rfl) ?_)
  refine call_rule [.at 5 0] (cSx) hG ?_ ?_
  · (refine ⟨?_, ?_, rfl, rfl, rfl⟩ <;> repeat' (first | refine And.intro ?_ ?_ | exact trivial | exact rfl | refine lt0 | refine lt1 ?_ | refine lt2 ?_ ?_ | refine lt3 ?_ ?_ ?_ | refine lt4 ?_ ?_ ?_ ?_ | exact veq_refl _ | decide | (intro i hi; repeat' (first | refine And.intro ?_ ?_ | exact trivial | exact rfl))))
    all_goals first | exact Nat.le_refl _ | omega
  rintro _ _ _ ⟨rfl, rfl, rfl⟩
  repeat' (first | refine And.intro (by first | (show (_ : Bool) = true; kernel_rfl) | omega | (dsimp only; omega) | decide | (repeat' (first | refine And.intro ?_ ?_ | exact trivial | exact rfl))) ?_ | refine bcs_dec (fun h => ?_) (fun h => False.elim (by first | omega | exact h rfl)) | refine bcs_dec (fun h => False.elim (by omega)) (fun h => ?_) | refine bcs_dec (fun h => ?_) (fun h => ?_) | refine bcs_ndec (fun h => ?_) (fun h => ?_) | refine bcs_not ?_ | refine bcs_intro (fun h => ?_) (fun h => ?_) | refine And.intro ?_ ?_ | refine reg_tail (by kernel_rfl) ?_)
  refine call_rule [.at 6 0] (cSy) hG ?_ ?_
  · (refine ⟨?_, ?_, rfl, rfl, rfl⟩ <;> repeat' (first | refine And.intro ?_ ?_ | exact trivial | exact rfl | refine lt0 | refine lt1 ?_ | refine lt2 ?_ ?_ | refine lt3 ?_ ?_ ?_ | refine lt4 ?_ ?_ ?_ ?_ | exact veq_refl _ | decide | (intro i hi; repeat' (first | refine And.intro ?_ ?_ | exact trivial | exact rfl))))
    all_goals first | exact Nat.le_refl _ | omega
  rintro _ _ _ ⟨rfl, rfl, rfl⟩
  repeat' (first | refine Both.mk ?_ ?_ | refine And.intro (by first | (show (_ : Bool) = true; kernel_rfl) | omega | (dsimp only; omega) | decide | (repeat' (first | refine And.intro ?_ ?_ | exact trivial | exact rfl))) ?_ | refine bcs_dec (fun h => ?_) (fun h => False.elim (by first | omega | exact h rfl)) | refine bcs_dec (fun h => False.elim (by omega)) (fun h => ?_) | refine bcs_dec (fun h => ?_) (fun h => ?_) | refine bcs_ndec (fun h => ?_) (fun h => ?_) | refine bcs_not ?_ | refine And.intro ?_ ?_)
  refine reg_ord [] (.early 0 (.early 1 (.early 2 (.early 5 (.fork 3 (.early 4 (.late 6 (.late 7 (.late 8 (.late 9 .nil))))) 6 (.late 3 (.late 4 (.late 7 (.late 8 (.late 9 .nil)))))))))) (by decide +kernel) rfl ?_
  intro B' hB'
  have hG' := hG
  have hG := hB'.trans hG
  repeat' (first | refine Both.mk ?_ ?_ | refine And.intro (by first | (show (_ : Bool) = true; kernel_rfl) | omega | (dsimp only; omega) | decide | (repeat' (first | refine And.intro ?_ ?_ | exact trivial | exact rfl))) ?_ | refine bcs_dec (fun h => ?_) (fun h => False.elim (by first | omega | exact h rfl)) | refine bcs_dec (fun h => False.elim (by omega)) (fun h => ?_) | refine bcs_dec (fun h => ?_) (fun h => ?_) | refine bcs_ndec (fun h => ?_) (fun h => ?_) | refine bcs_not ?_ | refine And.intro ?_ ?_)
  all_goals
    skip
    refine call_rule [.at 5 0] (cTx) hG ?_ ?_
    · (refine ⟨?_, ?_, rfl, rfl, rfl⟩ <;> repeat' (first | refine And.intro ?_ ?_ | exact trivial | exact rfl | refine lt0 | refine lt1 ?_ | refine lt2 ?_ ?_ | refine lt3 ?_ ?_ ?_ | refine lt4 ?_ ?_ ?_ ?_ | exact veq_refl _ | decide | (intro i hi; repeat' (first | refine And.intro ?_ ?_ | exact trivial | exact rfl))))
      all_goals first | exact Nat.le_refl _ | omega
    rintro _ _ _ ⟨rfl, rfl, rfl⟩
    repeat' (first | refine Both.mk ?_ ?_ | refine And.intro (by first | (show (_ : Bool) = true; kernel_rfl) | omega | (dsimp only; omega) | decide | (repeat' (first | refine And.intro ?_ ?_ | exact trivial | exact rfl))) ?_ | refine bcs_dec (fun h => ?_) (fun h => False.elim (by first | omega | exact h rfl)) | refine bcs_dec (fun h => False.elim (by omega)) (fun h => ?_) | refine bcs_dec (fun h => ?_) (fun h => ?_) | refine bcs_ndec (fun h => ?_) (fun h => ?_) | refine bcs_not ?_ | refine And.intro ?_ ?_)
    all_goals have hG := hG'
  all_goals
    skip
    refine reg_ord [] (.early 0 (.early 1 (.early 2 (.early 5 (.fork 3 (.early 4 (.late 6 (.late 7 (.late 8 (.late 9 .nil))))) 6 (.late 3 (.late 4 (.late 7 (.late 8 (.late 9 .nil)))))))))) (by decide +kernel) rfl ?_
    intro B' hB'
    have hG' := hG
    have hG := hB'.trans hG
    repeat' (first | refine Both.mk ?_ ?_ | refine And.intro (by first | (show (_ : Bool) = true; kernel_rfl) | omega | (dsimp only; omega) | decide | (repeat' (first | refine And.intro ?_ ?_ | exact trivial | exact rfl))) ?_ | refine bcs_dec (fun h => ?_) (fun h => False.elim (by first | omega | exact h rfl)) | refine bcs_dec (fun h => False.elim (by omega)) (fun h => ?_) | refine bcs_dec (fun h => ?_) (fun h => ?_) | refine bcs_ndec (fun h => ?_) (fun h => ?_) | refine bcs_not ?_ | refine And.intro ?_ ?_)
    all_goals
      skip
      refine call_rule [.at 6 0] (cTy) hG ?_ ?_
      · (refine ⟨?_, ?_, rfl, rfl, rfl⟩ <;> repeat' (first | refine And.intro ?_ ?_ | exact trivial | exact rfl | refine lt0 | refine lt1 ?_ | refine lt2 ?_ ?_ | refine lt3 ?_ ?_ ?_ | refine lt4 ?_ ?_ ?_ ?_ | exact veq_refl _ | decide | (intro i hi; repeat' (first | refine And.intro ?_ ?_ | exact trivial | exact rfl))))
        all_goals first | exact Nat.le_refl _ | omega
      rintro _ _ _ ⟨rfl, rfl, rfl⟩
      repeat' (first | refine Both.mk ?_ ?_ | refine And.intro (by first | (show (_ : Bool) = true; kernel_rfl) | omega | (dsimp only; omega) | decide | (repeat' (first | refine And.intro ?_ ?_ | exact trivial | exact rfl))) ?_ | refine bcs_dec (fun h => ?_) (fun h => False.elim (by first | omega | exact h rfl)) | refine bcs_dec (fun h => False.elim (by omega)) (fun h => ?_) | refine bcs_dec (fun h => ?_) (fun h => ?_) | refine bcs_ndec (fun h => ?_) (fun h => ?_) | refine bcs_not ?_ | refine And.intro ?_ ?_)
      all_goals have hG := hG'
  all_goals first
    | (have hj : w = j := by omega
       repeat' (first | refine And.intro (by first | (show (_ : Bool) = true; kernel_rfl) | omega | (dsimp only; omega) | decide | (repeat' (first | refine And.intro ?_ ?_ | exact trivial | exact rfl))) ?_ | refine bcs_dec (fun h => ?_) (fun h => False.elim (by first | omega | exact h rfl)) | refine bcs_dec (fun h => False.elim (by omega)) (fun h => ?_) | refine bcs_dec (fun h => ?_) (fun h => ?_) | refine bcs_ndec (fun h => ?_) (fun h => ?_) | refine bcs_not ?_ | refine bcs_intro (fun h => ?_) (fun h => ?_) | refine And.intro ?_ ?_ | refine reg_tail (by kernel_rfl) ?_)
       all_goals first
         | omega
         | skip
       refine app1 ckEnc Chk.d (out ++ [⟨1, z, z + shiftF P i, z + shiftF Q j, f - z, f - z, f - z⟩]) ⟨2, f, f + shiftF P i, f + shiftF Q j, tw - f, tw + shiftF P x - (f + shiftF P i), tw + shiftF Q w - (f + shiftF Q j)⟩ ?_ ?_ ?_
       · simp
       · rfl
       repeat' (first | refine And.intro (by first | (show (_ : Bool) = true; kernel_rfl) | omega | (dsimp only; omega) | decide | (repeat' (first | refine And.intro ?_ ?_ | exact trivial | exact rfl))) ?_ | refine bcs_dec (fun h => ?_) (fun h => False.elim (by first | omega | exact h rfl)) | refine bcs_dec (fun h => False.elim (by omega)) (fun h => ?_) | refine bcs_dec (fun h => ?_) (fun h => ?_) | refine bcs_ndec (fun h => ?_) (fun h => ?_) | refine bcs_not ?_ | refine bcs_intro (fun h => ?_) (fun h => ?_) | refine And.intro ?_ ?_ | refine reg_tail (by kernel_rfl) ?_)
       refine hK 2 _ [.at 5 0, .at 6 0, .at 12 0] (if_pos (by rw [hj])) ?_
       (refine ⟨rfl, rfl, ?_, ?_⟩ <;> repeat' (first | refine And.intro ?_ ?_ | exact trivial | exact rfl | refine lt0 | refine lt1 ?_ | refine lt2 ?_ ?_ | refine lt3 ?_ ?_ ?_ | refine lt4 ?_ ?_ ?_ ?_ | exact veq_refl _ | decide | (intro i hi; repeat' (first | refine And.intro ?_ ?_ | exact trivial | exact rfl))))
       all_goals first | exact Nat.le_refl _ | omega | exact veq_refl _ | (simp; done) | skip)
    | (have hj : ¬ w = j := by omega
       have hi : x = i := by omega
       have hq : ¬ (Q.drop w).length = (Q.drop j).length := by rw [ly, ly']; omega
       repeat' (first | refine And.intro (by first | (show (_ : Bool) = true; kernel_rfl) | omega | (dsimp only; omega) | decide | (repeat' (first | refine And.intro ?_ ?_ | exact trivial | exact rfl))) ?_ | refine bcs_dec (fun h => ?_) (fun h => False.elim (by first | omega | exact h rfl)) | refine bcs_dec (fun h => False.elim (by omega)) (fun h => ?_) | refine bcs_dec (fun h => ?_) (fun h => ?_) | refine bcs_ndec (fun h => ?_) (fun h => ?_) | refine bcs_not ?_ | refine bcs_intro (fun h => ?_) (fun h => ?_) | refine And.intro ?_ ?_ | refine reg_tail (by kernel_rfl) ?_)
       all_goals first
         | omega
         | skip
       refine app1 ckEnc Chk.d (out ++ [⟨1, z, z + shiftF P i, z + shiftF Q j, f - z, f - z, f - z⟩]) ⟨3, f, f + shiftF P i, f + shiftF Q j, tw - f, tw + shiftF P x - (f + shiftF P i), tw + shiftF Q w - (f + shiftF Q j)⟩ ?_ ?_ ?_
       · simp
       · rfl
       repeat' (first | refine And.intro (by first | (show (_ : Bool) = true; kernel_rfl) | omega | (dsimp only; omega) | decide | (repeat' (first | refine And.intro ?_ ?_ | exact trivial | exact rfl))) ?_ | refine bcs_dec (fun h => ?_) (fun h => False.elim (by first | omega | exact h rfl)) | refine bcs_dec (fun h => False.elim (by omega)) (fun h => ?_) | refine bcs_dec (fun h => ?_) (fun h => ?_) | refine bcs_ndec (fun h => ?_) (fun h => ?_) | refine bcs_not ?_ | refine bcs_intro (fun h => ?_) (fun h => ?_) | refine And.intro ?_ ?_ | refine reg_tail (by kernel_rfl) ?_)
       refine hK 3 _ [.at 5 0, .at 6 0, .at 12 0] (by unfold kindC; rw [if_neg hq]; exact if_pos (by rw [hi])) ?_
       (refine ⟨rfl, rfl, ?_, ?_⟩ <;> repeat' (first | refine And.intro ?_ ?_ | exact trivial | exact rfl | refine lt0 | refine lt1 ?_ | refine lt2 ?_ ?_ | refine lt3 ?_ ?_ ?_ | refine lt4 ?_ ?_ ?_ ?_ | exact veq_refl _ | decide | (intro i hi; repeat' (first | refine And.intro ?_ ?_ | exact trivial | exact rfl))))
       all_goals first | exact Nat.le_refl _ | omega | exact veq_refl _ | (simp; done) | skip)
    | (have hj : ¬ w = j := by omega
       have hi : ¬ x = i := by omega
       have hq : ¬ (Q.drop w).length = (Q.drop j).length := by rw [ly, ly']; omega
       have hp : ¬ (P.drop x).length = (P.drop i).length := by rw [lx, lx']; omega
       by_cases hE : segL m (f + shiftF P i) (tw + shiftF P x) = segL y (f + shiftF Q j) (tw + shiftF Q w)
       · rw [decide_eq_true hE] at cE
         repeat' (first | refine And.intro (by first | (show (_ : Bool) = true; kernel_rfl) | omega | (dsimp only; omega) | decide | (repeat' (first | refine And.intro ?_ ?_ | exact trivial | exact rfl))) ?_ | refine bcs_dec (fun h => ?_) (fun h => False.elim (by first | omega | exact h rfl)) | refine bcs_dec (fun h => False.elim (by omega)) (fun h => ?_) | refine bcs_dec (fun h => ?_) (fun h => ?_) | refine bcs_ndec (fun h => ?_) (fun h => ?_) | refine bcs_not ?_ | refine bcs_intro (fun h => ?_) (fun h => ?_) | refine And.intro ?_ ?_ | refine reg_tail (by kernel_rfl) ?_)
         all_goals first
           | omega
           | skip
         refine call_rule [.at 3 (f + shiftF P i).toNat, .at 4 (f + shiftF Q j).toNat] (cE) hG ?_ ?_
         · (refine ⟨?_, ?_, rfl, rfl, rfl⟩ <;> repeat' (first | refine And.intro ?_ ?_ | exact trivial | exact rfl | refine lt0 | refine lt1 ?_ | refine lt2 ?_ ?_ | refine lt3 ?_ ?_ ?_ | refine lt4 ?_ ?_ ?_ ?_ | exact veq_refl _ | decide | (intro i hi; repeat' (first | refine And.intro ?_ ?_ | exact trivial | exact rfl))))
           all_goals first | exact Nat.le_refl _ | omega
         rintro _ _ _ ⟨rfl, rfl, rfl⟩
         repeat' (first | refine And.intro (by first | (show (_ : Bool) = true; kernel_rfl) | omega | (dsimp only; omega) | decide | (repeat' (first | refine And.intro ?_ ?_ | exact trivial | exact rfl))) ?_ | refine bcs_dec (fun h => ?_) (fun h => False.elim (by first | omega | exact h rfl)) | refine bcs_dec (fun h => False.elim (by omega)) (fun h => ?_) | refine bcs_dec (fun h => ?_) (fun h => ?_) | refine bcs_ndec (fun h => ?_) (fun h => ?_) | refine bcs_not ?_ | refine bcs_intro (fun h => ?_) (fun h => ?_) | refine And.intro ?_ ?_ | refine reg_tail (by kernel_rfl) ?_)
         refine app1 ckEnc Chk.d (out ++ [⟨1, z, z + shiftF P i, z + shiftF Q j, f - z, f - z, f - z⟩]) ⟨4, f, f + shiftF P i, f + shiftF Q j, tw - f, tw + shiftF P x - (f + shiftF P i), tw + shiftF Q w - (f + shiftF Q j)⟩ ?_ ?_ ?_
         · simp
         · rfl
         repeat' (first | refine And.intro (by first | (show (_ : Bool) = true; kernel_rfl) | omega | (dsimp only; omega) | decide | (repeat' (first | refine And.intro ?_ ?_ | exact trivial | exact rfl))) ?_ | refine bcs_dec (fun h => ?_) (fun h => False.elim (by first | omega | exact h rfl)) | refine bcs_dec (fun h => False.elim (by omega)) (fun h => ?_) | refine bcs_dec (fun h => ?_) (fun h => ?_) | refine bcs_ndec (fun h => ?_) (fun h => ?_) | refine bcs_not ?_ | refine bcs_intro (fun h => ?_) (fun h => ?_) | refine And.intro ?_ ?_ | refine reg_tail (by kernel_rfl) ?_)
         refine hK 4 _ [.at 5 0, .at 6 0, .at 12 0] (by unfold kindC; rw [if_neg hq, if_neg hp]; exact if_pos hE) ?_
         (refine ⟨rfl, rfl, ?_, ?_⟩ <;> repeat' (first | refine And.intro ?_ ?_ | exact trivial | exact rfl | refine lt0 | refine lt1 ?_ | refine lt2 ?_ ?_ | refine lt3 ?_ ?_ ?_ | refine lt4 ?_ ?_ ?_ ?_ | exact veq_refl _ | decide | (intro i hi; repeat' (first | refine And.intro ?_ ?_ | exact trivial | exact rfl))))
         all_goals first | exact Nat.le_refl _ | omega | exact veq_refl _ | (simp; done) | skip
       · rw [decide_eq_false hE] at cE
         repeat' (first | refine And.intro (by first | (show (_ : Bool) = true; kernel_rfl) | omega | (dsimp only; omega) | decide | (repeat' (first | refine And.intro ?_ ?_ | exact trivial | exact rfl))) ?_ | refine bcs_dec (fun h => ?_) (fun h => False.elim (by first | omega | exact h rfl)) | refine bcs_dec (fun h => False.elim (by omega)) (fun h => ?_) | refine bcs_dec (fun h => ?_) (fun h => ?_) | refine bcs_ndec (fun h => ?_) (fun h => ?_) | refine bcs_not ?_ | refine bcs_intro (fun h => ?_) (fun h => ?_) | refine And.intro ?_ ?_ | refine reg_tail (by kernel_rfl) ?_)
         all_goals first
           | omega
           | skip
         refine call_rule [.at 3 (f + shiftF P i).toNat, .at 4 (f + shiftF Q j).toNat] (cE) hG ?_ ?_
         · (refine ⟨?_, ?_, rfl, rfl, rfl⟩ <;> repeat' (first | refine And.intro ?_ ?_ | exact trivial | exact rfl | refine lt0 | refine lt1 ?_ | refine lt2 ?_ ?_ | refine lt3 ?_ ?_ ?_ | refine lt4 ?_ ?_ ?_ ?_ | exact veq_refl _ | decide | (intro i hi; repeat' (first | refine And.intro ?_ ?_ | exact trivial | exact rfl))))
           all_goals first | exact Nat.le_refl _ | omega
         rintro _ _ _ ⟨rfl, rfl, rfl⟩
         repeat' (first | refine And.intro (by first | (show (_ : Bool) = true; kernel_rfl) | omega | (dsimp only; omega) | decide | (repeat' (first | refine And.intro ?_ ?_ | exact trivial | exact rfl))) ?_ | refine bcs_dec (fun h => ?_) (fun h => False.elim (by first | omega | exact h rfl)) | refine bcs_dec (fun h => False.elim (by omega)) (fun h => ?_) | refine bcs_dec (fun h => ?_) (fun h => ?_) | refine bcs_ndec (fun h => ?_) (fun h => ?_) | refine bcs_not ?_ | refine bcs_intro (fun h => ?_) (fun h => ?_) | refine And.intro ?_ ?_ | refine reg_tail (by kernel_rfl) ?_)
         refine app1 ckEnc Chk.d (out ++ [⟨1, z, z + shiftF P i, z + shiftF Q j, f - z, f - z, f - z⟩]) ⟨5, f, f + shiftF P i, f + shiftF Q j, tw - f, tw + shiftF P x - (f + shiftF P i), tw + shiftF Q w - (f + shiftF Q j)⟩ ?_ ?_ ?_
         · simp
         · rfl
         repeat' (first | refine And.intro (by first | (show (_ : Bool) = true; kernel_rfl) | omega | (dsimp only; omega) | decide | (repeat' (first | refine And.intro ?_ ?_ | exact trivial | exact rfl))) ?_ | refine bcs_dec (fun h => ?_) (fun h => False.elim (by first | omega | exact h rfl)) | refine bcs_dec (fun h => False.elim (by omega)) (fun h => ?_) | refine bcs_dec (fun h => ?_) (fun h => ?_) | refine bcs_ndec (fun h => ?_) (fun h => ?_) | refine bcs_not ?_ | refine bcs_intro (fun h => ?_) (fun h => ?_) | refine And.intro ?_ ?_ | refine reg_tail (by kernel_rfl) ?_)
         refine hK 5 _ [.at 5 0, .at 6 0, .at 12 0] (by unfold kindC; rw [if_neg hq, if_neg hp]; exact if_neg hE) ?_
         (refine ⟨rfl, rfl, ?_, ?_⟩ <;> repeat' (first | refine And.intro ?_ ?_ | exact trivial | exact rfl | refine lt0 | refine lt1 ?_ | refine lt2 ?_ ?_ | refine lt3 ?_ ?_ ?_ | refine lt4 ?_ ?_ ?_ ?_ | exact veq_refl _ | decide | (intro i hi; repeat' (first | refine And.intro ?_ ?_ | exact trivial | exact rfl))))
         all_goals first | exact Nat.le_refl _ | omega | exact veq_refl _ | (simp; done) | skip)
end Go.Proofs.YtlmjkphiicmclaaDoor
