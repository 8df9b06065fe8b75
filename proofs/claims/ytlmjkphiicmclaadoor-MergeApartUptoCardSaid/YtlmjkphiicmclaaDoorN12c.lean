/- Chapter 18: changes that do not meet never conflict: a change of yours' is made. Printed by gen_n12.py. -/
import Derived.Test.YtlmjkphiicmclaaDoorN12a
namespace Go.Proofs.YtlmjkphiicmclaaDoor
open Go Go.RowKit Vc

set_option maxRecDepth 100000 in
set_option maxHeartbeats 64000000 in
theorem apart_yours (s t p q : List Chg) (b m y lab : List Byt) (fmt n : Int) (u : Byt) (B : Bs) (hG : B.glob = glob) (hbl : b.length ≤ 4194304) (hml : m.length ≤ 4194304) (hyl : y.length ≤ 4194304) (lq : q.length ≤ 4194304) (i k : Nat) (z : Int) (out : List Byt)
    (c1 : i ≤ p.length) (c3 : apI b m y p q i k z out) (hm : k < q.length ∧ (i < p.length → ((q.getD (0 + (k : Int).toNat) Chg.d)).A ≤ ((p.getD (0 + (i : Int).toNat) Chg.d)).A)) (E : Nat → St → Prop) :
    vcCode ⟨Tryd.prog, tab, B, 199, 6⟩ (loopOf 0 Tryd.f9) (apSt s t p q b m y lab fmt n u (i, k, z, out)) (fun s' => ∃ y' new, (y'.1 ≤ p.length ∧ y'.2.1 ≤ q.length ∧ apI b m y p q y'.1 y'.2.1 y'.2.2.1 y'.2.2.2) ∧ p.length - y'.1 + (q.length - y'.2.1) < p.length - i + (q.length - k) ∧ Sub 6 new s' (apSt s t p q b m y lab fmt n u y')) E
      (RetP 6 tab [.tmp 2] (retV 6 (.v (.bool true)))) := by
  obtain ⟨g1, g2, g3⟩ := ap_len c3
  have eq : p.getD i Chg.d = (p.getD (0 + (i : Int).toNat) Chg.d) := by rw [Nat.zero_add]; rfl
  have ep : q.getD k Chg.d = (q.getD (0 + (k : Int).toNat) Chg.d) := by rw [Nat.zero_add]; rfl
  have fx := ap_fy c3 hm.1
  rw [ep] at fx
  obtain ⟨f1, f2, f3, f4, f5, f6⟩ := fx
  have gp := ap_gy c3 hm.1
  rw [ep, show q.getD (k + 1) Chg.d = q.getD (0 + ((k : Int) + 1).toNat) Chg.d by congr 1; omega] at gp
  obtain ⟨O1, hO1⟩ : ∃ O, O = out ++ segL b z ((q.getD (0 + (k : Int).toNat) Chg.d)).A := ⟨_, rfl⟩
  obtain ⟨O2, hO2⟩ : ∃ O, O = O1 ++ segL y ((q.getD (0 + (k : Int).toNat) Chg.d)).B (((q.getD (0 + (k : Int).toNat) Chg.d)).B + ((q.getD (0 + (k : Int).toNat) Chg.d)).M) := ⟨_, rfl⟩
  have sl1 := seg_len b g1 f1 (by omega)
  have sl2 := seg_len y f4 (show ((q.getD (0 + (k : Int).toNat) Chg.d)).B ≤ ((q.getD (0 + (k : Int).toNat) Chg.d)).B + ((q.getD (0 + (k : Int).toNat) Chg.d)).M by omega) f6
  have lO1 : out.length + (((q.getD (0 + (k : Int).toNat) Chg.d)).A.toNat - z.toNat) = O1.length := by rw [hO1, List.length_append, sl1]; omega
  have lO2 : O1.length + ((((q.getD (0 + (k : Int).toNat) Chg.d)).B + ((q.getD (0 + (k : Int).toNat) Chg.d)).M).toNat - ((q.getD (0 + (k : Int).toNat) Chg.d)).B.toNat) = O2.length := by rw [hO2, List.length_append, sl2]; omega
  have ay := ap_y c3 hm.1
  rw [ep, eq, ← hO1, ← hO2] at ay
  clear c3 ep eq
  obtain ⟨hm1, hm2⟩ := hm
  repeat' (first | refine Both.mk ?_ ?_ | refine And.intro (by first | (show (_ : Bool) = true; kernel_rfl) | omega | (dsimp only; omega) | decide | (repeat' (first | refine And.intro ?_ ?_ | exact trivial | exact rfl))) ?_ | refine bcs_dec (fun h => ?_) (fun h => False.elim (by first | omega | exact h rfl)) | refine bcs_dec (fun h => False.elim (by omega)) (fun h => ?_) | refine bcs_dec (fun h => ?_) (fun h => ?_) | refine bcs_ndec (fun h => ?_) (fun h => ?_) | refine bcs_not ?_ | refine And.intro ?_ ?_)
  all_goals first
    | omega
    | skip
  all_goals
    skip
    refine reg_ord [6] (.early 1 (.early 2 (.fork 0 (.late 3 (.late 4 (.late 5 .nil))) 3 (.late 0 (.late 4 (.late 5 .nil)))))) (by decide +kernel) rfl ?_
    intro B' hB'
    have hG' := hG
    have hG := hB'.trans hG
    repeat' (first | refine Both.mk ?_ ?_ | refine And.intro (by first | (show (_ : Bool) = true; kernel_rfl) | omega | (dsimp only; omega) | decide | (repeat' (first | refine And.intro ?_ ?_ | exact trivial | exact rfl))) ?_ | refine bcs_dec (fun h => ?_) (fun h => False.elim (by first | omega | exact h rfl)) | refine bcs_dec (fun h => False.elim (by omega)) (fun h => ?_) | refine bcs_dec (fun h => ?_) (fun h => ?_) | refine bcs_ndec (fun h => ?_) (fun h => ?_) | refine bcs_not ?_ | refine And.intro ?_ ?_)
    all_goals have hG := hG'
  all_goals
    skip
    repeat' (first | refine Both.mk ?_ ?_ | refine And.intro (by first | (show (_ : Bool) = true; kernel_rfl) | omega | (dsimp only; omega) | decide | (repeat' (first | refine And.intro ?_ ?_ | exact trivial | exact rfl))) ?_ | refine bcs_dec (fun h => ?_) (fun h => False.elim (by first | omega | exact h rfl)) | refine bcs_dec (fun h => False.elim (by omega)) (fun h => ?_) | refine bcs_dec (fun h => ?_) (fun h => ?_) | refine bcs_ndec (fun h => ?_) (fun h => ?_) | refine bcs_not ?_ | refine And.intro ?_ ?_)
    all_goals first
      | omega
      | skip
    all_goals first
      | (refine appL stEnc [] out b (r := segL b z ((q.getD (0 + (k : Int).toNat) Chg.d)).A) rfl hO1 (seg_rowL b (by omega)) ?_
         repeat' (first | refine And.intro (by first | (show (_ : Bool) = true; kernel_rfl) | omega | (dsimp only; omega) | decide | (repeat' (first | refine And.intro ?_ ?_ | exact trivial | exact rfl))) ?_ | refine bcs_dec (fun h => ?_) (fun h => False.elim (by first | omega | exact h rfl)) | refine bcs_dec (fun h => False.elim (by omega)) (fun h => ?_) | refine bcs_dec (fun h => ?_) (fun h => ?_) | refine bcs_ndec (fun h => ?_) (fun h => ?_) | refine bcs_not ?_ | refine bcs_intro (fun h => ?_) (fun h => ?_) | refine And.intro ?_ ?_ | refine reg_tail (by kernel_rfl) ?_)
         refine appL stEnc [] O1 y (r := segL y ((q.getD (0 + (k : Int).toNat) Chg.d)).B (((q.getD (0 + (k : Int).toNat) Chg.d)).B + ((q.getD (0 + (k : Int).toNat) Chg.d)).M)) lO1 hO2 (seg_rowL y (by omega)) ?_
         repeat' (first | refine And.intro (by first | (show (_ : Bool) = true; kernel_rfl) | omega | (dsimp only; omega) | decide | (repeat' (first | refine And.intro ?_ ?_ | exact trivial | exact rfl))) ?_ | refine bcs_dec (fun h => ?_) (fun h => False.elim (by first | omega | exact h rfl)) | refine bcs_dec (fun h => False.elim (by omega)) (fun h => ?_) | refine bcs_dec (fun h => ?_) (fun h => ?_) | refine bcs_ndec (fun h => ?_) (fun h => ?_) | refine bcs_not ?_ | refine bcs_intro (fun h => ?_) (fun h => ?_) | refine And.intro ?_ ?_ | refine reg_tail (by kernel_rfl) ?_)
         refine ⟨(i, k + 1, ((q.getD (0 + (k : Int).toNat) Chg.d)).A + ((q.getD (0 + (k : Int).toNat) Chg.d)).N, O2), [.at 6 0, .at 7 0, .at 8 0, .at 12 0], ?_, ?_, ?_⟩
         · dsimp only
           exact ⟨by omega, by omega, ay (fun _ => by omega)⟩
         · dsimp only
           omega
         · (refine ⟨rfl, rfl, ?_, ?_⟩ <;> repeat' (first | refine And.intro ?_ ?_ | exact trivial | exact rfl | refine lt0 | refine lt1 ?_ | refine lt2 ?_ ?_ | refine lt3 ?_ ?_ ?_ | refine lt4 ?_ ?_ ?_ ?_ | exact veq_refl _ | decide | (intro i hi; repeat' (first | refine And.intro ?_ ?_ | exact trivial | exact rfl))))
           all_goals first | exact Nat.le_refl _ | omega | exact veq_refl _ | skip)
      | (skip
         refine call_rule [] (works_con) hG ?_ ?_
         · (refine ⟨?_, ?_, rfl, rfl, rfl⟩ <;> repeat' (first | refine And.intro ?_ ?_ | exact trivial | exact rfl | refine lt0 | refine lt1 ?_ | refine lt2 ?_ ?_ | refine lt3 ?_ ?_ ?_ | refine lt4 ?_ ?_ ?_ ?_ | exact veq_refl _ | decide | (intro i hi; repeat' (first | refine And.intro ?_ ?_ | exact trivial | exact rfl))))
           all_goals first | exact Nat.le_refl _ | omega
         rintro _ _ _ ⟨rfl, rfl, rfl⟩
         repeat' (first | refine And.intro (by first | (show (_ : Bool) = true; kernel_rfl) | omega | (dsimp only; omega) | decide | (repeat' (first | refine And.intro ?_ ?_ | exact trivial | exact rfl))) ?_ | refine bcs_dec (fun h => ?_) (fun h => False.elim (by first | omega | exact h rfl)) | refine bcs_dec (fun h => False.elim (by omega)) (fun h => ?_) | refine bcs_dec (fun h => ?_) (fun h => ?_) | refine bcs_ndec (fun h => ?_) (fun h => ?_) | refine bcs_not ?_ | refine bcs_intro (fun h => ?_) (fun h => ?_) | refine And.intro ?_ ?_ | refine reg_tail (by kernel_rfl) ?_)
         refine ret_plain ?_
         exact rfl)
end Go.Proofs.YtlmjkphiicmclaaDoor
