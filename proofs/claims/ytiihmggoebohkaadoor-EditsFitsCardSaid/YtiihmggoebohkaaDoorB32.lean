/- Chapter 6: the law of scripts that fit, walked. -/
import Derived.Test.YtiihmggoebohkaaDoorB31
namespace Go.Proofs.YtiihmggoebohkaaDoor
open Go Go.RowKit Vc

set_option maxRecDepth 100000 in
set_option maxHeartbeats 4000000 in
theorem take_con {l : List (Int × Int)} {a b : List Int} (hl : l.length * 16 ≤ 140737488355328) (ha : a.length * 8 ≤ 140737488355328) (hb : b.length * 8 ≤ 140737488355328) :
    Con Tryd.prog glob 38 [.s 0 0 l.length, .s 1 0 a.length, .s 2 0 b.length] [(0, prRo l), (1, inRo a), (2, inRo b)] 3 (retM (.o 3) [(3, prOwn (eqF a b l 0 0))] 4) := by
  refine spec_intro (tab := tab) (N := 70) Tryd.func38 rfl rfl tab_ok mix rfl rfl _ rfl ?_
  intro B hG
  repeat' (first | refine And.intro (by first | omega | (dsimp only; omega) | (show (_ : Bool) = true; kernel_rfl) | decide | (repeat' (first | refine And.intro ?_ ?_ | exact trivial | exact rfl))) ?_ | refine bcs_dec (fun h => ?_) (fun h => ?_) | refine bcs_ndec (fun h => ?_) (fun h => ?_) | refine bcs_not ?_ | refine bcs_intro (fun h => ?_) (fun h => ?_) | refine And.intro ?_ ?_ | refine reg_tail (by kernel_rfl) ?_)
  refine loop_rule (α := Nat × Int × Int × List (Int × Int)) (fun (k, x, y, out) => ⟨[(0, .s 0 0 l.length), (1, .s 1 0 a.length), (2, .s 2 0 b.length), (7, .o 3), (8, .v (.int .i64 x)), (9, .v (.int .i64 y)), (10, .v (.int .i64 k))], [(0, prRo l), (1, inRo a), (2, inRo b), (3, prOwn out)], 4⟩)
    (fun (k, x, y, out) => k ≤ l.length ∧ 0 ≤ x ∧ x ≤ a.length ∧ 0 ≤ y ∧ y ≤ b.length ∧ out.length ≤ k ∧ out ++ eqF a b (l.drop k) x y = eqF a b l 0 0) (fun (k, x, y, out) => l.length - k) (0, 0, 0, []) [.nil 2] ?_ ?_ ?_
  · exact ⟨by omega, by omega, by omega, by omega, by omega, by simp, rfl⟩
  · (refine ⟨rfl, rfl, ?_, ?_⟩ <;> repeat' (first | refine And.intro ?_ ?_ | exact trivial | exact rfl | refine lt0 | refine lt1 ?_ | refine lt2 ?_ ?_ | refine lt3 ?_ ?_ ?_ | refine lt4 ?_ ?_ ?_ ?_ | exact veq_refl _ | decide | (intro i hi; repeat' (first | refine And.intro ?_ ?_ | exact trivial | exact rfl))))
    all_goals omega
  rintro ⟨k, x, y, out⟩ ⟨h1, h2, h3, h4, h5, h6, h7⟩
  have ek : 0 + (k : Int).toNat = k := by simp
  have hst : k < l.length → out ++ (if x ≤ (l.getD (0 + (k : Int).toNat) (0, 0)).1 ∧ (l.getD (0 + (k : Int).toNat) (0, 0)).1 < a.length ∧ y ≤ (l.getD (0 + (k : Int).toNat) (0, 0)).2 ∧ (l.getD (0 + (k : Int).toNat) (0, 0)).2 < b.length ∧ a.getD (0 + (l.getD (0 + (k : Int).toNat) (0, 0)).1.toNat) 0 = b.getD (0 + (l.getD (0 + (k : Int).toNat) (0, 0)).2.toNat) 0 then (l.getD (0 + (k : Int).toNat) (0, 0)) :: eqF a b (l.drop (k + 1)) ((l.getD (0 + (k : Int).toNat) (0, 0)).1 + 1) ((l.getD (0 + (k : Int).toNat) (0, 0)).2 + 1) else eqF a b (l.drop (k + 1)) x y) = eqF a b l 0 0 := fun h => by
    rw [← h7, ek]
    conv => rhs; rw [drop_get (0, 0) l k h]
    rfl
  repeat' (first | refine And.intro (by first | omega | (dsimp only; omega) | (show (_ : Bool) = true; kernel_rfl) | decide | (repeat' (first | refine And.intro ?_ ?_ | exact trivial | exact rfl))) ?_ | refine bcs_dec (fun h => ?_) (fun h => ?_) | refine bcs_ndec (fun h => ?_) (fun h => ?_) | refine bcs_not ?_ | refine bcs_intro (fun h => ?_) (fun h => ?_) | refine And.intro ?_ ?_ | refine reg_tail (by kernel_rfl) ?_)
  all_goals first
    | (refine app1 prEnc (0, 0) out (l.getD (0 + (k : Int).toNat) (0, 0)) rfl (by simp; rfl) ?_
       repeat' (first | refine And.intro (by first | omega | (dsimp only; omega) | (show (_ : Bool) = true; kernel_rfl) | decide | (repeat' (first | refine And.intro ?_ ?_ | exact trivial | exact rfl))) ?_ | refine bcs_dec (fun h => ?_) (fun h => ?_) | refine bcs_ndec (fun h => ?_) (fun h => ?_) | refine bcs_not ?_ | refine bcs_intro (fun h => ?_) (fun h => ?_) | refine And.intro ?_ ?_ | refine reg_tail (by kernel_rfl) ?_)
       refine ⟨(k + 1, (l.getD (0 + (k : Int).toNat) (0, 0)).1 + 1, (l.getD (0 + (k : Int).toNat) (0, 0)).2 + 1, out ++ [(l.getD (0 + (k : Int).toNat) (0, 0))]), [.at 6 0], ?_, ?_, ?_⟩
       · refine ⟨by omega, by omega, by omega, by omega, by omega, by rw [List.length_append]; simp only [List.length_singleton]; omega, ?_⟩
         rw [← hst (by omega), if_pos ⟨by omega, by omega, by omega, by omega, by assumption⟩, List.append_assoc]
         rfl
       · show l.length - (k + 1) < l.length - k
         omega
       · (refine ⟨rfl, rfl, ?_, ?_⟩ <;> repeat' (first | refine And.intro ?_ ?_ | exact trivial | exact rfl | refine lt0 | refine lt1 ?_ | refine lt2 ?_ ?_ | refine lt3 ?_ ?_ ?_ | refine lt4 ?_ ?_ ?_ ?_ | exact veq_refl _ | decide | (intro i hi; repeat' (first | refine And.intro ?_ ?_ | exact trivial | exact rfl))))
         all_goals first | omega | (simp; done)
       done)
    | (refine ⟨(k + 1, x, y, out), [.at 3 0], ?_, ?_, ?_⟩
       · refine ⟨by omega, by omega, by omega, by omega, by omega, by omega, ?_⟩
         rw [← hst (by omega), if_neg]
         rintro ⟨g1, g2, g3, g4, g5⟩
         first
           | omega
           | contradiction
       · show l.length - (k + 1) < l.length - k
         omega
       · (refine ⟨rfl, rfl, ?_, ?_⟩ <;> repeat' (first | refine And.intro ?_ ?_ | exact trivial | exact rfl | refine lt0 | refine lt1 ?_ | refine lt2 ?_ ?_ | refine lt3 ?_ ?_ ?_ | refine lt4 ?_ ?_ ?_ ?_ | exact veq_refl _ | decide | (intro i hi; repeat' (first | refine And.intro ?_ ?_ | exact trivial | exact rfl))))
         all_goals first | omega | (simp; done)
       done)
    | (have e : out = eqF a b l 0 0 := by
         rw [← h7, show l.drop k = [] from List.drop_of_length_le (by omega)]
         simp [eqF]
       subst e
       refine ret_mem [.at 3 0] rfl rfl ?_ ?_
       · repeat' (first | refine And.intro ?_ ?_ | exact trivial)
         all_goals exact rfl
       · repeat' (first | refine And.intro ?_ ?_ | exact trivial)
         · exact rfl
         · intro i hi
           repeat' (first | refine And.intro ?_ ?_ | exact trivial)
           all_goals exact rfl
       done)
    | trace_state
end Go.Proofs.YtiihmggoebohkaaDoor
