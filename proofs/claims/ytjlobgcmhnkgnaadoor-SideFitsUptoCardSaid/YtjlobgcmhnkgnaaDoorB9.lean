/- Chapter 6: contracts: the document's script of the lines that stay; its normal scripts. -/
import Derived.Test.YtjlobgcmhnkgnaaDoorB8
namespace Go.Proofs.YtjlobgcmhnkgnaaDoor
open Go Go.RowKit Vc

def ofF : List (Int × Int) → Int → Int → Int → Int → List Chg → List Chg × Int
  | [], a, b, n, m, out => (if n > a ∨ m > b then out ++ [⟨a, n - a, b, m - b⟩] else out, 0)
  | (x, y) :: r, a, b, n, m, out => if x < a ∨ y < b ∨ x ≥ n ∨ y ≥ m then ([], 60) else ofF r (x + 1) (y + 1) n m (if x > a ∨ y > b then out ++ [⟨a, x - a, b, y - b⟩] else out)
def ofE (l : List (Int × Int)) (n m : Int) : List Chg × Int := if n < 0 ∨ n > 4194304 ∨ m < 0 ∨ m > 4194304 then ([], 1) else ofF l 0 0 n m []

theorem ofF_cons (p : Int × Int) (r : List (Int × Int)) (a b n m : Int) (out : List Chg) : ofF (p :: r) a b n m out = if p.1 < a ∨ p.2 < b ∨ p.1 ≥ n ∨ p.2 ≥ m then ([], 60) else ofF r (p.1 + 1) (p.2 + 1) n m (if p.1 > a ∨ p.2 > b then out ++ [⟨a, p.1 - a, b, p.2 - b⟩] else out) := by
  obtain ⟨x, y⟩ := p
  rfl

set_option maxRecDepth 100000 in
set_option maxHeartbeats 4000000 in
theorem ofR_con {l : List (Int × Int)} {n m : Int} (hs : l.length ≤ 9223372036854775807 - 1) : Con Tryd.prog glob 33 [.s 0 0 l.length, .v (.int .i64 n), .v (.int .i64 m)] [(0, prRo l)] 1
    (retM (.t [.o 1, .v (.int .i64 (ofE l n m).2)]) [(1, chOwn (ofE l n m).1)] 2) := by
  refine spec_intro (tab := tab) (N := 93) Tryd.func33 rfl rfl tab_ok mix rfl rfl _ rfl ?_
  intro B hG
  repeat' (first | refine And.intro (by first | omega | (dsimp only; omega) | (show (_ : Bool) = true; kernel_rfl) | decide | (repeat' (first | refine And.intro ?_ ?_ | exact trivial | exact rfl))) ?_ | refine bcs_dec (fun h => ?_) (fun h => ?_) | refine bcs_ndec (fun h => ?_) (fun h => ?_) | refine bcs_not ?_ | refine bcs_intro (fun h => ?_) (fun h => ?_) | refine And.intro ?_ ?_ | refine reg_tail (by kernel_rfl) ?_)
  all_goals first
    | (have e : ofE l n m = ([], 1) := by unfold ofE; rw [if_pos (by omega)]
       rw [e]
       refine ret_mem [.nil 4] rfl rfl ?_ ?_
       · repeat' (first | refine And.intro ?_ ?_ | exact trivial)
         all_goals exact rfl
       · repeat' (first | refine And.intro ?_ ?_ | exact trivial)
         all_goals exact rfl
       done)
    | skip
  have e0 : ofE l n m = ofF l 0 0 n m [] := by unfold ofE; rw [if_neg (by omega)]
  refine loop_rule (α := Nat × Int × Int × List Chg) (fun (k, a, b, out) => ⟨[(0, .s 0 0 l.length), (1, .v (.int .i64 n)), (2, .v (.int .i64 m)), (11, .v (.int .i64 k)), (9, .v (.int .i64 a)), (10, .v (.int .i64 b)), (8, .o 1)], [(0, prRo l), (1, chOwn out)], 2⟩)
    (fun (k, a, b, out) => 0 ≤ a ∧ 0 ≤ b ∧ (out.length : Int) ≤ a ∧ a ≤ n + 1 ∧ b ≤ m + 1 ∧ ((k ≤ l.length ∧ a ≤ n ∧ b ≤ m ∧ ofF (l.drop k) a b n m out = ofE l n m) ∨ (k = l.length + 1 ∧ (out, (0 : Int)) = ofE l n m)))
    (fun (k, a, b, out) => l.length + 1 - k) (0, 0, 0, []) [.nil 4] ?_ ?_ ?_
  · exact ⟨by omega, by omega, by simp, by omega, by omega, .inl ⟨by omega, by omega, by omega, e0.symm⟩⟩
  · (refine ⟨rfl, rfl, ?_, ?_⟩ <;> repeat' (first | refine And.intro ?_ ?_ | exact trivial | exact rfl | refine lt0 | refine lt1 ?_ | refine lt2 ?_ ?_ | refine lt3 ?_ ?_ ?_ | refine lt4 ?_ ?_ ?_ ?_ | exact veq_refl _ | decide | (intro i hi; repeat' (first | refine And.intro ?_ ?_ | exact trivial | exact rfl))))
    all_goals omega
  · rintro ⟨k, a, b, out⟩ ⟨h1, h2, h3, h4, h5, h6⟩
    have ek : 0 + (k : Int).toNat = k := by simp
    have hst : k < l.length → (if (l.getD (0 + (k : Int).toNat) (0, 0)).1 < a ∨ (l.getD (0 + (k : Int).toNat) (0, 0)).2 < b ∨ (l.getD (0 + (k : Int).toNat) (0, 0)).1 ≥ n ∨ (l.getD (0 + (k : Int).toNat) (0, 0)).2 ≥ m then ([], 60) else ofF (l.drop (k + 1)) ((l.getD (0 + (k : Int).toNat) (0, 0)).1 + 1) ((l.getD (0 + (k : Int).toNat) (0, 0)).2 + 1) n m (if (l.getD (0 + (k : Int).toNat) (0, 0)).1 > a ∨ (l.getD (0 + (k : Int).toNat) (0, 0)).2 > b then out ++ [⟨a, (l.getD (0 + (k : Int).toNat) (0, 0)).1 - a, b, (l.getD (0 + (k : Int).toNat) (0, 0)).2 - b⟩] else out)) = ofE l n m := fun h => by
      rcases h6 with ⟨_, _, _, h7⟩ | ⟨h7, _⟩
      · rw [drop_get (0, 0) l k h, ofF_cons] at h7
        rw [ek]; exact h7
      · omega
    have hla : k = l.length → ((if n > a ∨ m > b then out ++ [⟨a, n - a, b, m - b⟩] else out), (0 : Int)) = ofE l n m := fun h => by
      rcases h6 with ⟨_, _, _, h7⟩ | ⟨h7, _⟩
      · rw [h, List.drop_length] at h7; exact h7
      · omega
    have hab : k ≤ l.length → a ≤ n ∧ b ≤ m := fun h => by
      rcases h6 with ⟨_, h7, h8, _⟩ | ⟨h7, _⟩
      · exact ⟨h7, h8⟩
      · omega
    repeat' (first | refine And.intro (by first | omega | (dsimp only; omega) | (show (_ : Bool) = true; kernel_rfl) | decide | (repeat' (first | refine And.intro ?_ ?_ | exact trivial | exact rfl))) ?_ | refine bcs_dec (fun h => ?_) (fun h => ?_) | refine bcs_ndec (fun h => ?_) (fun h => ?_) | refine bcs_not ?_ | refine bcs_intro (fun h => ?_) (fun h => ?_) | refine And.intro ?_ ?_ | refine reg_tail (by kernel_rfl) ?_)
    all_goals first
      | (have e : ofE l n m = ([], 60) := by rw [← hst (by omega), if_pos (by omega)]
         rw [e]
         refine ret_mem [.nil 4] rfl rfl ?_ ?_
         · repeat' (first | refine And.intro ?_ ?_ | exact trivial)
           all_goals exact rfl
         · repeat' (first | refine And.intro ?_ ?_ | exact trivial)
           all_goals exact rfl
         done)
      | (refine app1 Chg.enc Chg.d out ⟨a, (l.getD (0 + (k : Int).toNat) (0, 0)).1 - a, b, (l.getD (0 + (k : Int).toNat) (0, 0)).2 - b⟩ rfl (by simp; rfl) ?_
         repeat' (first | refine And.intro (by first | omega | (dsimp only; omega) | (show (_ : Bool) = true; kernel_rfl) | decide | (repeat' (first | refine And.intro ?_ ?_ | exact trivial | exact rfl))) ?_ | refine bcs_dec (fun h => ?_) (fun h => ?_) | refine bcs_ndec (fun h => ?_) (fun h => ?_) | refine bcs_not ?_ | refine bcs_intro (fun h => ?_) (fun h => ?_) | refine And.intro ?_ ?_ | refine reg_tail (by kernel_rfl) ?_)
         refine ⟨(k + 1, (l.getD (0 + (k : Int).toNat) (0, 0)).1 + 1, (l.getD (0 + (k : Int).toNat) (0, 0)).2 + 1, out ++ [⟨a, (l.getD (0 + (k : Int).toNat) (0, 0)).1 - a, b, (l.getD (0 + (k : Int).toNat) (0, 0)).2 - b⟩]), [.at 3 0], ?_, ?_, ?_⟩
         · refine ⟨by omega, by omega, by rw [List.length_append]; simp only [List.length_singleton]; omega, by omega, by omega, .inl ⟨by omega, by omega, by omega, ?_⟩⟩
           rw [← hst (by omega), if_neg (by omega), if_pos (by omega)]
         · show l.length + 1 - (k + 1) < l.length + 1 - k
           omega
         · (refine ⟨rfl, rfl, ?_, ?_⟩ <;> repeat' (first | refine And.intro ?_ ?_ | exact trivial | exact rfl | refine lt0 | refine lt1 ?_ | refine lt2 ?_ ?_ | refine lt3 ?_ ?_ ?_ | refine lt4 ?_ ?_ ?_ ?_ | exact veq_refl _ | decide | (intro i hi; repeat' (first | refine And.intro ?_ ?_ | exact trivial | exact rfl))))
           all_goals first | omega | (simp; done)
         done)
      | (refine ⟨(k + 1, (l.getD (0 + (k : Int).toNat) (0, 0)).1 + 1, (l.getD (0 + (k : Int).toNat) (0, 0)).2 + 1, out), [.at 1 0], ?_, ?_, ?_⟩
         · refine ⟨by omega, by omega, by omega, by omega, by omega, .inl ⟨by omega, by omega, by omega, ?_⟩⟩
           rw [← hst (by omega), if_neg (by omega), if_neg (by omega)]
         · show l.length + 1 - (k + 1) < l.length + 1 - k
           omega
         · (refine ⟨rfl, rfl, ?_, ?_⟩ <;> repeat' (first | refine And.intro ?_ ?_ | exact trivial | exact rfl | refine lt0 | refine lt1 ?_ | refine lt2 ?_ ?_ | refine lt3 ?_ ?_ ?_ | refine lt4 ?_ ?_ ?_ ?_ | exact veq_refl _ | decide | (intro i hi; repeat' (first | refine And.intro ?_ ?_ | exact trivial | exact rfl))))
           all_goals first | omega | (simp; done)
         done)
      | (refine app1 Chg.enc Chg.d out ⟨a, n - a, b, m - b⟩ rfl (by simp; rfl) ?_
         repeat' (first | refine And.intro (by first | omega | (dsimp only; omega) | (show (_ : Bool) = true; kernel_rfl) | decide | (repeat' (first | refine And.intro ?_ ?_ | exact trivial | exact rfl))) ?_ | refine bcs_dec (fun h => ?_) (fun h => ?_) | refine bcs_ndec (fun h => ?_) (fun h => ?_) | refine bcs_not ?_ | refine bcs_intro (fun h => ?_) (fun h => ?_) | refine And.intro ?_ ?_ | refine reg_tail (by kernel_rfl) ?_)
         refine ⟨(k + 1, n + 1, m + 1, out ++ [⟨a, n - a, b, m - b⟩]), [.at 3 0], ?_, ?_, ?_⟩
         · refine ⟨by omega, by omega, by rw [List.length_append]; simp only [List.length_singleton]; omega, by omega, by omega, .inr ⟨by omega, ?_⟩⟩
           rw [← hla (by omega), if_pos (by omega)]
         · show l.length + 1 - (k + 1) < l.length + 1 - k
           omega
         · (refine ⟨rfl, rfl, ?_, ?_⟩ <;> repeat' (first | refine And.intro ?_ ?_ | exact trivial | exact rfl | refine lt0 | refine lt1 ?_ | refine lt2 ?_ ?_ | refine lt3 ?_ ?_ ?_ | refine lt4 ?_ ?_ ?_ ?_ | exact veq_refl _ | decide | (intro i hi; repeat' (first | refine And.intro ?_ ?_ | exact trivial | exact rfl))))
           all_goals first | omega | (simp; done)
         done)
      | (refine ⟨(k + 1, n + 1, m + 1, out), [.at 1 0], ?_, ?_, ?_⟩
         · refine ⟨by omega, by omega, by omega, by omega, by omega, .inr ⟨by omega, ?_⟩⟩
           rw [← hla (by omega), if_neg (by omega)]
         · show l.length + 1 - (k + 1) < l.length + 1 - k
           omega
         · (refine ⟨rfl, rfl, ?_, ?_⟩ <;> repeat' (first | refine And.intro ?_ ?_ | exact trivial | exact rfl | refine lt0 | refine lt1 ?_ | refine lt2 ?_ ?_ | refine lt3 ?_ ?_ ?_ | refine lt4 ?_ ?_ ?_ ?_ | exact veq_refl _ | decide | (intro i hi; repeat' (first | refine And.intro ?_ ?_ | exact trivial | exact rfl))))
           all_goals first | omega | (simp; done)
         done)
      | (have h9 : (out, (0 : Int)) = ofE l n m := by
           rcases h6 with ⟨_, _, _, _⟩ | ⟨_, h9⟩
           · omega
           · exact h9
         rw [show (ofE l n m).1 = out from by rw [← h9], show (ofE l n m).2 = 0 from by rw [← h9]]
         refine ret_mem [.at 1 0] (by rfl) (by rfl) ?_ ?_
         · repeat' (first | refine And.intro ?_ ?_ | exact trivial)
           all_goals exact rfl
         · repeat' (first | refine And.intro ?_ ?_ | exact trivial)
           · exact rfl
           · intro i hi
             repeat' (first | refine And.intro ?_ ?_ | exact trivial)
             all_goals exact rfl
         done)
end Go.Proofs.YtjlobgcmhnkgnaaDoor
