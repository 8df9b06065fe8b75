/- Chapter 6: contracts: cost (the document's), validity. -/
import Derived.Test.YtiihmggoebohkaaDoorB1
namespace Go.Proofs.YtiihmggoebohkaaDoor
open Go Go.RowKit Vc

set_option maxRecDepth 100000 in
set_option maxHeartbeats 4000000 in
theorem costR_con (s : List Chg) (hs : s.length ≤ 9223372036854775807) : Con Tryd.prog glob 15 [.s 0 0 s.length] [(0, chRo s)] 1 (retV 1 (.t [.v (.int .i64 (costF s 0 0).1), .v (.int .i64 (costF s 0 0).2)])) := by
  refine spec_intro (tab := tab) (N := 60) Tryd.func15 rfl rfl tab_ok mix rfl rfl _ rfl ?_
  intro B hG
  refine loop_rule (α := Nat × Int × Int) (fun (k, n, m) => ⟨[(0, .s 0 0 s.length), (6, .v (.int .i64 k)), (4, .v (.int .i64 n)), (5, .v (.int .i64 m))], [(0, chRo s)], 1⟩)
    (fun (k, n, m) => k ≤ s.length ∧ 0 ≤ n ∧ n ≤ 4611686018427387904 ∧ 0 ≤ m ∧ m ≤ 4611686018427387904 ∧ costF (s.drop k) n m = costF s 0 0) (fun (k, n, m) => s.length - k) (0, 0, 0) [] ?_ ?_ ?_
  · simp
  · (refine ⟨rfl, rfl, ?_, ?_⟩ <;> repeat' (first | refine And.intro ?_ ?_ | exact trivial | exact rfl | refine lt0 | refine lt1 ?_ | refine lt2 ?_ ?_ | refine lt3 ?_ ?_ ?_ | refine lt4 ?_ ?_ ?_ ?_ | exact veq_refl _ | decide | (intro i hi; repeat' (first | refine And.intro ?_ ?_ | exact trivial | exact rfl))))
    exact Nat.le_refl _
  · rintro ⟨k, n, m⟩ ⟨h1, h2, h3, h4, h5, h6⟩
    repeat' (first | refine And.intro (by first | omega | (dsimp only; omega) | (show (_ : Bool) = true; kernel_rfl) | decide | (repeat' (first | refine And.intro ?_ ?_ | exact trivial | exact rfl))) ?_ | refine bcs_dec (fun h => ?_) (fun h => ?_) | refine bcs_ndec (fun h => ?_) (fun h => ?_) | refine bcs_not ?_ | refine bcs_intro (fun h => ?_) (fun h => ?_) | refine And.intro ?_ ?_ | refine reg_tail (by kernel_rfl) ?_)
    all_goals first
      | omega
      | (refine ret_plain ?_
         repeat' (first | refine And.intro ?_ ?_ | exact trivial)
         all_goals show @Eq Int _ _
         all_goals simp only [nm] at *
         all_goals (rw [← h6, drop_get Chg.d s k (by omega)])
         all_goals simp only [costF]
         all_goals (rw [if_pos (by omega)])
         done)
      | skip
    · refine ⟨(k + 1, n + (s.getD k Chg.d).N, m + (s.getD k Chg.d).M), [], ?_, ?_, ?_⟩
      · simp only [nm] at *
        refine ⟨by omega, by omega, by omega, by omega, by omega, ?_⟩
        rw [← h6, drop_get Chg.d s k (by omega)]
        simp only [costF]
        rw [if_neg (by omega)]
      · show s.length - (k + 1) < s.length - k
        omega
      · (refine ⟨rfl, rfl, ?_, ?_⟩ <;> repeat' (first | refine And.intro ?_ ?_ | exact trivial | exact rfl | refine lt0 | refine lt1 ?_ | refine lt2 ?_ ?_ | refine lt3 ?_ ?_ ?_ | refine lt4 ?_ ?_ ?_ ?_ | exact veq_refl _ | decide | (intro i hi; repeat' (first | refine And.intro ?_ ?_ | exact trivial | exact rfl))))
        · simp only [nm] at *; rfl
        · simp only [nm] at *; rfl
        · exact Nat.le_refl _
    · refine ret_plain ?_
      repeat' (first | refine And.intro ?_ ?_ | exact trivial)
      all_goals show @Eq Int _ _
      all_goals (rw [← h6, List.drop_of_length_le (by omega)])
      all_goals (simp only [costF])

/-- Is the rest of a script one, from (a, b) on? -/
def bad (c : Chg) (a b n m : Int) : Prop := c.N < 0 ∨ c.M < 0 ∨ (c.N = 0 ∧ c.M = 0) ∨ c.A < a ∨ c.A > n ∨ c.B < b ∨ c.B > m ∨ c.A - a ≠ c.B - b ∨ c.N > n - c.A ∨ c.M > m - c.B
instance (c : Chg) (a b n m : Int) : Decidable (bad c a b n m) := by unfold bad; infer_instance
def validF : List Chg → Int → Int → Int → Int → Int
  | [], a, b, n, m => if n - a ≠ m - b then 60 else 0
  | c :: r, a, b, n, m => if bad c a b n m then 60 else validF r (c.A + c.N) (c.B + c.M) n m
def validE (s : List Chg) (n m : Int) : Int := if n < 0 ∨ n > 4194304 ∨ m < 0 ∨ m > 4194304 then 1 else validF s 0 0 n m

def errV (e : Int) : Value := if e = 0 then .nilIface else .iface 84 (.int .i64 e)
theorem errV_0 {e : Int} (h : e = 0) : errV e = .nilIface := if_pos h
theorem errV_n {e : Int} (h : e ≠ 0) : errV e = .iface 84 (.int .i64 e) := if_neg h
theorem num_con (e : Int) : Con Tryd.prog glob 16 [.v (errV e)] [] 0 (retV 0 (.v (.int .i64 e))) := by
  by_cases h : e = 0
  · rw [errV_0 h, h]; exact num_nil_con
  · rw [errV_n h]; exact num_err_con e

set_option maxRecDepth 100000 in
set_option maxHeartbeats 4000000 in
theorem validR_con (s : List Chg) (n m : Int) (hs : s.length ≤ 9223372036854775807) : Con Tryd.prog glob 18 [.s 0 0 s.length, .v (.int .i64 n), .v (.int .i64 m)] [(0, chRo s)] 1 (retV 1 (.v (.int .i64 (validE s n m)))) := by
  refine spec_intro (tab := tab) (N := 123) Tryd.func18 rfl rfl tab_ok mix rfl rfl _ rfl ?_
  intro B hG
  repeat' (first | refine And.intro (by first | omega | (dsimp only; omega) | (show (_ : Bool) = true; kernel_rfl) | decide | (repeat' (first | refine And.intro ?_ ?_ | exact trivial | exact rfl))) ?_ | refine bcs_dec (fun h => ?_) (fun h => ?_) | refine bcs_ndec (fun h => ?_) (fun h => ?_) | refine bcs_not ?_ | refine bcs_intro (fun h => ?_) (fun h => ?_) | refine And.intro ?_ ?_ | refine reg_tail (by kernel_rfl) ?_)
  all_goals first
    | (refine ret_plain ?_
       show @Eq Int _ _
       unfold validE
       rw [if_pos (by omega)]
       done)
    | skip
  have h0 : ¬ (n < 0 ∨ n > 4194304 ∨ m < 0 ∨ m > 4194304) := by omega
  refine loop_rule (α := Nat × Int × Int) (fun (k, a, b) => ⟨[(0, .s 0 0 s.length), (1, .v (.int .i64 n)), (2, .v (.int .i64 m)), (9, .v (.int .i64 k)), (7, .v (.int .i64 a)), (8, .v (.int .i64 b))], [(0, chRo s)], 1⟩)
    (fun (k, a, b) => k ≤ s.length ∧ 0 ≤ a ∧ a ≤ n ∧ 0 ≤ b ∧ b ≤ m ∧ validF (s.drop k) a b n m = validE s n m) (fun (k, a, b) => s.length - k) (0, 0, 0) [] ?_ ?_ ?_
  · refine ⟨by omega, by omega, by omega, by omega, by omega, ?_⟩
    unfold validE; rw [if_neg h0]; rfl
  · (refine ⟨rfl, rfl, ?_, ?_⟩ <;> repeat' (first | refine And.intro ?_ ?_ | exact trivial | exact rfl | refine lt0 | refine lt1 ?_ | refine lt2 ?_ ?_ | refine lt3 ?_ ?_ ?_ | refine lt4 ?_ ?_ ?_ ?_ | exact veq_refl _ | decide | (intro i hi; repeat' (first | refine And.intro ?_ ?_ | exact trivial | exact rfl))))
    exact Nat.le_refl _
  · rintro ⟨k, a, b⟩ ⟨h1, h2, h3, h4, h5, h6⟩
    repeat' (first | refine And.intro (by first | omega | (dsimp only; omega) | (show (_ : Bool) = true; kernel_rfl) | decide | (repeat' (first | refine And.intro ?_ ?_ | exact trivial | exact rfl))) ?_ | refine bcs_dec (fun h => ?_) (fun h => ?_) | refine bcs_ndec (fun h => ?_) (fun h => ?_) | refine bcs_not ?_ | refine bcs_intro (fun h => ?_) (fun h => ?_) | refine And.intro ?_ ?_ | refine reg_tail (by kernel_rfl) ?_)
    all_goals first
      | omega
      | (refine ret_plain ?_
         show @Eq Int _ _
         simp only [nm] at *
         rw [← h6, drop_get Chg.d s k (by omega)]
         simp only [validF]
         rw [if_pos (by unfold bad; omega)]
         done)
      | skip
    all_goals first
      | (refine ⟨(k + 1, (s.getD k Chg.d).A + (s.getD k Chg.d).N, (s.getD k Chg.d).B + (s.getD k Chg.d).M), [], ?_, ?_, ?_⟩
         · simp only [nm] at *
           refine ⟨by omega, by omega, by omega, by omega, by omega, ?_⟩
           rw [← h6, drop_get Chg.d s k (by omega)]
           simp only [validF]
           rw [if_neg (by unfold bad; omega)]
         · show s.length - (k + 1) < s.length - k
           omega
         · (refine ⟨rfl, rfl, ?_, ?_⟩ <;> repeat' (first | refine And.intro ?_ ?_ | exact trivial | exact rfl | refine lt0 | refine lt1 ?_ | refine lt2 ?_ ?_ | refine lt3 ?_ ?_ ?_ | refine lt4 ?_ ?_ ?_ ?_ | exact veq_refl _ | decide | (intro i hi; repeat' (first | refine And.intro ?_ ?_ | exact trivial | exact rfl))))
           · simp only [nm] at *; rfl
           · simp only [nm] at *; rfl
           · exact Nat.le_refl _
         done)
      | (refine ret_plain ?_
         show @Eq Int _ _
         rw [← h6, List.drop_of_length_le (by omega)]
         simp only [validF]
         first | rw [if_pos (by omega)] | rw [if_neg (by omega)])
end Go.Proofs.YtiihmggoebohkaaDoor
