/- Chapter 6: data, and contracts: what a script costs, whether it is one. -/
import Derived.Test.YtiihmggoebohkaaDoorEq06
import Derived.Test.YtiihmggoebohkaaDoorAs
namespace Go.Proofs.YtiihmggoebohkaaDoor
open Go Go.RowKit Vc
structure Chg where
  A : Int
  N : Int
  B : Int
  M : Int
abbrev Chg.enc (c : Chg) : List SV := [.v (.int .i64 c.A), .v (.int .i64 c.N), .v (.int .i64 c.B), .v (.int .i64 c.M)]
abbrev Chg.d : Chg := ⟨0, 0, 0, 0⟩
abbrev chRow (l : List Chg) : Nat → List SV := fun i => Chg.enc (l.getD i Chg.d)
abbrev chRo (l : List Chg) : Ch := .ro 4 l.length (chRow l)
abbrev glob : List (Nat × Value) := [(0, .iface 116 (.agg #[.pointer (some ⟨1, 27, none⟩)]))]

theorem num_nil_con : Con Tryd.prog glob 16 [.v .nilIface] [] 0 (retV 0 (.v (.int .i64 0))) :=
  con_plain ⟨_, Tryd.func16, rfl, rfl⟩ (args := [.nilIface]) fun w _ => (num_nil w).mono fun _ _ ⟨h1, h2⟩ => ⟨h1, h2 ▸ Below.refl _ _⟩
theorem num_err_con (e : Int) : Con Tryd.prog glob 16 [.v (.iface 84 (.int .i64 e))] [] 0 (retV 0 (.v (.int .i64 e))) :=
  con_plain ⟨_, Tryd.func16, rfl, rfl⟩ (args := [.iface 84 (.int .i64 e)]) fun w hg => num_err e w (hg 0 _ (List.mem_singleton.2 rfl))

def costF : List Chg → Int → Int → Int × Int
  | [], n, m => (n, m)
  | c :: r, n, m => if c.A < 0 ∨ c.B < 0 ∨ c.N < 0 ∨ c.M < 0 ∨ c.N > 4611686018427387904 - n ∨ c.M > 4611686018427387904 - m then (0, 0) else costF r (n + c.N) (m + c.M)

set_option maxRecDepth 100000 in
set_option maxHeartbeats 4000000 in
theorem cost_con (s : List Chg) (hs : s.length ≤ 9223372036854775807) : Con Tryd.prog glob 14 [.s 0 0 s.length] [(0, chRo s)] 1 (retV 1 (.t [.v (.int .i64 (costF s 0 0).1), .v (.int .i64 (costF s 0 0).2)])) := by
  refine spec_intro (tab := tab) (N := 57) Tryd.func14 rfl rfl tab_ok mix rfl rfl _ rfl ?_
  intro B hG
  refine loop_rule (α := Nat × Int × Int) (fun (k, n, m) => ⟨[(8, .s 0 0 s.length), (9, .v (.int .i64 s.length)), (10, .v (.int .i64 k)), (4, .v (.int .i64 n)), (5, .v (.int .i64 m))], [(0, chRo s)], 1⟩)
    (fun (k, n, m) => k ≤ s.length ∧ 0 ≤ n ∧ n ≤ 4611686018427387904 ∧ 0 ≤ m ∧ m ≤ 4611686018427387904 ∧ costF (s.drop k) n m = costF s 0 0) (fun (k, n, m) => s.length - k) (0, 0, 0) [] ?_ ?_ ?_
  · simp
  · (refine ⟨rfl, rfl, ?_, ?_⟩ <;> repeat' (first | refine And.intro ?_ ?_ | exact trivial | exact rfl | refine lt0 | refine lt1 ?_ | refine lt2 ?_ ?_ | refine lt3 ?_ ?_ ?_ | refine lt4 ?_ ?_ ?_ ?_ | exact veq_refl _ | decide | (intro i hi; repeat' (first | refine And.intro ?_ ?_ | exact trivial | exact rfl))))
    exact Nat.le_refl _
  · rintro ⟨k, n, m⟩ ⟨h1, h2, h3, h4, h5, h6⟩
    repeat' (first | refine And.intro (by first | omega | (dsimp only; omega) | (show (_ : Bool) = true; kernel_rfl) | decide | (repeat' (first | refine And.intro ?_ ?_ | exact trivial | exact rfl))) ?_ | refine bcs_dec (fun h => ?_) (fun h => ?_) | refine bcs_ndec (fun h => ?_) (fun h => ?_) | refine bcs_not ?_ | refine bcs_intro (fun h => ?_) (fun h => ?_) | refine And.intro ?_ ?_ | refine reg_tail (by kernel_rfl) ?_)
    all_goals first
      | omega
      | (refine ret_plain ?_
         repeat' (first | refine And.intro ?_ ?_ | exact trivial)
         all_goals show @Eq Int _ _
         all_goals simp only [nm] at *
         all_goals (rw [← h6, drop_get Chg.d s k (by omega)])
         all_goals simp only [costF]
         all_goals (rw [if_pos (by omega)])
         done)
      | skip
    · refine ⟨(k + 1, n + (s.getD k Chg.d).N, m + (s.getD k Chg.d).M), [], ?_, ?_, ?_⟩
      · simp only [nm] at *
        refine ⟨by omega, by omega, by omega, by omega, by omega, ?_⟩
        rw [← h6, drop_get Chg.d s k (by omega)]
        simp only [costF]
        rw [if_neg (by omega)]
      · show s.length - (k + 1) < s.length - k
        omega
      · (refine ⟨rfl, rfl, ?_, ?_⟩ <;> repeat' (first | refine And.intro ?_ ?_ | exact trivial | exact rfl | refine lt0 | refine lt1 ?_ | refine lt2 ?_ ?_ | refine lt3 ?_ ?_ ?_ | refine lt4 ?_ ?_ ?_ ?_ | exact veq_refl _ | decide | (intro i hi; repeat' (first | refine And.intro ?_ ?_ | exact trivial | exact rfl))))
        · simp only [nm] at *; rfl
        · simp only [nm] at *; rfl
        · exact Nat.le_refl _
    · refine ret_plain ?_
      repeat' (first | refine And.intro ?_ ?_ | exact trivial)
      all_goals show @Eq Int _ _
      all_goals (rw [← h6, List.drop_of_length_le (by omega)])
      all_goals (simp only [costF])
end Go.Proofs.YtiihmggoebohkaaDoor
