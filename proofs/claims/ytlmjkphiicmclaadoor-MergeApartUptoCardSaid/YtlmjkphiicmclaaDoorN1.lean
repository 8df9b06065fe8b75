/- Chapter 18: errors' numbers; copies of rows: walked. Printed by gen_n1.py. -/
import Derived.Test.YtlmjkphiicmclaaDoorAs
import Derived.Test.YtlmjkphiicmclaaDoorBA
namespace Go.Proofs.YtlmjkphiicmclaaDoor
open Go Go.RowKit Vc

theorem num_nil_con : Con Tryd.prog glob 14 [.v .nilIface] [] 0 (retV 0 (.v (.int .i64 0))) :=
  con_plain ⟨_, Tryd.func14, rfl, rfl⟩ (args := [.nilIface]) fun w _ => (num_nil w).mono fun _ _ ⟨h1, h2⟩ => ⟨h1, below_same h2⟩
theorem num_err_con (e : Int) : Con Tryd.prog glob 14 [.v (.iface 67 (.int .i64 e))] [] 0 (retV 0 (.v (.int .i64 e))) :=
  con_plain ⟨_, Tryd.func14, rfl, rfl⟩ (args := [.iface 67 (.int .i64 e)]) fun w hg => num_err e w (hg 0 _ (List.mem_singleton.2 rfl))
theorem errV_or (e : Int) : errV e = .nilIface ∨ ∃ k, errV e = .iface 67 (.int .i64 k) := by
  by_cases h : e = 0
  · exact Or.inl (errV_0 h)
  · exact Or.inr ⟨e, errV_n h⟩
theorem num_con (e : Int) : Con Tryd.prog glob 14 [.v (errV e)] [] 0 (retV 0 (.v (.int .i64 e))) := by
  by_cases h : e = 0
  · rw [errV_0 h, h]; exact num_nil_con
  · rw [errV_n h]; exact num_err_con e
set_option maxRecDepth 100000 in
set_option maxHeartbeats 4000000 in
theorem changes_con (s : List Chg) (hs : s.length ≤ 100000000) : Con Tryd.prog glob 27 [.s 0 0 s.length] [(0, chRo s)] 1 (retM (.o 1) [(1, chOwn s)] 2) := by
  refine spec_intro (tab := tab) (N := 7) Tryd.func27 rfl rfl tab_ok mix rfl rfl _ rfl ?_
  intro B hG
  repeat' (first | refine And.intro (by first | (show (_ : Bool) = true; kernel_rfl) | omega | (dsimp only; omega) | decide | (repeat' (first | refine And.intro ?_ ?_ | exact trivial | exact rfl))) ?_ | refine bcs_dec (fun h => ?_) (fun h => False.elim (by first | omega | exact h rfl)) | refine bcs_dec (fun h => False.elim (by omega)) (fun h => ?_) | refine bcs_dec (fun h => ?_) (fun h => ?_) | refine bcs_ndec (fun h => ?_) (fun h => ?_) | refine bcs_not ?_ | refine bcs_intro (fun h => ?_) (fun h => ?_) | refine And.intro ?_ ?_ | refine reg_tail (by kernel_rfl) ?_)
  refine app0 Chg.enc Chg.d s rfl (fun j hj => by rw [Nat.zero_add]) ?_
  repeat' (first | refine And.intro (by first | (show (_ : Bool) = true; kernel_rfl) | omega | (dsimp only; omega) | decide | (repeat' (first | refine And.intro ?_ ?_ | exact trivial | exact rfl))) ?_ | refine bcs_dec (fun h => ?_) (fun h => False.elim (by first | omega | exact h rfl)) | refine bcs_dec (fun h => False.elim (by omega)) (fun h => ?_) | refine bcs_dec (fun h => ?_) (fun h => ?_) | refine bcs_ndec (fun h => ?_) (fun h => ?_) | refine bcs_not ?_ | refine bcs_intro (fun h => ?_) (fun h => ?_) | refine And.intro ?_ ?_ | refine reg_tail (by kernel_rfl) ?_)
  refine ret_mem [.at 1 0] rfl rfl ?_ ?_
  · repeat' (first | refine And.intro ?_ ?_ | exact trivial)
    all_goals exact rfl
  · repeat' (first | refine And.intro ?_ ?_ | exact trivial)
    all_goals try first | exact rfl | exact veq_refl _ | omega
    intro i hi
    repeat' (first | refine And.intro ?_ ?_ | exact trivial)
    all_goals exact rfl
set_option maxRecDepth 100000 in
set_option maxHeartbeats 4000000 in
theorem texts_con (s : List Byt) (hs : s.length ≤ 100000000) : Con Tryd.prog glob 28 [.s 0 0 s.length] [(0, stRo s)] 1 (retM (.o 1) [(1, stOwn s)] 2) := by
  refine spec_intro (tab := tab) (N := 7) Tryd.func28 rfl rfl tab_ok mix rfl rfl _ rfl ?_
  intro B hG
  repeat' (first | refine And.intro (by first | (show (_ : Bool) = true; kernel_rfl) | omega | (dsimp only; omega) | decide | (repeat' (first | refine And.intro ?_ ?_ | exact trivial | exact rfl))) ?_ | refine bcs_dec (fun h => ?_) (fun h => False.elim (by first | omega | exact h rfl)) | refine bcs_dec (fun h => False.elim (by omega)) (fun h => ?_) | refine bcs_dec (fun h => ?_) (fun h => ?_) | refine bcs_ndec (fun h => ?_) (fun h => ?_) | refine bcs_not ?_ | refine bcs_intro (fun h => ?_) (fun h => ?_) | refine And.intro ?_ ?_ | refine reg_tail (by kernel_rfl) ?_)
  refine app0 stEnc [] s rfl (fun j hj => by rw [Nat.zero_add]) ?_
  repeat' (first | refine And.intro (by first | (show (_ : Bool) = true; kernel_rfl) | omega | (dsimp only; omega) | decide | (repeat' (first | refine And.intro ?_ ?_ | exact trivial | exact rfl))) ?_ | refine bcs_dec (fun h => ?_) (fun h => False.elim (by first | omega | exact h rfl)) | refine bcs_dec (fun h => False.elim (by omega)) (fun h => ?_) | refine bcs_dec (fun h => ?_) (fun h => ?_) | refine bcs_ndec (fun h => ?_) (fun h => ?_) | refine bcs_not ?_ | refine bcs_intro (fun h => ?_) (fun h => ?_) | refine And.intro ?_ ?_ | refine reg_tail (by kernel_rfl) ?_)
  refine ret_mem [.at 1 0] rfl rfl ?_ ?_
  · repeat' (first | refine And.intro ?_ ?_ | exact trivial)
    all_goals exact rfl
  · repeat' (first | refine And.intro ?_ ?_ | exact trivial)
    all_goals try first | exact rfl | exact veq_refl _ | omega
    intro i hi
    repeat' (first | refine And.intro ?_ ?_ | exact trivial)
    all_goals exact rfl
end Go.Proofs.YtlmjkphiicmclaaDoor
