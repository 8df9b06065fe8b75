/- Chapter 15: errors' numbers; the marked text of a refused script. -/
import Derived.Test.YtjlobgcmhnkgnaaDoorAs
import Derived.Test.YtjlobgcmhnkgnaaDoorI2
namespace Go.Proofs.YtjlobgcmhnkgnaaDoor
open Go Go.RowKit Vc

theorem num_nil_con : Con Tryd.prog glob 10 [.v .nilIface] [] 0 (retV 0 (.v (.int .i64 0))) :=
  con_plain ⟨_, Tryd.func10, rfl, rfl⟩ (args := [.nilIface]) fun w _ => num_nil w
theorem num_err_con (e : Int) : Con Tryd.prog glob 10 [.v (.iface 63 (.int .i64 e))] [] 0 (retV 0 (.v (.int .i64 e))) :=
  con_plain ⟨_, Tryd.func10, rfl, rfl⟩ (args := [.iface 63 (.int .i64 e)]) fun w hg => num_err e w (hg 0 _ (List.mem_singleton.2 rfl))
set_option maxRecDepth 100000 in
set_option maxHeartbeats 4000000 in
theorem inline_no {s : List Chg} {a b : List Byt} (hs : s.length ≤ 9223372036854775807) (hv : validE s a.length b.length ≠ 0) :
    Con Tryd.prog glob 8 [.s 0 0 s.length, .s 1 0 a.length, .s 2 0 b.length] [(0, chRo s), (1, stRo a), (2, stRo b)] 3 (retV 3 (.t [str [], .v (.iface 63 (.int .i64 (validE s a.length b.length)))])) := by
  refine spec_intro (tab := tab) (N := 83) Tryd.func8 rfl rfl tab_ok mix rfl rfl _ rfl ?_
  intro B hG
  repeat' (first | refine And.intro (by first | omega | (dsimp only; omega) | (show (_ : Bool) = true; kernel_rfl) | decide | (repeat' (first | refine And.intro ?_ ?_ | exact trivial | exact rfl))) ?_ | refine bcs_dec (fun h => ?_) (fun h => ?_) | refine bcs_ndec (fun h => ?_) (fun h => ?_) | refine bcs_not ?_ | refine bcs_intro (fun h => ?_) (fun h => ?_) | refine And.intro ?_ ?_ | refine reg_tail (by kernel_rfl) ?_)
  refine call_rule [.at 0 0] (normal_no hs hv) hG ?_ ?_
  · (refine ⟨?_, ?_, rfl, rfl, rfl⟩ <;> repeat' (first | refine And.intro ?_ ?_ | exact trivial | exact rfl | refine lt0 | refine lt1 ?_ | refine lt2 ?_ ?_ | refine lt3 ?_ ?_ ?_ | refine lt4 ?_ ?_ ?_ ?_ | exact veq_refl _ | decide | (intro i hi; repeat' (first | refine And.intro ?_ ?_ | exact trivial | exact rfl))))
    all_goals first | exact Nat.le_refl _ | omega
  rintro _ _ _ ⟨rfl, rfl, rfl⟩
  repeat' (first | refine And.intro (by first | omega | (dsimp only; omega) | (show (_ : Bool) = true; kernel_rfl) | decide | (repeat' (first | refine And.intro ?_ ?_ | exact trivial | exact rfl))) ?_ | refine bcs_dec (fun h => ?_) (fun h => ?_) | refine bcs_ndec (fun h => ?_) (fun h => ?_) | refine bcs_not ?_ | refine bcs_intro (fun h => ?_) (fun h => ?_) | refine And.intro ?_ ?_ | refine reg_tail (by kernel_rfl) ?_)
  refine ret_plain ?_
  repeat' (first | refine And.intro ?_ ?_ | exact trivial)
  all_goals exact rfl
end Go.Proofs.YtjlobgcmhnkgnaaDoor
