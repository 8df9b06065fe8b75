/- Chapter 18: folded together: parts N1, N4. -/
import Derived.Test.YtlmjkphiicmclaaDoorAs
import Derived.Test.YtlmjkphiicmclaaDoorBA
import Derived.Test.YtlmjkphiicmclaaDoorW10
namespace Go.Proofs.YtlmjkphiicmclaaDoor
open Go Go.RowKit Vc

theorem num_nil_con : Con Tryd.prog glob 14 [.v .nilIface] [] 0 (retV 0 (.v (.int .i64 0))) :=
  con_plain ⟨_, Tryd.func14, rfl, rfl⟩ (args := [.nilIface]) fun w _ => (num_nil w).mono fun _ _ ⟨h1, h2⟩ => ⟨h1, below_same h2⟩
theorem num_err_con (e : Int) : Con Tryd.prog glob 14 [.v (.iface 67 (.int .i64 e))] [] 0 (retV 0 (.v (.int .i64 e))) :=
  con_plain ⟨_, Tryd.func14, rfl, rfl⟩ (args := [.iface 67 (.int .i64 e)]) fun w hg => num_err e w (hg 0 _ (List.mem_singleton.2 rfl))
theorem errV_or (e : Int) : errV e = .nilIface ∨ ∃ k, errV e = .iface 67 (.int .i64 k) := by
  by_cases h : e = 0
  · exact Or.inl (errV_0 h)
  · exact Or.inr ⟨e, errV_n h⟩
theorem num_con (e : Int) : Con Tryd.prog glob 14 [.v (errV e)] [] 0 (retV 0 (.v (.int .i64 e))) := by
  by_cases h : e = 0
  · rw [errV_0 h, h]; exact num_nil_con
  · rw [errV_n h]; exact num_err_con e
set_option maxRecDepth 100000 in
set_option maxHeartbeats 4000000 in
theorem changes_con (s : List Chg) (hs : s.length ≤ 100000000) : Con Tryd.prog glob 27 [.s 0 0 s.length] [(0, chRo s)] 1 (retM (.o 1) [(1, chOwn s)] 2) := by
  refine spec_intro (tab := tab) (N := 7) Tryd.func27 rfl rfl tab_ok mix rfl rfl _ rfl ?_
  intro B hG
  repeat' (first | refine And.intro (by first | (show (_ : Bool) = true; kernel_rfl) | omega | (dsimp only; omega) | decide | (repeat' (first | refine And.intro ?_ ?_ | exact trivial | exact rfl))) ?_ | refine bcs_dec (fun h => ?_) (fun h => False.elim (by first | omega | exact h rfl)) | refine bcs_dec (fun h => False.elim (by omega)) (fun h => ?_) | refine bcs_dec (fun h => ?_) (fun h => ?_) | refine bcs_ndec (fun h => ?_) (fun h => ?_) | refine bcs_not ?_ | refine bcs_intro (fun h => ?_) (fun h => ?_) | refine And.intro ?_ ?_ | refine reg_tail (by kernel_rfl) ?_)
  refine app0 Chg.enc Chg.d s rfl (fun j hj => by rw [Nat.zero_add]) ?_
  repeat' (first | refine And.intro (by first | (show (_ : Bool) = true; kernel_rfl) | omega | (dsimp only; omega) | decide | (repeat' (first | refine And.intro ?_ ?_ | exact trivial | exact rfl))) ?_ | refine bcs_dec (fun h => ?_) (fun h => False.elim (by first | omega | exact h rfl)) | refine bcs_dec (fun h => False.elim (by omega)) (fun h => ?_) | refine bcs_dec (fun h => ?_) (fun h => ?_) | refine bcs_ndec (fun h => ?_) (fun h => ?_) | refine bcs_not ?_ | refine bcs_intro (fun h => ?_) (fun h => ?_) | refine And.intro ?_ ?_ | refine reg_tail (by kernel_rfl) ?_)
  refine ret_mem [.at 1 0] rfl rfl ?_ ?_
  · repeat' (first | refine And.intro ?_ ?_ | exact trivial)
    all_goals exact rfl
  · repeat' (first | refine And.intro ?_ ?_ | exact trivial)
    all_goals try first | exact rfl | exact veq_refl _ | omega
    intro i hi
    repeat' (first | refine And.intro ?_ ?_ | exact trivial)
    all_goals exact rfl
set_option maxRecDepth 100000 in
set_option maxHeartbeats 4000000 in
theorem texts_con (s : List Byt) (hs : s.length ≤ 100000000) : Con Tryd.prog glob 28 [.s 0 0 s.length] [(0, stRo s)] 1 (retM (.o 1) [(1, stOwn s)] 2) := by
  refine spec_intro (tab := tab) (N := 7) Tryd.func28 rfl rfl tab_ok mix rfl rfl _ rfl ?_
  intro B hG
  repeat' (first | refine And.intro (by first | (show (_ : Bool) = true; kernel_rfl) | omega | (dsimp only; omega) | decide | (repeat' (first | refine And.intro ?_ ?_ | exact trivial | exact rfl))) ?_ | refine bcs_dec (fun h => ?_) (fun h => False.elim (by first | omega | exact h rfl)) | refine bcs_dec (fun h => False.elim (by omega)) (fun h => ?_) | refine bcs_dec (fun h => ?_) (fun h => ?_) | refine bcs_ndec (fun h => ?_) (fun h => ?_) | refine bcs_not ?_ | refine bcs_intro (fun h => ?_) (fun h => ?_) | refine And.intro ?_ ?_ | refine reg_tail (by kernel_rfl) ?_)
  refine app0 stEnc [] s rfl (fun j hj => by rw [Nat.zero_add]) ?_
  repeat' (first | refine And.intro (by first | (show (_ : Bool) = true; kernel_rfl) | omega | (dsimp only; omega) | decide | (repeat' (first | refine And.intro ?_ ?_ | exact trivial | exact rfl))) ?_ | refine bcs_dec (fun h => ?_) (fun h => False.elim (by first | omega | exact h rfl)) | refine bcs_dec (fun h => False.elim (by omega)) (fun h => ?_) | refine bcs_dec (fun h => ?_) (fun h => ?_) | refine bcs_ndec (fun h => ?_) (fun h => ?_) | refine bcs_not ?_ | refine bcs_intro (fun h => ?_) (fun h => ?_) | refine And.intro ?_ ?_ | refine reg_tail (by kernel_rfl) ?_)
  refine ret_mem [.at 1 0] rfl rfl ?_ ?_
  · repeat' (first | refine And.intro ?_ ?_ | exact trivial)
    all_goals exact rfl
  · repeat' (first | refine And.intro ?_ ?_ | exact trivial)
    all_goals try first | exact rfl | exact veq_refl _ | omega
    intro i hi
    repeat' (first | refine And.intro ?_ ?_ | exact trivial)
    all_goals exact rfl
end Go.Proofs.YtlmjkphiicmclaaDoor

namespace Go.Proofs.YtlmjkphiicmclaaDoor
open Go Go.RowKit Vc

abbrev wkX : List Chg := [⟨1, 1, 1, 1⟩]
abbrev wkT : List Chg := [⟨3, 1, 3, 0⟩]
abbrev wkB : List Byt := [[49, 10], [50, 10], [51, 10], [52, 10]]
abbrev wkM : List Byt := [[49, 10], [120, 10], [51, 10], [52, 10]]
abbrev wkY : List Byt := [[49, 10], [122, 10], [51, 10], [52, 10]]
abbrev wkZ : List Byt := [[49, 10], [50, 10], [51, 10]]
abbrev wkL : List Byt := [[109], [98], [121]]
abbrev wk1 : Byt := [49, 10, 60, 60, 60, 60, 60, 60, 60, 32, 109, 10, 120, 10, 61, 61, 61, 61, 61, 61, 61, 10, 122, 10, 62, 62, 62, 62, 62, 62, 62, 32, 121, 10, 51, 10, 52, 10]
abbrev wk2 : Byt := [49, 10, 120, 10, 51, 10]
set_option maxRecDepth 100000 in
theorem wk_e1 : mgErr wkX wkX wkB wkM wkY wkL 1 = 0 ∧ mgTxt wkX wkX wkB wkM wkY wkL 1 = wk1 ∧ mgCl wkX wkX wkB wkM wkY wkL 1 = 1 := by decide +kernel
set_option maxRecDepth 100000 in
theorem wk_e2 : mgErr wkX wkT wkB wkM wkZ wkL 1 = 0 ∧ mgTxt wkX wkT wkB wkM wkZ wkL 1 = wk2 ∧ mgCl wkX wkT wkB wkM wkZ wkL 1 = 0 := by decide +kernel
set_option maxRecDepth 100000 in
theorem wk_e3 : mgErr [] [] [] [] [] [] 1 = 222 := by decide +kernel
theorem wk_small {s t : List Chg} {b m y lab : List Byt} (h : (decide (s.length ≤ 1048576) && decide (t.length ≤ 1048576) && decide (b.flatten.length ≤ 1048576) && decide (m.flatten.length ≤ 1048576) && decide (y.flatten.length ≤ 1048576) && decide (b.length ≤ 1048576) &&
    decide (m.length ≤ 1048576) && decide (y.length ≤ 1048576) && decide (lab.length ≤ 1048576) && decide (lab.flatten.length ≤ 1048576)) = true) : JobSm s t b m y lab := by
  simp only [Bool.and_eq_true, decide_eq_true_eq] at h
  obtain ⟨⟨⟨⟨⟨⟨⟨⟨⟨h1, h2⟩, h3⟩, h4⟩, h5⟩, h6⟩, h7⟩, h8⟩, h9⟩, h10⟩ := h
  exact ⟨h1, h2, h3, h4, h5, h6, h7, h8, h9, h10⟩
set_option maxRecDepth 100000 in
set_option maxHeartbeats 16000000 in
theorem works_con : Con Tryd.prog glob 15 [] [] 0 (retV 0 (.v (.bool true))) := by
  have c1 := merge_con wkX wkX wkB wkM wkY wkL 1 (wk_small (by decide +kernel))
  have c2 := merge_con wkX wkT wkB wkM wkZ wkL 1 (wk_small (by decide +kernel))
  have c3 := merge_con [] [] [] [] [] [] 1 (wk_small (by decide +kernel))
  rw [wk_e1.1, wk_e1.2.2, errV_0 rfl] at c1
  rw [wk_e2.1, wk_e2.2.2, errV_0 rfl] at c2
  rw [wk_e3, errV_n (by decide)] at c3
  have h1 := wk_e1.2.1
  have h2 := wk_e2.2.1
  obtain ⟨u1, hu1⟩ : ∃ u, u = mgTxt wkX wkX wkB wkM wkY wkL 1 := ⟨_, rfl⟩
  obtain ⟨u2, hu2⟩ : ∃ u, u = mgTxt wkX wkT wkB wkM wkZ wkL 1 := ⟨_, rfl⟩
  obtain ⟨u3, hu3⟩ : ∃ u, u = mgTxt [] [] [] [] [] [] 1 := ⟨_, rfl⟩
  obtain ⟨k3, hk3⟩ : ∃ k, k = mgCl [] [] [] [] [] [] 1 := ⟨_, rfl⟩
  rw [← hu1] at c1 h1
  rw [← hu2] at c2 h2
  rw [← hu3, ← hk3] at c3
  clear hu1 hu2 hu3 hk3
  have cN := num_err_con 222
  refine spec_intro (tab := tab) (N := 70) Tryd.func15 rfl rfl tab_ok mix rfl rfl _ rfl ?_
  intro B hG
  repeat' (first | refine And.intro (by first | (show (_ : Bool) = true; kernel_rfl) | omega | (dsimp only; omega) | decide | (repeat' (first | refine And.intro ?_ ?_ | exact trivial | exact rfl))) ?_ | refine bcs_dec (fun h => ?_) (fun h => False.elim (by first | omega | exact h rfl)) | refine bcs_dec (fun h => False.elim (by omega)) (fun h => ?_) | refine bcs_dec (fun h => ?_) (fun h => ?_) | refine bcs_ndec (fun h => ?_) (fun h => ?_) | refine bcs_not ?_ | refine bcs_intro (fun h => ?_) (fun h => ?_) | refine And.intro ?_ ?_ | refine reg_tail (by kernel_rfl) ?_)
  refine call_rule [.at 1 0, .at 1 0, .at 0 0, .at 2 0, .at 3 0, .at 4 0] c1 hG ?_ ?_
  · (refine ⟨?_, ?_, rfl, rfl, rfl⟩ <;> repeat' (first | refine And.intro ?_ ?_ | exact trivial | exact rfl | refine lt0 | refine lt1 ?_ | refine lt2 ?_ ?_ | refine lt3 ?_ ?_ ?_ | refine lt4 ?_ ?_ ?_ ?_ | exact veq_refl _ | decide))
    all_goals (first | exact rfl | exact veq_refl _ | (intro i hi; first | (obtain rfl : i = 0 := (by omega); exact rfl) | (rcases (show i = 0 ∨ i = 1 ∨ i = 2 by omega) with rfl | rfl | rfl <;> exact rfl) | (rcases (show i = 0 ∨ i = 1 ∨ i = 2 ∨ i = 3 by omega) with rfl | rfl | rfl | rfl <;> exact rfl)) | skip)
  rintro _ _ _ ⟨rfl, rfl, rfl⟩
  repeat' (first | refine And.intro (by first | (show (_ : Bool) = true; kernel_rfl) | omega | (dsimp only; omega) | decide | (repeat' (first | refine And.intro ?_ ?_ | exact trivial | exact rfl))) ?_ | refine bcs_dec (fun h => ?_) (fun h => False.elim (by first | omega | exact h rfl)) | refine bcs_dec (fun h => False.elim (by omega)) (fun h => ?_) | refine bcs_dec (fun h => ?_) (fun h => ?_) | refine bcs_ndec (fun h => ?_) (fun h => ?_) | refine bcs_not ?_ | refine bcs_intro (fun h => ?_) (fun h => ?_) | refine And.intro ?_ ?_ | refine reg_tail (by kernel_rfl) ?_)
  refine call_rule [.at 1 0, .at 5 0, .at 0 0, .at 6 0, .at 7 0, .at 8 0] c2 hG ?_ ?_
  · (refine ⟨?_, ?_, rfl, rfl, rfl⟩ <;> repeat' (first | refine And.intro ?_ ?_ | exact trivial | exact rfl | refine lt0 | refine lt1 ?_ | refine lt2 ?_ ?_ | refine lt3 ?_ ?_ ?_ | refine lt4 ?_ ?_ ?_ ?_ | exact veq_refl _ | decide))
    all_goals (first | exact rfl | exact veq_refl _ | (intro i hi; first | (obtain rfl : i = 0 := (by omega); exact rfl) | (rcases (show i = 0 ∨ i = 1 ∨ i = 2 by omega) with rfl | rfl | rfl <;> exact rfl) | (rcases (show i = 0 ∨ i = 1 ∨ i = 2 ∨ i = 3 by omega) with rfl | rfl | rfl | rfl <;> exact rfl)) | skip)
  rintro _ _ _ ⟨rfl, rfl, rfl⟩
  repeat' (first | refine And.intro (by first | (show (_ : Bool) = true; kernel_rfl) | omega | (dsimp only; omega) | decide | (repeat' (first | refine And.intro ?_ ?_ | exact trivial | exact rfl))) ?_ | refine bcs_dec (fun h => ?_) (fun h => False.elim (by first | omega | exact h rfl)) | refine bcs_dec (fun h => False.elim (by omega)) (fun h => ?_) | refine bcs_dec (fun h => ?_) (fun h => ?_) | refine bcs_ndec (fun h => ?_) (fun h => ?_) | refine bcs_not ?_ | refine bcs_intro (fun h => ?_) (fun h => ?_) | refine And.intro ?_ ?_ | refine reg_tail (by kernel_rfl) ?_)
  refine call_rule [.nil 4, .nil 4, .nil 1, .nil 1, .nil 1, .nil 1] c3 hG ?_ ?_
  · (refine ⟨?_, ?_, rfl, rfl, rfl⟩ <;> repeat' (first | refine And.intro ?_ ?_ | exact trivial | exact rfl | refine lt0 | refine lt1 ?_ | refine lt2 ?_ ?_ | refine lt3 ?_ ?_ ?_ | refine lt4 ?_ ?_ ?_ ?_ | exact veq_refl _ | decide))
    all_goals (first | exact rfl | exact veq_refl _ | (intro i hi; first | (obtain rfl : i = 0 := (by omega); exact rfl) | (rcases (show i = 0 ∨ i = 1 ∨ i = 2 by omega) with rfl | rfl | rfl <;> exact rfl) | (rcases (show i = 0 ∨ i = 1 ∨ i = 2 ∨ i = 3 by omega) with rfl | rfl | rfl | rfl <;> exact rfl)) | skip)
  rintro _ _ _ ⟨rfl, rfl, rfl⟩
  repeat' (first | refine Both.mk ?_ ?_ | refine And.intro (by first | (show (_ : Bool) = true; kernel_rfl) | omega | (dsimp only; omega) | decide | (repeat' (first | refine And.intro ?_ ?_ | exact trivial | exact rfl))) ?_ | refine bcs_dec (fun h => ?_) (fun h => False.elim (by first | omega | exact h rfl)) | refine bcs_dec (fun h => False.elim (by omega)) (fun h => ?_) | refine bcs_dec (fun h => ?_) (fun h => ?_) | refine bcs_ndec (fun h => ?_) (fun h => ?_) | refine bcs_not ?_ | refine And.intro ?_ ?_)
  refine bcs_t (one_of h1 rfl) ?_
  repeat' (first | refine Both.mk ?_ ?_ | refine And.intro (by first | (show (_ : Bool) = true; kernel_rfl) | omega | (dsimp only; omega) | decide | (repeat' (first | refine And.intro ?_ ?_ | exact trivial | exact rfl))) ?_ | refine bcs_dec (fun h => ?_) (fun h => False.elim (by first | omega | exact h rfl)) | refine bcs_dec (fun h => False.elim (by omega)) (fun h => ?_) | refine bcs_dec (fun h => ?_) (fun h => ?_) | refine bcs_ndec (fun h => ?_) (fun h => ?_) | refine bcs_not ?_ | refine And.intro ?_ ?_)
  refine bcs_t (one_of h2 rfl) ?_
  repeat' (first | refine Both.mk ?_ ?_ | refine And.intro (by first | (show (_ : Bool) = true; kernel_rfl) | omega | (dsimp only; omega) | decide | (repeat' (first | refine And.intro ?_ ?_ | exact trivial | exact rfl))) ?_ | refine bcs_dec (fun h => ?_) (fun h => False.elim (by first | omega | exact h rfl)) | refine bcs_dec (fun h => False.elim (by omega)) (fun h => ?_) | refine bcs_dec (fun h => ?_) (fun h => ?_) | refine bcs_ndec (fun h => ?_) (fun h => ?_) | refine bcs_not ?_ | refine And.intro ?_ ?_)
  refine call_rule [] (cN) hG ?_ ?_
  · (refine ⟨?_, ?_, rfl, rfl, rfl⟩ <;> repeat' (first | refine And.intro ?_ ?_ | exact trivial | exact rfl | refine lt0 | refine lt1 ?_ | refine lt2 ?_ ?_ | refine lt3 ?_ ?_ ?_ | refine lt4 ?_ ?_ ?_ ?_ | exact veq_refl _ | decide | (intro i hi; repeat' (first | refine And.intro ?_ ?_ | exact trivial | exact rfl))))
    all_goals first | exact Nat.le_refl _ | omega
  rintro _ _ _ ⟨rfl, rfl, rfl⟩
  repeat' (first | refine Both.mk ?_ ?_ | refine And.intro (by first | (show (_ : Bool) = true; kernel_rfl) | omega | (dsimp only; omega) | decide | (repeat' (first | refine And.intro ?_ ?_ | exact trivial | exact rfl))) ?_ | refine bcs_dec (fun h => ?_) (fun h => False.elim (by first | omega | exact h rfl)) | refine bcs_dec (fun h => False.elim (by omega)) (fun h => ?_) | refine bcs_dec (fun h => ?_) (fun h => ?_) | refine bcs_ndec (fun h => ?_) (fun h => ?_) | refine bcs_not ?_ | refine And.intro ?_ ?_)
  refine ret_plain ?_
  exact rfl
end Go.Proofs.YtlmjkphiicmclaaDoor
