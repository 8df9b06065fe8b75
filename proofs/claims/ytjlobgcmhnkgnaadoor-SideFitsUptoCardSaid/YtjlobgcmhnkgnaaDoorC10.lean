/- Chapter 15: both columns: what is refused; the law of both Prints: walked. -/
import Derived.Test.YtjlobgcmhnkgnaaDoorC8
import Derived.Test.YtjlobgcmhnkgnaaDoorC9
namespace Go.Proofs.YtjlobgcmhnkgnaaDoor
open Go Go.RowKit Vc

theorem len_of {a : List Byt} (ha : a.flatten.length ≤ 4194304) : ∀ x ∈ a, x.length ≤ 140737488355328 := fun x hx => by
  obtain ⟨i, hi, rfl⟩ := List.getElem_of_mem hx
  have := getD_flat a i
  rw [List.getD_eq_getElem?_getD, List.getElem?_eq_getElem hi] at this
  simp only [Option.getD_some] at this
  omega
set_option maxRecDepth 100000 in
set_option maxHeartbeats 8000000 in
theorem print_wide (s : List Chg) (a b : List Byt) (w : Int) (hw : w < 7 ∨ 4096 < w) : Con Tryd.prog glob 15 [.s 0 0 s.length, .s 1 0 a.length, .s 2 0 b.length, .v (.int .i64 w)] [(0, chRo s), (1, stRo a), (2, stRo b)] 3 (retV 3 (.t [str [], .v (.iface 63 (.int .i64 1))])) := by
  have cC := columns_no w hw
  refine spec_intro (tab := tab) (N := 145) Tryd.func15 rfl rfl tab_ok mix rfl rfl _ rfl ?_
  intro B hG
  repeat' (first | refine And.intro (by first | omega | (dsimp only; omega) | (show (_ : Bool) = true; kernel_rfl) | decide | (repeat' (first | refine And.intro ?_ ?_ | exact trivial | exact rfl))) ?_ | refine bcs_dec (fun h => ?_) (fun h => False.elim (by first | omega | exact h rfl)) | refine bcs_dec (fun h => False.elim (by omega)) (fun h => ?_) | refine bcs_dec (fun h => ?_) (fun h => ?_) | refine bcs_ndec (fun h => ?_) (fun h => ?_) | refine bcs_not ?_ | refine bcs_intro (fun h => ?_) (fun h => ?_) | refine And.intro ?_ ?_ | refine reg_tail (by kernel_rfl) ?_)
  refine call_rule [] (cC) hG ?_ ?_
  · (refine ⟨?_, ?_, rfl, rfl, rfl⟩ <;> repeat' (first | refine And.intro ?_ ?_ | exact trivial | exact rfl | refine lt0 | refine lt1 ?_ | refine lt2 ?_ ?_ | refine lt3 ?_ ?_ ?_ | refine lt4 ?_ ?_ ?_ ?_ | exact veq_refl _ | decide | (intro i hi; repeat' (first | refine And.intro ?_ ?_ | exact trivial | exact rfl))))
    all_goals first | exact Nat.le_refl _ | omega
  rintro _ _ _ ⟨rfl, rfl, rfl⟩
  repeat' (first | refine And.intro (by first | omega | (dsimp only; omega) | (show (_ : Bool) = true; kernel_rfl) | decide | (repeat' (first | refine And.intro ?_ ?_ | exact trivial | exact rfl))) ?_ | refine bcs_dec (fun h => ?_) (fun h => False.elim (by first | omega | exact h rfl)) | refine bcs_dec (fun h => False.elim (by omega)) (fun h => ?_) | refine bcs_dec (fun h => ?_) (fun h => ?_) | refine bcs_ndec (fun h => ?_) (fun h => ?_) | refine bcs_not ?_ | refine bcs_intro (fun h => ?_) (fun h => ?_) | refine And.intro ?_ ?_ | refine reg_tail (by kernel_rfl) ?_)
  refine ret_plain ?_
  repeat' (first | refine And.intro ?_ ?_ | exact trivial)
  all_goals exact rfl
set_option maxRecDepth 100000 in
set_option maxHeartbeats 8000000 in
theorem print_bad (s : List Chg) (a b : List Byt) (w : Int) (hw1 : 7 ≤ w) (hw2 : w ≤ 4096) (hs : s.length ≤ 9223372036854775807) (hv : validE s a.length b.length ≠ 0) :
    Con Tryd.prog glob 15 [.s 0 0 s.length, .s 1 0 a.length, .s 2 0 b.length, .v (.int .i64 w)] [(0, chRo s), (1, stRo a), (2, stRo b)] 3 (retV 3 (.t [str [], .v (.iface 63 (.int .i64 (validE s a.length b.length)))])) := by
  have cC := columns_ok w hw1 hw2
  have cN := normal_no (n := a.length) (m := b.length) hs hv
  refine spec_intro (tab := tab) (N := 145) Tryd.func15 rfl rfl tab_ok mix rfl rfl _ rfl ?_
  intro B hG
  repeat' (first | refine And.intro (by first | omega | (dsimp only; omega) | (show (_ : Bool) = true; kernel_rfl) | decide | (repeat' (first | refine And.intro ?_ ?_ | exact trivial | exact rfl))) ?_ | refine bcs_dec (fun h => ?_) (fun h => False.elim (by first | omega | exact h rfl)) | refine bcs_dec (fun h => False.elim (by omega)) (fun h => ?_) | refine bcs_dec (fun h => ?_) (fun h => ?_) | refine bcs_ndec (fun h => ?_) (fun h => ?_) | refine bcs_not ?_ | refine bcs_intro (fun h => ?_) (fun h => ?_) | refine And.intro ?_ ?_ | refine reg_tail (by kernel_rfl) ?_)
  refine call_rule [] (cC) hG ?_ ?_
  · (refine ⟨?_, ?_, rfl, rfl, rfl⟩ <;> repeat' (first | refine And.intro ?_ ?_ | exact trivial | exact rfl | refine lt0 | refine lt1 ?_ | refine lt2 ?_ ?_ | refine lt3 ?_ ?_ ?_ | refine lt4 ?_ ?_ ?_ ?_ | exact veq_refl _ | decide | (intro i hi; repeat' (first | refine And.intro ?_ ?_ | exact trivial | exact rfl))))
    all_goals first | exact Nat.le_refl _ | omega
  rintro _ _ _ ⟨rfl, rfl, rfl⟩
  repeat' (first | refine And.intro (by first | omega | (dsimp only; omega) | (show (_ : Bool) = true; kernel_rfl) | decide | (repeat' (first | refine And.intro ?_ ?_ | exact trivial | exact rfl))) ?_ | refine bcs_dec (fun h => ?_) (fun h => False.elim (by first | omega | exact h rfl)) | refine bcs_dec (fun h => False.elim (by omega)) (fun h => ?_) | refine bcs_dec (fun h => ?_) (fun h => ?_) | refine bcs_ndec (fun h => ?_) (fun h => ?_) | refine bcs_not ?_ | refine bcs_intro (fun h => ?_) (fun h => ?_) | refine And.intro ?_ ?_ | refine reg_tail (by kernel_rfl) ?_)
  refine call_rule [.at 0 0] (cN) hG ?_ ?_
  · (refine ⟨?_, ?_, rfl, rfl, rfl⟩ <;> repeat' (first | refine And.intro ?_ ?_ | exact trivial | exact rfl | refine lt0 | refine lt1 ?_ | refine lt2 ?_ ?_ | refine lt3 ?_ ?_ ?_ | refine lt4 ?_ ?_ ?_ ?_ | exact veq_refl _ | decide | (intro i hi; repeat' (first | refine And.intro ?_ ?_ | exact trivial | exact rfl))))
    all_goals first | exact Nat.le_refl _ | omega
  rintro _ _ _ ⟨rfl, rfl, rfl⟩
  repeat' (first | refine And.intro (by first | omega | (dsimp only; omega) | (show (_ : Bool) = true; kernel_rfl) | decide | (repeat' (first | refine And.intro ?_ ?_ | exact trivial | exact rfl))) ?_ | refine bcs_dec (fun h => ?_) (fun h => False.elim (by first | omega | exact h rfl)) | refine bcs_dec (fun h => False.elim (by omega)) (fun h => ?_) | refine bcs_dec (fun h => ?_) (fun h => ?_) | refine bcs_ndec (fun h => ?_) (fun h => ?_) | refine bcs_not ?_ | refine bcs_intro (fun h => ?_) (fun h => ?_) | refine And.intro ?_ ?_ | refine reg_tail (by kernel_rfl) ?_)
  refine ret_plain ?_
  repeat' (first | refine And.intro ?_ ?_ | exact trivial)
  all_goals exact rfl
set_option maxRecDepth 100000 in
set_option maxHeartbeats 8000000 in
theorem print_lines (s : List Chg) (a b : List Byt) (w : Int) (hw1 : 7 ≤ w) (hw2 : w ≤ 4096) (hs : s.length ≤ 9223372036854775807) (ha : a.flatten.length ≤ 4194304) (hb : b.flatten.length ≤ 4194304) (hal : a.length ≤ 4194304) (hbl : b.length ≤ 4194304) (hv : validE s a.length b.length = 0)
    (hl : validB a = false ∨ validB b = false) : Con Tryd.prog glob 15 [.s 0 0 s.length, .s 1 0 a.length, .s 2 0 b.length, .v (.int .i64 w)] [(0, chRo s), (1, stRo a), (2, stRo b)] 3 (retV 3 (.t [str [], .v (.iface 63 (.int .i64 130))])) := by
  have cC := columns_ok w hw1 hw2
  have cN := normal_ok (n := a.length) (m := b.length) hs hv
  have cVa := lvalid_con a (by omega) (len_of ha)
  have cVb := lvalid_con b (by omega) (len_of hb)
  refine spec_intro (tab := tab) (N := 145) Tryd.func15 rfl rfl tab_ok mix rfl rfl _ rfl ?_
  intro B hG
  repeat' (first | refine And.intro (by first | omega | (dsimp only; omega) | (show (_ : Bool) = true; kernel_rfl) | decide | (repeat' (first | refine And.intro ?_ ?_ | exact trivial | exact rfl))) ?_ | refine bcs_dec (fun h => ?_) (fun h => False.elim (by first | omega | exact h rfl)) | refine bcs_dec (fun h => False.elim (by omega)) (fun h => ?_) | refine bcs_dec (fun h => ?_) (fun h => ?_) | refine bcs_ndec (fun h => ?_) (fun h => ?_) | refine bcs_not ?_ | refine bcs_intro (fun h => ?_) (fun h => ?_) | refine And.intro ?_ ?_ | refine reg_tail (by kernel_rfl) ?_)
  refine call_rule [] (cC) hG ?_ ?_
  · (refine ⟨?_, ?_, rfl, rfl, rfl⟩ <;> repeat' (first | refine And.intro ?_ ?_ | exact trivial | exact rfl | refine lt0 | refine lt1 ?_ | refine lt2 ?_ ?_ | refine lt3 ?_ ?_ ?_ | refine lt4 ?_ ?_ ?_ ?_ | exact veq_refl _ | decide | (intro i hi; repeat' (first | refine And.intro ?_ ?_ | exact trivial | exact rfl))))
    all_goals first | exact Nat.le_refl _ | omega
  rintro _ _ _ ⟨rfl, rfl, rfl⟩
  repeat' (first | refine And.intro (by first | omega | (dsimp only; omega) | (show (_ : Bool) = true; kernel_rfl) | decide | (repeat' (first | refine And.intro ?_ ?_ | exact trivial | exact rfl))) ?_ | refine bcs_dec (fun h => ?_) (fun h => False.elim (by first | omega | exact h rfl)) | refine bcs_dec (fun h => False.elim (by omega)) (fun h => ?_) | refine bcs_dec (fun h => ?_) (fun h => ?_) | refine bcs_ndec (fun h => ?_) (fun h => ?_) | refine bcs_not ?_ | refine bcs_intro (fun h => ?_) (fun h => ?_) | refine And.intro ?_ ?_ | refine reg_tail (by kernel_rfl) ?_)
  refine call_rule [.at 0 0] (cN) hG ?_ ?_
  · (refine ⟨?_, ?_, rfl, rfl, rfl⟩ <;> repeat' (first | refine And.intro ?_ ?_ | exact trivial | exact rfl | refine lt0 | refine lt1 ?_ | refine lt2 ?_ ?_ | refine lt3 ?_ ?_ ?_ | refine lt4 ?_ ?_ ?_ ?_ | exact veq_refl _ | decide | (intro i hi; repeat' (first | refine And.intro ?_ ?_ | exact trivial | exact rfl))))
    all_goals first | exact Nat.le_refl _ | omega
  rintro _ _ _ ⟨rfl, rfl, rfl⟩
  repeat' (first | refine And.intro (by first | omega | (dsimp only; omega) | (show (_ : Bool) = true; kernel_rfl) | decide | (repeat' (first | refine And.intro ?_ ?_ | exact trivial | exact rfl))) ?_ | refine bcs_dec (fun h => ?_) (fun h => False.elim (by first | omega | exact h rfl)) | refine bcs_dec (fun h => False.elim (by omega)) (fun h => ?_) | refine bcs_dec (fun h => ?_) (fun h => ?_) | refine bcs_ndec (fun h => ?_) (fun h => ?_) | refine bcs_not ?_ | refine bcs_intro (fun h => ?_) (fun h => ?_) | refine And.intro ?_ ?_ | refine reg_tail (by kernel_rfl) ?_)
  cases h1 : validB a with
  | false =>
    rw [h1] at cVa
    refine call_rule [.at 1 0] (cVa) hG ?_ ?_
    · (refine ⟨?_, ?_, rfl, rfl, rfl⟩ <;> repeat' (first | refine And.intro ?_ ?_ | exact trivial | exact rfl | refine lt0 | refine lt1 ?_ | refine lt2 ?_ ?_ | refine lt3 ?_ ?_ ?_ | refine lt4 ?_ ?_ ?_ ?_ | exact veq_refl _ | decide | (intro i hi; repeat' (first | refine And.intro ?_ ?_ | exact trivial | exact rfl))))
      all_goals first | exact Nat.le_refl _ | omega
    rintro _ _ _ ⟨rfl, rfl, rfl⟩
    repeat' (first | refine And.intro (by first | omega | (dsimp only; omega) | (show (_ : Bool) = true; kernel_rfl) | decide | (repeat' (first | refine And.intro ?_ ?_ | exact trivial | exact rfl))) ?_ | refine bcs_dec (fun h => ?_) (fun h => False.elim (by first | omega | exact h rfl)) | refine bcs_dec (fun h => False.elim (by omega)) (fun h => ?_) | refine bcs_dec (fun h => ?_) (fun h => ?_) | refine bcs_ndec (fun h => ?_) (fun h => ?_) | refine bcs_not ?_ | refine bcs_intro (fun h => ?_) (fun h => ?_) | refine And.intro ?_ ?_ | refine reg_tail (by kernel_rfl) ?_)
    refine ret_plain ?_
    repeat' (first | refine And.intro ?_ ?_ | exact trivial)
    all_goals exact rfl
  | true =>
    have h2 : validB b = false := hl.resolve_left (by rw [h1]; simp)
    rw [h1] at cVa
    rw [h2] at cVb
    refine call_rule [.at 1 0] (cVa) hG ?_ ?_
    · (refine ⟨?_, ?_, rfl, rfl, rfl⟩ <;> repeat' (first | refine And.intro ?_ ?_ | exact trivial | exact rfl | refine lt0 | refine lt1 ?_ | refine lt2 ?_ ?_ | refine lt3 ?_ ?_ ?_ | refine lt4 ?_ ?_ ?_ ?_ | exact veq_refl _ | decide | (intro i hi; repeat' (first | refine And.intro ?_ ?_ | exact trivial | exact rfl))))
      all_goals first | exact Nat.le_refl _ | omega
    rintro _ _ _ ⟨rfl, rfl, rfl⟩
    repeat' (first | refine And.intro (by first | omega | (dsimp only; omega) | (show (_ : Bool) = true; kernel_rfl) | decide | (repeat' (first | refine And.intro ?_ ?_ | exact trivial | exact rfl))) ?_ | refine bcs_dec (fun h => ?_) (fun h => False.elim (by first | omega | exact h rfl)) | refine bcs_dec (fun h => False.elim (by omega)) (fun h => ?_) | refine bcs_dec (fun h => ?_) (fun h => ?_) | refine bcs_ndec (fun h => ?_) (fun h => ?_) | refine bcs_not ?_ | refine bcs_intro (fun h => ?_) (fun h => ?_) | refine And.intro ?_ ?_ | refine reg_tail (by kernel_rfl) ?_)
    refine call_rule [.at 2 0] (cVb) hG ?_ ?_
    · (refine ⟨?_, ?_, rfl, rfl, rfl⟩ <;> repeat' (first | refine And.intro ?_ ?_ | exact trivial | exact rfl | refine lt0 | refine lt1 ?_ | refine lt2 ?_ ?_ | refine lt3 ?_ ?_ ?_ | refine lt4 ?_ ?_ ?_ ?_ | exact veq_refl _ | decide | (intro i hi; repeat' (first | refine And.intro ?_ ?_ | exact trivial | exact rfl))))
      all_goals first | exact Nat.le_refl _ | omega
    rintro _ _ _ ⟨rfl, rfl, rfl⟩
    repeat' (first | refine And.intro (by first | omega | (dsimp only; omega) | (show (_ : Bool) = true; kernel_rfl) | decide | (repeat' (first | refine And.intro ?_ ?_ | exact trivial | exact rfl))) ?_ | refine bcs_dec (fun h => ?_) (fun h => False.elim (by first | omega | exact h rfl)) | refine bcs_dec (fun h => False.elim (by omega)) (fun h => ?_) | refine bcs_dec (fun h => ?_) (fun h => ?_) | refine bcs_ndec (fun h => ?_) (fun h => ?_) | refine bcs_not ?_ | refine bcs_intro (fun h => ?_) (fun h => ?_) | refine And.intro ?_ ?_ | refine reg_tail (by kernel_rfl) ?_)
    refine ret_plain ?_
    repeat' (first | refine And.intro ?_ ?_ | exact trivial)
    all_goals exact rfl
set_option maxRecDepth 100000 in
set_option maxHeartbeats 8000000 in
theorem rPrint_wide (s : List Chg) (a b : List Byt) (w : Int) (hw : w < 7 ∨ 4096 < w) : Con Tryd.prog glob 16 [.s 0 0 s.length, .s 1 0 a.length, .s 2 0 b.length, .v (.int .i64 w)] [(0, chRo s), (1, stRo a), (2, stRo b)] 3 (retV 3 (.t [str [], .v (.int .i64 1)])) := by
  have cC := rColumns_no w hw
  refine spec_intro (tab := tab) (N := 194) Tryd.func16 rfl rfl tab_ok mix rfl rfl _ rfl ?_
  intro B hG
  repeat' (first | refine And.intro (by first | omega | (dsimp only; omega) | (show (_ : Bool) = true; kernel_rfl) | decide | (repeat' (first | refine And.intro ?_ ?_ | exact trivial | exact rfl))) ?_ | refine bcs_dec (fun h => ?_) (fun h => False.elim (by first | omega | exact h rfl)) | refine bcs_dec (fun h => False.elim (by omega)) (fun h => ?_) | refine bcs_dec (fun h => ?_) (fun h => ?_) | refine bcs_ndec (fun h => ?_) (fun h => ?_) | refine bcs_not ?_ | refine bcs_intro (fun h => ?_) (fun h => ?_) | refine And.intro ?_ ?_ | refine reg_tail (by kernel_rfl) ?_)
  refine call_rule [] (cC) hG ?_ ?_
  · (refine ⟨?_, ?_, rfl, rfl, rfl⟩ <;> repeat' (first | refine And.intro ?_ ?_ | exact trivial | exact rfl | refine lt0 | refine lt1 ?_ | refine lt2 ?_ ?_ | refine lt3 ?_ ?_ ?_ | refine lt4 ?_ ?_ ?_ ?_ | exact veq_refl _ | decide | (intro i hi; repeat' (first | refine And.intro ?_ ?_ | exact trivial | exact rfl))))
    all_goals first | exact Nat.le_refl _ | omega
  rintro _ _ _ ⟨rfl, rfl, rfl⟩
  repeat' (first | refine And.intro (by first | omega | (dsimp only; omega) | (show (_ : Bool) = true; kernel_rfl) | decide | (repeat' (first | refine And.intro ?_ ?_ | exact trivial | exact rfl))) ?_ | refine bcs_dec (fun h => ?_) (fun h => False.elim (by first | omega | exact h rfl)) | refine bcs_dec (fun h => False.elim (by omega)) (fun h => ?_) | refine bcs_dec (fun h => ?_) (fun h => ?_) | refine bcs_ndec (fun h => ?_) (fun h => ?_) | refine bcs_not ?_ | refine bcs_intro (fun h => ?_) (fun h => ?_) | refine And.intro ?_ ?_ | refine reg_tail (by kernel_rfl) ?_)
  refine ret_plain ?_
  repeat' (first | refine And.intro ?_ ?_ | exact trivial)
  all_goals exact rfl
set_option maxRecDepth 100000 in
set_option maxHeartbeats 8000000 in
theorem rPrint_bad (s : List Chg) (a b : List Byt) (w : Int) (hw1 : 7 ≤ w) (hw2 : w ≤ 4096) (hs : s.length ≤ 9223372036854775807 - 1) (hv : validE s a.length b.length ≠ 0) :
    Con Tryd.prog glob 16 [.s 0 0 s.length, .s 1 0 a.length, .s 2 0 b.length, .v (.int .i64 w)] [(0, chRo s), (1, stRo a), (2, stRo b)] 3 (retV 3 (.t [str [], .v (.int .i64 (validE s a.length b.length))])) := by
  have cC := rColumns_ok w hw1 hw2
  have cN := rNormal_no (n := a.length) (m := b.length) hs hv
  refine spec_intro (tab := tab) (N := 194) Tryd.func16 rfl rfl tab_ok mix rfl rfl _ rfl ?_
  intro B hG
  repeat' (first | refine And.intro (by first | omega | (dsimp only; omega) | (show (_ : Bool) = true; kernel_rfl) | decide | (repeat' (first | refine And.intro ?_ ?_ | exact trivial | exact rfl))) ?_ | refine bcs_dec (fun h => ?_) (fun h => False.elim (by first | omega | exact h rfl)) | refine bcs_dec (fun h => False.elim (by omega)) (fun h => ?_) | refine bcs_dec (fun h => ?_) (fun h => ?_) | refine bcs_ndec (fun h => ?_) (fun h => ?_) | refine bcs_not ?_ | refine bcs_intro (fun h => ?_) (fun h => ?_) | refine And.intro ?_ ?_ | refine reg_tail (by kernel_rfl) ?_)
  refine call_rule [] (cC) hG ?_ ?_
  · (refine ⟨?_, ?_, rfl, rfl, rfl⟩ <;> repeat' (first | refine And.intro ?_ ?_ | exact trivial | exact rfl | refine lt0 | refine lt1 ?_ | refine lt2 ?_ ?_ | refine lt3 ?_ ?_ ?_ | refine lt4 ?_ ?_ ?_ ?_ | exact veq_refl _ | decide | (intro i hi; repeat' (first | refine And.intro ?_ ?_ | exact trivial | exact rfl))))
    all_goals first | exact Nat.le_refl _ | omega
  rintro _ _ _ ⟨rfl, rfl, rfl⟩
  repeat' (first | refine And.intro (by first | omega | (dsimp only; omega) | (show (_ : Bool) = true; kernel_rfl) | decide | (repeat' (first | refine And.intro ?_ ?_ | exact trivial | exact rfl))) ?_ | refine bcs_dec (fun h => ?_) (fun h => False.elim (by first | omega | exact h rfl)) | refine bcs_dec (fun h => False.elim (by omega)) (fun h => ?_) | refine bcs_dec (fun h => ?_) (fun h => ?_) | refine bcs_ndec (fun h => ?_) (fun h => ?_) | refine bcs_not ?_ | refine bcs_intro (fun h => ?_) (fun h => ?_) | refine And.intro ?_ ?_ | refine reg_tail (by kernel_rfl) ?_)
  refine call_rule [.at 0 0] (cN) hG ?_ ?_
  · (refine ⟨?_, ?_, rfl, rfl, rfl⟩ <;> repeat' (first | refine And.intro ?_ ?_ | exact trivial | exact rfl | refine lt0 | refine lt1 ?_ | refine lt2 ?_ ?_ | refine lt3 ?_ ?_ ?_ | refine lt4 ?_ ?_ ?_ ?_ | exact veq_refl _ | decide | (intro i hi; repeat' (first | refine And.intro ?_ ?_ | exact trivial | exact rfl))))
    all_goals first | exact Nat.le_refl _ | omega
  rintro _ _ _ ⟨rfl, rfl, rfl⟩
  repeat' (first | refine And.intro (by first | omega | (dsimp only; omega) | (show (_ : Bool) = true; kernel_rfl) | decide | (repeat' (first | refine And.intro ?_ ?_ | exact trivial | exact rfl))) ?_ | refine bcs_dec (fun h => ?_) (fun h => False.elim (by first | omega | exact h rfl)) | refine bcs_dec (fun h => False.elim (by omega)) (fun h => ?_) | refine bcs_dec (fun h => ?_) (fun h => ?_) | refine bcs_ndec (fun h => ?_) (fun h => ?_) | refine bcs_not ?_ | refine bcs_intro (fun h => ?_) (fun h => ?_) | refine And.intro ?_ ?_ | refine reg_tail (by kernel_rfl) ?_)
  · refine ret_plain ?_
    repeat' (first | refine And.intro ?_ ?_ | exact trivial)
    all_goals exact rfl
  · omega
set_option maxRecDepth 100000 in
set_option maxHeartbeats 8000000 in
theorem rPrint_lines (s : List Chg) (a b : List Byt) (w : Int) (hw1 : 7 ≤ w) (hw2 : w ≤ 4096) (hs : s.length ≤ 9223372036854775807 - 1) (ha : a.flatten.length ≤ 4194304) (hb : b.flatten.length ≤ 4194304) (hal : a.length ≤ 4194304) (hbl : b.length ≤ 4194304) (hv : validE s a.length b.length = 0)
    (hl : validB a = false ∨ validB b = false) : Con Tryd.prog glob 16 [.s 0 0 s.length, .s 1 0 a.length, .s 2 0 b.length, .v (.int .i64 w)] [(0, chRo s), (1, stRo a), (2, stRo b)] 3 (retV 3 (.t [str [], .v (.int .i64 130)])) := by
  have cC := rColumns_ok w hw1 hw2
  have cN := rNormal_good (n := a.length) (m := b.length) hs hv
  have cVa := lrValid_con a (by omega) (len_of ha)
  have cVb := lrValid_con b (by omega) (len_of hb)
  refine spec_intro (tab := tab) (N := 194) Tryd.func16 rfl rfl tab_ok mix rfl rfl _ rfl ?_
  intro B hG
  repeat' (first | refine And.intro (by first | omega | (dsimp only; omega) | (show (_ : Bool) = true; kernel_rfl) | decide | (repeat' (first | refine And.intro ?_ ?_ | exact trivial | exact rfl))) ?_ | refine bcs_dec (fun h => ?_) (fun h => False.elim (by first | omega | exact h rfl)) | refine bcs_dec (fun h => False.elim (by omega)) (fun h => ?_) | refine bcs_dec (fun h => ?_) (fun h => ?_) | refine bcs_ndec (fun h => ?_) (fun h => ?_) | refine bcs_not ?_ | refine bcs_intro (fun h => ?_) (fun h => ?_) | refine And.intro ?_ ?_ | refine reg_tail (by kernel_rfl) ?_)
  refine call_rule [] (cC) hG ?_ ?_
  · (refine ⟨?_, ?_, rfl, rfl, rfl⟩ <;> repeat' (first | refine And.intro ?_ ?_ | exact trivial | exact rfl | refine lt0 | refine lt1 ?_ | refine lt2 ?_ ?_ | refine lt3 ?_ ?_ ?_ | refine lt4 ?_ ?_ ?_ ?_ | exact veq_refl _ | decide | (intro i hi; repeat' (first | refine And.intro ?_ ?_ | exact trivial | exact rfl))))
    all_goals first | exact Nat.le_refl _ | omega
  rintro _ _ _ ⟨rfl, rfl, rfl⟩
  repeat' (first | refine And.intro (by first | omega | (dsimp only; omega) | (show (_ : Bool) = true; kernel_rfl) | decide | (repeat' (first | refine And.intro ?_ ?_ | exact trivial | exact rfl))) ?_ | refine bcs_dec (fun h => ?_) (fun h => False.elim (by first | omega | exact h rfl)) | refine bcs_dec (fun h => False.elim (by omega)) (fun h => ?_) | refine bcs_dec (fun h => ?_) (fun h => ?_) | refine bcs_ndec (fun h => ?_) (fun h => ?_) | refine bcs_not ?_ | refine bcs_intro (fun h => ?_) (fun h => ?_) | refine And.intro ?_ ?_ | refine reg_tail (by kernel_rfl) ?_)
  refine call_rule [.at 0 0] (cN) hG ?_ ?_
  · (refine ⟨?_, ?_, rfl, rfl, rfl⟩ <;> repeat' (first | refine And.intro ?_ ?_ | exact trivial | exact rfl | refine lt0 | refine lt1 ?_ | refine lt2 ?_ ?_ | refine lt3 ?_ ?_ ?_ | refine lt4 ?_ ?_ ?_ ?_ | exact veq_refl _ | decide | (intro i hi; repeat' (first | refine And.intro ?_ ?_ | exact trivial | exact rfl))))
    all_goals first | exact Nat.le_refl _ | omega
  rintro _ _ _ ⟨rfl, rfl, rfl⟩
  repeat' (first | refine And.intro (by first | omega | (dsimp only; omega) | (show (_ : Bool) = true; kernel_rfl) | decide | (repeat' (first | refine And.intro ?_ ?_ | exact trivial | exact rfl))) ?_ | refine bcs_dec (fun h => ?_) (fun h => False.elim (by first | omega | exact h rfl)) | refine bcs_dec (fun h => False.elim (by omega)) (fun h => ?_) | refine bcs_dec (fun h => ?_) (fun h => ?_) | refine bcs_ndec (fun h => ?_) (fun h => ?_) | refine bcs_not ?_ | refine bcs_intro (fun h => ?_) (fun h => ?_) | refine And.intro ?_ ?_ | refine reg_tail (by kernel_rfl) ?_)
  cases h1 : validB a with
  | false =>
    rw [h1] at cVa
    refine call_rule [.at 1 0] (cVa) hG ?_ ?_
    · (refine ⟨?_, ?_, rfl, rfl, rfl⟩ <;> repeat' (first | refine And.intro ?_ ?_ | exact trivial | exact rfl | refine lt0 | refine lt1 ?_ | refine lt2 ?_ ?_ | refine lt3 ?_ ?_ ?_ | refine lt4 ?_ ?_ ?_ ?_ | exact veq_refl _ | decide | (intro i hi; repeat' (first | refine And.intro ?_ ?_ | exact trivial | exact rfl))))
      all_goals first | exact Nat.le_refl _ | omega
    rintro _ _ _ ⟨rfl, rfl, rfl⟩
    repeat' (first | refine And.intro (by first | omega | (dsimp only; omega) | (show (_ : Bool) = true; kernel_rfl) | decide | (repeat' (first | refine And.intro ?_ ?_ | exact trivial | exact rfl))) ?_ | refine bcs_dec (fun h => ?_) (fun h => False.elim (by first | omega | exact h rfl)) | refine bcs_dec (fun h => False.elim (by omega)) (fun h => ?_) | refine bcs_dec (fun h => ?_) (fun h => ?_) | refine bcs_ndec (fun h => ?_) (fun h => ?_) | refine bcs_not ?_ | refine bcs_intro (fun h => ?_) (fun h => ?_) | refine And.intro ?_ ?_ | refine reg_tail (by kernel_rfl) ?_)
    refine ret_plain ?_
    repeat' (first | refine And.intro ?_ ?_ | exact trivial)
    all_goals exact rfl
  | true =>
    have h2 : validB b = false := hl.resolve_left (by rw [h1]; simp)
    rw [h1] at cVa
    rw [h2] at cVb
    refine call_rule [.at 1 0] (cVa) hG ?_ ?_
    · (refine ⟨?_, ?_, rfl, rfl, rfl⟩ <;> repeat' (first | refine And.intro ?_ ?_ | exact trivial | exact rfl | refine lt0 | refine lt1 ?_ | refine lt2 ?_ ?_ | refine lt3 ?_ ?_ ?_ | refine lt4 ?_ ?_ ?_ ?_ | exact veq_refl _ | decide | (intro i hi; repeat' (first | refine And.intro ?_ ?_ | exact trivial | exact rfl))))
      all_goals first | exact Nat.le_refl _ | omega
    rintro _ _ _ ⟨rfl, rfl, rfl⟩
    repeat' (first | refine And.intro (by first | omega | (dsimp only; omega) | (show (_ : Bool) = true; kernel_rfl) | decide | (repeat' (first | refine And.intro ?_ ?_ | exact trivial | exact rfl))) ?_ | refine bcs_dec (fun h => ?_) (fun h => False.elim (by first | omega | exact h rfl)) | refine bcs_dec (fun h => False.elim (by omega)) (fun h => ?_) | refine bcs_dec (fun h => ?_) (fun h => ?_) | refine bcs_ndec (fun h => ?_) (fun h => ?_) | refine bcs_not ?_ | refine bcs_intro (fun h => ?_) (fun h => ?_) | refine And.intro ?_ ?_ | refine reg_tail (by kernel_rfl) ?_)
    refine call_rule [.at 2 0] (cVb) hG ?_ ?_
    · (refine ⟨?_, ?_, rfl, rfl, rfl⟩ <;> repeat' (first | refine And.intro ?_ ?_ | exact trivial | exact rfl | refine lt0 | refine lt1 ?_ | refine lt2 ?_ ?_ | refine lt3 ?_ ?_ ?_ | refine lt4 ?_ ?_ ?_ ?_ | exact veq_refl _ | decide | (intro i hi; repeat' (first | refine And.intro ?_ ?_ | exact trivial | exact rfl))))
      all_goals first | exact Nat.le_refl _ | omega
    rintro _ _ _ ⟨rfl, rfl, rfl⟩
    repeat' (first | refine And.intro (by first | omega | (dsimp only; omega) | (show (_ : Bool) = true; kernel_rfl) | decide | (repeat' (first | refine And.intro ?_ ?_ | exact trivial | exact rfl))) ?_ | refine bcs_dec (fun h => ?_) (fun h => False.elim (by first | omega | exact h rfl)) | refine bcs_dec (fun h => False.elim (by omega)) (fun h => ?_) | refine bcs_dec (fun h => ?_) (fun h => ?_) | refine bcs_ndec (fun h => ?_) (fun h => ?_) | refine bcs_not ?_ | refine bcs_intro (fun h => ?_) (fun h => ?_) | refine And.intro ?_ ?_ | refine reg_tail (by kernel_rfl) ?_)
    refine ret_plain ?_
    repeat' (first | refine And.intro ?_ ?_ | exact trivial)
    all_goals exact rfl
/-- Both answer the same. -/
theorem print_both (s : List Chg) (a b : List Byt) (w : Int) (hs : 5 * s.length + (a.length + a.flatten.length) + (b.length + b.flatten.length) ≤ 1048576) :
    ∃ (T : Byt) (e : Int), Con Tryd.prog glob 16 [.s 0 0 s.length, .s 1 0 a.length, .s 2 0 b.length, .v (.int .i64 w)] [(0, chRo s), (1, stRo a), (2, stRo b)] 3 (retV 3 (.t [str T, .v (.int .i64 e)])) ∧
      ((e = 0 ∧ Con Tryd.prog glob 15 [.s 0 0 s.length, .s 1 0 a.length, .s 2 0 b.length, .v (.int .i64 w)] [(0, chRo s), (1, stRo a), (2, stRo b)] 3 (retV 3 (.t [str T, .v .nilIface])) ∧ 7 ≤ w ∧ w ≤ 4096 ∧ validE s a.length b.length = 0 ∧ validB a = true ∧ validB b = true ∧ T = prF a b ((w - 3) / 2) ((w - 3) / 2 + 3) (normF s) 0 0) ∨
       (T = [] ∧ e ≠ 0 ∧ Con Tryd.prog glob 15 [.s 0 0 s.length, .s 1 0 a.length, .s 2 0 b.length, .v (.int .i64 w)] [(0, chRo s), (1, stRo a), (2, stRo b)] 3 (retV 3 (.t [str T, .v (.iface 63 (.int .i64 e))])))) := by
  by_cases hw : w < 7 ∨ 4096 < w
  · exact ⟨[], 1, rPrint_wide s a b w hw, .inr ⟨rfl, by decide, print_wide s a b w hw⟩⟩
  by_cases hv : validE s a.length b.length = 0
  · by_cases hl : validB a = true ∧ validB b = true
    · obtain ⟨r1, r2, r3, r4, r5⟩ := valid_range hv
      have hn : (normF s).length ≤ s.length := by
        have h := mergeF_len s []
        simpa using h
      have nv := norm_valid r5
      exact ⟨_, 0, rPrint_ok s (normF s) a b w _ _ (by omega) (by omega) rfl rfl (by omega) (by omega) (by omega) (by omega) (rNormal_good (by omega) hv) (by omega) nv hl.1 hl.2,
        .inl ⟨rfl, print_ok s (normF s) a b w _ _ (by omega) (by omega) rfl rfl (by omega) (by omega) (by omega) (by omega) (normal_ok (by omega) hv) (by omega) nv hl.1 hl.2, by omega, by omega, hv, hl.1, hl.2, rfl⟩⟩
    · have hl' : validB a = false ∨ validB b = false := by
        cases h1 : validB a with
        | false => exact .inl rfl
        | true => cases h2 : validB b with
          | false => exact .inr rfl
          | true => exact absurd ⟨h1, h2⟩ hl
      exact ⟨[], 130, rPrint_lines s a b w (by omega) (by omega) (by omega) (by omega) (by omega) (by omega) (by omega) hv hl', .inr ⟨rfl, by decide, print_lines s a b w (by omega) (by omega) (by omega) (by omega) (by omega) (by omega) (by omega) hv hl'⟩⟩
  · exact ⟨[], _, rPrint_bad s a b w (by omega) (by omega) (by omega) hv, .inr ⟨rfl, hv, print_bad s a b w (by omega) (by omega) (by omega) hv⟩⟩
theorem columns_both (w : Int) : ∃ h d e : Int, Con Tryd.prog glob 18 [.v (.int .i64 w)] [] 0 (retV 0 (.t [.v (.int .i64 h), .v (.int .i64 d), .v (.int .i64 e)])) ∧
    ((e = 0 ∧ Con Tryd.prog glob 17 [.v (.int .i64 w)] [] 0 (retV 0 (.t [.v (.int .i64 h), .v (.int .i64 d), .v .nilIface]))) ∨ (e ≠ 0 ∧ Con Tryd.prog glob 17 [.v (.int .i64 w)] [] 0 (retV 0 (.t [.v (.int .i64 h), .v (.int .i64 d), .v (.iface 63 (.int .i64 e))])))) := by
  by_cases hw : w < 7 ∨ 4096 < w
  · exact ⟨_, _, _, rColumns_no w hw, .inr ⟨by decide, columns_no w hw⟩⟩
  · exact ⟨_, _, _, rColumns_ok w (by omega) (by omega), .inl ⟨rfl, columns_ok w (by omega) (by omega)⟩⟩
set_option maxRecDepth 100000 in
set_option maxHeartbeats 16000000 in
theorem lawPrints_con (s : List Chg) (a b : List Byt) (w : Int) (hs : 5 * s.length + (a.length + a.flatten.length) + (b.length + b.flatten.length) ≤ 1048576) :
    Con Tryd.prog glob 5 [.a [.s 0 0 s.length, .s 1 0 a.length, .s 2 0 b.length, .v (.int .i64 w)]] [(0, chRo s), (1, stRo a), (2, stRo b)] 3 (retV 3 (.v (.bool true))) := by
  obtain ⟨T, e, c2, hp⟩ := print_both s a b w hs
  obtain ⟨h, d, f, c4, hc⟩ := columns_both w
  rcases hp with ⟨rfl, c1, _⟩ | ⟨_, _, c1⟩ <;> rcases hc with ⟨rfl, c3⟩ | ⟨_, c3⟩
  · refine spec_intro (tab := tab) (N := 79) Tryd.func5 rfl rfl tab_ok mix rfl rfl _ rfl ?_
    intro B hG
    repeat' (first | refine And.intro (by first | omega | (dsimp only; omega) | (show (_ : Bool) = true; kernel_rfl) | (simp; done) | decide | (repeat' (first | refine And.intro ?_ ?_ | exact trivial | exact rfl | (simp; done)))) ?_ | refine bcs_dec (fun h => ?_) (fun h => False.elim (by first | omega | exact h rfl)) | refine bcs_dec (fun h => False.elim (by omega)) (fun h => ?_) | refine bcs_dec (fun h => ?_) (fun h => ?_) | refine bcs_ndec (fun h => ?_) (fun h => ?_) | refine bcs_not ?_ | refine And.intro ?_ ?_ | refine reg_tail (by kernel_rfl) ?_)
    refine call_rule [.at 0 0, .at 1 0, .at 2 0] (c1) hG ?_ ?_
    · (refine ⟨?_, ?_, rfl, rfl, rfl⟩ <;> repeat' (first | refine And.intro ?_ ?_ | exact trivial | exact rfl | refine lt0 | refine lt1 ?_ | refine lt2 ?_ ?_ | refine lt3 ?_ ?_ ?_ | refine lt4 ?_ ?_ ?_ ?_ | exact veq_refl _ | decide | (intro i hi; repeat' (first | refine And.intro ?_ ?_ | exact trivial | exact rfl))))
      all_goals first | exact Nat.le_refl _ | omega
    rintro _ _ _ ⟨rfl, rfl, rfl⟩
    repeat' (first | refine And.intro (by first | omega | (dsimp only; omega) | (show (_ : Bool) = true; kernel_rfl) | (simp; done) | decide | (repeat' (first | refine And.intro ?_ ?_ | exact trivial | exact rfl | (simp; done)))) ?_ | refine bcs_dec (fun h => ?_) (fun h => False.elim (by first | omega | exact h rfl)) | refine bcs_dec (fun h => False.elim (by omega)) (fun h => ?_) | refine bcs_dec (fun h => ?_) (fun h => ?_) | refine bcs_ndec (fun h => ?_) (fun h => ?_) | refine bcs_not ?_ | refine And.intro ?_ ?_ | refine reg_tail (by kernel_rfl) ?_)
    refine call_rule [.at 0 0, .at 1 0, .at 2 0] (c2) hG ?_ ?_
    · (refine ⟨?_, ?_, rfl, rfl, rfl⟩ <;> repeat' (first | refine And.intro ?_ ?_ | exact trivial | exact rfl | refine lt0 | refine lt1 ?_ | refine lt2 ?_ ?_ | refine lt3 ?_ ?_ ?_ | refine lt4 ?_ ?_ ?_ ?_ | exact veq_refl _ | decide | (intro i hi; repeat' (first | refine And.intro ?_ ?_ | exact trivial | exact rfl))))
      all_goals first | exact Nat.le_refl _ | omega
    rintro _ _ _ ⟨rfl, rfl, rfl⟩
    repeat' (first | refine And.intro (by first | omega | (dsimp only; omega) | (show (_ : Bool) = true; kernel_rfl) | (simp; done) | decide | (repeat' (first | refine And.intro ?_ ?_ | exact trivial | exact rfl | (simp; done)))) ?_ | refine bcs_dec (fun h => ?_) (fun h => False.elim (by first | omega | exact h rfl)) | refine bcs_dec (fun h => False.elim (by omega)) (fun h => ?_) | refine bcs_dec (fun h => ?_) (fun h => ?_) | refine bcs_ndec (fun h => ?_) (fun h => ?_) | refine bcs_not ?_ | refine And.intro ?_ ?_ | refine reg_tail (by kernel_rfl) ?_)
    refine call_rule [] (c3) hG ?_ ?_
    · (refine ⟨?_, ?_, rfl, rfl, rfl⟩ <;> repeat' (first | refine And.intro ?_ ?_ | exact trivial | exact rfl | refine lt0 | refine lt1 ?_ | refine lt2 ?_ ?_ | refine lt3 ?_ ?_ ?_ | refine lt4 ?_ ?_ ?_ ?_ | exact veq_refl _ | decide | (intro i hi; repeat' (first | refine And.intro ?_ ?_ | exact trivial | exact rfl))))
      all_goals first | exact Nat.le_refl _ | omega
    rintro _ _ _ ⟨rfl, rfl, rfl⟩
    repeat' (first | refine And.intro (by first | omega | (dsimp only; omega) | (show (_ : Bool) = true; kernel_rfl) | (simp; done) | decide | (repeat' (first | refine And.intro ?_ ?_ | exact trivial | exact rfl | (simp; done)))) ?_ | refine bcs_dec (fun h => ?_) (fun h => False.elim (by first | omega | exact h rfl)) | refine bcs_dec (fun h => False.elim (by omega)) (fun h => ?_) | refine bcs_dec (fun h => ?_) (fun h => ?_) | refine bcs_ndec (fun h => ?_) (fun h => ?_) | refine bcs_not ?_ | refine And.intro ?_ ?_ | refine reg_tail (by kernel_rfl) ?_)
    refine call_rule [] (c4) hG ?_ ?_
    · (refine ⟨?_, ?_, rfl, rfl, rfl⟩ <;> repeat' (first | refine And.intro ?_ ?_ | exact trivial | exact rfl | refine lt0 | refine lt1 ?_ | refine lt2 ?_ ?_ | refine lt3 ?_ ?_ ?_ | refine lt4 ?_ ?_ ?_ ?_ | exact veq_refl _ | decide | (intro i hi; repeat' (first | refine And.intro ?_ ?_ | exact trivial | exact rfl))))
      all_goals first | exact Nat.le_refl _ | omega
    rintro _ _ _ ⟨rfl, rfl, rfl⟩
    repeat' (first | refine And.intro (by first | omega | (dsimp only; omega) | (show (_ : Bool) = true; kernel_rfl) | (simp; done) | decide | (repeat' (first | refine And.intro ?_ ?_ | exact trivial | exact rfl | (simp; done)))) ?_ | refine bcs_dec (fun h => ?_) (fun h => False.elim (by first | omega | exact h rfl)) | refine bcs_dec (fun h => False.elim (by omega)) (fun h => ?_) | refine bcs_dec (fun h => ?_) (fun h => ?_) | refine bcs_ndec (fun h => ?_) (fun h => ?_) | refine bcs_not ?_ | refine And.intro ?_ ?_ | refine reg_tail (by kernel_rfl) ?_)
    refine bcs_t (seq _) ?_
    repeat' (first | refine And.intro (by first | omega | (dsimp only; omega) | (show (_ : Bool) = true; kernel_rfl) | (simp; done) | decide | (repeat' (first | refine And.intro ?_ ?_ | exact trivial | exact rfl | (simp; done)))) ?_ | refine bcs_dec (fun h => ?_) (fun h => False.elim (by first | omega | exact h rfl)) | refine bcs_dec (fun h => False.elim (by omega)) (fun h => ?_) | refine bcs_dec (fun h => ?_) (fun h => ?_) | refine bcs_ndec (fun h => ?_) (fun h => ?_) | refine bcs_not ?_ | refine And.intro ?_ ?_ | refine reg_tail (by kernel_rfl) ?_)
    refine call_rule [] (num_nil_con) hG ?_ ?_
    · (refine ⟨?_, ?_, rfl, rfl, rfl⟩ <;> repeat' (first | refine And.intro ?_ ?_ | exact trivial | exact rfl | refine lt0 | refine lt1 ?_ | refine lt2 ?_ ?_ | refine lt3 ?_ ?_ ?_ | refine lt4 ?_ ?_ ?_ ?_ | exact veq_refl _ | decide | (intro i hi; repeat' (first | refine And.intro ?_ ?_ | exact trivial | exact rfl))))
      all_goals first | exact Nat.le_refl _ | omega
    rintro _ _ _ ⟨rfl, rfl, rfl⟩
    repeat' (first | refine And.intro (by first | omega | (dsimp only; omega) | (show (_ : Bool) = true; kernel_rfl) | (simp; done) | decide | (repeat' (first | refine And.intro ?_ ?_ | exact trivial | exact rfl | (simp; done)))) ?_ | refine bcs_dec (fun h => ?_) (fun h => False.elim (by first | omega | exact h rfl)) | refine bcs_dec (fun h => False.elim (by omega)) (fun h => ?_) | refine bcs_dec (fun h => ?_) (fun h => ?_) | refine bcs_ndec (fun h => ?_) (fun h => ?_) | refine bcs_not ?_ | refine And.intro ?_ ?_ | refine reg_tail (by kernel_rfl) ?_)
    refine call_rule [] (num_nil_con) hG ?_ ?_
    · (refine ⟨?_, ?_, rfl, rfl, rfl⟩ <;> repeat' (first | refine And.intro ?_ ?_ | exact trivial | exact rfl | refine lt0 | refine lt1 ?_ | refine lt2 ?_ ?_ | refine lt3 ?_ ?_ ?_ | refine lt4 ?_ ?_ ?_ ?_ | exact veq_refl _ | decide | (intro i hi; repeat' (first | refine And.intro ?_ ?_ | exact trivial | exact rfl))))
      all_goals first | exact Nat.le_refl _ | omega
    rintro _ _ _ ⟨rfl, rfl, rfl⟩
    repeat' (first | refine And.intro (by first | omega | (dsimp only; omega) | (show (_ : Bool) = true; kernel_rfl) | (simp; done) | decide | (repeat' (first | refine And.intro ?_ ?_ | exact trivial | exact rfl | (simp; done)))) ?_ | refine bcs_dec (fun h => ?_) (fun h => False.elim (by first | omega | exact h rfl)) | refine bcs_dec (fun h => False.elim (by omega)) (fun h => ?_) | refine bcs_dec (fun h => ?_) (fun h => ?_) | refine bcs_ndec (fun h => ?_) (fun h => ?_) | refine bcs_not ?_ | refine And.intro ?_ ?_ | refine reg_tail (by kernel_rfl) ?_)
    refine call_rule [] (sure_con) hG ?_ ?_
    · (refine ⟨?_, ?_, rfl, rfl, rfl⟩ <;> repeat' (first | refine And.intro ?_ ?_ | exact trivial | exact rfl | refine lt0 | refine lt1 ?_ | refine lt2 ?_ ?_ | refine lt3 ?_ ?_ ?_ | refine lt4 ?_ ?_ ?_ ?_ | exact veq_refl _ | decide | (intro i hi; repeat' (first | refine And.intro ?_ ?_ | exact trivial | exact rfl))))
      all_goals first | exact Nat.le_refl _ | omega
    rintro _ _ _ ⟨rfl, rfl, rfl⟩
    repeat' (first | refine And.intro (by first | omega | (dsimp only; omega) | (show (_ : Bool) = true; kernel_rfl) | (simp; done) | decide | (repeat' (first | refine And.intro ?_ ?_ | exact trivial | exact rfl | (simp; done)))) ?_ | refine bcs_dec (fun h => ?_) (fun h => False.elim (by first | omega | exact h rfl)) | refine bcs_dec (fun h => False.elim (by omega)) (fun h => ?_) | refine bcs_dec (fun h => ?_) (fun h => ?_) | refine bcs_ndec (fun h => ?_) (fun h => ?_) | refine bcs_not ?_ | refine And.intro ?_ ?_ | refine reg_tail (by kernel_rfl) ?_)
    refine ret_plain ?_
    exact rfl
  · refine spec_intro (tab := tab) (N := 79) Tryd.func5 rfl rfl tab_ok mix rfl rfl _ rfl ?_
    intro B hG
    repeat' (first | refine And.intro (by first | omega | (dsimp only; omega) | (show (_ : Bool) = true; kernel_rfl) | (simp; done) | decide | (repeat' (first | refine And.intro ?_ ?_ | exact trivial | exact rfl | (simp; done)))) ?_ | refine bcs_dec (fun h => ?_) (fun h => False.elim (by first | omega | exact h rfl)) | refine bcs_dec (fun h => False.elim (by omega)) (fun h => ?_) | refine bcs_dec (fun h => ?_) (fun h => ?_) | refine bcs_ndec (fun h => ?_) (fun h => ?_) | refine bcs_not ?_ | refine And.intro ?_ ?_ | refine reg_tail (by kernel_rfl) ?_)
    refine call_rule [.at 0 0, .at 1 0, .at 2 0] (c1) hG ?_ ?_
    · (refine ⟨?_, ?_, rfl, rfl, rfl⟩ <;> repeat' (first | refine And.intro ?_ ?_ | exact trivial | exact rfl | refine lt0 | refine lt1 ?_ | refine lt2 ?_ ?_ | refine lt3 ?_ ?_ ?_ | refine lt4 ?_ ?_ ?_ ?_ | exact veq_refl _ | decide | (intro i hi; repeat' (first | refine And.intro ?_ ?_ | exact trivial | exact rfl))))
      all_goals first | exact Nat.le_refl _ | omega
    rintro _ _ _ ⟨rfl, rfl, rfl⟩
    repeat' (first | refine And.intro (by first | omega | (dsimp only; omega) | (show (_ : Bool) = true; kernel_rfl) | (simp; done) | decide | (repeat' (first | refine And.intro ?_ ?_ | exact trivial | exact rfl | (simp; done)))) ?_ | refine bcs_dec (fun h => ?_) (fun h => False.elim (by first | omega | exact h rfl)) | refine bcs_dec (fun h => False.elim (by omega)) (fun h => ?_) | refine bcs_dec (fun h => ?_) (fun h => ?_) | refine bcs_ndec (fun h => ?_) (fun h => ?_) | refine bcs_not ?_ | refine And.intro ?_ ?_ | refine reg_tail (by kernel_rfl) ?_)
    refine call_rule [.at 0 0, .at 1 0, .at 2 0] (c2) hG ?_ ?_
    · (refine ⟨?_, ?_, rfl, rfl, rfl⟩ <;> repeat' (first | refine And.intro ?_ ?_ | exact trivial | exact rfl | refine lt0 | refine lt1 ?_ | refine lt2 ?_ ?_ | refine lt3 ?_ ?_ ?_ | refine lt4 ?_ ?_ ?_ ?_ | exact veq_refl _ | decide | (intro i hi; repeat' (first | refine And.intro ?_ ?_ | exact trivial | exact rfl))))
      all_goals first | exact Nat.le_refl _ | omega
    rintro _ _ _ ⟨rfl, rfl, rfl⟩
    repeat' (first | refine And.intro (by first | omega | (dsimp only; omega) | (show (_ : Bool) = true; kernel_rfl) | (simp; done) | decide | (repeat' (first | refine And.intro ?_ ?_ | exact trivial | exact rfl | (simp; done)))) ?_ | refine bcs_dec (fun h => ?_) (fun h => False.elim (by first | omega | exact h rfl)) | refine bcs_dec (fun h => False.elim (by omega)) (fun h => ?_) | refine bcs_dec (fun h => ?_) (fun h => ?_) | refine bcs_ndec (fun h => ?_) (fun h => ?_) | refine bcs_not ?_ | refine And.intro ?_ ?_ | refine reg_tail (by kernel_rfl) ?_)
    refine call_rule [] (c3) hG ?_ ?_
    · (refine ⟨?_, ?_, rfl, rfl, rfl⟩ <;> repeat' (first | refine And.intro ?_ ?_ | exact trivial | exact rfl | refine lt0 | refine lt1 ?_ | refine lt2 ?_ ?_ | refine lt3 ?_ ?_ ?_ | refine lt4 ?_ ?_ ?_ ?_ | exact veq_refl _ | decide | (intro i hi; repeat' (first | refine And.intro ?_ ?_ | exact trivial | exact rfl))))
      all_goals first | exact Nat.le_refl _ | omega
    rintro _ _ _ ⟨rfl, rfl, rfl⟩
    repeat' (first | refine And.intro (by first | omega | (dsimp only; omega) | (show (_ : Bool) = true; kernel_rfl) | (simp; done) | decide | (repeat' (first | refine And.intro ?_ ?_ | exact trivial | exact rfl | (simp; done)))) ?_ | refine bcs_dec (fun h => ?_) (fun h => False.elim (by first | omega | exact h rfl)) | refine bcs_dec (fun h => False.elim (by omega)) (fun h => ?_) | refine bcs_dec (fun h => ?_) (fun h => ?_) | refine bcs_ndec (fun h => ?_) (fun h => ?_) | refine bcs_not ?_ | refine And.intro ?_ ?_ | refine reg_tail (by kernel_rfl) ?_)
    refine call_rule [] (c4) hG ?_ ?_
    · (refine ⟨?_, ?_, rfl, rfl, rfl⟩ <;> repeat' (first | refine And.intro ?_ ?_ | exact trivial | exact rfl | refine lt0 | refine lt1 ?_ | refine lt2 ?_ ?_ | refine lt3 ?_ ?_ ?_ | refine lt4 ?_ ?_ ?_ ?_ | exact veq_refl _ | decide | (intro i hi; repeat' (first | refine And.intro ?_ ?_ | exact trivial | exact rfl))))
      all_goals first | exact Nat.le_refl _ | omega
    rintro _ _ _ ⟨rfl, rfl, rfl⟩
    repeat' (first | refine And.intro (by first | omega | (dsimp only; omega) | (show (_ : Bool) = true; kernel_rfl) | (simp; done) | decide | (repeat' (first | refine And.intro ?_ ?_ | exact trivial | exact rfl | (simp; done)))) ?_ | refine bcs_dec (fun h => ?_) (fun h => False.elim (by first | omega | exact h rfl)) | refine bcs_dec (fun h => False.elim (by omega)) (fun h => ?_) | refine bcs_dec (fun h => ?_) (fun h => ?_) | refine bcs_ndec (fun h => ?_) (fun h => ?_) | refine bcs_not ?_ | refine And.intro ?_ ?_ | refine reg_tail (by kernel_rfl) ?_)
    refine bcs_t (seq _) ?_
    repeat' (first | refine And.intro (by first | omega | (dsimp only; omega) | (show (_ : Bool) = true; kernel_rfl) | (simp; done) | decide | (repeat' (first | refine And.intro ?_ ?_ | exact trivial | exact rfl | (simp; done)))) ?_ | refine bcs_dec (fun h => ?_) (fun h => False.elim (by first | omega | exact h rfl)) | refine bcs_dec (fun h => False.elim (by omega)) (fun h => ?_) | refine bcs_dec (fun h => ?_) (fun h => ?_) | refine bcs_ndec (fun h => ?_) (fun h => ?_) | refine bcs_not ?_ | refine And.intro ?_ ?_ | refine reg_tail (by kernel_rfl) ?_)
    refine call_rule [] (num_nil_con) hG ?_ ?_
    · (refine ⟨?_, ?_, rfl, rfl, rfl⟩ <;> repeat' (first | refine And.intro ?_ ?_ | exact trivial | exact rfl | refine lt0 | refine lt1 ?_ | refine lt2 ?_ ?_ | refine lt3 ?_ ?_ ?_ | refine lt4 ?_ ?_ ?_ ?_ | exact veq_refl _ | decide | (intro i hi; repeat' (first | refine And.intro ?_ ?_ | exact trivial | exact rfl))))
      all_goals first | exact Nat.le_refl _ | omega
    rintro _ _ _ ⟨rfl, rfl, rfl⟩
    repeat' (first | refine And.intro (by first | omega | (dsimp only; omega) | (show (_ : Bool) = true; kernel_rfl) | (simp; done) | decide | (repeat' (first | refine And.intro ?_ ?_ | exact trivial | exact rfl | (simp; done)))) ?_ | refine bcs_dec (fun h => ?_) (fun h => False.elim (by first | omega | exact h rfl)) | refine bcs_dec (fun h => False.elim (by omega)) (fun h => ?_) | refine bcs_dec (fun h => ?_) (fun h => ?_) | refine bcs_ndec (fun h => ?_) (fun h => ?_) | refine bcs_not ?_ | refine And.intro ?_ ?_ | refine reg_tail (by kernel_rfl) ?_)
    refine call_rule [] (num_err_con f) hG ?_ ?_
    · (refine ⟨?_, ?_, rfl, rfl, rfl⟩ <;> repeat' (first | refine And.intro ?_ ?_ | exact trivial | exact rfl | refine lt0 | refine lt1 ?_ | refine lt2 ?_ ?_ | refine lt3 ?_ ?_ ?_ | refine lt4 ?_ ?_ ?_ ?_ | exact veq_refl _ | decide | (intro i hi; repeat' (first | refine And.intro ?_ ?_ | exact trivial | exact rfl))))
      all_goals first | exact Nat.le_refl _ | omega
    rintro _ _ _ ⟨rfl, rfl, rfl⟩
    repeat' (first | refine And.intro (by first | omega | (dsimp only; omega) | (show (_ : Bool) = true; kernel_rfl) | (simp; done) | decide | (repeat' (first | refine And.intro ?_ ?_ | exact trivial | exact rfl | (simp; done)))) ?_ | refine bcs_dec (fun h => ?_) (fun h => False.elim (by first | omega | exact h rfl)) | refine bcs_dec (fun h => False.elim (by omega)) (fun h => ?_) | refine bcs_dec (fun h => ?_) (fun h => ?_) | refine bcs_ndec (fun h => ?_) (fun h => ?_) | refine bcs_not ?_ | refine And.intro ?_ ?_ | refine reg_tail (by kernel_rfl) ?_)
    refine call_rule [] (sure_con) hG ?_ ?_
    · (refine ⟨?_, ?_, rfl, rfl, rfl⟩ <;> repeat' (first | refine And.intro ?_ ?_ | exact trivial | exact rfl | refine lt0 | refine lt1 ?_ | refine lt2 ?_ ?_ | refine lt3 ?_ ?_ ?_ | refine lt4 ?_ ?_ ?_ ?_ | exact veq_refl _ | decide | (intro i hi; repeat' (first | refine And.intro ?_ ?_ | exact trivial | exact rfl))))
      all_goals first | exact Nat.le_refl _ | omega
    rintro _ _ _ ⟨rfl, rfl, rfl⟩
    repeat' (first | refine And.intro (by first | omega | (dsimp only; omega) | (show (_ : Bool) = true; kernel_rfl) | (simp; done) | decide | (repeat' (first | refine And.intro ?_ ?_ | exact trivial | exact rfl | (simp; done)))) ?_ | refine bcs_dec (fun h => ?_) (fun h => False.elim (by first | omega | exact h rfl)) | refine bcs_dec (fun h => False.elim (by omega)) (fun h => ?_) | refine bcs_dec (fun h => ?_) (fun h => ?_) | refine bcs_ndec (fun h => ?_) (fun h => ?_) | refine bcs_not ?_ | refine And.intro ?_ ?_ | refine reg_tail (by kernel_rfl) ?_)
    refine ret_plain ?_
    exact rfl
  · refine spec_intro (tab := tab) (N := 79) Tryd.func5 rfl rfl tab_ok mix rfl rfl _ rfl ?_
    intro B hG
    repeat' (first | refine And.intro (by first | omega | (dsimp only; omega) | (show (_ : Bool) = true; kernel_rfl) | (simp; done) | decide | (repeat' (first | refine And.intro ?_ ?_ | exact trivial | exact rfl | (simp; done)))) ?_ | refine bcs_dec (fun h => ?_) (fun h => False.elim (by first | omega | exact h rfl)) | refine bcs_dec (fun h => False.elim (by omega)) (fun h => ?_) | refine bcs_dec (fun h => ?_) (fun h => ?_) | refine bcs_ndec (fun h => ?_) (fun h => ?_) | refine bcs_not ?_ | refine And.intro ?_ ?_ | refine reg_tail (by kernel_rfl) ?_)
    refine call_rule [.at 0 0, .at 1 0, .at 2 0] (c1) hG ?_ ?_
    · (refine ⟨?_, ?_, rfl, rfl, rfl⟩ <;> repeat' (first | refine And.intro ?_ ?_ | exact trivial | exact rfl | refine lt0 | refine lt1 ?_ | refine lt2 ?_ ?_ | refine lt3 ?_ ?_ ?_ | refine lt4 ?_ ?_ ?_ ?_ | exact veq_refl _ | decide | (intro i hi; repeat' (first | refine And.intro ?_ ?_ | exact trivial | exact rfl))))
      all_goals first | exact Nat.le_refl _ | omega
    rintro _ _ _ ⟨rfl, rfl, rfl⟩
    repeat' (first | refine And.intro (by first | omega | (dsimp only; omega) | (show (_ : Bool) = true; kernel_rfl) | (simp; done) | decide | (repeat' (first | refine And.intro ?_ ?_ | exact trivial | exact rfl | (simp; done)))) ?_ | refine bcs_dec (fun h => ?_) (fun h => False.elim (by first | omega | exact h rfl)) | refine bcs_dec (fun h => False.elim (by omega)) (fun h => ?_) | refine bcs_dec (fun h => ?_) (fun h => ?_) | refine bcs_ndec (fun h => ?_) (fun h => ?_) | refine bcs_not ?_ | refine And.intro ?_ ?_ | refine reg_tail (by kernel_rfl) ?_)
    refine call_rule [.at 0 0, .at 1 0, .at 2 0] (c2) hG ?_ ?_
    · (refine ⟨?_, ?_, rfl, rfl, rfl⟩ <;> repeat' (first | refine And.intro ?_ ?_ | exact trivial | exact rfl | refine lt0 | refine lt1 ?_ | refine lt2 ?_ ?_ | refine lt3 ?_ ?_ ?_ | refine lt4 ?_ ?_ ?_ ?_ | exact veq_refl _ | decide | (intro i hi; repeat' (first | refine And.intro ?_ ?_ | exact trivial | exact rfl))))
      all_goals first | exact Nat.le_refl _ | omega
    rintro _ _ _ ⟨rfl, rfl, rfl⟩
    repeat' (first | refine And.intro (by first | omega | (dsimp only; omega) | (show (_ : Bool) = true; kernel_rfl) | (simp; done) | decide | (repeat' (first | refine And.intro ?_ ?_ | exact trivial | exact rfl | (simp; done)))) ?_ | refine bcs_dec (fun h => ?_) (fun h => False.elim (by first | omega | exact h rfl)) | refine bcs_dec (fun h => False.elim (by omega)) (fun h => ?_) | refine bcs_dec (fun h => ?_) (fun h => ?_) | refine bcs_ndec (fun h => ?_) (fun h => ?_) | refine bcs_not ?_ | refine And.intro ?_ ?_ | refine reg_tail (by kernel_rfl) ?_)
    refine call_rule [] (c3) hG ?_ ?_
    · (refine ⟨?_, ?_, rfl, rfl, rfl⟩ <;> repeat' (first | refine And.intro ?_ ?_ | exact trivial | exact rfl | refine lt0 | refine lt1 ?_ | refine lt2 ?_ ?_ | refine lt3 ?_ ?_ ?_ | refine lt4 ?_ ?_ ?_ ?_ | exact veq_refl _ | decide | (intro i hi; repeat' (first | refine And.intro ?_ ?_ | exact trivial | exact rfl))))
      all_goals first | exact Nat.le_refl _ | omega
    rintro _ _ _ ⟨rfl, rfl, rfl⟩
    repeat' (first | refine And.intro (by first | omega | (dsimp only; omega) | (show (_ : Bool) = true; kernel_rfl) | (simp; done) | decide | (repeat' (first | refine And.intro ?_ ?_ | exact trivial | exact rfl | (simp; done)))) ?_ | refine bcs_dec (fun h => ?_) (fun h => False.elim (by first | omega | exact h rfl)) | refine bcs_dec (fun h => False.elim (by omega)) (fun h => ?_) | refine bcs_dec (fun h => ?_) (fun h => ?_) | refine bcs_ndec (fun h => ?_) (fun h => ?_) | refine bcs_not ?_ | refine And.intro ?_ ?_ | refine reg_tail (by kernel_rfl) ?_)
    refine call_rule [] (c4) hG ?_ ?_
    · (refine ⟨?_, ?_, rfl, rfl, rfl⟩ <;> repeat' (first | refine And.intro ?_ ?_ | exact trivial | exact rfl | refine lt0 | refine lt1 ?_ | refine lt2 ?_ ?_ | refine lt3 ?_ ?_ ?_ | refine lt4 ?_ ?_ ?_ ?_ | exact veq_refl _ | decide | (intro i hi; repeat' (first | refine And.intro ?_ ?_ | exact trivial | exact rfl))))
      all_goals first | exact Nat.le_refl _ | omega
    rintro _ _ _ ⟨rfl, rfl, rfl⟩
    repeat' (first | refine And.intro (by first | omega | (dsimp only; omega) | (show (_ : Bool) = true; kernel_rfl) | (simp; done) | decide | (repeat' (first | refine And.intro ?_ ?_ | exact trivial | exact rfl | (simp; done)))) ?_ | refine bcs_dec (fun h => ?_) (fun h => False.elim (by first | omega | exact h rfl)) | refine bcs_dec (fun h => False.elim (by omega)) (fun h => ?_) | refine bcs_dec (fun h => ?_) (fun h => ?_) | refine bcs_ndec (fun h => ?_) (fun h => ?_) | refine bcs_not ?_ | refine And.intro ?_ ?_ | refine reg_tail (by kernel_rfl) ?_)
    refine bcs_t (seq _) ?_
    repeat' (first | refine And.intro (by first | omega | (dsimp only; omega) | (show (_ : Bool) = true; kernel_rfl) | (simp; done) | decide | (repeat' (first | refine And.intro ?_ ?_ | exact trivial | exact rfl | (simp; done)))) ?_ | refine bcs_dec (fun h => ?_) (fun h => False.elim (by first | omega | exact h rfl)) | refine bcs_dec (fun h => False.elim (by omega)) (fun h => ?_) | refine bcs_dec (fun h => ?_) (fun h => ?_) | refine bcs_ndec (fun h => ?_) (fun h => ?_) | refine bcs_not ?_ | refine And.intro ?_ ?_ | refine reg_tail (by kernel_rfl) ?_)
    refine call_rule [] (num_err_con e) hG ?_ ?_
    · (refine ⟨?_, ?_, rfl, rfl, rfl⟩ <;> repeat' (first | refine And.intro ?_ ?_ | exact trivial | exact rfl | refine lt0 | refine lt1 ?_ | refine lt2 ?_ ?_ | refine lt3 ?_ ?_ ?_ | refine lt4 ?_ ?_ ?_ ?_ | exact veq_refl _ | decide | (intro i hi; repeat' (first | refine And.intro ?_ ?_ | exact trivial | exact rfl))))
      all_goals first | exact Nat.le_refl _ | omega
    rintro _ _ _ ⟨rfl, rfl, rfl⟩
    repeat' (first | refine And.intro (by first | omega | (dsimp only; omega) | (show (_ : Bool) = true; kernel_rfl) | (simp; done) | decide | (repeat' (first | refine And.intro ?_ ?_ | exact trivial | exact rfl | (simp; done)))) ?_ | refine bcs_dec (fun h => ?_) (fun h => False.elim (by first | omega | exact h rfl)) | refine bcs_dec (fun h => False.elim (by omega)) (fun h => ?_) | refine bcs_dec (fun h => ?_) (fun h => ?_) | refine bcs_ndec (fun h => ?_) (fun h => ?_) | refine bcs_not ?_ | refine And.intro ?_ ?_ | refine reg_tail (by kernel_rfl) ?_)
    refine call_rule [] (num_nil_con) hG ?_ ?_
    · (refine ⟨?_, ?_, rfl, rfl, rfl⟩ <;> repeat' (first | refine And.intro ?_ ?_ | exact trivial | exact rfl | refine lt0 | refine lt1 ?_ | refine lt2 ?_ ?_ | refine lt3 ?_ ?_ ?_ | refine lt4 ?_ ?_ ?_ ?_ | exact veq_refl _ | decide | (intro i hi; repeat' (first | refine And.intro ?_ ?_ | exact trivial | exact rfl))))
      all_goals first | exact Nat.le_refl _ | omega
    rintro _ _ _ ⟨rfl, rfl, rfl⟩
    repeat' (first | refine And.intro (by first | omega | (dsimp only; omega) | (show (_ : Bool) = true; kernel_rfl) | (simp; done) | decide | (repeat' (first | refine And.intro ?_ ?_ | exact trivial | exact rfl | (simp; done)))) ?_ | refine bcs_dec (fun h => ?_) (fun h => False.elim (by first | omega | exact h rfl)) | refine bcs_dec (fun h => False.elim (by omega)) (fun h => ?_) | refine bcs_dec (fun h => ?_) (fun h => ?_) | refine bcs_ndec (fun h => ?_) (fun h => ?_) | refine bcs_not ?_ | refine And.intro ?_ ?_ | refine reg_tail (by kernel_rfl) ?_)
    refine call_rule [] (sure_con) hG ?_ ?_
    · (refine ⟨?_, ?_, rfl, rfl, rfl⟩ <;> repeat' (first | refine And.intro ?_ ?_ | exact trivial | exact rfl | refine lt0 | refine lt1 ?_ | refine lt2 ?_ ?_ | refine lt3 ?_ ?_ ?_ | refine lt4 ?_ ?_ ?_ ?_ | exact veq_refl _ | decide | (intro i hi; repeat' (first | refine And.intro ?_ ?_ | exact trivial | exact rfl))))
      all_goals first | exact Nat.le_refl _ | omega
    rintro _ _ _ ⟨rfl, rfl, rfl⟩
    repeat' (first | refine And.intro (by first | omega | (dsimp only; omega) | (show (_ : Bool) = true; kernel_rfl) | (simp; done) | decide | (repeat' (first | refine And.intro ?_ ?_ | exact trivial | exact rfl | (simp; done)))) ?_ | refine bcs_dec (fun h => ?_) (fun h => False.elim (by first | omega | exact h rfl)) | refine bcs_dec (fun h => False.elim (by omega)) (fun h => ?_) | refine bcs_dec (fun h => ?_) (fun h => ?_) | refine bcs_ndec (fun h => ?_) (fun h => ?_) | refine bcs_not ?_ | refine And.intro ?_ ?_ | refine reg_tail (by kernel_rfl) ?_)
    refine ret_plain ?_
    exact rfl
  · refine spec_intro (tab := tab) (N := 79) Tryd.func5 rfl rfl tab_ok mix rfl rfl _ rfl ?_
    intro B hG
    repeat' (first | refine And.intro (by first | omega | (dsimp only; omega) | (show (_ : Bool) = true; kernel_rfl) | (simp; done) | decide | (repeat' (first | refine And.intro ?_ ?_ | exact trivial | exact rfl | (simp; done)))) ?_ | refine bcs_dec (fun h => ?_) (fun h => False.elim (by first | omega | exact h rfl)) | refine bcs_dec (fun h => False.elim (by omega)) (fun h => ?_) | refine bcs_dec (fun h => ?_) (fun h => ?_) | refine bcs_ndec (fun h => ?_) (fun h => ?_) | refine bcs_not ?_ | refine And.intro ?_ ?_ | refine reg_tail (by kernel_rfl) ?_)
    refine call_rule [.at 0 0, .at 1 0, .at 2 0] (c1) hG ?_ ?_
    · (refine ⟨?_, ?_, rfl, rfl, rfl⟩ <;> repeat' (first | refine And.intro ?_ ?_ | exact trivial | exact rfl | refine lt0 | refine lt1 ?_ | refine lt2 ?_ ?_ | refine lt3 ?_ ?_ ?_ | refine lt4 ?_ ?_ ?_ ?_ | exact veq_refl _ | decide | (intro i hi; repeat' (first | refine And.intro ?_ ?_ | exact trivial | exact rfl))))
      all_goals first | exact Nat.le_refl _ | omega
    rintro _ _ _ ⟨rfl, rfl, rfl⟩
    repeat' (first | refine And.intro (by first | omega | (dsimp only; omega) | (show (_ : Bool) = true; kernel_rfl) | (simp; done) | decide | (repeat' (first | refine And.intro ?_ ?_ | exact trivial | exact rfl | (simp; done)))) ?_ | refine bcs_dec (fun h => ?_) (fun h => False.elim (by first | omega | exact h rfl)) | refine bcs_dec (fun h => False.elim (by omega)) (fun h => ?_) | refine bcs_dec (fun h => ?_) (fun h => ?_) | refine bcs_ndec (fun h => ?_) (fun h => ?_) | refine bcs_not ?_ | refine And.intro ?_ ?_ | refine reg_tail (by kernel_rfl) ?_)
    refine call_rule [.at 0 0, .at 1 0, .at 2 0] (c2) hG ?_ ?_
    · (refine ⟨?_, ?_, rfl, rfl, rfl⟩ <;> repeat' (first | refine And.intro ?_ ?_ | exact trivial | exact rfl | refine lt0 | refine lt1 ?_ | refine lt2 ?_ ?_ | refine lt3 ?_ ?_ ?_ | refine lt4 ?_ ?_ ?_ ?_ | exact veq_refl _ | decide | (intro i hi; repeat' (first | refine And.intro ?_ ?_ | exact trivial | exact rfl))))
      all_goals first | exact Nat.le_refl _ | omega
    rintro _ _ _ ⟨rfl, rfl, rfl⟩
    repeat' (first | refine And.intro (by first | omega | (dsimp only; omega) | (show (_ : Bool) = true; kernel_rfl) | (simp; done) | decide | (repeat' (first | refine And.intro ?_ ?_ | exact trivial | exact rfl | (simp; done)))) ?_ | refine bcs_dec (fun h => ?_) (fun h => False.elim (by first | omega | exact h rfl)) | refine bcs_dec (fun h => False.elim (by omega)) (fun h => ?_) | refine bcs_dec (fun h => ?_) (fun h => ?_) | refine bcs_ndec (fun h => ?_) (fun h => ?_) | refine bcs_not ?_ | refine And.intro ?_ ?_ | refine reg_tail (by kernel_rfl) ?_)
    refine call_rule [] (c3) hG ?_ ?_
    · (refine ⟨?_, ?_, rfl, rfl, rfl⟩ <;> repeat' (first | refine And.intro ?_ ?_ | exact trivial | exact rfl | refine lt0 | refine lt1 ?_ | refine lt2 ?_ ?_ | refine lt3 ?_ ?_ ?_ | refine lt4 ?_ ?_ ?_ ?_ | exact veq_refl _ | decide | (intro i hi; repeat' (first | refine And.intro ?_ ?_ | exact trivial | exact rfl))))
      all_goals first | exact Nat.le_refl _ | omega
    rintro _ _ _ ⟨rfl, rfl, rfl⟩
    repeat' (first | refine And.intro (by first | omega | (dsimp only; omega) | (show (_ : Bool) = true; kernel_rfl) | (simp; done) | decide | (repeat' (first | refine And.intro ?_ ?_ | exact trivial | exact rfl | (simp; done)))) ?_ | refine bcs_dec (fun h => ?_) (fun h => False.elim (by first | omega | exact h rfl)) | refine bcs_dec (fun h => False.elim (by omega)) (fun h => ?_) | refine bcs_dec (fun h => ?_) (fun h => ?_) | refine bcs_ndec (fun h => ?_) (fun h => ?_) | refine bcs_not ?_ | refine And.intro ?_ ?_ | refine reg_tail (by kernel_rfl) ?_)
    refine call_rule [] (c4) hG ?_ ?_
    · (refine ⟨?_, ?_, rfl, rfl, rfl⟩ <;> repeat' (first | refine And.intro ?_ ?_ | exact trivial | exact rfl | refine lt0 | refine lt1 ?_ | refine lt2 ?_ ?_ | refine lt3 ?_ ?_ ?_ | refine lt4 ?_ ?_ ?_ ?_ | exact veq_refl _ | decide | (intro i hi; repeat' (first | refine And.intro ?_ ?_ | exact trivial | exact rfl))))
      all_goals first | exact Nat.le_refl _ | omega
    rintro _ _ _ ⟨rfl, rfl, rfl⟩
    repeat' (first | refine And.intro (by first | omega | (dsimp only; omega) | (show (_ : Bool) = true; kernel_rfl) | (simp; done) | decide | (repeat' (first | refine And.intro ?_ ?_ | exact trivial | exact rfl | (simp; done)))) ?_ | refine bcs_dec (fun h => ?_) (fun h => False.elim (by first | omega | exact h rfl)) | refine bcs_dec (fun h => False.elim (by omega)) (fun h => ?_) | refine bcs_dec (fun h => ?_) (fun h => ?_) | refine bcs_ndec (fun h => ?_) (fun h => ?_) | refine bcs_not ?_ | refine And.intro ?_ ?_ | refine reg_tail (by kernel_rfl) ?_)
    refine bcs_t (seq _) ?_
    repeat' (first | refine And.intro (by first | omega | (dsimp only; omega) | (show (_ : Bool) = true; kernel_rfl) | (simp; done) | decide | (repeat' (first | refine And.intro ?_ ?_ | exact trivial | exact rfl | (simp; done)))) ?_ | refine bcs_dec (fun h => ?_) (fun h => False.elim (by first | omega | exact h rfl)) | refine bcs_dec (fun h => False.elim (by omega)) (fun h => ?_) | refine bcs_dec (fun h => ?_) (fun h => ?_) | refine bcs_ndec (fun h => ?_) (fun h => ?_) | refine bcs_not ?_ | refine And.intro ?_ ?_ | refine reg_tail (by kernel_rfl) ?_)
    refine call_rule [] (num_err_con e) hG ?_ ?_
    · (refine ⟨?_, ?_, rfl, rfl, rfl⟩ <;> repeat' (first | refine And.intro ?_ ?_ | exact trivial | exact rfl | refine lt0 | refine lt1 ?_ | refine lt2 ?_ ?_ | refine lt3 ?_ ?_ ?_ | refine lt4 ?_ ?_ ?_ ?_ | exact veq_refl _ | decide | (intro i hi; repeat' (first | refine And.intro ?_ ?_ | exact trivial | exact rfl))))
      all_goals first | exact Nat.le_refl _ | omega
    rintro _ _ _ ⟨rfl, rfl, rfl⟩
    repeat' (first | refine And.intro (by first | omega | (dsimp only; omega) | (show (_ : Bool) = true; kernel_rfl) | (simp; done) | decide | (repeat' (first | refine And.intro ?_ ?_ | exact trivial | exact rfl | (simp; done)))) ?_ | refine bcs_dec (fun h => ?_) (fun h => False.elim (by first | omega | exact h rfl)) | refine bcs_dec (fun h => False.elim (by omega)) (fun h => ?_) | refine bcs_dec (fun h => ?_) (fun h => ?_) | refine bcs_ndec (fun h => ?_) (fun h => ?_) | refine bcs_not ?_ | refine And.intro ?_ ?_ | refine reg_tail (by kernel_rfl) ?_)
    refine call_rule [] (num_err_con f) hG ?_ ?_
    · (refine ⟨?_, ?_, rfl, rfl, rfl⟩ <;> repeat' (first | refine And.intro ?_ ?_ | exact trivial | exact rfl | refine lt0 | refine lt1 ?_ | refine lt2 ?_ ?_ | refine lt3 ?_ ?_ ?_ | refine lt4 ?_ ?_ ?_ ?_ | exact veq_refl _ | decide | (intro i hi; repeat' (first | refine And.intro ?_ ?_ | exact trivial | exact rfl))))
      all_goals first | exact Nat.le_refl _ | omega
    rintro _ _ _ ⟨rfl, rfl, rfl⟩
    repeat' (first | refine And.intro (by first | omega | (dsimp only; omega) | (show (_ : Bool) = true; kernel_rfl) | (simp; done) | decide | (repeat' (first | refine And.intro ?_ ?_ | exact trivial | exact rfl | (simp; done)))) ?_ | refine bcs_dec (fun h => ?_) (fun h => False.elim (by first | omega | exact h rfl)) | refine bcs_dec (fun h => False.elim (by omega)) (fun h => ?_) | refine bcs_dec (fun h => ?_) (fun h => ?_) | refine bcs_ndec (fun h => ?_) (fun h => ?_) | refine bcs_not ?_ | refine And.intro ?_ ?_ | refine reg_tail (by kernel_rfl) ?_)
    refine call_rule [] (sure_con) hG ?_ ?_
    · (refine ⟨?_, ?_, rfl, rfl, rfl⟩ <;> repeat' (first | refine And.intro ?_ ?_ | exact trivial | exact rfl | refine lt0 | refine lt1 ?_ | refine lt2 ?_ ?_ | refine lt3 ?_ ?_ ?_ | refine lt4 ?_ ?_ ?_ ?_ | exact veq_refl _ | decide | (intro i hi; repeat' (first | refine And.intro ?_ ?_ | exact trivial | exact rfl))))
      all_goals first | exact Nat.le_refl _ | omega
    rintro _ _ _ ⟨rfl, rfl, rfl⟩
    repeat' (first | refine And.intro (by first | omega | (dsimp only; omega) | (show (_ : Bool) = true; kernel_rfl) | (simp; done) | decide | (repeat' (first | refine And.intro ?_ ?_ | exact trivial | exact rfl | (simp; done)))) ?_ | refine bcs_dec (fun h => ?_) (fun h => False.elim (by first | omega | exact h rfl)) | refine bcs_dec (fun h => False.elim (by omega)) (fun h => ?_) | refine bcs_dec (fun h => ?_) (fun h => ?_) | refine bcs_ndec (fun h => ?_) (fun h => ?_) | refine bcs_not ?_ | refine And.intro ?_ ?_ | refine reg_tail (by kernel_rfl) ?_)
    refine ret_plain ?_
    exact rfl
end Go.Proofs.YtjlobgcmhnkgnaaDoor
