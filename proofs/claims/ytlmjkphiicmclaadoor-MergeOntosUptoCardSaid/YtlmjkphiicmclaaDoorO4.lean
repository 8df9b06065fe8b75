/- Chapter 18: the script from mine to the merged text, and its lines, or the error: the statement walked. -/
import Derived.Test.YtlmjkphiicmclaaDoorOA
import Derived.Test.YtlmjkphiicmclaaDoorNB
import Derived.Test.YtlmjkphiicmclaaDoorEE
namespace Go.Proofs.YtlmjkphiicmclaaDoor
open Go Go.RowKit Vc

set_option maxRecDepth 100000 in
set_option maxHeartbeats 16000000 in
theorem jonto_con (s t : List Chg) (b m y lab : List Byt) (fmt : Int) (H : JobSm s t b m y lab) :
    Con Tryd.prog glob 22 [.a [.s 0 0 s.length, .s 1 0 t.length, .s 2 0 b.length, .s 3 0 m.length, .s 4 0 y.length, .s 5 0 lab.length, .v (.int .i64 fmt)]] [(0, chRo s), (1, chRo t), (2, stRo b), (3, stRo m), (4, stRo y), (5, stRo lab)] 6 (retM (.t [.o 6, .o 7, .v (errV (mgErr s t b m y lab fmt))]) [(6, chOwn (onL s t b m y lab fmt)), (7, stOwn (onT s t b m y lab fmt))] 8) := by
  have cC := onto_con s t b m y lab fmt H
  have c1 := changes_con s (by have := H.hs; omega)
  have c2 := changes_con t (by have := H.ht; omega)
  have c3 := texts_con b (by have := H.hbl; omega)
  have c4 := texts_con m (by have := H.hml; omega)
  have c5 := texts_con y (by have := H.hyl; omega)
  have c6 := texts_con lab (by have := H.hll; omega)
  obtain ⟨u, hu⟩ : ∃ u, u = onL s t b m y lab fmt := ⟨_, rfl⟩
  obtain ⟨c, hc⟩ : ∃ c, c = onT s t b m y lab fmt := ⟨_, rfl⟩
  obtain ⟨e, he⟩ : ∃ e, e = errV (mgErr s t b m y lab fmt) := ⟨_, rfl⟩
  have hcs := errV_or (mgErr s t b m y lab fmt)
  rw [← hu, ← hc, ← he] at cC ⊢
  rw [← he] at hcs
  clear hu hc he H
  obtain rfl | ⟨k, rfl⟩ := hcs
  all_goals
    skip
    refine spec_intro (tab := tab) (N := 29) Tryd.func22 rfl rfl tab_ok mix rfl rfl _ rfl ?_
    intro B hG
    repeat' (first | refine Both.mk ?_ ?_ | refine And.intro (by first | (show (_ : Bool) = true; kernel_rfl) | omega | (dsimp only; omega) | (repeat' (first | refine And.intro ?_ ?_ | exact trivial | exact rfl))) ?_ | refine bcs_dec (fun h => ?_) (fun h => False.elim (by first | omega | exact h rfl)) | refine bcs_dec (fun h => False.elim (by omega)) (fun h => ?_) | refine bcs_not ?_ | refine And.intro ?_ ?_)
    refine reg_ord [6] (.early 0 (.early 1 (.early 3 (.early 4 (.early 6 (.early 7 (.early 9 (.early 10 (.early 12 (.early 13 (.early 15 (.early 16 (.early 18 (.early 19 (.late 2 (.late 5 (.late 8 (.late 11 (.late 14 (.late 17 (.late 20 (.early 21 (.early 22 (.late 23 (.late 24 (.late 25 (.late 26 .nil))))))))))))))))))))))))))) (by decide +kernel) rfl ?_
    intro B' hB'
    have hG' := hG
    have hG := hB'.trans hG
    repeat' (first | refine Both.mk ?_ ?_ | refine And.intro (by first | (show (_ : Bool) = true; kernel_rfl) | omega | (dsimp only; omega) | (repeat' (first | refine And.intro ?_ ?_ | exact trivial | exact rfl))) ?_ | refine bcs_dec (fun h => ?_) (fun h => False.elim (by first | omega | exact h rfl)) | refine bcs_dec (fun h => False.elim (by omega)) (fun h => ?_) | refine bcs_not ?_ | refine And.intro ?_ ?_)
    refine call_rA [.at 0 0] (c1) hG ?_
    rintro _ _ _ ⟨rfl, rfl, rfl⟩
    repeat' (first | refine Both.mk ?_ ?_ | refine And.intro (by first | (show (_ : Bool) = true; kernel_rfl) | omega | (dsimp only; omega) | (repeat' (first | refine And.intro ?_ ?_ | exact trivial | exact rfl))) ?_ | refine bcs_dec (fun h => ?_) (fun h => False.elim (by first | omega | exact h rfl)) | refine bcs_dec (fun h => False.elim (by omega)) (fun h => ?_) | refine bcs_not ?_ | refine And.intro ?_ ?_)
    refine call_rA [.at 1 0] (c2) hG ?_
    rintro _ _ _ ⟨rfl, rfl, rfl⟩
    repeat' (first | refine Both.mk ?_ ?_ | refine And.intro (by first | (show (_ : Bool) = true; kernel_rfl) | omega | (dsimp only; omega) | (repeat' (first | refine And.intro ?_ ?_ | exact trivial | exact rfl))) ?_ | refine bcs_dec (fun h => ?_) (fun h => False.elim (by first | omega | exact h rfl)) | refine bcs_dec (fun h => False.elim (by omega)) (fun h => ?_) | refine bcs_not ?_ | refine And.intro ?_ ?_)
    refine call_rA [.at 2 0] (c3) hG ?_
    rintro _ _ _ ⟨rfl, rfl, rfl⟩
    repeat' (first | refine Both.mk ?_ ?_ | refine And.intro (by first | (show (_ : Bool) = true; kernel_rfl) | omega | (dsimp only; omega) | (repeat' (first | refine And.intro ?_ ?_ | exact trivial | exact rfl))) ?_ | refine bcs_dec (fun h => ?_) (fun h => False.elim (by first | omega | exact h rfl)) | refine bcs_dec (fun h => False.elim (by omega)) (fun h => ?_) | refine bcs_not ?_ | refine And.intro ?_ ?_)
    refine call_rA [.at 3 0] (c4) hG ?_
    rintro _ _ _ ⟨rfl, rfl, rfl⟩
    repeat' (first | refine Both.mk ?_ ?_ | refine And.intro (by first | (show (_ : Bool) = true; kernel_rfl) | omega | (dsimp only; omega) | (repeat' (first | refine And.intro ?_ ?_ | exact trivial | exact rfl))) ?_ | refine bcs_dec (fun h => ?_) (fun h => False.elim (by first | omega | exact h rfl)) | refine bcs_dec (fun h => False.elim (by omega)) (fun h => ?_) | refine bcs_not ?_ | refine And.intro ?_ ?_)
    refine call_rA [.at 4 0] (c5) hG ?_
    rintro _ _ _ ⟨rfl, rfl, rfl⟩
    repeat' (first | refine Both.mk ?_ ?_ | refine And.intro (by first | (show (_ : Bool) = true; kernel_rfl) | omega | (dsimp only; omega) | (repeat' (first | refine And.intro ?_ ?_ | exact trivial | exact rfl))) ?_ | refine bcs_dec (fun h => ?_) (fun h => False.elim (by first | omega | exact h rfl)) | refine bcs_dec (fun h => False.elim (by omega)) (fun h => ?_) | refine bcs_not ?_ | refine And.intro ?_ ?_)
    refine call_rA [.at 5 0] (c6) hG ?_
    rintro _ _ _ ⟨rfl, rfl, rfl⟩
    repeat' (first | refine Both.mk ?_ ?_ | refine And.intro (by first | (show (_ : Bool) = true; kernel_rfl) | omega | (dsimp only; omega) | (repeat' (first | refine And.intro ?_ ?_ | exact trivial | exact rfl))) ?_ | refine bcs_dec (fun h => ?_) (fun h => False.elim (by first | omega | exact h rfl)) | refine bcs_dec (fun h => False.elim (by omega)) (fun h => ?_) | refine bcs_not ?_ | refine And.intro ?_ ?_)
    refine call_rA [.at 7 0, .at 8 0, .at 9 0, .at 10 0, .at 11 0, .at 12 0] (cC) hG ?_
    rintro _ _ _ ⟨rfl, rfl, rfl⟩
    repeat' (first | refine Both.mk ?_ ?_ | refine And.intro (by first | (show (_ : Bool) = true; kernel_rfl) | omega | (dsimp only; omega) | (repeat' (first | refine And.intro ?_ ?_ | exact trivial | exact rfl))) ?_ | refine bcs_dec (fun h => ?_) (fun h => False.elim (by first | omega | exact h rfl)) | refine bcs_dec (fun h => False.elim (by omega)) (fun h => ?_) | refine bcs_not ?_ | refine And.intro ?_ ?_)
    have hG := hG'
    repeat' (first | refine And.intro (by first | (show (_ : Bool) = true; kernel_rfl) | omega | (dsimp only; omega) | (repeat' (first | refine And.intro ?_ ?_ | exact trivial | exact rfl))) ?_ | refine bcs_dec (fun h => ?_) (fun h => False.elim (by first | omega | exact h rfl)) | refine bcs_dec (fun h => False.elim (by omega)) (fun h => ?_) | refine bcs_not ?_ | refine And.intro ?_ ?_ | refine reg_tail (by kernel_rfl) ?_)
    refine ret_mem [.at 13 0, .at 14 0] rfl rfl ?_ ?_
    · repeat' (first | refine And.intro ?_ ?_ | exact trivial)
      all_goals first | exact rfl | exact veq_refl _
    · repeat' (first | refine And.intro ?_ ?_ | exact trivial)
      all_goals try first | exact rfl | exact veq_refl _ | omega
      all_goals
        intro i hi
        repeat' (first | refine And.intro ?_ ?_ | exact trivial)
        all_goals exact rfl
theorem on_small {s t : List Chg} {b m y lab : List Byt} {fmt : Int} (H : JobSm s t b m y lab) : (onL s t b m y lab fmt).length ≤ 100000000 ∧ (onT s t b m y lab fmt).length ≤ 4194304 := by
  unfold onL onT
  by_cases he : mgErr s t b m y lab fmt = 0
  · rw [if_pos he, if_pos he]
    have h1 : (normF (onF b m y lab fmt (chLst s t b m y) 0)).length ≤ 0 + (onF b m y lab fmt (chLst s t b m y) 0).length := mergeF_len _ []
    have h2 := on_len (b := b) (m := m) (y := y) (lab := lab) (fmt := fmt) (chLst s t b m y) 0
    have h3 := chLst_len H.ok
    have h4 := splitF_len (mgTxt s t b m y lab fmt)
    have h5 := mg_len he
    omega
  · rw [if_neg he, if_neg he]
    exact ⟨by simp, by simp⟩
set_option maxRecDepth 100000 in
set_option maxHeartbeats 16000000 in
theorem ontos_con (s t : List Chg) (b m y lab : List Byt) (fmt : Int) (H : JobSm s t b m y lab) :
    Con Tryd.prog glob 10 [.a [.s 0 0 s.length, .s 1 0 t.length, .s 2 0 b.length, .s 3 0 m.length, .s 4 0 y.length, .s 5 0 lab.length, .v (.int .i64 fmt)]] [(0, chRo s), (1, chRo t), (2, stRo b), (3, stRo m), (4, stRo y), (5, stRo lab)] 6 (retV 6 (.v (.bool true))) := by
  have cC := jonto_con s t b m y lab fmt H
  have cR := ronto_con s t b m y lab fmt H
  have cN := num_con (mgErr s t b m y lab fmt)
  have hcs := errV_or (mgErr s t b m y lab fmt)
  have hl := on_small (fmt := fmt) H
  obtain ⟨U, hU⟩ : ∃ U, U = onL s t b m y lab fmt := ⟨_, rfl⟩
  obtain ⟨T, hT⟩ : ∃ T, T = onT s t b m y lab fmt := ⟨_, rfl⟩
  obtain ⟨k, hk⟩ : ∃ k, k = mgErr s t b m y lab fmt := ⟨_, rfl⟩
  rw [← hU, ← hT, ← hk] at cC cR
  rw [← hk] at cN hcs
  rw [← hU, ← hT] at hl
  obtain ⟨hl, hl2⟩ := hl
  have cE := same18_con T T (fun k => T.getD k []) (fun k => T.getD k []) hl2 (fun _ _ => rfl) (fun _ _ => rfl)
  rw [decide_eq_true rfl] at cE
  clear hU hT hk H
  obtain ⟨e, he⟩ : ∃ e, e = errV k := ⟨_, rfl⟩
  rw [← he] at cC cN hcs
  clear he
  obtain rfl | ⟨k2, rfl⟩ := hcs
  all_goals
    skip
    refine spec_intro (tab := tab) (N := 68) Tryd.func10 rfl rfl tab_ok mix rfl rfl _ rfl ?_
    intro B hG
    repeat' (first | refine Both.mk ?_ ?_ | refine And.intro (by first | (show (_ : Bool) = true; kernel_rfl) | omega | (dsimp only; omega) | (repeat' (first | refine And.intro ?_ ?_ | exact trivial | exact rfl))) ?_ | refine bcs_dec (fun h => ?_) (fun h => False.elim (by first | omega | exact h rfl)) | refine bcs_dec (fun h => False.elim (by omega)) (fun h => ?_) | refine bcs_not ?_ | refine And.intro ?_ ?_)
    refine call_rA [.at 0 0, .at 1 0, .at 2 0, .at 3 0, .at 4 0, .at 5 0] (cC) hG ?_
    rintro _ _ _ ⟨rfl, rfl, rfl⟩
    repeat' (first | refine Both.mk ?_ ?_ | refine And.intro (by first | (show (_ : Bool) = true; kernel_rfl) | omega | (dsimp only; omega) | (repeat' (first | refine And.intro ?_ ?_ | exact trivial | exact rfl))) ?_ | refine bcs_dec (fun h => ?_) (fun h => False.elim (by first | omega | exact h rfl)) | refine bcs_dec (fun h => False.elim (by omega)) (fun h => ?_) | refine bcs_not ?_ | refine And.intro ?_ ?_)
    refine call_rA [.at 0 0, .at 1 0, .at 2 0, .at 3 0, .at 4 0, .at 5 0] (cR) hG ?_
    rintro _ _ _ ⟨rfl, rfl, rfl⟩
    repeat' (first | refine Both.mk ?_ ?_ | refine And.intro (by first | (show (_ : Bool) = true; kernel_rfl) | omega | (dsimp only; omega) | (repeat' (first | refine And.intro ?_ ?_ | exact trivial | exact rfl))) ?_ | refine bcs_dec (fun h => ?_) (fun h => False.elim (by first | omega | exact h rfl)) | refine bcs_dec (fun h => False.elim (by omega)) (fun h => ?_) | refine bcs_not ?_ | refine And.intro ?_ ?_)
    all_goals first
      | omega
      | skip
    refine call_rA [.at 8 0, .at 10 0] (cE) hG ?_
    rintro _ _ _ ⟨rfl, rfl, rfl⟩
    repeat' (first | refine Both.mk ?_ ?_ | refine And.intro (by first | (show (_ : Bool) = true; kernel_rfl) | omega | (dsimp only; omega) | (repeat' (first | refine And.intro ?_ ?_ | exact trivial | exact rfl))) ?_ | refine bcs_dec (fun h => ?_) (fun h => False.elim (by first | omega | exact h rfl)) | refine bcs_dec (fun h => False.elim (by omega)) (fun h => ?_) | refine bcs_not ?_ | refine And.intro ?_ ?_)
    all_goals first
      | omega
      | skip
    refine call_rA [] (cN) hG ?_
    rintro _ _ _ ⟨rfl, rfl, rfl⟩
    repeat' (first | refine Both.mk ?_ ?_ | refine And.intro (by first | (show (_ : Bool) = true; kernel_rfl) | omega | (dsimp only; omega) | (repeat' (first | refine And.intro ?_ ?_ | exact trivial | exact rfl))) ?_ | refine bcs_dec (fun h => ?_) (fun h => False.elim (by first | omega | exact h rfl)) | refine bcs_dec (fun h => False.elim (by omega)) (fun h => ?_) | refine bcs_not ?_ | refine And.intro ?_ ?_)
    all_goals first
      | omega
      | skip
    clear cC cR cN cE
    refine loop_rule (α := Nat) (fun i => ⟨[(3, .s 6 0 U.length), (6, .s 7 0 U.length), (9, .v (.int .i64 i))], [(6, chRo U), (7, chRo U)], 8⟩)
      (fun i => i ≤ U.length) (fun i => U.length - i) 0 [.at 7 0, .at 9 0] ?_ ?_ ?_
    · exact Nat.zero_le _
    · (refine ⟨rfl, rfl, ?_, ?_⟩ <;> repeat' (first | refine And.intro ?_ ?_ | exact trivial | exact rfl | refine lt0 | refine lt1 ?_ | refine lt2 ?_ ?_ | refine lt3 ?_ ?_ ?_ | refine lt4 ?_ ?_ ?_ ?_ | exact veq_refl _ | decide | (intro i hi; repeat' (first | refine And.intro ?_ ?_ | exact trivial | exact rfl))))
      all_goals first | exact Nat.le_refl _ | omega | exact veq_refl _ | skip
    rintro i h1
    by_cases hi : i < U.length
    · repeat' (first | refine Both.mk ?_ ?_ | refine And.intro (by first | (show (_ : Bool) = true; kernel_rfl) | omega | (dsimp only; omega) | (repeat' (first | refine And.intro ?_ ?_ | exact trivial | exact rfl))) ?_ | refine bcs_dec (fun h => ?_) (fun h => False.elim (by first | omega | exact h rfl)) | refine bcs_dec (fun h => False.elim (by omega)) (fun h => ?_) | refine bcs_not ?_ | refine And.intro ?_ ?_)
      all_goals first
        | omega
        | skip
      refine ext50n (a0 := ((U.getD (0 + (i : Int).toNat) Chg.d)).A) (a1 := ((U.getD (0 + (i : Int).toNat) Chg.d)).N) (a2 := ((U.getD (0 + (i : Int).toNat) Chg.d)).B) (a3 := ((U.getD (0 + (i : Int).toNat) Chg.d)).M) (b0 := ((U.getD (0 + (i : Int).toNat) Chg.d)).A) (b1 := ((U.getD (0 + (i : Int).toNat) Chg.d)).N) (b2 := ((U.getD (0 + (i : Int).toNat) Chg.d)).B) (b3 := ((U.getD (0 + (i : Int).toNat) Chg.d)).M) rfl rfl ?_
      repeat' (first | refine And.intro (by first | (show (_ : Bool) = true; kernel_rfl) | omega | (dsimp only; omega) | (repeat' (first | refine And.intro ?_ ?_ | exact trivial | exact rfl))) ?_ | refine bcs_dec (fun h => ?_) (fun h => False.elim (by first | omega | exact h rfl)) | refine bcs_dec (fun h => False.elim (by omega)) (fun h => ?_) | refine bcs_not ?_ | refine And.intro ?_ ?_ | refine reg_tail (by kernel_rfl) ?_)
      all_goals first
        | omega
        | skip
      refine ⟨i + 1, [.at 6 0, .at 7 0], ?_, ?_, ?_⟩
      · exact hi
      · show U.length - (i + 1) < U.length - i
        omega
      · (refine ⟨rfl, rfl, ?_, ?_⟩ <;> repeat' (first | refine And.intro ?_ ?_ | exact trivial | exact rfl | refine lt0 | refine lt1 ?_ | refine lt2 ?_ ?_ | refine lt3 ?_ ?_ ?_ | refine lt4 ?_ ?_ ?_ ?_ | exact veq_refl _ | decide | (intro i hi; repeat' (first | refine And.intro ?_ ?_ | exact trivial | exact rfl))))
        all_goals first | exact Nat.le_refl _ | omega
    · repeat' (first | refine Both.mk ?_ ?_ | refine And.intro (by first | (show (_ : Bool) = true; kernel_rfl) | omega | (dsimp only; omega) | (repeat' (first | refine And.intro ?_ ?_ | exact trivial | exact rfl))) ?_ | refine bcs_dec (fun h => ?_) (fun h => False.elim (by first | omega | exact h rfl)) | refine bcs_dec (fun h => False.elim (by omega)) (fun h => ?_) | refine bcs_not ?_ | refine And.intro ?_ ?_)
      all_goals first
        | omega
        | skip
      refine call_rA [] (works_con) hG ?_
      rintro _ _ _ ⟨rfl, rfl, rfl⟩
      repeat' (first | refine Both.mk ?_ ?_ | refine And.intro (by first | (show (_ : Bool) = true; kernel_rfl) | omega | (dsimp only; omega) | (repeat' (first | refine And.intro ?_ ?_ | exact trivial | exact rfl))) ?_ | refine bcs_dec (fun h => ?_) (fun h => False.elim (by first | omega | exact h rfl)) | refine bcs_dec (fun h => False.elim (by omega)) (fun h => ?_) | refine bcs_not ?_ | refine And.intro ?_ ?_)
      refine ret_plain ?_
      exact rfl
end Go.Proofs.YtlmjkphiicmclaaDoor
