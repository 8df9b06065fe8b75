/- Chapter 18: settled by mine and by yours: the statement walked. -/
import Derived.Test.YtlmjkphiicmclaaDoorN7
import Derived.Test.YtlmjkphiicmclaaDoorT5
namespace Go.Proofs.YtlmjkphiicmclaaDoor
open Go Go.RowKit Vc

set_option maxRecDepth 100000 in
set_option maxHeartbeats 16000000 in
theorem settled_bad (s t : List Chg) (b m y lab : List Byt) (fmt : Int) (H : JobSm s t b m y lab) (hc : chErr s t b m y ≠ 0) :
    Con Tryd.prog glob 8 [.a [.s 0 0 s.length, .s 1 0 t.length, .s 2 0 b.length, .s 3 0 m.length, .s 4 0 y.length, .s 5 0 lab.length, .v (.int .i64 fmt)]] [(0, chRo s), (1, chRo t), (2, stRo b), (3, stRo m), (4, stRo y), (5, stRo lab)] 6 (retV 6 (.v (.bool true))) := by
  have cC := jchunks_con s t b m y lab fmt H.ok
  rw [chLst_bad hc, errV_n hc] at cC
  clear H
  refine spec_intro (tab := tab) (N := 145) Tryd.func8 rfl rfl tab_ok mix rfl rfl _ rfl ?_
  intro B hG
  repeat' (first | refine And.intro (by first | (show (_ : Bool) = true; kernel_rfl) | omega | (dsimp only; omega) | decide | (repeat' (first | refine And.intro ?_ ?_ | exact trivial | exact rfl))) ?_ | refine bcs_dec (fun h => ?_) (fun h => False.elim (by first | omega | exact h rfl)) | refine bcs_dec (fun h => False.elim (by omega)) (fun h => ?_) | refine bcs_dec (fun h => ?_) (fun h => ?_) | refine bcs_ndec (fun h => ?_) (fun h => ?_) | refine bcs_not ?_ | refine bcs_intro (fun h => ?_) (fun h => ?_) | refine And.intro ?_ ?_ | refine reg_tail (by kernel_rfl) ?_)
  refine call_rule [.at 0 0, .at 1 0, .at 2 0, .at 3 0, .at 4 0, .at 5 0] (cC) hG ?_ ?_
  · (refine ⟨?_, ?_, rfl, rfl, rfl⟩ <;> repeat' (first | refine And.intro ?_ ?_ | exact trivial | exact rfl | refine lt0 | refine lt1 ?_ | refine lt2 ?_ ?_ | refine lt3 ?_ ?_ ?_ | refine lt4 ?_ ?_ ?_ ?_ | exact veq_refl _ | decide | (intro i hi; repeat' (first | refine And.intro ?_ ?_ | exact trivial | exact rfl))))
    all_goals first | exact Nat.le_refl _ | omega
  rintro _ _ _ ⟨rfl, rfl, rfl⟩
  repeat' (first | refine And.intro (by first | (show (_ : Bool) = true; kernel_rfl) | omega | (dsimp only; omega) | decide | (repeat' (first | refine And.intro ?_ ?_ | exact trivial | exact rfl))) ?_ | refine bcs_dec (fun h => ?_) (fun h => False.elim (by first | omega | exact h rfl)) | refine bcs_dec (fun h => False.elim (by omega)) (fun h => ?_) | refine bcs_dec (fun h => ?_) (fun h => ?_) | refine bcs_ndec (fun h => ?_) (fun h => ?_) | refine bcs_not ?_ | refine bcs_intro (fun h => ?_) (fun h => ?_) | refine And.intro ?_ ?_ | refine reg_tail (by kernel_rfl) ?_)
  refine call_rule [] (works_con) hG ?_ ?_
  · (refine ⟨?_, ?_, rfl, rfl, rfl⟩ <;> repeat' (first | refine And.intro ?_ ?_ | exact trivial | exact rfl | refine lt0 | refine lt1 ?_ | refine lt2 ?_ ?_ | refine lt3 ?_ ?_ ?_ | refine lt4 ?_ ?_ ?_ ?_ | exact veq_refl _ | decide | (intro i hi; repeat' (first | refine And.intro ?_ ?_ | exact trivial | exact rfl))))
    all_goals first | exact Nat.le_refl _ | omega
  rintro _ _ _ ⟨rfl, rfl, rfl⟩
  repeat' (first | refine And.intro (by first | (show (_ : Bool) = true; kernel_rfl) | omega | (dsimp only; omega) | decide | (repeat' (first | refine And.intro ?_ ?_ | exact trivial | exact rfl))) ?_ | refine bcs_dec (fun h => ?_) (fun h => False.elim (by first | omega | exact h rfl)) | refine bcs_dec (fun h => False.elim (by omega)) (fun h => ?_) | refine bcs_dec (fun h => ?_) (fun h => ?_) | refine bcs_ndec (fun h => ?_) (fun h => ?_) | refine bcs_not ?_ | refine bcs_intro (fun h => ?_) (fun h => ?_) | refine And.intro ?_ ?_ | refine reg_tail (by kernel_rfl) ?_)
  refine ret_plain ?_
  exact rfl
set_option maxRecDepth 100000 in
set_option maxHeartbeats 64000000 in
theorem settled_good (s t : List Chg) (b m y lab : List Byt) (fmt : Int) (H : JobSm s t b m y lab) (hc : chErr s t b m y = 0) :
    Con Tryd.prog glob 8 [.a [.s 0 0 s.length, .s 1 0 t.length, .s 2 0 b.length, .s 3 0 m.length, .s 4 0 y.length, .s 5 0 lab.length, .v (.int .i64 fmt)]] [(0, chRo s), (1, chRo t), (2, stRo b), (3, stRo m), (4, stRo y), (5, stRo lab)] 6 (retV 6 (.v (.bool true))) := by
  have cC := jchunks_con s t b m y lab fmt H.ok
  have HL : JobSm s t b m y wkL := ⟨H.hs, H.ht, H.hb, H.hm, H.hy, H.hbl, H.hml, H.hyl, by decide, by decide⟩
  have HT : JobSm t s b y m wkL := ⟨H.ht, H.hs, H.hb, H.hy, H.hm, H.hbl, H.hyl, H.hml, by decide, by decide⟩
  have cM4 := merged_con s t b m y wkL 4 HL
  have cM5 := merged_con t s b y m wkL 5 HT
  have cM3 := merged_con s t b m y wkL 3 HL
  have cM1 := merged_con s t b m y wkL 1 HL
  have hl : labE wkL = 0 := by decide +kernel
  have hs := mg_set hc hl
  have e4 := mg_two (fmt := 4) hc hl (by decide) (by decide)
  have e3 := mg_two (fmt := 3) hc hl (by decide) (by decide)
  have f3 := mg_fmt (f := 3) (g := 4) hc hl (by decide) (by decide) (by decide) (by decide)
  have f1 := mg_fmt (f := 1) (g := 4) hc hl (by decide) (by decide) (by decide) (by decide)
  rw [mg_cl (by decide), hs.1, hs.2] at cM5
  rw [mg_cl (by decide)] at cM4 cM3
  have hll := chLst_len H.ok
  rw [hc, errV_0 rfl] at cC
  clear H HT HL hl hs
  obtain ⟨l, hl⟩ : ∃ l, l = chLst s t b m y := ⟨_, rfl⟩
  rw [← hl] at cC hll f3 f1
  obtain ⟨u4, hu4⟩ : ∃ u, u = mgTxt s t b m y wkL 4 := ⟨_, rfl⟩
  obtain ⟨u3, hu3⟩ : ∃ u, u = mgTxt s t b m y wkL 3 := ⟨_, rfl⟩
  obtain ⟨u1, hu1⟩ : ∃ u, u = mgTxt s t b m y wkL 1 := ⟨_, rfl⟩
  obtain ⟨k4, hk4⟩ : ∃ k, k = mgErr s t b m y wkL 4 := ⟨_, rfl⟩
  obtain ⟨k3, hk3⟩ : ∃ k, k = mgErr s t b m y wkL 3 := ⟨_, rfl⟩
  obtain ⟨k1, hk1⟩ : ∃ k, k = mgErr s t b m y wkL 1 := ⟨_, rfl⟩
  obtain ⟨n1, hn1⟩ : ∃ k, k = mgCl s t b m y wkL 1 := ⟨_, rfl⟩
  rw [← hu4, ← hk4] at cM4 cM5
  rw [← hu3, ← hk3] at cM3
  rw [← hu1, ← hk1, ← hn1] at cM1
  rw [← hk4] at e4
  rw [← hk3] at e3
  rw [← hk3, ← hk4, ← hu3, ← hu4] at f3
  rw [← hk1, ← hk4, ← hu1, ← hu4] at f1
  clear hl hu4 hu3 hu1 hk4 hk3 hk1 hn1
  have cN := num_err_con 2
  refine spec_intro (tab := tab) (N := 145) Tryd.func8 rfl rfl tab_ok mix rfl rfl _ rfl ?_
  intro B hG
  repeat' (first | refine Both.mk ?_ ?_ | refine And.intro (by first | (show (_ : Bool) = true; kernel_rfl) | omega | (dsimp only; omega) | decide | (repeat' (first | refine And.intro ?_ ?_ | exact trivial | exact rfl))) ?_ | refine bcs_dec (fun h => ?_) (fun h => False.elim (by first | omega | exact h rfl)) | refine bcs_dec (fun h => False.elim (by omega)) (fun h => ?_) | refine bcs_dec (fun h => ?_) (fun h => ?_) | refine bcs_ndec (fun h => ?_) (fun h => ?_) | refine bcs_not ?_ | refine And.intro ?_ ?_)
  refine call_rule [.at 0 0, .at 1 0, .at 2 0, .at 3 0, .at 4 0, .at 5 0] (cC) hG ?_ ?_
  · (refine ⟨?_, ?_, rfl, rfl, rfl⟩ <;> repeat' (first | refine And.intro ?_ ?_ | exact trivial | exact rfl | refine lt0 | refine lt1 ?_ | refine lt2 ?_ ?_ | refine lt3 ?_ ?_ ?_ | refine lt4 ?_ ?_ ?_ ?_ | exact veq_refl _ | decide | (intro i hi; repeat' (first | refine And.intro ?_ ?_ | exact trivial | exact rfl))))
    all_goals first | exact Nat.le_refl _ | omega
  rintro _ _ _ ⟨rfl, rfl, rfl⟩
  repeat' (first | refine Both.mk ?_ ?_ | refine And.intro (by first | (show (_ : Bool) = true; kernel_rfl) | omega | (dsimp only; omega) | decide | (repeat' (first | refine And.intro ?_ ?_ | exact trivial | exact rfl))) ?_ | refine bcs_dec (fun h => ?_) (fun h => False.elim (by first | omega | exact h rfl)) | refine bcs_dec (fun h => False.elim (by omega)) (fun h => ?_) | refine bcs_dec (fun h => ?_) (fun h => ?_) | refine bcs_ndec (fun h => ?_) (fun h => ?_) | refine bcs_not ?_ | refine And.intro ?_ ?_)
  all_goals first
    | omega
    | skip
  refine loop_rule (α := Nat × Bool) (fun (i, fl) => ⟨[(1, .p 6 0 0), (3, .s 7 0 l.length), (5, .v (.bool fl)), (6, .v (.int .i64 i))], [(0, chRo s), (1, chRo t), (2, stRo b), (3, stRo m), (4, stRo y), (5, stRo lab), (6, .box 25 [.s 0 0 s.length, .s 1 0 t.length, .s 2 0 b.length, .s 3 0 m.length, .s 4 0 y.length, .s 5 0 lab.length, .v (.int .i64 fmt)]), (7, ckRo l)], 8⟩)
    (fun (i, fl) => i ≤ l.length ∧ fl = clashF (l.take i)) (fun (i, _) => l.length - i) (0, false) [.at 6 0, .at 7 0] ?_ ?_ ?_
  · exact ⟨Nat.zero_le _, rfl⟩
  · (refine ⟨rfl, rfl, ?_, ?_⟩ <;> repeat' (first | refine And.intro ?_ ?_ | exact trivial | exact rfl | refine lt0 | refine lt1 ?_ | refine lt2 ?_ ?_ | refine lt3 ?_ ?_ ?_ | refine lt4 ?_ ?_ ?_ ?_ | exact veq_refl _ | decide | (intro i hi; repeat' (first | refine And.intro ?_ ?_ | exact trivial | exact rfl))))
    all_goals first | exact Nat.le_refl _ | omega | exact veq_refl _ | skip
  rintro ⟨i, fl⟩ ⟨c1, c2⟩
  by_cases hi : i < l.length
  · have e0 : l.getD i Chk.d = (l.getD (0 + (i : Int).toNat) Chk.d) := by rw [Nat.zero_add]; rfl
    clear cC cM4 cM5 cM3 cM1 f3 f1
    cases fl with
    | true =>
      skip
      repeat' (first | refine And.intro (by first | (show (_ : Bool) = true; kernel_rfl) | omega | (dsimp only; omega) | decide | (repeat' (first | refine And.intro ?_ ?_ | exact trivial | exact rfl))) ?_ | refine bcs_dec (fun h => ?_) (fun h => False.elim (by first | omega | exact h rfl)) | refine bcs_dec (fun h => False.elim (by omega)) (fun h => ?_) | refine bcs_dec (fun h => ?_) (fun h => ?_) | refine bcs_ndec (fun h => ?_) (fun h => ?_) | refine bcs_not ?_ | refine bcs_intro (fun h => ?_) (fun h => ?_) | refine And.intro ?_ ?_ | refine reg_tail (by kernel_rfl) ?_)
      all_goals first
        | omega
        | skip
      refine ⟨(i + 1, true), [.at 6 0, .at 7 0], ?_, ?_, ?_⟩
      · exact ⟨hi, by rw [clash_step l hi, ← c2]; rfl⟩
      · show l.length - (i + 1) < l.length - i
        omega
      · (refine ⟨rfl, rfl, ?_, ?_⟩ <;> repeat' (first | refine And.intro ?_ ?_ | exact trivial | exact rfl | refine lt0 | refine lt1 ?_ | refine lt2 ?_ ?_ | refine lt3 ?_ ?_ ?_ | refine lt4 ?_ ?_ ?_ ?_ | exact veq_refl _ | decide | (intro i hi; repeat' (first | refine And.intro ?_ ?_ | exact trivial | exact rfl))))
        all_goals first | exact Nat.le_refl _ | omega | exact veq_refl _ | skip
    | false =>
      skip
      repeat' (first | refine And.intro (by first | (show (_ : Bool) = true; kernel_rfl) | omega | (dsimp only; omega) | decide | (repeat' (first | refine And.intro ?_ ?_ | exact trivial | exact rfl))) ?_ | refine bcs_dec (fun h => ?_) (fun h => False.elim (by first | omega | exact h rfl)) | refine bcs_dec (fun h => False.elim (by omega)) (fun h => ?_) | refine bcs_dec (fun h => ?_) (fun h => ?_) | refine bcs_ndec (fun h => ?_) (fun h => ?_) | refine bcs_not ?_ | refine bcs_intro (fun h => ?_) (fun h => ?_) | refine And.intro ?_ ?_ | refine reg_tail (by kernel_rfl) ?_)
      all_goals first
        | omega
        | skip
      refine ⟨(i + 1, (((l.getD (0 + (i : Int).toNat) Chk.d)).k == 5)), [.at 6 0, .at 7 0], ?_, ?_, ?_⟩
      · exact ⟨hi, by rw [clash_step l hi, ← c2, e0, Bool.false_or]⟩
      · show l.length - (i + 1) < l.length - i
        omega
      · (refine ⟨rfl, rfl, ?_, ?_⟩ <;> repeat' (first | refine And.intro ?_ ?_ | exact trivial | exact rfl | refine lt0 | refine lt1 ?_ | refine lt2 ?_ ?_ | refine lt3 ?_ ?_ ?_ | refine lt4 ?_ ?_ ?_ ?_ | exact veq_refl _ | decide | (intro i hi; repeat' (first | refine And.intro ?_ ?_ | exact trivial | exact rfl))))
        all_goals first | exact Nat.le_refl _ | omega | exact veq_refl _ | skip
  · obtain rfl : i = l.length := by omega
    rw [List.take_length] at c2
    rw [← c2] at f3 f1
    clear cC c2
    rcases e4 with rfl | rfl
    · rw [errV_0 rfl] at cM4 cM5
      rcases e3 with rfl | rfl
      · rw [errV_0 rfl] at cM3
        cases fl with
        | true =>
          have o1 := errV_or k1
          obtain ⟨x1, hx1⟩ : ∃ x, x = errV k1 := ⟨_, rfl⟩
          rw [← hx1] at cM1 o1
          clear hx1 f3 f1
          obtain rfl | ⟨j1, rfl⟩ := o1
          all_goals
            skip
            repeat' (first | refine Both.mk ?_ ?_ | refine And.intro (by first | (show (_ : Bool) = true; kernel_rfl) | omega | (dsimp only; omega) | decide | (repeat' (first | refine And.intro ?_ ?_ | exact trivial | exact rfl))) ?_ | refine bcs_dec (fun h => ?_) (fun h => False.elim (by first | omega | exact h rfl)) | refine bcs_dec (fun h => False.elim (by omega)) (fun h => ?_) | refine bcs_dec (fun h => ?_) (fun h => ?_) | refine bcs_ndec (fun h => ?_) (fun h => ?_) | refine bcs_not ?_ | refine And.intro ?_ ?_)
            all_goals first
              | omega
              | skip
            refine call_rule [.at 0 0, .at 1 0, .at 2 0, .at 3 0, .at 4 0, .at 8 0] cM4 hG ?_ ?_
            · (refine ⟨?_, ?_, rfl, rfl, rfl⟩ <;> repeat' (first | refine And.intro ?_ ?_ | exact trivial | exact rfl | refine lt0 | refine lt1 ?_ | refine lt2 ?_ ?_ | refine lt3 ?_ ?_ ?_ | refine lt4 ?_ ?_ ?_ ?_ | exact veq_refl _ | decide))
              all_goals first | exact Nat.le_refl _ | omega | (first | exact rfl | exact veq_refl _ | (intro i hi; first | (obtain rfl : i = 0 := (by omega); exact rfl) | (rcases (show i = 0 ∨ i = 1 ∨ i = 2 by omega) with rfl | rfl | rfl <;> exact rfl) | (repeat' (first | refine And.intro ?_ ?_ | exact trivial | exact rfl))) | skip)
            rintro _ _ _ ⟨rfl, rfl, rfl⟩
            repeat' (first | refine Both.mk ?_ ?_ | refine And.intro (by first | (show (_ : Bool) = true; kernel_rfl) | omega | (dsimp only; omega) | decide | (repeat' (first | refine And.intro ?_ ?_ | exact trivial | exact rfl))) ?_ | refine bcs_dec (fun h => ?_) (fun h => False.elim (by first | omega | exact h rfl)) | refine bcs_dec (fun h => False.elim (by omega)) (fun h => ?_) | refine bcs_dec (fun h => ?_) (fun h => ?_) | refine bcs_ndec (fun h => ?_) (fun h => ?_) | refine bcs_not ?_ | refine And.intro ?_ ?_)
            all_goals first
              | omega
              | skip
            refine call_rule [.at 1 0, .at 0 0, .at 2 0, .at 4 0, .at 3 0, .at 8 0] cM5 hG ?_ ?_
            · (refine ⟨?_, ?_, rfl, rfl, rfl⟩ <;> repeat' (first | refine And.intro ?_ ?_ | exact trivial | exact rfl | refine lt0 | refine lt1 ?_ | refine lt2 ?_ ?_ | refine lt3 ?_ ?_ ?_ | refine lt4 ?_ ?_ ?_ ?_ | exact veq_refl _ | decide))
              all_goals first | exact Nat.le_refl _ | omega | (first | exact rfl | exact veq_refl _ | (intro i hi; first | (obtain rfl : i = 0 := (by omega); exact rfl) | (rcases (show i = 0 ∨ i = 1 ∨ i = 2 by omega) with rfl | rfl | rfl <;> exact rfl) | (repeat' (first | refine And.intro ?_ ?_ | exact trivial | exact rfl))) | skip)
            rintro _ _ _ ⟨rfl, rfl, rfl⟩
            repeat' (first | refine Both.mk ?_ ?_ | refine And.intro (by first | (show (_ : Bool) = true; kernel_rfl) | omega | (dsimp only; omega) | decide | (repeat' (first | refine And.intro ?_ ?_ | exact trivial | exact rfl))) ?_ | refine bcs_dec (fun h => ?_) (fun h => False.elim (by first | omega | exact h rfl)) | refine bcs_dec (fun h => False.elim (by omega)) (fun h => ?_) | refine bcs_dec (fun h => ?_) (fun h => ?_) | refine bcs_ndec (fun h => ?_) (fun h => ?_) | refine bcs_not ?_ | refine And.intro ?_ ?_)
            all_goals first
              | omega
              | skip
            refine bcs_t (seq _) ?_
            repeat' (first | refine Both.mk ?_ ?_ | refine And.intro (by first | (show (_ : Bool) = true; kernel_rfl) | omega | (dsimp only; omega) | decide | (repeat' (first | refine And.intro ?_ ?_ | exact trivial | exact rfl))) ?_ | refine bcs_dec (fun h => ?_) (fun h => False.elim (by first | omega | exact h rfl)) | refine bcs_dec (fun h => False.elim (by omega)) (fun h => ?_) | refine bcs_dec (fun h => ?_) (fun h => ?_) | refine bcs_ndec (fun h => ?_) (fun h => ?_) | refine bcs_not ?_ | refine And.intro ?_ ?_)
            all_goals first
              | omega
              | skip
            refine call_rule [.at 0 0, .at 1 0, .at 2 0, .at 3 0, .at 4 0, .at 8 0] cM3 hG ?_ ?_
            · (refine ⟨?_, ?_, rfl, rfl, rfl⟩ <;> repeat' (first | refine And.intro ?_ ?_ | exact trivial | exact rfl | refine lt0 | refine lt1 ?_ | refine lt2 ?_ ?_ | refine lt3 ?_ ?_ ?_ | refine lt4 ?_ ?_ ?_ ?_ | exact veq_refl _ | decide))
              all_goals first | exact Nat.le_refl _ | omega | (first | exact rfl | exact veq_refl _ | (intro i hi; first | (obtain rfl : i = 0 := (by omega); exact rfl) | (rcases (show i = 0 ∨ i = 1 ∨ i = 2 by omega) with rfl | rfl | rfl <;> exact rfl) | (repeat' (first | refine And.intro ?_ ?_ | exact trivial | exact rfl))) | skip)
            rintro _ _ _ ⟨rfl, rfl, rfl⟩
            repeat' (first | refine Both.mk ?_ ?_ | refine And.intro (by first | (show (_ : Bool) = true; kernel_rfl) | omega | (dsimp only; omega) | decide | (repeat' (first | refine And.intro ?_ ?_ | exact trivial | exact rfl))) ?_ | refine bcs_dec (fun h => ?_) (fun h => False.elim (by first | omega | exact h rfl)) | refine bcs_dec (fun h => False.elim (by omega)) (fun h => ?_) | refine bcs_dec (fun h => ?_) (fun h => ?_) | refine bcs_ndec (fun h => ?_) (fun h => ?_) | refine bcs_not ?_ | refine And.intro ?_ ?_)
            all_goals first
              | omega
              | skip
            refine call_rule [.at 0 0, .at 1 0, .at 2 0, .at 3 0, .at 4 0, .at 8 0] cM1 hG ?_ ?_
            · (refine ⟨?_, ?_, rfl, rfl, rfl⟩ <;> repeat' (first | refine And.intro ?_ ?_ | exact trivial | exact rfl | refine lt0 | refine lt1 ?_ | refine lt2 ?_ ?_ | refine lt3 ?_ ?_ ?_ | refine lt4 ?_ ?_ ?_ ?_ | exact veq_refl _ | decide))
              all_goals first | exact Nat.le_refl _ | omega | (first | exact rfl | exact veq_refl _ | (intro i hi; first | (obtain rfl : i = 0 := (by omega); exact rfl) | (rcases (show i = 0 ∨ i = 1 ∨ i = 2 by omega) with rfl | rfl | rfl <;> exact rfl) | (repeat' (first | refine And.intro ?_ ?_ | exact trivial | exact rfl))) | skip)
            rintro _ _ _ ⟨rfl, rfl, rfl⟩
            repeat' (first | refine Both.mk ?_ ?_ | refine And.intro (by first | (show (_ : Bool) = true; kernel_rfl) | omega | (dsimp only; omega) | decide | (repeat' (first | refine And.intro ?_ ?_ | exact trivial | exact rfl))) ?_ | refine bcs_dec (fun h => ?_) (fun h => False.elim (by first | omega | exact h rfl)) | refine bcs_dec (fun h => False.elim (by omega)) (fun h => ?_) | refine bcs_dec (fun h => ?_) (fun h => ?_) | refine bcs_ndec (fun h => ?_) (fun h => ?_) | refine bcs_not ?_ | refine And.intro ?_ ?_)
            all_goals first
              | omega
              | skip
            refine call_rule [] (works_con) hG ?_ ?_
            · (refine ⟨?_, ?_, rfl, rfl, rfl⟩ <;> repeat' (first | refine And.intro ?_ ?_ | exact trivial | exact rfl | refine lt0 | refine lt1 ?_ | refine lt2 ?_ ?_ | refine lt3 ?_ ?_ ?_ | refine lt4 ?_ ?_ ?_ ?_ | exact veq_refl _ | decide | (intro i hi; repeat' (first | refine And.intro ?_ ?_ | exact trivial | exact rfl))))
              all_goals first | exact Nat.le_refl _ | omega
            rintro _ _ _ ⟨rfl, rfl, rfl⟩
            repeat' (first | refine Both.mk ?_ ?_ | refine And.intro (by first | (show (_ : Bool) = true; kernel_rfl) | omega | (dsimp only; omega) | decide | (repeat' (first | refine And.intro ?_ ?_ | exact trivial | exact rfl))) ?_ | refine bcs_dec (fun h => ?_) (fun h => False.elim (by first | omega | exact h rfl)) | refine bcs_dec (fun h => False.elim (by omega)) (fun h => ?_) | refine bcs_dec (fun h => ?_) (fun h => ?_) | refine bcs_ndec (fun h => ?_) (fun h => ?_) | refine bcs_not ?_ | refine And.intro ?_ ?_)
            refine ret_plain ?_
            exact rfl
        | false =>
          obtain ⟨-, rfl⟩ := f3 rfl
          obtain ⟨rfl, rfl⟩ := f1 rfl
          rw [errV_0 rfl] at cM1
          repeat' (first | refine Both.mk ?_ ?_ | refine And.intro (by first | (show (_ : Bool) = true; kernel_rfl) | omega | (dsimp only; omega) | decide | (repeat' (first | refine And.intro ?_ ?_ | exact trivial | exact rfl))) ?_ | refine bcs_dec (fun h => ?_) (fun h => False.elim (by first | omega | exact h rfl)) | refine bcs_dec (fun h => False.elim (by omega)) (fun h => ?_) | refine bcs_dec (fun h => ?_) (fun h => ?_) | refine bcs_ndec (fun h => ?_) (fun h => ?_) | refine bcs_not ?_ | refine And.intro ?_ ?_)
          all_goals first
            | omega
            | skip
          refine call_rule [.at 0 0, .at 1 0, .at 2 0, .at 3 0, .at 4 0, .at 8 0] cM4 hG ?_ ?_
          · (refine ⟨?_, ?_, rfl, rfl, rfl⟩ <;> repeat' (first | refine And.intro ?_ ?_ | exact trivial | exact rfl | refine lt0 | refine lt1 ?_ | refine lt2 ?_ ?_ | refine lt3 ?_ ?_ ?_ | refine lt4 ?_ ?_ ?_ ?_ | exact veq_refl _ | decide))
            all_goals first | exact Nat.le_refl _ | omega | (first | exact rfl | exact veq_refl _ | (intro i hi; first | (obtain rfl : i = 0 := (by omega); exact rfl) | (rcases (show i = 0 ∨ i = 1 ∨ i = 2 by omega) with rfl | rfl | rfl <;> exact rfl) | (repeat' (first | refine And.intro ?_ ?_ | exact trivial | exact rfl))) | skip)
          rintro _ _ _ ⟨rfl, rfl, rfl⟩
          repeat' (first | refine Both.mk ?_ ?_ | refine And.intro (by first | (show (_ : Bool) = true; kernel_rfl) | omega | (dsimp only; omega) | decide | (repeat' (first | refine And.intro ?_ ?_ | exact trivial | exact rfl))) ?_ | refine bcs_dec (fun h => ?_) (fun h => False.elim (by first | omega | exact h rfl)) | refine bcs_dec (fun h => False.elim (by omega)) (fun h => ?_) | refine bcs_dec (fun h => ?_) (fun h => ?_) | refine bcs_ndec (fun h => ?_) (fun h => ?_) | refine bcs_not ?_ | refine And.intro ?_ ?_)
          all_goals first
            | omega
            | skip
          refine call_rule [.at 1 0, .at 0 0, .at 2 0, .at 4 0, .at 3 0, .at 8 0] cM5 hG ?_ ?_
          · (refine ⟨?_, ?_, rfl, rfl, rfl⟩ <;> repeat' (first | refine And.intro ?_ ?_ | exact trivial | exact rfl | refine lt0 | refine lt1 ?_ | refine lt2 ?_ ?_ | refine lt3 ?_ ?_ ?_ | refine lt4 ?_ ?_ ?_ ?_ | exact veq_refl _ | decide))
            all_goals first | exact Nat.le_refl _ | omega | (first | exact rfl | exact veq_refl _ | (intro i hi; first | (obtain rfl : i = 0 := (by omega); exact rfl) | (rcases (show i = 0 ∨ i = 1 ∨ i = 2 by omega) with rfl | rfl | rfl <;> exact rfl) | (repeat' (first | refine And.intro ?_ ?_ | exact trivial | exact rfl))) | skip)
          rintro _ _ _ ⟨rfl, rfl, rfl⟩
          repeat' (first | refine Both.mk ?_ ?_ | refine And.intro (by first | (show (_ : Bool) = true; kernel_rfl) | omega | (dsimp only; omega) | decide | (repeat' (first | refine And.intro ?_ ?_ | exact trivial | exact rfl))) ?_ | refine bcs_dec (fun h => ?_) (fun h => False.elim (by first | omega | exact h rfl)) | refine bcs_dec (fun h => False.elim (by omega)) (fun h => ?_) | refine bcs_dec (fun h => ?_) (fun h => ?_) | refine bcs_ndec (fun h => ?_) (fun h => ?_) | refine bcs_not ?_ | refine And.intro ?_ ?_)
          all_goals first
            | omega
            | skip
          refine bcs_t (seq _) ?_
          repeat' (first | refine Both.mk ?_ ?_ | refine And.intro (by first | (show (_ : Bool) = true; kernel_rfl) | omega | (dsimp only; omega) | decide | (repeat' (first | refine And.intro ?_ ?_ | exact trivial | exact rfl))) ?_ | refine bcs_dec (fun h => ?_) (fun h => False.elim (by first | omega | exact h rfl)) | refine bcs_dec (fun h => False.elim (by omega)) (fun h => ?_) | refine bcs_dec (fun h => ?_) (fun h => ?_) | refine bcs_ndec (fun h => ?_) (fun h => ?_) | refine bcs_not ?_ | refine And.intro ?_ ?_)
          all_goals first
            | omega
            | skip
          refine call_rule [.at 0 0, .at 1 0, .at 2 0, .at 3 0, .at 4 0, .at 8 0] cM3 hG ?_ ?_
          · (refine ⟨?_, ?_, rfl, rfl, rfl⟩ <;> repeat' (first | refine And.intro ?_ ?_ | exact trivial | exact rfl | refine lt0 | refine lt1 ?_ | refine lt2 ?_ ?_ | refine lt3 ?_ ?_ ?_ | refine lt4 ?_ ?_ ?_ ?_ | exact veq_refl _ | decide))
            all_goals first | exact Nat.le_refl _ | omega | (first | exact rfl | exact veq_refl _ | (intro i hi; first | (obtain rfl : i = 0 := (by omega); exact rfl) | (rcases (show i = 0 ∨ i = 1 ∨ i = 2 by omega) with rfl | rfl | rfl <;> exact rfl) | (repeat' (first | refine And.intro ?_ ?_ | exact trivial | exact rfl))) | skip)
          rintro _ _ _ ⟨rfl, rfl, rfl⟩
          repeat' (first | refine Both.mk ?_ ?_ | refine And.intro (by first | (show (_ : Bool) = true; kernel_rfl) | omega | (dsimp only; omega) | decide | (repeat' (first | refine And.intro ?_ ?_ | exact trivial | exact rfl))) ?_ | refine bcs_dec (fun h => ?_) (fun h => False.elim (by first | omega | exact h rfl)) | refine bcs_dec (fun h => False.elim (by omega)) (fun h => ?_) | refine bcs_dec (fun h => ?_) (fun h => ?_) | refine bcs_ndec (fun h => ?_) (fun h => ?_) | refine bcs_not ?_ | refine And.intro ?_ ?_)
          all_goals first
            | omega
            | skip
          refine call_rule [.at 0 0, .at 1 0, .at 2 0, .at 3 0, .at 4 0, .at 8 0] cM1 hG ?_ ?_
          · (refine ⟨?_, ?_, rfl, rfl, rfl⟩ <;> repeat' (first | refine And.intro ?_ ?_ | exact trivial | exact rfl | refine lt0 | refine lt1 ?_ | refine lt2 ?_ ?_ | refine lt3 ?_ ?_ ?_ | refine lt4 ?_ ?_ ?_ ?_ | exact veq_refl _ | decide))
            all_goals first | exact Nat.le_refl _ | omega | (first | exact rfl | exact veq_refl _ | (intro i hi; first | (obtain rfl : i = 0 := (by omega); exact rfl) | (rcases (show i = 0 ∨ i = 1 ∨ i = 2 by omega) with rfl | rfl | rfl <;> exact rfl) | (repeat' (first | refine And.intro ?_ ?_ | exact trivial | exact rfl))) | skip)
          rintro _ _ _ ⟨rfl, rfl, rfl⟩
          repeat' (first | refine Both.mk ?_ ?_ | refine And.intro (by first | (show (_ : Bool) = true; kernel_rfl) | omega | (dsimp only; omega) | decide | (repeat' (first | refine And.intro ?_ ?_ | exact trivial | exact rfl))) ?_ | refine bcs_dec (fun h => ?_) (fun h => False.elim (by first | omega | exact h rfl)) | refine bcs_dec (fun h => False.elim (by omega)) (fun h => ?_) | refine bcs_dec (fun h => ?_) (fun h => ?_) | refine bcs_ndec (fun h => ?_) (fun h => ?_) | refine bcs_not ?_ | refine And.intro ?_ ?_)
          all_goals first
            | omega
            | skip
          refine bcs_t (seq _) ?_
          repeat' (first | refine Both.mk ?_ ?_ | refine And.intro (by first | (show (_ : Bool) = true; kernel_rfl) | omega | (dsimp only; omega) | decide | (repeat' (first | refine And.intro ?_ ?_ | exact trivial | exact rfl))) ?_ | refine bcs_dec (fun h => ?_) (fun h => False.elim (by first | omega | exact h rfl)) | refine bcs_dec (fun h => False.elim (by omega)) (fun h => ?_) | refine bcs_dec (fun h => ?_) (fun h => ?_) | refine bcs_ndec (fun h => ?_) (fun h => ?_) | refine bcs_not ?_ | refine And.intro ?_ ?_)
          all_goals first
            | omega
            | skip
          refine bcs_t (seq _) ?_
          repeat' (first | refine Both.mk ?_ ?_ | refine And.intro (by first | (show (_ : Bool) = true; kernel_rfl) | omega | (dsimp only; omega) | decide | (repeat' (first | refine And.intro ?_ ?_ | exact trivial | exact rfl))) ?_ | refine bcs_dec (fun h => ?_) (fun h => False.elim (by first | omega | exact h rfl)) | refine bcs_dec (fun h => False.elim (by omega)) (fun h => ?_) | refine bcs_dec (fun h => ?_) (fun h => ?_) | refine bcs_ndec (fun h => ?_) (fun h => ?_) | refine bcs_not ?_ | refine And.intro ?_ ?_)
          all_goals first
            | omega
            | skip
          refine call_rule [] (works_con) hG ?_ ?_
          · (refine ⟨?_, ?_, rfl, rfl, rfl⟩ <;> repeat' (first | refine And.intro ?_ ?_ | exact trivial | exact rfl | refine lt0 | refine lt1 ?_ | refine lt2 ?_ ?_ | refine lt3 ?_ ?_ ?_ | refine lt4 ?_ ?_ ?_ ?_ | exact veq_refl _ | decide | (intro i hi; repeat' (first | refine And.intro ?_ ?_ | exact trivial | exact rfl))))
            all_goals first | exact Nat.le_refl _ | omega
          rintro _ _ _ ⟨rfl, rfl, rfl⟩
          repeat' (first | refine Both.mk ?_ ?_ | refine And.intro (by first | (show (_ : Bool) = true; kernel_rfl) | omega | (dsimp only; omega) | decide | (repeat' (first | refine And.intro ?_ ?_ | exact trivial | exact rfl))) ?_ | refine bcs_dec (fun h => ?_) (fun h => False.elim (by first | omega | exact h rfl)) | refine bcs_dec (fun h => False.elim (by omega)) (fun h => ?_) | refine bcs_dec (fun h => ?_) (fun h => ?_) | refine bcs_ndec (fun h => ?_) (fun h => ?_) | refine bcs_not ?_ | refine And.intro ?_ ?_)
          refine ret_plain ?_
          exact rfl
      · rw [errV_n (by decide)] at cM3
        clear f3 f1
        repeat' (first | refine Both.mk ?_ ?_ | refine And.intro (by first | (show (_ : Bool) = true; kernel_rfl) | omega | (dsimp only; omega) | decide | (repeat' (first | refine And.intro ?_ ?_ | exact trivial | exact rfl))) ?_ | refine bcs_dec (fun h => ?_) (fun h => False.elim (by first | omega | exact h rfl)) | refine bcs_dec (fun h => False.elim (by omega)) (fun h => ?_) | refine bcs_dec (fun h => ?_) (fun h => ?_) | refine bcs_ndec (fun h => ?_) (fun h => ?_) | refine bcs_not ?_ | refine And.intro ?_ ?_)
        all_goals first
          | omega
          | skip
        refine call_rule [.at 0 0, .at 1 0, .at 2 0, .at 3 0, .at 4 0, .at 8 0] cM4 hG ?_ ?_
        · (refine ⟨?_, ?_, rfl, rfl, rfl⟩ <;> repeat' (first | refine And.intro ?_ ?_ | exact trivial | exact rfl | refine lt0 | refine lt1 ?_ | refine lt2 ?_ ?_ | refine lt3 ?_ ?_ ?_ | refine lt4 ?_ ?_ ?_ ?_ | exact veq_refl _ | decide))
          all_goals first | exact Nat.le_refl _ | omega | (first | exact rfl | exact veq_refl _ | (intro i hi; first | (obtain rfl : i = 0 := (by omega); exact rfl) | (rcases (show i = 0 ∨ i = 1 ∨ i = 2 by omega) with rfl | rfl | rfl <;> exact rfl) | (repeat' (first | refine And.intro ?_ ?_ | exact trivial | exact rfl))) | skip)
        rintro _ _ _ ⟨rfl, rfl, rfl⟩
        repeat' (first | refine Both.mk ?_ ?_ | refine And.intro (by first | (show (_ : Bool) = true; kernel_rfl) | omega | (dsimp only; omega) | decide | (repeat' (first | refine And.intro ?_ ?_ | exact trivial | exact rfl))) ?_ | refine bcs_dec (fun h => ?_) (fun h => False.elim (by first | omega | exact h rfl)) | refine bcs_dec (fun h => False.elim (by omega)) (fun h => ?_) | refine bcs_dec (fun h => ?_) (fun h => ?_) | refine bcs_ndec (fun h => ?_) (fun h => ?_) | refine bcs_not ?_ | refine And.intro ?_ ?_)
        all_goals first
          | omega
          | skip
        refine call_rule [.at 1 0, .at 0 0, .at 2 0, .at 4 0, .at 3 0, .at 8 0] cM5 hG ?_ ?_
        · (refine ⟨?_, ?_, rfl, rfl, rfl⟩ <;> repeat' (first | refine And.intro ?_ ?_ | exact trivial | exact rfl | refine lt0 | refine lt1 ?_ | refine lt2 ?_ ?_ | refine lt3 ?_ ?_ ?_ | refine lt4 ?_ ?_ ?_ ?_ | exact veq_refl _ | decide))
          all_goals first | exact Nat.le_refl _ | omega | (first | exact rfl | exact veq_refl _ | (intro i hi; first | (obtain rfl : i = 0 := (by omega); exact rfl) | (rcases (show i = 0 ∨ i = 1 ∨ i = 2 by omega) with rfl | rfl | rfl <;> exact rfl) | (repeat' (first | refine And.intro ?_ ?_ | exact trivial | exact rfl))) | skip)
        rintro _ _ _ ⟨rfl, rfl, rfl⟩
        repeat' (first | refine Both.mk ?_ ?_ | refine And.intro (by first | (show (_ : Bool) = true; kernel_rfl) | omega | (dsimp only; omega) | decide | (repeat' (first | refine And.intro ?_ ?_ | exact trivial | exact rfl))) ?_ | refine bcs_dec (fun h => ?_) (fun h => False.elim (by first | omega | exact h rfl)) | refine bcs_dec (fun h => False.elim (by omega)) (fun h => ?_) | refine bcs_dec (fun h => ?_) (fun h => ?_) | refine bcs_ndec (fun h => ?_) (fun h => ?_) | refine bcs_not ?_ | refine And.intro ?_ ?_)
        all_goals first
          | omega
          | skip
        refine bcs_t (seq _) ?_
        repeat' (first | refine Both.mk ?_ ?_ | refine And.intro (by first | (show (_ : Bool) = true; kernel_rfl) | omega | (dsimp only; omega) | decide | (repeat' (first | refine And.intro ?_ ?_ | exact trivial | exact rfl))) ?_ | refine bcs_dec (fun h => ?_) (fun h => False.elim (by first | omega | exact h rfl)) | refine bcs_dec (fun h => False.elim (by omega)) (fun h => ?_) | refine bcs_dec (fun h => ?_) (fun h => ?_) | refine bcs_ndec (fun h => ?_) (fun h => ?_) | refine bcs_not ?_ | refine And.intro ?_ ?_)
        all_goals first
          | omega
          | skip
        refine call_rule [.at 0 0, .at 1 0, .at 2 0, .at 3 0, .at 4 0, .at 8 0] cM3 hG ?_ ?_
        · (refine ⟨?_, ?_, rfl, rfl, rfl⟩ <;> repeat' (first | refine And.intro ?_ ?_ | exact trivial | exact rfl | refine lt0 | refine lt1 ?_ | refine lt2 ?_ ?_ | refine lt3 ?_ ?_ ?_ | refine lt4 ?_ ?_ ?_ ?_ | exact veq_refl _ | decide))
          all_goals first | exact Nat.le_refl _ | omega | (first | exact rfl | exact veq_refl _ | (intro i hi; first | (obtain rfl : i = 0 := (by omega); exact rfl) | (rcases (show i = 0 ∨ i = 1 ∨ i = 2 by omega) with rfl | rfl | rfl <;> exact rfl) | (repeat' (first | refine And.intro ?_ ?_ | exact trivial | exact rfl))) | skip)
        rintro _ _ _ ⟨rfl, rfl, rfl⟩
        repeat' (first | refine Both.mk ?_ ?_ | refine And.intro (by first | (show (_ : Bool) = true; kernel_rfl) | omega | (dsimp only; omega) | decide | (repeat' (first | refine And.intro ?_ ?_ | exact trivial | exact rfl))) ?_ | refine bcs_dec (fun h => ?_) (fun h => False.elim (by first | omega | exact h rfl)) | refine bcs_dec (fun h => False.elim (by omega)) (fun h => ?_) | refine bcs_dec (fun h => ?_) (fun h => ?_) | refine bcs_ndec (fun h => ?_) (fun h => ?_) | refine bcs_not ?_ | refine And.intro ?_ ?_)
        all_goals first
          | omega
          | skip
        refine call_rule [] (cN) hG ?_ ?_
        · (refine ⟨?_, ?_, rfl, rfl, rfl⟩ <;> repeat' (first | refine And.intro ?_ ?_ | exact trivial | exact rfl | refine lt0 | refine lt1 ?_ | refine lt2 ?_ ?_ | refine lt3 ?_ ?_ ?_ | refine lt4 ?_ ?_ ?_ ?_ | exact veq_refl _ | decide | (intro i hi; repeat' (first | refine And.intro ?_ ?_ | exact trivial | exact rfl))))
          all_goals first | exact Nat.le_refl _ | omega
        rintro _ _ _ ⟨rfl, rfl, rfl⟩
        repeat' (first | refine Both.mk ?_ ?_ | refine And.intro (by first | (show (_ : Bool) = true; kernel_rfl) | omega | (dsimp only; omega) | decide | (repeat' (first | refine And.intro ?_ ?_ | exact trivial | exact rfl))) ?_ | refine bcs_dec (fun h => ?_) (fun h => False.elim (by first | omega | exact h rfl)) | refine bcs_dec (fun h => False.elim (by omega)) (fun h => ?_) | refine bcs_dec (fun h => ?_) (fun h => ?_) | refine bcs_ndec (fun h => ?_) (fun h => ?_) | refine bcs_not ?_ | refine And.intro ?_ ?_)
        all_goals first
          | omega
          | skip
        refine call_rule [] (works_con) hG ?_ ?_
        · (refine ⟨?_, ?_, rfl, rfl, rfl⟩ <;> repeat' (first | refine And.intro ?_ ?_ | exact trivial | exact rfl | refine lt0 | refine lt1 ?_ | refine lt2 ?_ ?_ | refine lt3 ?_ ?_ ?_ | refine lt4 ?_ ?_ ?_ ?_ | exact veq_refl _ | decide | (intro i hi; repeat' (first | refine And.intro ?_ ?_ | exact trivial | exact rfl))))
          all_goals first | exact Nat.le_refl _ | omega
        rintro _ _ _ ⟨rfl, rfl, rfl⟩
        repeat' (first | refine Both.mk ?_ ?_ | refine And.intro (by first | (show (_ : Bool) = true; kernel_rfl) | omega | (dsimp only; omega) | decide | (repeat' (first | refine And.intro ?_ ?_ | exact trivial | exact rfl))) ?_ | refine bcs_dec (fun h => ?_) (fun h => False.elim (by first | omega | exact h rfl)) | refine bcs_dec (fun h => False.elim (by omega)) (fun h => ?_) | refine bcs_dec (fun h => ?_) (fun h => ?_) | refine bcs_ndec (fun h => ?_) (fun h => ?_) | refine bcs_not ?_ | refine And.intro ?_ ?_)
        refine ret_plain ?_
        exact rfl
    · rw [errV_n (by decide)] at cM4 cM5
      clear f3 f1
      repeat' (first | refine Both.mk ?_ ?_ | refine And.intro (by first | (show (_ : Bool) = true; kernel_rfl) | omega | (dsimp only; omega) | decide | (repeat' (first | refine And.intro ?_ ?_ | exact trivial | exact rfl))) ?_ | refine bcs_dec (fun h => ?_) (fun h => False.elim (by first | omega | exact h rfl)) | refine bcs_dec (fun h => False.elim (by omega)) (fun h => ?_) | refine bcs_dec (fun h => ?_) (fun h => ?_) | refine bcs_ndec (fun h => ?_) (fun h => ?_) | refine bcs_not ?_ | refine And.intro ?_ ?_)
      all_goals first
        | omega
        | skip
      refine call_rule [.at 0 0, .at 1 0, .at 2 0, .at 3 0, .at 4 0, .at 8 0] cM4 hG ?_ ?_
      · (refine ⟨?_, ?_, rfl, rfl, rfl⟩ <;> repeat' (first | refine And.intro ?_ ?_ | exact trivial | exact rfl | refine lt0 | refine lt1 ?_ | refine lt2 ?_ ?_ | refine lt3 ?_ ?_ ?_ | refine lt4 ?_ ?_ ?_ ?_ | exact veq_refl _ | decide))
        all_goals first | exact Nat.le_refl _ | omega | (first | exact rfl | exact veq_refl _ | (intro i hi; first | (obtain rfl : i = 0 := (by omega); exact rfl) | (rcases (show i = 0 ∨ i = 1 ∨ i = 2 by omega) with rfl | rfl | rfl <;> exact rfl) | (repeat' (first | refine And.intro ?_ ?_ | exact trivial | exact rfl))) | skip)
      rintro _ _ _ ⟨rfl, rfl, rfl⟩
      repeat' (first | refine Both.mk ?_ ?_ | refine And.intro (by first | (show (_ : Bool) = true; kernel_rfl) | omega | (dsimp only; omega) | decide | (repeat' (first | refine And.intro ?_ ?_ | exact trivial | exact rfl))) ?_ | refine bcs_dec (fun h => ?_) (fun h => False.elim (by first | omega | exact h rfl)) | refine bcs_dec (fun h => False.elim (by omega)) (fun h => ?_) | refine bcs_dec (fun h => ?_) (fun h => ?_) | refine bcs_ndec (fun h => ?_) (fun h => ?_) | refine bcs_not ?_ | refine And.intro ?_ ?_)
      all_goals first
        | omega
        | skip
      refine call_rule [.at 1 0, .at 0 0, .at 2 0, .at 4 0, .at 3 0, .at 8 0] cM5 hG ?_ ?_
      · (refine ⟨?_, ?_, rfl, rfl, rfl⟩ <;> repeat' (first | refine And.intro ?_ ?_ | exact trivial | exact rfl | refine lt0 | refine lt1 ?_ | refine lt2 ?_ ?_ | refine lt3 ?_ ?_ ?_ | refine lt4 ?_ ?_ ?_ ?_ | exact veq_refl _ | decide))
        all_goals first | exact Nat.le_refl _ | omega | (first | exact rfl | exact veq_refl _ | (intro i hi; first | (obtain rfl : i = 0 := (by omega); exact rfl) | (rcases (show i = 0 ∨ i = 1 ∨ i = 2 by omega) with rfl | rfl | rfl <;> exact rfl) | (repeat' (first | refine And.intro ?_ ?_ | exact trivial | exact rfl))) | skip)
      rintro _ _ _ ⟨rfl, rfl, rfl⟩
      repeat' (first | refine Both.mk ?_ ?_ | refine And.intro (by first | (show (_ : Bool) = true; kernel_rfl) | omega | (dsimp only; omega) | decide | (repeat' (first | refine And.intro ?_ ?_ | exact trivial | exact rfl))) ?_ | refine bcs_dec (fun h => ?_) (fun h => False.elim (by first | omega | exact h rfl)) | refine bcs_dec (fun h => False.elim (by omega)) (fun h => ?_) | refine bcs_dec (fun h => ?_) (fun h => ?_) | refine bcs_ndec (fun h => ?_) (fun h => ?_) | refine bcs_not ?_ | refine And.intro ?_ ?_)
      all_goals first
        | omega
        | skip
      refine call_rule [] (cN) hG ?_ ?_
      · (refine ⟨?_, ?_, rfl, rfl, rfl⟩ <;> repeat' (first | refine And.intro ?_ ?_ | exact trivial | exact rfl | refine lt0 | refine lt1 ?_ | refine lt2 ?_ ?_ | refine lt3 ?_ ?_ ?_ | refine lt4 ?_ ?_ ?_ ?_ | exact veq_refl _ | decide | (intro i hi; repeat' (first | refine And.intro ?_ ?_ | exact trivial | exact rfl))))
        all_goals first | exact Nat.le_refl _ | omega
      rintro _ _ _ ⟨rfl, rfl, rfl⟩
      repeat' (first | refine Both.mk ?_ ?_ | refine And.intro (by first | (show (_ : Bool) = true; kernel_rfl) | omega | (dsimp only; omega) | decide | (repeat' (first | refine And.intro ?_ ?_ | exact trivial | exact rfl))) ?_ | refine bcs_dec (fun h => ?_) (fun h => False.elim (by first | omega | exact h rfl)) | refine bcs_dec (fun h => False.elim (by omega)) (fun h => ?_) | refine bcs_dec (fun h => ?_) (fun h => ?_) | refine bcs_ndec (fun h => ?_) (fun h => ?_) | refine bcs_not ?_ | refine And.intro ?_ ?_)
      all_goals first
        | omega
        | skip
      refine call_rule [] (cN) hG ?_ ?_
      · (refine ⟨?_, ?_, rfl, rfl, rfl⟩ <;> repeat' (first | refine And.intro ?_ ?_ | exact trivial | exact rfl | refine lt0 | refine lt1 ?_ | refine lt2 ?_ ?_ | refine lt3 ?_ ?_ ?_ | refine lt4 ?_ ?_ ?_ ?_ | exact veq_refl _ | decide | (intro i hi; repeat' (first | refine And.intro ?_ ?_ | exact trivial | exact rfl))))
        all_goals first | exact Nat.le_refl _ | omega
      rintro _ _ _ ⟨rfl, rfl, rfl⟩
      repeat' (first | refine Both.mk ?_ ?_ | refine And.intro (by first | (show (_ : Bool) = true; kernel_rfl) | omega | (dsimp only; omega) | decide | (repeat' (first | refine And.intro ?_ ?_ | exact trivial | exact rfl))) ?_ | refine bcs_dec (fun h => ?_) (fun h => False.elim (by first | omega | exact h rfl)) | refine bcs_dec (fun h => False.elim (by omega)) (fun h => ?_) | refine bcs_dec (fun h => ?_) (fun h => ?_) | refine bcs_ndec (fun h => ?_) (fun h => ?_) | refine bcs_not ?_ | refine And.intro ?_ ?_)
      all_goals first
        | omega
        | skip
      refine call_rule [] (works_con) hG ?_ ?_
      · (refine ⟨?_, ?_, rfl, rfl, rfl⟩ <;> repeat' (first | refine And.intro ?_ ?_ | exact trivial | exact rfl | refine lt0 | refine lt1 ?_ | refine lt2 ?_ ?_ | refine lt3 ?_ ?_ ?_ | refine lt4 ?_ ?_ ?_ ?_ | exact veq_refl _ | decide | (intro i hi; repeat' (first | refine And.intro ?_ ?_ | exact trivial | exact rfl))))
        all_goals first | exact Nat.le_refl _ | omega
      rintro _ _ _ ⟨rfl, rfl, rfl⟩
      repeat' (first | refine Both.mk ?_ ?_ | refine And.intro (by first | (show (_ : Bool) = true; kernel_rfl) | omega | (dsimp only; omega) | decide | (repeat' (first | refine And.intro ?_ ?_ | exact trivial | exact rfl))) ?_ | refine bcs_dec (fun h => ?_) (fun h => False.elim (by first | omega | exact h rfl)) | refine bcs_dec (fun h => False.elim (by omega)) (fun h => ?_) | refine bcs_dec (fun h => ?_) (fun h => ?_) | refine bcs_ndec (fun h => ?_) (fun h => ?_) | refine bcs_not ?_ | refine And.intro ?_ ?_)
      refine ret_plain ?_
      exact rfl
theorem settled_con (s t : List Chg) (b m y lab : List Byt) (fmt : Int) (H : JobSm s t b m y lab) :
    Con Tryd.prog glob 8 [.a [.s 0 0 s.length, .s 1 0 t.length, .s 2 0 b.length, .s 3 0 m.length, .s 4 0 y.length, .s 5 0 lab.length, .v (.int .i64 fmt)]] [(0, chRo s), (1, chRo t), (2, stRo b), (3, stRo m), (4, stRo y), (5, stRo lab)] 6 (retV 6 (.v (.bool true))) := by
  by_cases hc : chErr s t b m y = 0
  · exact settled_good s t b m y lab fmt H hc
  · exact settled_bad s t b m y lab fmt H hc
end Go.Proofs.YtlmjkphiicmclaaDoor
