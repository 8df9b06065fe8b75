/- Chapter 18: the chunks cover each of the three texts: the statement walked. Printed by gen_n10.py. -/
import Derived.Test.YtlmjkphiicmclaaDoorN10a
namespace Go.Proofs.YtlmjkphiicmclaaDoor
open Go Go.RowKit Vc

set_option maxRecDepth 100000 in
set_option maxHeartbeats 64000000 in
theorem covers_good (s t : List Chg) (b m y lab : List Byt) (fmt : Int) (H : JobSm s t b m y lab) (hc : chErr s t b m y = 0) :
    Con Tryd.prog glob 5 [.a [.s 0 0 s.length, .s 1 0 t.length, .s 2 0 b.length, .s 3 0 m.length, .s 4 0 y.length, .s 5 0 lab.length, .v (.int .i64 fmt)]] [(0, chRo s), (1, chRo t), (2, stRo b), (3, stRo m), (4, stRo y), (5, stRo lab)] 6 (retV 6 (.v (.bool true))) := by
  have cC := jchunks_con s t b m y lab fmt H.ok
  have hll := chLst_len H.ok
  have hcov := (chLst_cov hc).2.2.2
  have hkd := chLst_kinds (s := s) (t := t) (b := b) (m := m) (y := y)
  have hbl : b.length ≤ 4194304 := H.ok.hbl
  have hml : m.length ≤ 4194304 := H.ok.hml
  have hyl : y.length ≤ 4194304 := H.ok.hyl
  rw [hc, errV_0 rfl] at cC
  clear H
  obtain ⟨l, hl⟩ : ∃ l, l = chLst s t b m y := ⟨_, rfl⟩
  rw [← hl] at cC hll hcov hkd
  clear hl
  refine spec_intro (tab := tab) (N := 182) Tryd.func5 rfl rfl tab_ok mix rfl rfl _ rfl ?_
  intro B hG
  repeat' (first | refine And.intro (by first | (show (_ : Bool) = true; kernel_rfl) | omega | (dsimp only; omega) | decide | (repeat' (first | refine And.intro ?_ ?_ | exact trivial | exact rfl))) ?_ | refine bcs_dec (fun h => ?_) (fun h => False.elim (by first | omega | exact h rfl)) | refine bcs_dec (fun h => False.elim (by omega)) (fun h => ?_) | refine bcs_dec (fun h => ?_) (fun h => ?_) | refine bcs_ndec (fun h => ?_) (fun h => ?_) | refine bcs_not ?_ | refine bcs_intro (fun h => ?_) (fun h => ?_) | refine And.intro ?_ ?_ | refine reg_tail (by kernel_rfl) ?_)
  refine call_rule [.at 0 0, .at 1 0, .at 2 0, .at 3 0, .at 4 0, .at 5 0] (cC) hG ?_ ?_
  · (refine ⟨?_, ?_, rfl, rfl, rfl⟩ <;> repeat' (first | refine And.intro ?_ ?_ | exact trivial | exact rfl | refine lt0 | refine lt1 ?_ | refine lt2 ?_ ?_ | refine lt3 ?_ ?_ ?_ | refine lt4 ?_ ?_ ?_ ?_ | exact veq_refl _ | decide | (intro i hi; repeat' (first | refine And.intro ?_ ?_ | exact trivial | exact rfl))))
    all_goals first | exact Nat.le_refl _ | omega
  rintro _ _ _ ⟨rfl, rfl, rfl⟩
  repeat' (first | refine And.intro (by first | (show (_ : Bool) = true; kernel_rfl) | omega | (dsimp only; omega) | decide | (repeat' (first | refine And.intro ?_ ?_ | exact trivial | exact rfl))) ?_ | refine bcs_dec (fun h => ?_) (fun h => False.elim (by first | omega | exact h rfl)) | refine bcs_dec (fun h => False.elim (by omega)) (fun h => ?_) | refine bcs_dec (fun h => ?_) (fun h => ?_) | refine bcs_ndec (fun h => ?_) (fun h => ?_) | refine bcs_not ?_ | refine bcs_intro (fun h => ?_) (fun h => ?_) | refine And.intro ?_ ?_ | refine reg_tail (by kernel_rfl) ?_)
  all_goals first
    | omega
    | skip
  clear cC
  refine loop_rule (α := Nat × Int × Int × Int) (fun (i, z, u, v) => ⟨[(1, .p 6 0 0), (3, .s 7 0 l.length), (5, .v (.int .i64 z)), (6, .v (.int .i64 u)), (7, .v (.int .i64 v)), (8, .v (.int .i64 i))], [(0, chRo s), (1, chRo t), (2, stRo b), (3, stRo m), (4, stRo y), (5, stRo lab), (6, .box 25 [.s 0 0 s.length, .s 1 0 t.length, .s 2 0 b.length, .s 3 0 m.length, .s 4 0 y.length, .s 5 0 lab.length, .v (.int .i64 fmt)]), (7, ckRo l)], 8⟩)
    (fun (i, z, u, v) => i ≤ l.length ∧ 0 ≤ z ∧ 0 ≤ u ∧ 0 ≤ v ∧ covF b m y (l.drop i) z u v) (fun (i, _) => l.length - i) (0, 0, 0, 0) [.at 6 0, .at 7 0] ?_ ?_ ?_
  · exact ⟨Nat.zero_le _, Int.le_refl _, Int.le_refl _, Int.le_refl _, hcov⟩
  · (refine ⟨rfl, rfl, ?_, ?_⟩ <;> repeat' (first | refine And.intro ?_ ?_ | exact trivial | exact rfl | refine lt0 | refine lt1 ?_ | refine lt2 ?_ ?_ | refine lt3 ?_ ?_ ?_ | refine lt4 ?_ ?_ ?_ ?_ | exact veq_refl _ | decide | (intro i hi; repeat' (first | refine And.intro ?_ ?_ | exact trivial | exact rfl))))
    all_goals first | exact Nat.le_refl _ | omega | exact veq_refl _ | skip
  clear hcov
  rintro ⟨i, z, u, v⟩ ⟨c1, c2, c3, c4, c5⟩
  by_cases hi : i < l.length
  · rw [drop_get Chk.d l i hi] at c5
    have e0 : l.getD i Chk.d = (l.getD (0 + (i : Int).toNat) Chk.d) := by rw [Nat.zero_add]; rfl
    have hm : l.getD i Chk.d ∈ l := by
      rw [List.getD_eq_getElem?_getD, List.getElem?_eq_getElem hi]
      exact List.getElem_mem hi
    have hk := hkd _ hm
    clear hm hkd
    rw [e0] at c5 hk
    clear e0
    obtain ⟨e1, e2, e3, p1, p2, p3, p4, p5, p6, p7, p8, p9, p10, hr⟩ := c5
    have s1 := seg_len m (show 0 ≤ ((l.getD (0 + (i : Int).toNat) Chk.d)).m by omega) (show ((l.getD (0 + (i : Int).toNat) Chk.d)).m ≤ u + ((l.getD (0 + (i : Int).toNat) Chk.d)).mn by omega) (by omega)
    have s2 := seg_len y (show 0 ≤ ((l.getD (0 + (i : Int).toNat) Chk.d)).y by omega) (show ((l.getD (0 + (i : Int).toNat) Chk.d)).y ≤ v + ((l.getD (0 + (i : Int).toNat) Chk.d)).yn by omega) (by omega)
    have s3 := seg_len b (show 0 ≤ ((l.getD (0 + (i : Int).toNat) Chk.d)).b by omega) (show ((l.getD (0 + (i : Int).toNat) Chk.d)).b ≤ z + ((l.getD (0 + (i : Int).toNat) Chk.d)).bn by omega) (by omega)
    have cE := same18_con (segL m ((l.getD (0 + (i : Int).toNat) Chk.d)).m (u + ((l.getD (0 + (i : Int).toNat) Chk.d)).mn)) (segL y ((l.getD (0 + (i : Int).toNat) Chk.d)).y (v + ((l.getD (0 + (i : Int).toNat) Chk.d)).yn)) (fun k => m.getD (k + ((l.getD (0 + (i : Int).toNat) Chk.d)).m.toNat) []) (fun k => y.getD (k + ((l.getD (0 + (i : Int).toNat) Chk.d)).y.toNat) []) (by omega) (seg_row m (by omega) (by omega) (by omega)) (seg_row y (by omega) (by omega) (by omega))
    have cF := same18_con (segL b ((l.getD (0 + (i : Int).toNat) Chk.d)).b (z + ((l.getD (0 + (i : Int).toNat) Chk.d)).bn)) (segL m ((l.getD (0 + (i : Int).toNat) Chk.d)).m (u + ((l.getD (0 + (i : Int).toNat) Chk.d)).mn)) (fun k => b.getD (k + ((l.getD (0 + (i : Int).toNat) Chk.d)).b.toNat) []) (fun k => m.getD (k + ((l.getD (0 + (i : Int).toNat) Chk.d)).m.toNat) []) (by omega) (seg_row b (by omega) (by omega) (by omega)) (seg_row m (by omega) (by omega) (by omega))
    rw [s1, s2] at cE
    rw [s3, s1] at cF
    clear s1 s2 s3
    repeat' (first | refine And.intro (by first | (show (_ : Bool) = true; kernel_rfl) | omega | (dsimp only; omega) | decide | (repeat' (first | refine And.intro ?_ ?_ | exact trivial | exact rfl))) ?_ | refine bcs_dec (fun h => ?_) (fun h => False.elim (by first | omega | exact h rfl)) | refine bcs_dec (fun h => False.elim (by omega)) (fun h => ?_) | refine bcs_dec (fun h => ?_) (fun h => ?_) | refine bcs_ndec (fun h => ?_) (fun h => ?_) | refine bcs_not ?_ | refine bcs_intro (fun h => ?_) (fun h => ?_) | refine And.intro ?_ ?_ | refine reg_tail (by kernel_rfl) ?_)
    all_goals first
      | omega
      | skip
    rcases hk with hk | hk | hk | hk | hk
    · rw [decide_eq_true (by rw [e2, e3]; exact (p8 hk).2)] at cE
      rw [decide_eq_true (by rw [e1, e2]; exact (p8 hk).1)] at cF
      clear p8 p9 p10
      refine call_rule [.at 3 ((l.getD (0 + (i : Int).toNat) Chk.d)).m.toNat, .at 4 ((l.getD (0 + (i : Int).toNat) Chk.d)).y.toNat] (cE) hG ?_ ?_
      · (refine ⟨?_, ?_, rfl, rfl, rfl⟩ <;> repeat' (first | refine And.intro ?_ ?_ | exact trivial | exact rfl | refine lt0 | refine lt1 ?_ | refine lt2 ?_ ?_ | refine lt3 ?_ ?_ ?_ | refine lt4 ?_ ?_ ?_ ?_ | exact veq_refl _ | decide | (intro i hi; repeat' (first | refine And.intro ?_ ?_ | exact trivial | exact rfl))))
        all_goals first | exact Nat.le_refl _ | omega
      rintro _ _ _ ⟨rfl, rfl, rfl⟩
      repeat' (first | refine Both.mk ?_ ?_ | refine And.intro (by first | (show (_ : Bool) = true; kernel_rfl) | omega | (dsimp only; omega) | decide | (repeat' (first | refine And.intro ?_ ?_ | exact trivial | exact rfl))) ?_ | refine bcs_dec (fun h => ?_) (fun h => False.elim (by first | omega | exact h rfl)) | refine bcs_dec (fun h => False.elim (by omega)) (fun h => ?_) | refine bcs_dec (fun h => ?_) (fun h => ?_) | refine bcs_ndec (fun h => ?_) (fun h => ?_) | refine bcs_not ?_ | refine And.intro ?_ ?_)
      refine reg_ord [6, 8] (.late 0 (.late 1 (.late 2 (.late 3 (.late 4 (.late 5 (.late 6 (.early 7 (.early 8 (.early 9 (.early 10 (.early 11 (.early 13 (.early 14 (.early 15 (.early 16 (.early 17 (.fork 12 (.late 18 (.late 19 (.late 20 (.late 21 (.late 22 (.late 23 (.early 24 (.early 25 (.early 26 (.late 27 (.late 28 (.late 29 (.late 30 (.late 31 (.late 32 (.late 33 (.late 34 (.late 35 (.late 36 (.late 37 (.late 38 (.late 39 .nil)))))))))))))))))))))) 18 (.late 12 (.late 19 (.late 20 (.late 21 (.late 22 (.late 23 (.early 24 (.early 25 (.early 26 (.late 27 (.late 28 (.late 29 (.late 30 (.late 31 (.late 32 (.late 33 (.late 34 (.late 35 (.late 36 (.late 37 (.late 38 (.late 39 .nil)))))))))))))))))))))))))))))))))))))))) (by decide +kernel) rfl ?_
      intro B' hB'
      have hG' := hG
      have hG := hB'.trans hG
      repeat' (first | refine Both.mk ?_ ?_ | refine And.intro (by first | (show (_ : Bool) = true; kernel_rfl) | omega | (dsimp only; omega) | decide | (repeat' (first | refine And.intro ?_ ?_ | exact trivial | exact rfl))) ?_ | refine bcs_dec (fun h => ?_) (fun h => False.elim (by first | omega | exact h rfl)) | refine bcs_dec (fun h => False.elim (by omega)) (fun h => ?_) | refine bcs_dec (fun h => ?_) (fun h => ?_) | refine bcs_ndec (fun h => ?_) (fun h => ?_) | refine bcs_not ?_ | refine And.intro ?_ ?_)
      all_goals
        skip
        refine call_rule [.at 2 ((l.getD (0 + (i : Int).toNat) Chk.d)).b.toNat, .at 3 ((l.getD (0 + (i : Int).toNat) Chk.d)).m.toNat] (cF) hG ?_ ?_
        · (refine ⟨?_, ?_, rfl, rfl, rfl⟩ <;> repeat' (first | refine And.intro ?_ ?_ | exact trivial | exact rfl | refine lt0 | refine lt1 ?_ | refine lt2 ?_ ?_ | refine lt3 ?_ ?_ ?_ | refine lt4 ?_ ?_ ?_ ?_ | exact veq_refl _ | decide | (intro i hi; repeat' (first | refine And.intro ?_ ?_ | exact trivial | exact rfl))))
          all_goals first | exact Nat.le_refl _ | omega
        rintro _ _ _ ⟨rfl, rfl, rfl⟩
        repeat' (first | refine Both.mk ?_ ?_ | refine And.intro (by first | (show (_ : Bool) = true; kernel_rfl) | omega | (dsimp only; omega) | decide | (repeat' (first | refine And.intro ?_ ?_ | exact trivial | exact rfl))) ?_ | refine bcs_dec (fun h => ?_) (fun h => False.elim (by first | omega | exact h rfl)) | refine bcs_dec (fun h => False.elim (by omega)) (fun h => ?_) | refine bcs_dec (fun h => ?_) (fun h => ?_) | refine bcs_ndec (fun h => ?_) (fun h => ?_) | refine bcs_not ?_ | refine And.intro ?_ ?_)
      all_goals have hG := hG'
      all_goals
        skip
        refine ext_nebv (r := true) Tryd.underlying4 rfl rfl (by rw [hk]; rfl) ?_
        repeat' (first | refine And.intro (by first | (show (_ : Bool) = true; kernel_rfl) | omega | (dsimp only; omega) | decide | (repeat' (first | refine And.intro ?_ ?_ | exact trivial | exact rfl))) ?_ | refine bcs_dec (fun h => ?_) (fun h => False.elim (by first | omega | exact h rfl)) | refine bcs_dec (fun h => False.elim (by omega)) (fun h => ?_) | refine bcs_dec (fun h => ?_) (fun h => ?_) | refine bcs_ndec (fun h => ?_) (fun h => ?_) | refine bcs_not ?_ | refine bcs_intro (fun h => ?_) (fun h => ?_) | refine And.intro ?_ ?_ | refine reg_tail (by kernel_rfl) ?_)
        all_goals first
          | omega
          | skip
        refine ⟨(i + 1, z + ((l.getD (0 + (i : Int).toNat) Chk.d)).bn, u + ((l.getD (0 + (i : Int).toNat) Chk.d)).mn, v + ((l.getD (0 + (i : Int).toNat) Chk.d)).yn), [.at 6 0, .at 7 0], ?_, ?_, ?_⟩
        · exact ⟨hi, by omega, by omega, by omega, hr⟩
        · show l.length - (i + 1) < l.length - i
          omega
        · (refine ⟨rfl, rfl, ?_, ?_⟩ <;> repeat' (first | refine And.intro ?_ ?_ | exact trivial | exact rfl | refine lt0 | refine lt1 ?_ | refine lt2 ?_ ?_ | refine lt3 ?_ ?_ ?_ | refine lt4 ?_ ?_ ?_ ?_ | exact veq_refl _ | decide | (intro i hi; repeat' (first | refine And.intro ?_ ?_ | exact trivial | exact rfl))))
          all_goals first | exact Nat.le_refl _ | omega | exact veq_refl _ | skip
    · clear cF
      by_cases hE : segL m ((l.getD (0 + (i : Int).toNat) Chk.d)).m (u + ((l.getD (0 + (i : Int).toNat) Chk.d)).mn) = segL y ((l.getD (0 + (i : Int).toNat) Chk.d)).y (v + ((l.getD (0 + (i : Int).toNat) Chk.d)).yn)
      · rw [decide_eq_true hE] at cE
        clear p8 p9 p10
        refine call_rule [.at 3 ((l.getD (0 + (i : Int).toNat) Chk.d)).m.toNat, .at 4 ((l.getD (0 + (i : Int).toNat) Chk.d)).y.toNat] (cE) hG ?_ ?_
        · (refine ⟨?_, ?_, rfl, rfl, rfl⟩ <;> repeat' (first | refine And.intro ?_ ?_ | exact trivial | exact rfl | refine lt0 | refine lt1 ?_ | refine lt2 ?_ ?_ | refine lt3 ?_ ?_ ?_ | refine lt4 ?_ ?_ ?_ ?_ | exact veq_refl _ | decide | (intro i hi; repeat' (first | refine And.intro ?_ ?_ | exact trivial | exact rfl))))
          all_goals first | exact Nat.le_refl _ | omega
        rintro _ _ _ ⟨rfl, rfl, rfl⟩
        repeat' (first | refine Both.mk ?_ ?_ | refine And.intro (by first | (show (_ : Bool) = true; kernel_rfl) | omega | (dsimp only; omega) | decide | (repeat' (first | refine And.intro ?_ ?_ | exact trivial | exact rfl))) ?_ | refine bcs_dec (fun h => ?_) (fun h => False.elim (by first | omega | exact h rfl)) | refine bcs_dec (fun h => False.elim (by omega)) (fun h => ?_) | refine bcs_dec (fun h => ?_) (fun h => ?_) | refine bcs_ndec (fun h => ?_) (fun h => ?_) | refine bcs_not ?_ | refine And.intro ?_ ?_)
        refine reg_ord [6, 8] (.late 0 (.late 1 (.late 2 (.late 3 (.late 4 (.late 5 (.late 6 (.early 7 (.early 8 (.early 9 (.early 10 (.early 11 (.early 13 (.early 14 (.early 15 (.early 16 (.early 17 (.fork 12 (.late 18 (.late 19 (.late 20 (.late 21 (.late 22 (.late 23 (.early 24 (.early 25 (.early 26 (.late 27 (.late 28 (.late 29 (.late 30 (.late 31 (.late 32 (.late 33 (.late 34 (.late 35 (.late 36 (.late 37 (.late 38 (.late 39 .nil)))))))))))))))))))))) 18 (.late 12 (.late 19 (.late 20 (.late 21 (.late 22 (.late 23 (.early 24 (.early 25 (.early 26 (.late 27 (.late 28 (.late 29 (.late 30 (.late 31 (.late 32 (.late 33 (.late 34 (.late 35 (.late 36 (.late 37 (.late 38 (.late 39 .nil)))))))))))))))))))))))))))))))))))))))) (by decide +kernel) rfl ?_
        intro B' hB'
        have hG' := hG
        have hG := hB'.trans hG
        repeat' (first | refine Both.mk ?_ ?_ | refine And.intro (by first | (show (_ : Bool) = true; kernel_rfl) | omega | (dsimp only; omega) | decide | (repeat' (first | refine And.intro ?_ ?_ | exact trivial | exact rfl))) ?_ | refine bcs_dec (fun h => ?_) (fun h => False.elim (by first | omega | exact h rfl)) | refine bcs_dec (fun h => False.elim (by omega)) (fun h => ?_) | refine bcs_dec (fun h => ?_) (fun h => ?_) | refine bcs_ndec (fun h => ?_) (fun h => ?_) | refine bcs_not ?_ | refine And.intro ?_ ?_)
        all_goals have hG := hG'
        all_goals
          skip
          refine ext_nebv (r := true) Tryd.underlying4 rfl rfl (by rw [hk]; rfl) ?_
          repeat' (first | refine And.intro (by first | (show (_ : Bool) = true; kernel_rfl) | omega | (dsimp only; omega) | decide | (repeat' (first | refine And.intro ?_ ?_ | exact trivial | exact rfl))) ?_ | refine bcs_dec (fun h => ?_) (fun h => False.elim (by first | omega | exact h rfl)) | refine bcs_dec (fun h => False.elim (by omega)) (fun h => ?_) | refine bcs_dec (fun h => ?_) (fun h => ?_) | refine bcs_ndec (fun h => ?_) (fun h => ?_) | refine bcs_not ?_ | refine bcs_intro (fun h => ?_) (fun h => ?_) | refine And.intro ?_ ?_ | refine reg_tail (by kernel_rfl) ?_)
          all_goals first
            | omega
            | skip
          refine ⟨(i + 1, z + ((l.getD (0 + (i : Int).toNat) Chk.d)).bn, u + ((l.getD (0 + (i : Int).toNat) Chk.d)).mn, v + ((l.getD (0 + (i : Int).toNat) Chk.d)).yn), [.at 6 0, .at 7 0], ?_, ?_, ?_⟩
          · exact ⟨hi, by omega, by omega, by omega, hr⟩
          · show l.length - (i + 1) < l.length - i
            omega
          · (refine ⟨rfl, rfl, ?_, ?_⟩ <;> repeat' (first | refine And.intro ?_ ?_ | exact trivial | exact rfl | refine lt0 | refine lt1 ?_ | refine lt2 ?_ ?_ | refine lt3 ?_ ?_ ?_ | refine lt4 ?_ ?_ ?_ ?_ | exact veq_refl _ | decide | (intro i hi; repeat' (first | refine And.intro ?_ ?_ | exact trivial | exact rfl))))
            all_goals first | exact Nat.le_refl _ | omega | exact veq_refl _ | skip
      · rw [decide_eq_false hE] at cE
        clear p8 p9 p10
        refine call_rule [.at 3 ((l.getD (0 + (i : Int).toNat) Chk.d)).m.toNat, .at 4 ((l.getD (0 + (i : Int).toNat) Chk.d)).y.toNat] (cE) hG ?_ ?_
        · (refine ⟨?_, ?_, rfl, rfl, rfl⟩ <;> repeat' (first | refine And.intro ?_ ?_ | exact trivial | exact rfl | refine lt0 | refine lt1 ?_ | refine lt2 ?_ ?_ | refine lt3 ?_ ?_ ?_ | refine lt4 ?_ ?_ ?_ ?_ | exact veq_refl _ | decide | (intro i hi; repeat' (first | refine And.intro ?_ ?_ | exact trivial | exact rfl))))
          all_goals first | exact Nat.le_refl _ | omega
        rintro _ _ _ ⟨rfl, rfl, rfl⟩
        repeat' (first | refine Both.mk ?_ ?_ | refine And.intro (by first | (show (_ : Bool) = true; kernel_rfl) | omega | (dsimp only; omega) | decide | (repeat' (first | refine And.intro ?_ ?_ | exact trivial | exact rfl))) ?_ | refine bcs_dec (fun h => ?_) (fun h => False.elim (by first | omega | exact h rfl)) | refine bcs_dec (fun h => False.elim (by omega)) (fun h => ?_) | refine bcs_dec (fun h => ?_) (fun h => ?_) | refine bcs_ndec (fun h => ?_) (fun h => ?_) | refine bcs_not ?_ | refine And.intro ?_ ?_)
        refine reg_ord [6, 8] (.late 0 (.late 1 (.late 2 (.late 3 (.late 4 (.late 5 (.late 6 (.early 7 (.early 8 (.early 9 (.early 10 (.early 11 (.early 13 (.early 14 (.early 15 (.early 16 (.early 17 (.fork 12 (.late 18 (.late 19 (.late 20 (.late 21 (.late 22 (.late 23 (.early 24 (.early 25 (.early 26 (.late 27 (.late 28 (.late 29 (.late 30 (.late 31 (.late 32 (.late 33 (.late 34 (.late 35 (.late 36 (.late 37 (.late 38 (.late 39 .nil)))))))))))))))))))))) 18 (.late 12 (.late 19 (.late 20 (.late 21 (.late 22 (.late 23 (.early 24 (.early 25 (.early 26 (.late 27 (.late 28 (.late 29 (.late 30 (.late 31 (.late 32 (.late 33 (.late 34 (.late 35 (.late 36 (.late 37 (.late 38 (.late 39 .nil)))))))))))))))))))))))))))))))))))))))) (by decide +kernel) rfl ?_
        intro B' hB'
        have hG' := hG
        have hG := hB'.trans hG
        repeat' (first | refine Both.mk ?_ ?_ | refine And.intro (by first | (show (_ : Bool) = true; kernel_rfl) | omega | (dsimp only; omega) | decide | (repeat' (first | refine And.intro ?_ ?_ | exact trivial | exact rfl))) ?_ | refine bcs_dec (fun h => ?_) (fun h => False.elim (by first | omega | exact h rfl)) | refine bcs_dec (fun h => False.elim (by omega)) (fun h => ?_) | refine bcs_dec (fun h => ?_) (fun h => ?_) | refine bcs_ndec (fun h => ?_) (fun h => ?_) | refine bcs_not ?_ | refine And.intro ?_ ?_)
        all_goals have hG := hG'
        all_goals
          skip
          refine ext_nebv (r := false) Tryd.underlying4 rfl rfl (by rw [hk]; rfl) ?_
          repeat' (first | refine And.intro (by first | (show (_ : Bool) = true; kernel_rfl) | omega | (dsimp only; omega) | decide | (repeat' (first | refine And.intro ?_ ?_ | exact trivial | exact rfl))) ?_ | refine bcs_dec (fun h => ?_) (fun h => False.elim (by first | omega | exact h rfl)) | refine bcs_dec (fun h => False.elim (by omega)) (fun h => ?_) | refine bcs_dec (fun h => ?_) (fun h => ?_) | refine bcs_ndec (fun h => ?_) (fun h => ?_) | refine bcs_not ?_ | refine bcs_intro (fun h => ?_) (fun h => ?_) | refine And.intro ?_ ?_ | refine reg_tail (by kernel_rfl) ?_)
          all_goals first
            | omega
            | skip
          refine ⟨(i + 1, z + ((l.getD (0 + (i : Int).toNat) Chk.d)).bn, u + ((l.getD (0 + (i : Int).toNat) Chk.d)).mn, v + ((l.getD (0 + (i : Int).toNat) Chk.d)).yn), [.at 6 0, .at 7 0], ?_, ?_, ?_⟩
          · exact ⟨hi, by omega, by omega, by omega, hr⟩
          · show l.length - (i + 1) < l.length - i
            omega
          · (refine ⟨rfl, rfl, ?_, ?_⟩ <;> repeat' (first | refine And.intro ?_ ?_ | exact trivial | exact rfl | refine lt0 | refine lt1 ?_ | refine lt2 ?_ ?_ | refine lt3 ?_ ?_ ?_ | refine lt4 ?_ ?_ ?_ ?_ | exact veq_refl _ | decide | (intro i hi; repeat' (first | refine And.intro ?_ ?_ | exact trivial | exact rfl))))
            all_goals first | exact Nat.le_refl _ | omega | exact veq_refl _ | skip
    · clear cF
      by_cases hE : segL m ((l.getD (0 + (i : Int).toNat) Chk.d)).m (u + ((l.getD (0 + (i : Int).toNat) Chk.d)).mn) = segL y ((l.getD (0 + (i : Int).toNat) Chk.d)).y (v + ((l.getD (0 + (i : Int).toNat) Chk.d)).yn)
      · rw [decide_eq_true hE] at cE
        clear p8 p9 p10
        refine call_rule [.at 3 ((l.getD (0 + (i : Int).toNat) Chk.d)).m.toNat, .at 4 ((l.getD (0 + (i : Int).toNat) Chk.d)).y.toNat] (cE) hG ?_ ?_
        · (refine ⟨?_, ?_, rfl, rfl, rfl⟩ <;> repeat' (first | refine And.intro ?_ ?_ | exact trivial | exact rfl | refine lt0 | refine lt1 ?_ | refine lt2 ?_ ?_ | refine lt3 ?_ ?_ ?_ | refine lt4 ?_ ?_ ?_ ?_ | exact veq_refl _ | decide | (intro i hi; repeat' (first | refine And.intro ?_ ?_ | exact trivial | exact rfl))))
          all_goals first | exact Nat.le_refl _ | omega
        rintro _ _ _ ⟨rfl, rfl, rfl⟩
        repeat' (first | refine Both.mk ?_ ?_ | refine And.intro (by first | (show (_ : Bool) = true; kernel_rfl) | omega | (dsimp only; omega) | decide | (repeat' (first | refine And.intro ?_ ?_ | exact trivial | exact rfl))) ?_ | refine bcs_dec (fun h => ?_) (fun h => False.elim (by first | omega | exact h rfl)) | refine bcs_dec (fun h => False.elim (by omega)) (fun h => ?_) | refine bcs_dec (fun h => ?_) (fun h => ?_) | refine bcs_ndec (fun h => ?_) (fun h => ?_) | refine bcs_not ?_ | refine And.intro ?_ ?_)
        refine reg_ord [6, 8] (.late 0 (.late 1 (.late 2 (.late 3 (.late 4 (.late 5 (.late 6 (.early 7 (.early 8 (.early 9 (.early 10 (.early 11 (.early 13 (.early 14 (.early 15 (.early 16 (.early 17 (.fork 12 (.late 18 (.late 19 (.late 20 (.late 21 (.late 22 (.late 23 (.early 24 (.early 25 (.early 26 (.late 27 (.late 28 (.late 29 (.late 30 (.late 31 (.late 32 (.late 33 (.late 34 (.late 35 (.late 36 (.late 37 (.late 38 (.late 39 .nil)))))))))))))))))))))) 18 (.late 12 (.late 19 (.late 20 (.late 21 (.late 22 (.late 23 (.early 24 (.early 25 (.early 26 (.late 27 (.late 28 (.late 29 (.late 30 (.late 31 (.late 32 (.late 33 (.late 34 (.late 35 (.late 36 (.late 37 (.late 38 (.late 39 .nil)))))))))))))))))))))))))))))))))))))))) (by decide +kernel) rfl ?_
        intro B' hB'
        have hG' := hG
        have hG := hB'.trans hG
        repeat' (first | refine Both.mk ?_ ?_ | refine And.intro (by first | (show (_ : Bool) = true; kernel_rfl) | omega | (dsimp only; omega) | decide | (repeat' (first | refine And.intro ?_ ?_ | exact trivial | exact rfl))) ?_ | refine bcs_dec (fun h => ?_) (fun h => False.elim (by first | omega | exact h rfl)) | refine bcs_dec (fun h => False.elim (by omega)) (fun h => ?_) | refine bcs_dec (fun h => ?_) (fun h => ?_) | refine bcs_ndec (fun h => ?_) (fun h => ?_) | refine bcs_not ?_ | refine And.intro ?_ ?_)
        all_goals have hG := hG'
        all_goals
          skip
          refine ext_nebv (r := true) Tryd.underlying4 rfl rfl (by rw [hk]; rfl) ?_
          repeat' (first | refine And.intro (by first | (show (_ : Bool) = true; kernel_rfl) | omega | (dsimp only; omega) | decide | (repeat' (first | refine And.intro ?_ ?_ | exact trivial | exact rfl))) ?_ | refine bcs_dec (fun h => ?_) (fun h => False.elim (by first | omega | exact h rfl)) | refine bcs_dec (fun h => False.elim (by omega)) (fun h => ?_) | refine bcs_dec (fun h => ?_) (fun h => ?_) | refine bcs_ndec (fun h => ?_) (fun h => ?_) | refine bcs_not ?_ | refine bcs_intro (fun h => ?_) (fun h => ?_) | refine And.intro ?_ ?_ | refine reg_tail (by kernel_rfl) ?_)
          all_goals first
            | omega
            | skip
          refine ⟨(i + 1, z + ((l.getD (0 + (i : Int).toNat) Chk.d)).bn, u + ((l.getD (0 + (i : Int).toNat) Chk.d)).mn, v + ((l.getD (0 + (i : Int).toNat) Chk.d)).yn), [.at 6 0, .at 7 0], ?_, ?_, ?_⟩
          · exact ⟨hi, by omega, by omega, by omega, hr⟩
          · show l.length - (i + 1) < l.length - i
            omega
          · (refine ⟨rfl, rfl, ?_, ?_⟩ <;> repeat' (first | refine And.intro ?_ ?_ | exact trivial | exact rfl | refine lt0 | refine lt1 ?_ | refine lt2 ?_ ?_ | refine lt3 ?_ ?_ ?_ | refine lt4 ?_ ?_ ?_ ?_ | exact veq_refl _ | decide | (intro i hi; repeat' (first | refine And.intro ?_ ?_ | exact trivial | exact rfl))))
            all_goals first | exact Nat.le_refl _ | omega | exact veq_refl _ | skip
      · rw [decide_eq_false hE] at cE
        clear p8 p9 p10
        refine call_rule [.at 3 ((l.getD (0 + (i : Int).toNat) Chk.d)).m.toNat, .at 4 ((l.getD (0 + (i : Int).toNat) Chk.d)).y.toNat] (cE) hG ?_ ?_
        · (refine ⟨?_, ?_, rfl, rfl, rfl⟩ <;> repeat' (first | refine And.intro ?_ ?_ | exact trivial | exact rfl | refine lt0 | refine lt1 ?_ | refine lt2 ?_ ?_ | refine lt3 ?_ ?_ ?_ | refine lt4 ?_ ?_ ?_ ?_ | exact veq_refl _ | decide | (intro i hi; repeat' (first | refine And.intro ?_ ?_ | exact trivial | exact rfl))))
          all_goals first | exact Nat.le_refl _ | omega
        rintro _ _ _ ⟨rfl, rfl, rfl⟩
        repeat' (first | refine Both.mk ?_ ?_ | refine And.intro (by first | (show (_ : Bool) = true; kernel_rfl) | omega | (dsimp only; omega) | decide | (repeat' (first | refine And.intro ?_ ?_ | exact trivial | exact rfl))) ?_ | refine bcs_dec (fun h => ?_) (fun h => False.elim (by first | omega | exact h rfl)) | refine bcs_dec (fun h => False.elim (by omega)) (fun h => ?_) | refine bcs_dec (fun h => ?_) (fun h => ?_) | refine bcs_ndec (fun h => ?_) (fun h => ?_) | refine bcs_not ?_ | refine And.intro ?_ ?_)
        refine reg_ord [6, 8] (.late 0 (.late 1 (.late 2 (.late 3 (.late 4 (.late 5 (.late 6 (.early 7 (.early 8 (.early 9 (.early 10 (.early 11 (.early 13 (.early 14 (.early 15 (.early 16 (.early 17 (.fork 12 (.late 18 (.late 19 (.late 20 (.late 21 (.late 22 (.late 23 (.early 24 (.early 25 (.early 26 (.late 27 (.late 28 (.late 29 (.late 30 (.late 31 (.late 32 (.late 33 (.late 34 (.late 35 (.late 36 (.late 37 (.late 38 (.late 39 .nil)))))))))))))))))))))) 18 (.late 12 (.late 19 (.late 20 (.late 21 (.late 22 (.late 23 (.early 24 (.early 25 (.early 26 (.late 27 (.late 28 (.late 29 (.late 30 (.late 31 (.late 32 (.late 33 (.late 34 (.late 35 (.late 36 (.late 37 (.late 38 (.late 39 .nil)))))))))))))))))))))))))))))))))))))))) (by decide +kernel) rfl ?_
        intro B' hB'
        have hG' := hG
        have hG := hB'.trans hG
        repeat' (first | refine Both.mk ?_ ?_ | refine And.intro (by first | (show (_ : Bool) = true; kernel_rfl) | omega | (dsimp only; omega) | decide | (repeat' (first | refine And.intro ?_ ?_ | exact trivial | exact rfl))) ?_ | refine bcs_dec (fun h => ?_) (fun h => False.elim (by first | omega | exact h rfl)) | refine bcs_dec (fun h => False.elim (by omega)) (fun h => ?_) | refine bcs_dec (fun h => ?_) (fun h => ?_) | refine bcs_ndec (fun h => ?_) (fun h => ?_) | refine bcs_not ?_ | refine And.intro ?_ ?_)
        all_goals have hG := hG'
        all_goals
          skip
          refine ext_nebv (r := false) Tryd.underlying4 rfl rfl (by rw [hk]; rfl) ?_
          repeat' (first | refine And.intro (by first | (show (_ : Bool) = true; kernel_rfl) | omega | (dsimp only; omega) | decide | (repeat' (first | refine And.intro ?_ ?_ | exact trivial | exact rfl))) ?_ | refine bcs_dec (fun h => ?_) (fun h => False.elim (by first | omega | exact h rfl)) | refine bcs_dec (fun h => False.elim (by omega)) (fun h => ?_) | refine bcs_dec (fun h => ?_) (fun h => ?_) | refine bcs_ndec (fun h => ?_) (fun h => ?_) | refine bcs_not ?_ | refine bcs_intro (fun h => ?_) (fun h => ?_) | refine And.intro ?_ ?_ | refine reg_tail (by kernel_rfl) ?_)
          all_goals first
            | omega
            | skip
          refine ⟨(i + 1, z + ((l.getD (0 + (i : Int).toNat) Chk.d)).bn, u + ((l.getD (0 + (i : Int).toNat) Chk.d)).mn, v + ((l.getD (0 + (i : Int).toNat) Chk.d)).yn), [.at 6 0, .at 7 0], ?_, ?_, ?_⟩
          · exact ⟨hi, by omega, by omega, by omega, hr⟩
          · show l.length - (i + 1) < l.length - i
            omega
          · (refine ⟨rfl, rfl, ?_, ?_⟩ <;> repeat' (first | refine And.intro ?_ ?_ | exact trivial | exact rfl | refine lt0 | refine lt1 ?_ | refine lt2 ?_ ?_ | refine lt3 ?_ ?_ ?_ | refine lt4 ?_ ?_ ?_ ?_ | exact veq_refl _ | decide | (intro i hi; repeat' (first | refine And.intro ?_ ?_ | exact trivial | exact rfl))))
            all_goals first | exact Nat.le_refl _ | omega | exact veq_refl _ | skip
    · clear cF
      rw [decide_eq_true (by rw [e2, e3]; exact p9 hk)] at cE
      clear p8 p9 p10
      refine call_rule [.at 3 ((l.getD (0 + (i : Int).toNat) Chk.d)).m.toNat, .at 4 ((l.getD (0 + (i : Int).toNat) Chk.d)).y.toNat] (cE) hG ?_ ?_
      · (refine ⟨?_, ?_, rfl, rfl, rfl⟩ <;> repeat' (first | refine And.intro ?_ ?_ | exact trivial | exact rfl | refine lt0 | refine lt1 ?_ | refine lt2 ?_ ?_ | refine lt3 ?_ ?_ ?_ | refine lt4 ?_ ?_ ?_ ?_ | exact veq_refl _ | decide | (intro i hi; repeat' (first | refine And.intro ?_ ?_ | exact trivial | exact rfl))))
        all_goals first | exact Nat.le_refl _ | omega
      rintro _ _ _ ⟨rfl, rfl, rfl⟩
      repeat' (first | refine Both.mk ?_ ?_ | refine And.intro (by first | (show (_ : Bool) = true; kernel_rfl) | omega | (dsimp only; omega) | decide | (repeat' (first | refine And.intro ?_ ?_ | exact trivial | exact rfl))) ?_ | refine bcs_dec (fun h => ?_) (fun h => False.elim (by first | omega | exact h rfl)) | refine bcs_dec (fun h => False.elim (by omega)) (fun h => ?_) | refine bcs_dec (fun h => ?_) (fun h => ?_) | refine bcs_ndec (fun h => ?_) (fun h => ?_) | refine bcs_not ?_ | refine And.intro ?_ ?_)
      refine reg_ord [6, 8] (.late 0 (.late 1 (.late 2 (.late 3 (.late 4 (.late 5 (.late 6 (.early 7 (.early 8 (.early 9 (.early 10 (.early 11 (.early 13 (.early 14 (.early 15 (.early 16 (.early 17 (.fork 12 (.late 18 (.late 19 (.late 20 (.late 21 (.late 22 (.late 23 (.early 24 (.early 25 (.early 26 (.late 27 (.late 28 (.late 29 (.late 30 (.late 31 (.late 32 (.late 33 (.late 34 (.late 35 (.late 36 (.late 37 (.late 38 (.late 39 .nil)))))))))))))))))))))) 18 (.late 12 (.late 19 (.late 20 (.late 21 (.late 22 (.late 23 (.early 24 (.early 25 (.early 26 (.late 27 (.late 28 (.late 29 (.late 30 (.late 31 (.late 32 (.late 33 (.late 34 (.late 35 (.late 36 (.late 37 (.late 38 (.late 39 .nil)))))))))))))))))))))))))))))))))))))))) (by decide +kernel) rfl ?_
      intro B' hB'
      have hG' := hG
      have hG := hB'.trans hG
      repeat' (first | refine Both.mk ?_ ?_ | refine And.intro (by first | (show (_ : Bool) = true; kernel_rfl) | omega | (dsimp only; omega) | decide | (repeat' (first | refine And.intro ?_ ?_ | exact trivial | exact rfl))) ?_ | refine bcs_dec (fun h => ?_) (fun h => False.elim (by first | omega | exact h rfl)) | refine bcs_dec (fun h => False.elim (by omega)) (fun h => ?_) | refine bcs_dec (fun h => ?_) (fun h => ?_) | refine bcs_ndec (fun h => ?_) (fun h => ?_) | refine bcs_not ?_ | refine And.intro ?_ ?_)
      all_goals have hG := hG'
      all_goals
        skip
        refine ext_nebv (r := false) Tryd.underlying4 rfl rfl (by rw [hk]; rfl) ?_
        repeat' (first | refine And.intro (by first | (show (_ : Bool) = true; kernel_rfl) | omega | (dsimp only; omega) | decide | (repeat' (first | refine And.intro ?_ ?_ | exact trivial | exact rfl))) ?_ | refine bcs_dec (fun h => ?_) (fun h => False.elim (by first | omega | exact h rfl)) | refine bcs_dec (fun h => False.elim (by omega)) (fun h => ?_) | refine bcs_dec (fun h => ?_) (fun h => ?_) | refine bcs_ndec (fun h => ?_) (fun h => ?_) | refine bcs_not ?_ | refine bcs_intro (fun h => ?_) (fun h => ?_) | refine And.intro ?_ ?_ | refine reg_tail (by kernel_rfl) ?_)
        all_goals first
          | omega
          | skip
        refine ⟨(i + 1, z + ((l.getD (0 + (i : Int).toNat) Chk.d)).bn, u + ((l.getD (0 + (i : Int).toNat) Chk.d)).mn, v + ((l.getD (0 + (i : Int).toNat) Chk.d)).yn), [.at 6 0, .at 7 0], ?_, ?_, ?_⟩
        · exact ⟨hi, by omega, by omega, by omega, hr⟩
        · show l.length - (i + 1) < l.length - i
          omega
        · (refine ⟨rfl, rfl, ?_, ?_⟩ <;> repeat' (first | refine And.intro ?_ ?_ | exact trivial | exact rfl | refine lt0 | refine lt1 ?_ | refine lt2 ?_ ?_ | refine lt3 ?_ ?_ ?_ | refine lt4 ?_ ?_ ?_ ?_ | exact veq_refl _ | decide | (intro i hi; repeat' (first | refine And.intro ?_ ?_ | exact trivial | exact rfl))))
          all_goals first | exact Nat.le_refl _ | omega | exact veq_refl _ | skip
    · clear cF
      rw [decide_eq_false (by rw [e2, e3]; exact p10 hk)] at cE
      clear p8 p9 p10
      refine call_rule [.at 3 ((l.getD (0 + (i : Int).toNat) Chk.d)).m.toNat, .at 4 ((l.getD (0 + (i : Int).toNat) Chk.d)).y.toNat] (cE) hG ?_ ?_
      · (refine ⟨?_, ?_, rfl, rfl, rfl⟩ <;> repeat' (first | refine And.intro ?_ ?_ | exact trivial | exact rfl | refine lt0 | refine lt1 ?_ | refine lt2 ?_ ?_ | refine lt3 ?_ ?_ ?_ | refine lt4 ?_ ?_ ?_ ?_ | exact veq_refl _ | decide | (intro i hi; repeat' (first | refine And.intro ?_ ?_ | exact trivial | exact rfl))))
        all_goals first | exact Nat.le_refl _ | omega
      rintro _ _ _ ⟨rfl, rfl, rfl⟩
      repeat' (first | refine Both.mk ?_ ?_ | refine And.intro (by first | (show (_ : Bool) = true; kernel_rfl) | omega | (dsimp only; omega) | decide | (repeat' (first | refine And.intro ?_ ?_ | exact trivial | exact rfl))) ?_ | refine bcs_dec (fun h => ?_) (fun h => False.elim (by first | omega | exact h rfl)) | refine bcs_dec (fun h => False.elim (by omega)) (fun h => ?_) | refine bcs_dec (fun h => ?_) (fun h => ?_) | refine bcs_ndec (fun h => ?_) (fun h => ?_) | refine bcs_not ?_ | refine And.intro ?_ ?_)
      refine reg_ord [6, 8] (.late 0 (.late 1 (.late 2 (.late 3 (.late 4 (.late 5 (.late 6 (.early 7 (.early 8 (.early 9 (.early 10 (.early 11 (.early 13 (.early 14 (.early 15 (.early 16 (.early 17 (.fork 12 (.late 18 (.late 19 (.late 20 (.late 21 (.late 22 (.late 23 (.early 24 (.early 25 (.early 26 (.late 27 (.late 28 (.late 29 (.late 30 (.late 31 (.late 32 (.late 33 (.late 34 (.late 35 (.late 36 (.late 37 (.late 38 (.late 39 .nil)))))))))))))))))))))) 18 (.late 12 (.late 19 (.late 20 (.late 21 (.late 22 (.late 23 (.early 24 (.early 25 (.early 26 (.late 27 (.late 28 (.late 29 (.late 30 (.late 31 (.late 32 (.late 33 (.late 34 (.late 35 (.late 36 (.late 37 (.late 38 (.late 39 .nil)))))))))))))))))))))))))))))))))))))))) (by decide +kernel) rfl ?_
      intro B' hB'
      have hG' := hG
      have hG := hB'.trans hG
      repeat' (first | refine Both.mk ?_ ?_ | refine And.intro (by first | (show (_ : Bool) = true; kernel_rfl) | omega | (dsimp only; omega) | decide | (repeat' (first | refine And.intro ?_ ?_ | exact trivial | exact rfl))) ?_ | refine bcs_dec (fun h => ?_) (fun h => False.elim (by first | omega | exact h rfl)) | refine bcs_dec (fun h => False.elim (by omega)) (fun h => ?_) | refine bcs_dec (fun h => ?_) (fun h => ?_) | refine bcs_ndec (fun h => ?_) (fun h => ?_) | refine bcs_not ?_ | refine And.intro ?_ ?_)
      all_goals have hG := hG'
      all_goals
        skip
        refine ext_nebv (r := false) Tryd.underlying4 rfl rfl (by rw [hk]; rfl) ?_
        repeat' (first | refine And.intro (by first | (show (_ : Bool) = true; kernel_rfl) | omega | (dsimp only; omega) | decide | (repeat' (first | refine And.intro ?_ ?_ | exact trivial | exact rfl))) ?_ | refine bcs_dec (fun h => ?_) (fun h => False.elim (by first | omega | exact h rfl)) | refine bcs_dec (fun h => False.elim (by omega)) (fun h => ?_) | refine bcs_dec (fun h => ?_) (fun h => ?_) | refine bcs_ndec (fun h => ?_) (fun h => ?_) | refine bcs_not ?_ | refine bcs_intro (fun h => ?_) (fun h => ?_) | refine And.intro ?_ ?_ | refine reg_tail (by kernel_rfl) ?_)
        all_goals first
          | omega
          | skip
        refine ⟨(i + 1, z + ((l.getD (0 + (i : Int).toNat) Chk.d)).bn, u + ((l.getD (0 + (i : Int).toNat) Chk.d)).mn, v + ((l.getD (0 + (i : Int).toNat) Chk.d)).yn), [.at 6 0, .at 7 0], ?_, ?_, ?_⟩
        · exact ⟨hi, by omega, by omega, by omega, hr⟩
        · show l.length - (i + 1) < l.length - i
          omega
        · (refine ⟨rfl, rfl, ?_, ?_⟩ <;> repeat' (first | refine And.intro ?_ ?_ | exact trivial | exact rfl | refine lt0 | refine lt1 ?_ | refine lt2 ?_ ?_ | refine lt3 ?_ ?_ ?_ | refine lt4 ?_ ?_ ?_ ?_ | exact veq_refl _ | decide | (intro i hi; repeat' (first | refine And.intro ?_ ?_ | exact trivial | exact rfl))))
          all_goals first | exact Nat.le_refl _ | omega | exact veq_refl _ | skip
  · obtain rfl : i = l.length := by omega
    rw [List.drop_length] at c5
    obtain ⟨e1, e2, e3⟩ := c5
    repeat' (first | refine And.intro (by first | (show (_ : Bool) = true; kernel_rfl) | omega | (dsimp only; omega) | decide | (repeat' (first | refine And.intro ?_ ?_ | exact trivial | exact rfl))) ?_ | refine bcs_dec (fun h => ?_) (fun h => False.elim (by first | omega | exact h rfl)) | refine bcs_dec (fun h => False.elim (by omega)) (fun h => ?_) | refine bcs_dec (fun h => ?_) (fun h => ?_) | refine bcs_ndec (fun h => ?_) (fun h => ?_) | refine bcs_not ?_ | refine bcs_intro (fun h => ?_) (fun h => ?_) | refine And.intro ?_ ?_ | refine reg_tail (by kernel_rfl) ?_)
    all_goals first
      | omega
      | skip
    refine call_rule [] (works_con) hG ?_ ?_
    · (refine ⟨?_, ?_, rfl, rfl, rfl⟩ <;> repeat' (first | refine And.intro ?_ ?_ | exact trivial | exact rfl | refine lt0 | refine lt1 ?_ | refine lt2 ?_ ?_ | refine lt3 ?_ ?_ ?_ | refine lt4 ?_ ?_ ?_ ?_ | exact veq_refl _ | decide | (intro i hi; repeat' (first | refine And.intro ?_ ?_ | exact trivial | exact rfl))))
      all_goals first | exact Nat.le_refl _ | omega
    rintro _ _ _ ⟨rfl, rfl, rfl⟩
    repeat' (first | refine And.intro (by first | (show (_ : Bool) = true; kernel_rfl) | omega | (dsimp only; omega) | decide | (repeat' (first | refine And.intro ?_ ?_ | exact trivial | exact rfl))) ?_ | refine bcs_dec (fun h => ?_) (fun h => False.elim (by first | omega | exact h rfl)) | refine bcs_dec (fun h => False.elim (by omega)) (fun h => ?_) | refine bcs_dec (fun h => ?_) (fun h => ?_) | refine bcs_ndec (fun h => ?_) (fun h => ?_) | refine bcs_not ?_ | refine bcs_intro (fun h => ?_) (fun h => ?_) | refine And.intro ?_ ?_ | refine reg_tail (by kernel_rfl) ?_)
    refine ret_plain ?_
    exact rfl
theorem covers_con (s t : List Chg) (b m y lab : List Byt) (fmt : Int) (H : JobSm s t b m y lab) :
    Con Tryd.prog glob 5 [.a [.s 0 0 s.length, .s 1 0 t.length, .s 2 0 b.length, .s 3 0 m.length, .s 4 0 y.length, .s 5 0 lab.length, .v (.int .i64 fmt)]] [(0, chRo s), (1, chRo t), (2, stRo b), (3, stRo m), (4, stRo y), (5, stRo lab)] 6 (retV 6 (.v (.bool true))) := by
  by_cases hc : chErr s t b m y = 0
  · exact covers_good s t b m y lab fmt H hc
  · exact covers_bad s t b m y lab fmt H hc
end Go.Proofs.YtlmjkphiicmclaaDoor
