/- Chapter 18: the document's merged text: walked. -/
import Derived.Test.YtlmjkphiicmclaaDoorW10
import Derived.Test.YtlmjkphiicmclaaDoorWB
import Derived.Test.YtlmjkphiicmclaaDoorMD
namespace Go.Proofs.YtlmjkphiicmclaaDoor
open Go Go.RowKit Vc

theorem idx_no10 {x : Byt} (h : ¬ 0 ≤ Lib.indexByte x 10) {j : Nat} (hj : j < x.length) : x.getD j 0 ≠ 10 := by
  rcases idx_cases x with ⟨h1, _⟩ | ⟨k, h1, _⟩
  · exact idx_none h1 hj
  · omega
theorem idx_has {x : Byt} {j : Nat} (hj : j < x.length) (h : x.getD j 0 = 10) : 0 ≤ Lib.indexByte x 10 := by
  rcases idx_cases x with ⟨h1, _⟩ | ⟨k, h1, _⟩
  · exact absurd h (idx_none h1 hj)
  · omega
/-- Is the label's beginning one that may be? -/
def okB (x : Byt) (k : Nat) : Bool := decide (x.length ≤ 4096 ∧ ∀ j, j < k → x.getD j 0 ≠ 10)
theorem okB_end (x : Byt) : okB x x.length = !decide (badL x) := by
  unfold okB
  rw [← decide_not]
  refine decide_eq_decide.2 ⟨fun ⟨h1, h2⟩ => ?_, fun h => ⟨?_, fun j hj => idx_no10 (fun k => h (Or.inl k)) hj⟩⟩
  · rintro (k | k)
    · rcases idx_cases x with ⟨h3, _⟩ | ⟨q, h3, h4, h5, _⟩
      · omega
      · exact h2 q h4 h5
    · omega
  · unfold badL at h
    omega
theorem okB_step (x : Byt) (k : Nat) : okB x (k + 1) = (okB x k && decide (x.getD k 0 ≠ 10)) := by
  unfold okB
  rw [← Bool.decide_and]
  refine decide_eq_decide.2 ⟨fun ⟨h1, h2⟩ => ⟨⟨h1, fun j hj => h2 j (by omega)⟩, h2 k (by omega)⟩, fun ⟨⟨h1, h2⟩, h3⟩ => ⟨h1, fun j hj => ?_⟩⟩
  rcases Nat.lt_succ_iff_lt_or_eq.1 hj with hj | rfl
  · exact h2 j hj
  · exact h3
set_option maxRecDepth 100000 in
set_option maxHeartbeats 64000000 in
theorem rmerge_con (s t : List Chg) (b m y lab : List Byt) (fmt : Int) (H : JobSm s t b m y lab) :
    Con Tryd.prog glob 17 [.s 0 0 s.length, .s 1 0 t.length, .s 2 0 b.length, .s 3 0 m.length, .s 4 0 y.length, .s 5 0 lab.length, .v (.int .i64 fmt)] [(0, chRo s), (1, chRo t), (2, stRo b), (3, stRo m), (4, stRo y), (5, stRo lab)] 6 (retV 6 (.t [str (mgTxt s t b m y lab fmt), .v (.int .i64 (mgCl s t b m y lab fmt)), .v (.int .i64 (mgErr s t b m y lab fmt))])) := by
  have hok := H.ok
  obtain ⟨hs, ht, hb, hm, hy, hbl, hml, hyl, hll, hlf⟩ := H
  have hc0 := mgErr_cases s t b m y lab fmt
  have hbad := mgTxt_bad (s := s) (t := t) (b := b) (m := m) (y := y) (lab := lab) (fmt := fmt)
  have hgood := mgTxt_ok (s := s) (t := t) (b := b) (m := m) (y := y) (lab := lab) (fmt := fmt)
  have cC := rchunks_con s t b m y hok
  have hat := chLst_at (s := s) (t := t) (b := b) (m := m) (y := y)
  have hcov : chErr s t b m y = 0 → ((chLst s t b m y).length : Int) ≤ 3145728 := fun e => by
    have := cov_len _ 0 0 0 (chLst_cov e).2.2.2
    omega
  obtain ⟨TX, hTX⟩ : ∃ TX, TX = mgTxt s t b m y lab fmt := ⟨_, rfl⟩
  obtain ⟨CL, hCL⟩ : ∃ CL, CL = mgCl s t b m y lab fmt := ⟨_, rfl⟩
  obtain ⟨ER, hER⟩ : ∃ ER, ER = mgErr s t b m y lab fmt := ⟨_, rfl⟩
  obtain ⟨CE, hCE⟩ : ∃ CE, CE = chErr s t b m y := ⟨_, rfl⟩
  obtain ⟨l, hl⟩ : ∃ l, l = chLst s t b m y := ⟨_, rfl⟩
  rw [← hTX, ← hCL, ← hER]
  rw [← hER] at hc0
  rw [← hTX, ← hCL, ← hER] at hbad hgood
  rw [← hCE, ← hl] at cC
  rw [← hCE, ← hl] at hc0
  rw [← hl] at hat hgood
  rw [← hCE, ← hl] at hcov
  clear hTX hCL hER hCE hl hok
  refine spec_intro (tab := tab) (N := 118) Tryd.func17 rfl rfl tab_ok mix rfl rfl _ rfl ?_
  intro B hG
  by_cases hf : fmt < 1 ∨ fmt > 5
  · obtain rfl : ER = 1 := by rcases hc0 with ⟨_, e⟩ | ⟨_, _, _⟩ <;> omega
    obtain ⟨rfl, rfl⟩ := hbad (by decide)
    repeat' (first | refine And.intro (by first | (show (_ : Bool) = true; kernel_rfl) | omega | (dsimp only; omega) | decide | (repeat' (first | refine And.intro ?_ ?_ | exact trivial | exact rfl))) ?_ | refine bcs_dec (fun h => ?_) (fun h => False.elim (by first | omega | exact h rfl)) | refine bcs_dec (fun h => False.elim (by omega)) (fun h => ?_) | refine bcs_dec (fun h => ?_) (fun h => ?_) | refine bcs_ndec (fun h => ?_) (fun h => ?_) | refine bcs_not ?_ | refine bcs_intro (fun h => ?_) (fun h => ?_) | refine And.intro ?_ ?_ | refine reg_tail (by kernel_rfl) ?_)
    all_goals first
      | omega
      | skip
    all_goals
      refine ret_plain ?_
      repeat' (first | refine And.intro ?_ ?_ | exact trivial)
      all_goals exact rfl
  obtain ⟨f1, f2, hcs⟩ := hc0.resolve_left (fun k => hf k.1)
  clear hc0
  by_cases hl3 : lab.length = 3
  · repeat' (first | refine And.intro (by first | (show (_ : Bool) = true; kernel_rfl) | omega | (dsimp only; omega) | decide | (repeat' (first | refine And.intro ?_ ?_ | exact trivial | exact rfl))) ?_ | refine bcs_dec (fun h => ?_) (fun h => False.elim (by first | omega | exact h rfl)) | refine bcs_dec (fun h => False.elim (by omega)) (fun h => ?_) | refine bcs_dec (fun h => ?_) (fun h => ?_) | refine bcs_ndec (fun h => ?_) (fun h => ?_) | refine bcs_not ?_ | refine bcs_intro (fun h => ?_) (fun h => ?_) | refine And.intro ?_ ?_ | refine reg_tail (by kernel_rfl) ?_)
    all_goals first
      | omega
      | skip
    refine loop_rule (α := Nat) (fun i => ⟨[(0, .s 0 0 s.length), (1, .s 1 0 t.length), (2, .s 2 0 b.length), (3, .s 3 0 m.length), (4, .s 4 0 y.length), (5, .s 5 0 lab.length), (6, .v (.int .i64 fmt)), (17, .v (.int .i64 i))], [(0, chRo s), (1, chRo t), (2, stRo b), (3, stRo m), (4, stRo y), (5, stRo lab)], 6⟩)
      (fun i => i ≤ 3 ∧ ∀ j, j < i → ¬ badL (lab.getD j [])) (fun i => 3 - i) 0 [] ?_ ?_ ?_
    · exact ⟨Nat.zero_le _, fun j hj => absurd hj (by omega)⟩
    · (refine ⟨rfl, rfl, ?_, ?_⟩ <;> repeat' (first | refine And.intro ?_ ?_ | exact trivial | exact rfl | refine lt0 | refine lt1 ?_ | refine lt2 ?_ ?_ | refine lt3 ?_ ?_ ?_ | refine lt4 ?_ ?_ ?_ ?_ | exact veq_refl _ | decide | (intro i hi; repeat' (first | refine And.intro ?_ ?_ | exact trivial | exact rfl))))
      all_goals first | exact Nat.le_refl _ | omega
    rintro i ⟨h1, h2⟩
    by_cases hi : i < 3
    · have hsz : (bs (lab.getD (0 + (i : Int).toNat) [])).size = ((lab.getD (0 + (i : Int).toNat) [])).length := bs_size _
      have hL1 : ((lab.getD (0 + (i : Int).toNat) [])).length ≤ 1048576 := by have := getD_flat lab (0 + (i : Int).toNat); omega
      have hmem : (lab.getD (0 + (i : Int).toNat) []) ∈ lab := by
        rw [Nat.zero_add, Int.toNat_natCast, List.getD_eq_getElem?_getD, List.getElem?_eq_getElem (by omega)]
        exact List.getElem_mem _
      have e0 : lab.getD i [] = (lab.getD (0 + (i : Int).toNat) []) := by rw [Nat.zero_add]; rfl
      have hk0 : okB (lab.getD (0 + (i : Int).toNat) []) 0 = decide (((bs (lab.getD (0 + (i : Int).toNat) [])).size : Int) ≤ 4096) := by
        unfold okB
        exact decide_eq_decide.2 ⟨fun k => by have := k.1; omega, fun k => ⟨by omega, fun j hj => absurd hj (by omega)⟩⟩
      repeat' (first | refine And.intro (by first | (show (_ : Bool) = true; kernel_rfl) | omega | (dsimp only; omega) | decide | (repeat' (first | refine And.intro ?_ ?_ | exact trivial | exact rfl))) ?_ | refine bcs_dec (fun h => ?_) (fun h => False.elim (by first | omega | exact h rfl)) | refine bcs_dec (fun h => False.elim (by omega)) (fun h => ?_) | refine bcs_dec (fun h => ?_) (fun h => ?_) | refine bcs_ndec (fun h => ?_) (fun h => ?_) | refine bcs_not ?_ | refine bcs_intro (fun h => ?_) (fun h => ?_) | refine And.intro ?_ ?_ | refine reg_tail (by kernel_rfl) ?_)
      all_goals first
        | omega
        | skip
      refine loop_rule (α := Nat × Bool) (fun (k, v) => ⟨[(0, .s 0 0 s.length), (1, .s 1 0 t.length), (2, .s 2 0 b.length), (3, .s 3 0 m.length), (4, .s 4 0 y.length), (5, .s 5 0 lab.length), (6, .v (.int .i64 fmt)), (17, .v (.int .i64 i)), (18, .v (.bool v)), (19, .v (.int .i64 k))], [(0, chRo s), (1, chRo t), (2, stRo b), (3, stRo m), (4, stRo y), (5, stRo lab)], 6⟩)
        (fun (k, v) => k ≤ ((lab.getD (0 + (i : Int).toNat) [])).length ∧ v = okB (lab.getD (0 + (i : Int).toNat) []) k) (fun (k, _) => ((lab.getD (0 + (i : Int).toNat) [])).length - k) (0, okB (lab.getD (0 + (i : Int).toNat) []) 0) [] ?_ ?_ ?_
      · exact ⟨Nat.zero_le _, rfl⟩
      · (refine ⟨rfl, rfl, ?_, ?_⟩ <;> repeat' (first | refine And.intro ?_ ?_ | exact trivial | exact rfl | refine lt0 | refine lt1 ?_ | refine lt2 ?_ ?_ | refine lt3 ?_ ?_ ?_ | refine lt4 ?_ ?_ ?_ ?_ | exact veq_refl _ | decide | (intro i hi; repeat' (first | refine And.intro ?_ ?_ | exact trivial | exact rfl))))
        all_goals first | exact Nat.le_refl _ | omega | exact veq_of_eq (congrArg Value.bool hk0) | exact veq_of_eq (congrArg Value.bool hk0.symm)
      rintro ⟨k, v⟩ ⟨k1, k2⟩
      by_cases hk : k < ((lab.getD (0 + (i : Int).toNat) [])).length
      · have hbt := bt10 (lab.getD (0 + (i : Int).toNat) []) k
        have hst := okB_step (lab.getD (0 + (i : Int).toNat) []) k
        rw [← k2] at hst
        cases v with
        | false =>
          rw [Bool.false_and] at hst
          repeat' (first | refine And.intro (by first | (show (_ : Bool) = true; kernel_rfl) | omega | (dsimp only; omega) | decide | (repeat' (first | refine And.intro ?_ ?_ | exact trivial | exact rfl))) ?_ | refine bcs_dec (fun h => ?_) (fun h => False.elim (by first | omega | exact h rfl)) | refine bcs_dec (fun h => False.elim (by omega)) (fun h => ?_) | refine bcs_dec (fun h => ?_) (fun h => ?_) | refine bcs_ndec (fun h => ?_) (fun h => ?_) | refine bcs_not ?_ | refine bcs_intro (fun h => ?_) (fun h => ?_) | refine And.intro ?_ ?_ | refine reg_tail (by kernel_rfl) ?_)
          all_goals first
            | omega
            | skip
          refine ⟨(k + 1, false), [], ?_, ?_, ?_⟩
          · exact ⟨hk, hst.symm⟩
          · show ((lab.getD (0 + (i : Int).toNat) [])).length - (k + 1) < ((lab.getD (0 + (i : Int).toNat) [])).length - k
            omega
          · (refine ⟨rfl, rfl, ?_, ?_⟩ <;> repeat' (first | refine And.intro ?_ ?_ | exact trivial | exact rfl | refine lt0 | refine lt1 ?_ | refine lt2 ?_ ?_ | refine lt3 ?_ ?_ ?_ | refine lt4 ?_ ?_ ?_ ?_ | exact veq_refl _ | decide | (intro i hi; repeat' (first | refine And.intro ?_ ?_ | exact trivial | exact rfl))))
            all_goals first | exact Nat.le_refl _ | omega
        | true =>
          rw [Bool.true_and] at hst
          have hbe : (bt (bs (lab.getD (0 + (i : Int).toNat) [])) (k : Int) != 10) = decide (((lab.getD (0 + (i : Int).toNat) [])).getD k 0 ≠ 10) := by
            by_cases h : ((lab.getD (0 + (i : Int).toNat) [])).getD k 0 = 10
            · rw [hbt.2 h, decide_eq_false (fun c => c h)]; rfl
            · rw [decide_eq_true h]; exact bne_iff_ne.2 (fun c => h (hbt.1 c))
          repeat' (first | refine And.intro (by first | (show (_ : Bool) = true; kernel_rfl) | omega | (dsimp only; omega) | decide | (repeat' (first | refine And.intro ?_ ?_ | exact trivial | exact rfl))) ?_ | refine bcs_dec (fun h => ?_) (fun h => False.elim (by first | omega | exact h rfl)) | refine bcs_dec (fun h => False.elim (by omega)) (fun h => ?_) | refine bcs_dec (fun h => ?_) (fun h => ?_) | refine bcs_ndec (fun h => ?_) (fun h => ?_) | refine bcs_not ?_ | refine bcs_intro (fun h => ?_) (fun h => ?_) | refine And.intro ?_ ?_ | refine reg_tail (by kernel_rfl) ?_)
          all_goals first
            | omega
            | skip
          all_goals
            refine ⟨(k + 1, okB (lab.getD (0 + (i : Int).toNat) []) (k + 1)), [], ?_, ?_, ?_⟩
            · exact ⟨hk, rfl⟩
            · show ((lab.getD (0 + (i : Int).toNat) [])).length - (k + 1) < ((lab.getD (0 + (i : Int).toNat) [])).length - k
              omega
            · (refine ⟨rfl, rfl, ?_, ?_⟩ <;> repeat' (first | refine And.intro ?_ ?_ | exact trivial | exact rfl | refine lt0 | refine lt1 ?_ | refine lt2 ?_ ?_ | refine lt3 ?_ ?_ ?_ | refine lt4 ?_ ?_ ?_ ?_ | exact veq_refl _ | decide | (intro i hi; repeat' (first | refine And.intro ?_ ?_ | exact trivial | exact rfl))))
              all_goals first | exact Nat.le_refl _ | omega | exact veq_of_eq (congrArg Value.bool (hst.trans hbe.symm)) | exact veq_of_eq (congrArg Value.bool (hst.trans hbe.symm).symm)
      · obtain rfl : k = ((lab.getD (0 + (i : Int).toNat) [])).length := by omega
        rw [okB_end] at k2
        subst k2
        by_cases hb9 : badL (lab.getD (0 + (i : Int).toNat) [])
        · have el : labE lab = 30 := by unfold labE; rw [if_neg (fun k => k hl3), if_pos ⟨_, hmem, hb9⟩]
          obtain rfl : ER = 30 := by rcases hcs with ⟨_, e⟩ | ⟨_, _⟩ <;> omega
          obtain ⟨rfl, rfl⟩ := hbad (by decide)
          rw [decide_eq_true hb9]
          repeat' (first | refine And.intro (by first | (show (_ : Bool) = true; kernel_rfl) | omega | (dsimp only; omega) | decide | (repeat' (first | refine And.intro ?_ ?_ | exact trivial | exact rfl))) ?_ | refine bcs_dec (fun h => ?_) (fun h => False.elim (by first | omega | exact h rfl)) | refine bcs_dec (fun h => False.elim (by omega)) (fun h => ?_) | refine bcs_dec (fun h => ?_) (fun h => ?_) | refine bcs_ndec (fun h => ?_) (fun h => ?_) | refine bcs_not ?_ | refine bcs_intro (fun h => ?_) (fun h => ?_) | refine And.intro ?_ ?_ | refine reg_tail (by kernel_rfl) ?_)
          refine ret_plain ?_
          repeat' (first | refine And.intro ?_ ?_ | exact trivial)
          all_goals exact rfl
        · rw [decide_eq_false hb9]
          repeat' (first | refine And.intro (by first | (show (_ : Bool) = true; kernel_rfl) | omega | (dsimp only; omega) | decide | (repeat' (first | refine And.intro ?_ ?_ | exact trivial | exact rfl))) ?_ | refine bcs_dec (fun h => ?_) (fun h => False.elim (by first | omega | exact h rfl)) | refine bcs_dec (fun h => False.elim (by omega)) (fun h => ?_) | refine bcs_dec (fun h => ?_) (fun h => ?_) | refine bcs_ndec (fun h => ?_) (fun h => ?_) | refine bcs_not ?_ | refine bcs_intro (fun h => ?_) (fun h => ?_) | refine And.intro ?_ ?_ | refine reg_tail (by kernel_rfl) ?_)
          refine ⟨i + 1, [], ?_, ?_, ?_⟩
          · refine ⟨hi, fun j hj => ?_⟩
            rcases Nat.lt_succ_iff_lt_or_eq.1 hj with hj | rfl
            · exact h2 j hj
            · rw [e0]; exact hb9
          · show 3 - (i + 1) < 3 - i
            omega
          · (refine ⟨rfl, rfl, ?_, ?_⟩ <;> repeat' (first | refine And.intro ?_ ?_ | exact trivial | exact rfl | refine lt0 | refine lt1 ?_ | refine lt2 ?_ ?_ | refine lt3 ?_ ?_ ?_ | refine lt4 ?_ ?_ ?_ ?_ | exact veq_refl _ | decide | (intro i hi; repeat' (first | refine And.intro ?_ ?_ | exact trivial | exact rfl))))
            all_goals first | exact Nat.le_refl _ | omega
    · obtain rfl : i = 3 := by omega
      have hn : ¬ ∃ x ∈ lab, badL x := fun ⟨x, hx, hb⟩ => by
        obtain ⟨j, hj, rfl⟩ := List.getElem_of_mem hx
        refine h2 j (by omega) ?_
        rw [List.getD_eq_getElem?_getD, List.getElem?_eq_getElem hj]
        exact hb
      have el : labE lab = 0 := by unfold labE; rw [if_neg (fun k => k hl3), if_neg hn]
      have hlab := (lab_len el).2
      have hcs1 := (hcs.resolve_left (fun k => k.1 el)).2
      clear hcs
      rcases hcs1 with ⟨he, rfl⟩ | ⟨rfl, hcs⟩
      · obtain ⟨rfl, rfl⟩ := hbad he
        repeat' (first | refine And.intro (by first | (show (_ : Bool) = true; kernel_rfl) | omega | (dsimp only; omega) | decide | (repeat' (first | refine And.intro ?_ ?_ | exact trivial | exact rfl))) ?_ | refine bcs_dec (fun h => ?_) (fun h => False.elim (by first | omega | exact h rfl)) | refine bcs_dec (fun h => False.elim (by omega)) (fun h => ?_) | refine bcs_dec (fun h => ?_) (fun h => ?_) | refine bcs_ndec (fun h => ?_) (fun h => ?_) | refine bcs_not ?_ | refine bcs_intro (fun h => ?_) (fun h => ?_) | refine And.intro ?_ ?_ | refine reg_tail (by kernel_rfl) ?_)
        refine call_rule [.at 0 0, .at 1 0, .at 2 0, .at 3 0, .at 4 0] (cC) hG ?_ ?_
        · (refine ⟨?_, ?_, rfl, rfl, rfl⟩ <;> repeat' (first | refine And.intro ?_ ?_ | exact trivial | exact rfl | refine lt0 | refine lt1 ?_ | refine lt2 ?_ ?_ | refine lt3 ?_ ?_ ?_ | refine lt4 ?_ ?_ ?_ ?_ | exact veq_refl _ | decide | (intro i hi; repeat' (first | refine And.intro ?_ ?_ | exact trivial | exact rfl))))
          all_goals first | exact Nat.le_refl _ | omega
        rintro _ _ _ ⟨rfl, rfl, rfl⟩
        repeat' (first | refine And.intro (by first | (show (_ : Bool) = true; kernel_rfl) | omega | (dsimp only; omega) | decide | (repeat' (first | refine And.intro ?_ ?_ | exact trivial | exact rfl))) ?_ | refine bcs_dec (fun h => ?_) (fun h => False.elim (by first | omega | exact h rfl)) | refine bcs_dec (fun h => False.elim (by omega)) (fun h => ?_) | refine bcs_dec (fun h => ?_) (fun h => ?_) | refine bcs_ndec (fun h => ?_) (fun h => ?_) | refine bcs_not ?_ | refine bcs_intro (fun h => ?_) (fun h => ?_) | refine And.intro ?_ ?_ | refine reg_tail (by kernel_rfl) ?_)
        all_goals first
          | omega
          | skip
        refine ret_plain ?_
        repeat' (first | refine And.intro ?_ ?_ | exact trivial)
        all_goals exact rfl
      · have hcov := hcov rfl
        repeat' (first | refine And.intro (by first | (show (_ : Bool) = true; kernel_rfl) | omega | (dsimp only; omega) | decide | (repeat' (first | refine And.intro ?_ ?_ | exact trivial | exact rfl))) ?_ | refine bcs_dec (fun h => ?_) (fun h => False.elim (by first | omega | exact h rfl)) | refine bcs_dec (fun h => False.elim (by omega)) (fun h => ?_) | refine bcs_dec (fun h => ?_) (fun h => ?_) | refine bcs_ndec (fun h => ?_) (fun h => ?_) | refine bcs_not ?_ | refine bcs_intro (fun h => ?_) (fun h => ?_) | refine And.intro ?_ ?_ | refine reg_tail (by kernel_rfl) ?_)
        refine call_rule [.at 0 0, .at 1 0, .at 2 0, .at 3 0, .at 4 0] (cC) hG ?_ ?_
        · (refine ⟨?_, ?_, rfl, rfl, rfl⟩ <;> repeat' (first | refine And.intro ?_ ?_ | exact trivial | exact rfl | refine lt0 | refine lt1 ?_ | refine lt2 ?_ ?_ | refine lt3 ?_ ?_ ?_ | refine lt4 ?_ ?_ ?_ ?_ | exact veq_refl _ | decide | (intro i hi; repeat' (first | refine And.intro ?_ ?_ | exact trivial | exact rfl))))
          all_goals first | exact Nat.le_refl _ | omega
        rintro _ _ _ ⟨rfl, rfl, rfl⟩
        repeat' (first | refine And.intro (by first | (show (_ : Bool) = true; kernel_rfl) | omega | (dsimp only; omega) | decide | (repeat' (first | refine And.intro ?_ ?_ | exact trivial | exact rfl))) ?_ | refine bcs_dec (fun h => ?_) (fun h => False.elim (by first | omega | exact h rfl)) | refine bcs_dec (fun h => False.elim (by omega)) (fun h => ?_) | refine bcs_dec (fun h => ?_) (fun h => ?_) | refine bcs_ndec (fun h => ?_) (fun h => ?_) | refine bcs_not ?_ | refine bcs_intro (fun h => ?_) (fun h => ?_) | refine And.intro ?_ ?_ | refine reg_tail (by kernel_rfl) ?_)
        all_goals first
          | omega
          | skip
        refine loop_rule (α := Nat × Int × Byt) (fun (i, cl, out) => ⟨[(2, .s 2 0 b.length), (3, .s 3 0 m.length), (4, .s 4 0 y.length), (5, .s 5 0 lab.length), (6, .v (.int .i64 fmt)), (20, .s 6 0 l.length), (22, .o 7), (23, .v (.int .i64 cl)), (24, .v (.int .i64 i))], [(2, stRo b), (3, stRo m), (4, stRo y), (5, stRo lab), (6, ckRo l), (7, byOwn out)], 8⟩)
          (fun (i, cl, out) => i ≤ l.length ∧ out ++ toldsF b m y lab fmt (l.drop i) = toldsF b m y lab fmt l ∧ cl + clF fmt (l.drop i) = clF fmt l ∧ 0 ≤ cl ∧ cl ≤ i ∧ out.length ≤ 4000000 * i) (fun (i, _) => l.length - i) (0, 0, []) [.at 6 0, .nil 1] ?_ ?_ ?_
        · exact ⟨Nat.zero_le _, rfl, by rw [List.drop_zero]; omega, Int.le_refl _, Int.le_refl _, Nat.zero_le _⟩
        · (refine ⟨rfl, rfl, ?_, ?_⟩ <;> repeat' (first | refine And.intro ?_ ?_ | exact trivial | exact rfl | refine lt0 | refine lt1 ?_ | refine lt2 ?_ ?_ | refine lt3 ?_ ?_ ?_ | refine lt4 ?_ ?_ ?_ ?_ | exact veq_refl _ | decide | (intro i hi; repeat' (first | refine And.intro ?_ ?_ | exact trivial | exact rfl))))
          all_goals first | exact Nat.le_refl _ | omega
        rintro ⟨i, cl, out⟩ ⟨j1, j2, j3, j4, j5, j6⟩
        by_cases hi : i < l.length
        · rw [drop_get Chk.d l i hi] at j2 j3
          have hmem : l.getD i Chk.d ∈ l := by
            rw [List.getD_eq_getElem?_getD, List.getElem?_eq_getElem hi]
            exact List.getElem_mem hi
          have hat := hat _ hmem
          have hto : ToldOk b m y lab fmt (l.getD i Chk.d) := ⟨by omega, by omega, by omega, hlab, by omega, by omega, by omega, hl3, f1, f2, hat.1, hat.2.1, hat.2.2.1, hat.2.2.2.1, hat.2.2.2.2.1, hat.2.2.2.2.2.1, hat.2.2.2.2.2.2.1, hat.2.2.2.2.2.2.2.1, hat.2.2.2.2.2.2.2.2⟩
          have e0 : l.getD i Chk.d = l.getD (0 + (i : Int).toNat) Chk.d := by rw [Nat.zero_add]; rfl
          rw [e0] at hto j2 j3
          have j2 : out ++ (toldF b m y lab fmt (l.getD (0 + (i : Int).toNat) Chk.d) (l.drop (i + 1)).isEmpty ++ toldsF b m y lab fmt (l.drop (i + 1))) = toldsF b m y lab fmt l := j2
          have j3 : cl + ((if (l.getD (0 + (i : Int).toNat) Chk.d).k = 5 ∧ fmt < 3 then 1 else 0) + clF fmt (l.drop (i + 1))) = clF fmt l := j3
          clear hat hmem e0
          obtain ⟨v, hv, hve⟩ : ∃ v : Bool, v = decide ((i : Int) + 1 = l.length) ∧ (l.drop (i + 1)).isEmpty = v := by
            refine ⟨_, rfl, ?_⟩
            by_cases hlast : i + 1 = l.length
            · rw [List.drop_of_length_le (by omega), decide_eq_true (by omega)]; rfl
            · rw [decide_eq_false (by omega), List.isEmpty_eq_false_iff]
              intro k
              have := congrArg List.length k
              rw [List.length_drop] at this
              simp at this
              omega
          rw [hve] at j2
          have cT := told_con b m y lab fmt (l.getD (0 + (i : Int).toNat) Chk.d) v hto
          have tl := toldF_len (fmt := fmt) (c := l.getD (0 + (i : Int).toNat) Chk.d) hb hm hy hlab v
          obtain ⟨X, hX⟩ : ∃ X, X = toldF b m y lab fmt (l.getD (0 + (i : Int).toNat) Chk.d) v := ⟨_, rfl⟩
          rw [← hX] at cT tl j2
          have hsz : (bs X).size = X.length := bs_size X
          repeat' (first | refine And.intro (by first | (show (_ : Bool) = true; kernel_rfl) | omega | (dsimp only; omega) | decide | (repeat' (first | refine And.intro ?_ ?_ | exact trivial | exact rfl))) ?_ | refine bcs_dec (fun h => ?_) (fun h => False.elim (by first | omega | exact h rfl)) | refine bcs_dec (fun h => False.elim (by omega)) (fun h => ?_) | refine bcs_dec (fun h => ?_) (fun h => ?_) | refine bcs_ndec (fun h => ?_) (fun h => ?_) | refine bcs_not ?_ | refine bcs_intro (fun h => ?_) (fun h => ?_) | refine And.intro ?_ ?_ | refine reg_tail (by kernel_rfl) ?_)
          all_goals first
            | omega
            | skip
          all_goals
            refine call_rule [.at 2 0, .at 3 0, .at 4 0, .at 5 0] cT hG ?_ ?_
            · (refine ⟨?_, ?_, rfl, rfl, rfl⟩ <;> repeat' (first | refine And.intro ?_ ?_ | exact trivial | exact rfl | refine lt0 | refine lt1 ?_ | refine lt2 ?_ ?_ | refine lt3 ?_ ?_ ?_ | refine lt4 ?_ ?_ ?_ ?_ | exact veq_refl _ | decide | (intro i hi; repeat' (first | refine And.intro ?_ ?_ | exact trivial | exact rfl))))
              all_goals first | exact Nat.le_refl _ | omega | exact veq_of_eq (congrArg Value.bool hv) | (refine veq_of_eq (congrArg Value.bool ?_); rw [hv]; exact Bool.eq_iff_iff.2 (by simp))
            rintro _ _ _ ⟨rfl, rfl, rfl⟩
            repeat' (first | refine And.intro (by first | (show (_ : Bool) = true; kernel_rfl) | omega | (dsimp only; omega) | decide | (repeat' (first | refine And.intro ?_ ?_ | exact trivial | exact rfl))) ?_ | refine bcs_dec (fun h => ?_) (fun h => False.elim (by first | omega | exact h rfl)) | refine bcs_dec (fun h => False.elim (by omega)) (fun h => ?_) | refine bcs_dec (fun h => ?_) (fun h => ?_) | refine bcs_ndec (fun h => ?_) (fun h => ?_) | refine bcs_not ?_ | refine bcs_intro (fun h => ?_) (fun h => ?_) | refine And.intro ?_ ?_ | refine reg_tail (by kernel_rfl) ?_)
            refine ext_apps Tryd.underlying71 Tryd.underlying9 (te := Tryd.t5) (by kernel_rfl) rfl rfl rfl rfl ?_
            repeat' (first | refine And.intro (by first | (show (_ : Bool) = true; kernel_rfl) | omega | (dsimp only; omega) | decide | (repeat' (first | refine And.intro ?_ ?_ | exact trivial | exact rfl))) ?_ | refine bcs_dec (fun h => ?_) (fun h => False.elim (by first | omega | exact h rfl)) | refine bcs_dec (fun h => False.elim (by omega)) (fun h => ?_) | refine bcs_dec (fun h => ?_) (fun h => ?_) | refine bcs_ndec (fun h => ?_) (fun h => ?_) | refine bcs_not ?_ | refine bcs_intro (fun h => ?_) (fun h => ?_) | refine And.intro ?_ ?_ | refine reg_tail (by kernel_rfl) ?_)
            refine appB rfl ?_
            repeat' (first | refine And.intro (by first | (show (_ : Bool) = true; kernel_rfl) | omega | (dsimp only; omega) | decide | (repeat' (first | refine And.intro ?_ ?_ | exact trivial | exact rfl))) ?_ | refine bcs_dec (fun h => ?_) (fun h => False.elim (by first | omega | exact h rfl)) | refine bcs_dec (fun h => False.elim (by omega)) (fun h => ?_) | refine bcs_dec (fun h => ?_) (fun h => ?_) | refine bcs_ndec (fun h => ?_) (fun h => ?_) | refine bcs_not ?_ | refine bcs_intro (fun h => ?_) (fun h => ?_) | refine And.intro ?_ ?_ | refine reg_tail (by kernel_rfl) ?_)
            refine ⟨(i + 1, cl + (if (l.getD (0 + (i : Int).toNat) Chk.d).k = 5 ∧ fmt < 3 then 1 else 0), out ++ X), [.at 6 0, .at 8 0], ?_, ?_, ?_⟩
            · exact ⟨hi, by rw [List.append_assoc]; exact j2, by rw [← j3]; omega, by split <;> omega, by split <;> omega, by rw [List.length_append]; omega⟩
            · show l.length - (i + 1) < l.length - i
              omega
            · (refine ⟨rfl, rfl, ?_, ?_⟩ <;> repeat' (first | refine And.intro ?_ ?_ | exact trivial | exact rfl | refine lt0 | refine lt1 ?_ | refine lt2 ?_ ?_ | refine lt3 ?_ ?_ ?_ | refine lt4 ?_ ?_ ?_ ?_ | exact veq_refl _ | decide | (intro i hi; repeat' (first | refine And.intro ?_ ?_ | exact trivial | exact rfl))))
              all_goals first | exact Nat.le_refl _ | omega | exact veq_refl _ | (rw [List.length_append, bs_size]) | (refine veq_of_eq (congrArg (Value.int .i64) ?_); first | rfl | (rw [if_pos (by omega)]) | (rw [if_neg (by omega)]; omega)) | skip
        · rw [List.drop_of_length_le (by omega)] at j2 j3
          have j2 : out ++ [] = toldsF b m y lab fmt l := j2
          rw [List.append_nil] at j2
          have j3 : cl + 0 = clF fmt l := j3
          rcases hcs with ⟨hlong, rfl⟩ | ⟨hlong, rfl⟩
          · obtain ⟨rfl, rfl⟩ := hbad (by decide)
            rw [← j2] at hlong
            repeat' (first | refine And.intro (by first | (show (_ : Bool) = true; kernel_rfl) | omega | (dsimp only; omega) | decide | (repeat' (first | refine And.intro ?_ ?_ | exact trivial | exact rfl))) ?_ | refine bcs_dec (fun h => ?_) (fun h => False.elim (by first | omega | exact h rfl)) | refine bcs_dec (fun h => False.elim (by omega)) (fun h => ?_) | refine bcs_dec (fun h => ?_) (fun h => ?_) | refine bcs_ndec (fun h => ?_) (fun h => ?_) | refine bcs_not ?_ | refine bcs_intro (fun h => ?_) (fun h => ?_) | refine And.intro ?_ ?_ | refine reg_tail (by kernel_rfl) ?_)
            all_goals first
              | omega
              | skip
            refine ret_plain ?_
            repeat' (first | refine And.intro ?_ ?_ | exact trivial)
            all_goals exact rfl
          · obtain ⟨rfl, rfl⟩ := hgood rfl
            rw [← j2] at hlong ⊢
            rw [← j3, Int.add_zero]
            repeat' (first | refine And.intro (by first | (show (_ : Bool) = true; kernel_rfl) | omega | (dsimp only; omega) | decide | (repeat' (first | refine And.intro ?_ ?_ | exact trivial | exact rfl))) ?_ | refine bcs_dec (fun h => ?_) (fun h => False.elim (by first | omega | exact h rfl)) | refine bcs_dec (fun h => False.elim (by omega)) (fun h => ?_) | refine bcs_dec (fun h => ?_) (fun h => ?_) | refine bcs_ndec (fun h => ?_) (fun h => ?_) | refine bcs_not ?_ | refine bcs_intro (fun h => ?_) (fun h => ?_) | refine And.intro ?_ ?_ | refine reg_tail (by kernel_rfl) ?_)
            all_goals first
              | omega
              | skip
            refine ext_b2s Tryd.underlying71 Tryd.underlying5 Tryd.underlying9 ?_
            refine ⟨_, rfl, fun j hj => by rw [Nat.zero_add], ?_⟩
            repeat' (first | refine And.intro (by first | (show (_ : Bool) = true; kernel_rfl) | omega | (dsimp only; omega) | decide | (repeat' (first | refine And.intro ?_ ?_ | exact trivial | exact rfl))) ?_ | refine bcs_dec (fun h => ?_) (fun h => False.elim (by first | omega | exact h rfl)) | refine bcs_dec (fun h => False.elim (by omega)) (fun h => ?_) | refine bcs_dec (fun h => ?_) (fun h => ?_) | refine bcs_ndec (fun h => ?_) (fun h => ?_) | refine bcs_not ?_ | refine bcs_intro (fun h => ?_) (fun h => ?_) | refine And.intro ?_ ?_ | refine reg_tail (by kernel_rfl) ?_)
            refine ret_plain ?_
            repeat' (first | refine And.intro ?_ ?_ | exact trivial)
            all_goals exact rfl
  · have el : labE lab = 222 := by unfold labE; rw [if_pos hl3]
    obtain rfl : ER = 222 := by rcases hcs with ⟨_, e⟩ | ⟨_, _⟩ <;> omega
    obtain ⟨rfl, rfl⟩ := hbad (by decide)
    repeat' (first | refine And.intro (by first | (show (_ : Bool) = true; kernel_rfl) | omega | (dsimp only; omega) | decide | (repeat' (first | refine And.intro ?_ ?_ | exact trivial | exact rfl))) ?_ | refine bcs_dec (fun h => ?_) (fun h => False.elim (by first | omega | exact h rfl)) | refine bcs_dec (fun h => False.elim (by omega)) (fun h => ?_) | refine bcs_dec (fun h => ?_) (fun h => ?_) | refine bcs_ndec (fun h => ?_) (fun h => ?_) | refine bcs_not ?_ | refine bcs_intro (fun h => ?_) (fun h => ?_) | refine And.intro ?_ ?_ | refine reg_tail (by kernel_rfl) ?_)
    all_goals first
      | omega
      | skip
    refine ret_plain ?_
    repeat' (first | refine And.intro ?_ ?_ | exact trivial)
    all_goals exact rfl
end Go.Proofs.YtlmjkphiicmclaaDoor
