/- Chapter 18: the program's merged text, or the error, as one contract: walked. -/
import Derived.Test.YtlmjkphiicmclaaDoorW8
namespace Go.Proofs.YtlmjkphiicmclaaDoor
open Go Go.RowKit Vc

/-- What the statement's bound gives. -/
structure JobSm (s t : List Chg) (b m y lab : List Byt) : Prop where
  hs : s.length ≤ 1048576
  ht : t.length ≤ 1048576
  hb : b.flatten.length ≤ 1048576
  hm : m.flatten.length ≤ 1048576
  hy : y.flatten.length ≤ 1048576
  hbl : b.length ≤ 1048576
  hml : m.length ≤ 1048576
  hyl : y.length ≤ 1048576
  hll : lab.length ≤ 1048576
  hlf : lab.flatten.length ≤ 1048576
theorem JobSm.ok {s t : List Chg} {b m y lab : List Byt} (H : JobSm s t b m y lab) : JobOk s t b m y := by
  obtain ⟨hs, ht, hb, hm, hy, hbl, hml, hyl, _, _⟩ := H
  exact ⟨by omega, by omega, by omega, by omega, by omega, by omega, by omega, by omega⟩
set_option maxRecDepth 100000 in
set_option maxHeartbeats 64000000 in
theorem merge_con (s t : List Chg) (b m y lab : List Byt) (fmt : Int) (H : JobSm s t b m y lab) :
    Con Tryd.prog glob 34 [.s 0 0 s.length, .s 1 0 t.length, .s 2 0 b.length, .s 3 0 m.length, .s 4 0 y.length, .s 5 0 lab.length, .v (.int .i64 fmt)] [(0, chRo s), (1, chRo t), (2, stRo b), (3, stRo m), (4, stRo y), (5, stRo lab)] 6 (retV 6 (.t [str (mgTxt s t b m y lab fmt), .v (.int .i64 (mgCl s t b m y lab fmt)), .v (errV (mgErr s t b m y lab fmt))])) := by
  have hok := H.ok
  obtain ⟨hs, ht, hb, hm, hy, hbl, hml, hyl, hll, hlf⟩ := H
  have hc0 := mgErr_cases s t b m y lab fmt
  have hbad := mgTxt_bad (s := s) (t := t) (b := b) (m := m) (y := y) (lab := lab) (fmt := fmt)
  have hgood := mgTxt_ok (s := s) (t := t) (b := b) (m := m) (y := y) (lab := lab) (fmt := fmt)
  have cC := chunks_con s t b m y hok
  have cL := labelled_con lab
  have hat := chLst_at (s := s) (t := t) (b := b) (m := m) (y := y)
  have hcov : chErr s t b m y = 0 → validB b = true ∧ validB m = true ∧ validB y = true := fun e => ⟨(chLst_cov e).1, (chLst_cov e).2.1, (chLst_cov e).2.2.1⟩
  have hlen := chLst_len hok
  obtain ⟨TX, hTX⟩ : ∃ TX, TX = mgTxt s t b m y lab fmt := ⟨_, rfl⟩
  obtain ⟨CL, hCL⟩ : ∃ CL, CL = mgCl s t b m y lab fmt := ⟨_, rfl⟩
  obtain ⟨ER, hER⟩ : ∃ ER, ER = mgErr s t b m y lab fmt := ⟨_, rfl⟩
  obtain ⟨CE, hCE⟩ : ∃ CE, CE = chErr s t b m y := ⟨_, rfl⟩
  obtain ⟨LE, hLE⟩ : ∃ LE, LE = labE lab := ⟨_, rfl⟩
  obtain ⟨l, hl⟩ : ∃ l, l = chLst s t b m y := ⟨_, rfl⟩
  rw [← hTX, ← hCL, ← hER]
  rw [← hER] at hc0
  rw [← hTX, ← hCL, ← hER] at hbad hgood
  rw [← hCE, ← hl] at cC
  rw [← hCE, ← hl, ← hLE] at hc0
  rw [← hLE] at cL
  rw [← hl] at hat hgood hlen
  rw [← hCE] at hcov
  have hlab : LE = 0 → lab.length = 3 ∧ ∀ i, (lab.getD i []).length ≤ 4096 := fun e => lab_len (by rw [← hLE]; exact e)
  clear hTX hCL hER hCE hl hok hLE
  by_cases hf : fmt < 1 ∨ fmt > 5
  · obtain rfl : ER = 1 := by rcases hc0 with ⟨_, e⟩ | ⟨_, _, _⟩ <;> omega
    obtain ⟨rfl, rfl⟩ := hbad (by decide)
    rw [errV_n (by decide)]
    refine spec_intro (tab := tab) (N := 93) Tryd.func34 rfl rfl tab_ok mix rfl rfl _ rfl ?_
    intro B hG
    repeat' (first | refine And.intro (by first | (show (_ : Bool) = true; kernel_rfl) | omega | (dsimp only; omega) | decide | (repeat' (first | refine And.intro ?_ ?_ | exact trivial | exact rfl))) ?_ | refine bcs_dec (fun h => ?_) (fun h => False.elim (by first | omega | exact h rfl)) | refine bcs_dec (fun h => False.elim (by omega)) (fun h => ?_) | refine bcs_dec (fun h => ?_) (fun h => ?_) | refine bcs_ndec (fun h => ?_) (fun h => ?_) | refine bcs_not ?_ | refine bcs_intro (fun h => ?_) (fun h => ?_) | refine And.intro ?_ ?_ | refine reg_tail (by kernel_rfl) ?_)
    all_goals first
      | omega
      | skip
    all_goals
      refine ret_plain ?_
      repeat' (first | refine And.intro ?_ ?_ | exact trivial)
      all_goals exact rfl
  obtain ⟨f1, f2, hcs⟩ := hc0.resolve_left (fun k => hf k.1)
  clear hc0
  rcases hcs with ⟨he, rfl⟩ | ⟨rfl, hcs⟩
  · obtain ⟨rfl, rfl⟩ := hbad he
    rw [errV_n he] at cL ⊢
    refine spec_intro (tab := tab) (N := 93) Tryd.func34 rfl rfl tab_ok mix rfl rfl _ rfl ?_
    intro B hG
    repeat' (first | refine And.intro (by first | (show (_ : Bool) = true; kernel_rfl) | omega | (dsimp only; omega) | decide | (repeat' (first | refine And.intro ?_ ?_ | exact trivial | exact rfl))) ?_ | refine bcs_dec (fun h => ?_) (fun h => False.elim (by first | omega | exact h rfl)) | refine bcs_dec (fun h => False.elim (by omega)) (fun h => ?_) | refine bcs_dec (fun h => ?_) (fun h => ?_) | refine bcs_ndec (fun h => ?_) (fun h => ?_) | refine bcs_not ?_ | refine bcs_intro (fun h => ?_) (fun h => ?_) | refine And.intro ?_ ?_ | refine reg_tail (by kernel_rfl) ?_)
    all_goals first
      | omega
      | skip
    refine call_rule [.at 5 0] (cL) hG ?_ ?_
    · (refine ⟨?_, ?_, rfl, rfl, rfl⟩ <;> repeat' (first | refine And.intro ?_ ?_ | exact trivial | exact rfl | refine lt0 | refine lt1 ?_ | refine lt2 ?_ ?_ | refine lt3 ?_ ?_ ?_ | refine lt4 ?_ ?_ ?_ ?_ | exact veq_refl _ | decide | (intro i hi; repeat' (first | refine And.intro ?_ ?_ | exact trivial | exact rfl))))
      all_goals first | exact Nat.le_refl _ | omega
    rintro _ _ _ ⟨rfl, rfl, rfl⟩
    repeat' (first | refine And.intro (by first | (show (_ : Bool) = true; kernel_rfl) | omega | (dsimp only; omega) | decide | (repeat' (first | refine And.intro ?_ ?_ | exact trivial | exact rfl))) ?_ | refine bcs_dec (fun h => ?_) (fun h => False.elim (by first | omega | exact h rfl)) | refine bcs_dec (fun h => False.elim (by omega)) (fun h => ?_) | refine bcs_dec (fun h => ?_) (fun h => ?_) | refine bcs_ndec (fun h => ?_) (fun h => ?_) | refine bcs_not ?_ | refine bcs_intro (fun h => ?_) (fun h => ?_) | refine And.intro ?_ ?_ | refine reg_tail (by kernel_rfl) ?_)
    refine ret_plain ?_
    repeat' (first | refine And.intro ?_ ?_ | exact trivial)
    all_goals exact rfl
  rw [errV_0 rfl] at cL
  obtain ⟨hl3, hlab⟩ := hlab rfl
  rcases hcs with ⟨he, rfl⟩ | ⟨rfl, hcs⟩
  · obtain ⟨rfl, rfl⟩ := hbad he
    rw [errV_n he] at cC ⊢
    refine spec_intro (tab := tab) (N := 93) Tryd.func34 rfl rfl tab_ok mix rfl rfl _ rfl ?_
    intro B hG
    repeat' (first | refine And.intro (by first | (show (_ : Bool) = true; kernel_rfl) | omega | (dsimp only; omega) | decide | (repeat' (first | refine And.intro ?_ ?_ | exact trivial | exact rfl))) ?_ | refine bcs_dec (fun h => ?_) (fun h => False.elim (by first | omega | exact h rfl)) | refine bcs_dec (fun h => False.elim (by omega)) (fun h => ?_) | refine bcs_dec (fun h => ?_) (fun h => ?_) | refine bcs_ndec (fun h => ?_) (fun h => ?_) | refine bcs_not ?_ | refine bcs_intro (fun h => ?_) (fun h => ?_) | refine And.intro ?_ ?_ | refine reg_tail (by kernel_rfl) ?_)
    all_goals first
      | omega
      | skip
    refine call_rule [.at 5 0] (cL) hG ?_ ?_
    · (refine ⟨?_, ?_, rfl, rfl, rfl⟩ <;> repeat' (first | refine And.intro ?_ ?_ | exact trivial | exact rfl | refine lt0 | refine lt1 ?_ | refine lt2 ?_ ?_ | refine lt3 ?_ ?_ ?_ | refine lt4 ?_ ?_ ?_ ?_ | exact veq_refl _ | decide | (intro i hi; repeat' (first | refine And.intro ?_ ?_ | exact trivial | exact rfl))))
      all_goals first | exact Nat.le_refl _ | omega
    rintro _ _ _ ⟨rfl, rfl, rfl⟩
    repeat' (first | refine And.intro (by first | (show (_ : Bool) = true; kernel_rfl) | omega | (dsimp only; omega) | decide | (repeat' (first | refine And.intro ?_ ?_ | exact trivial | exact rfl))) ?_ | refine bcs_dec (fun h => ?_) (fun h => False.elim (by first | omega | exact h rfl)) | refine bcs_dec (fun h => False.elim (by omega)) (fun h => ?_) | refine bcs_dec (fun h => ?_) (fun h => ?_) | refine bcs_ndec (fun h => ?_) (fun h => ?_) | refine bcs_not ?_ | refine bcs_intro (fun h => ?_) (fun h => ?_) | refine And.intro ?_ ?_ | refine reg_tail (by kernel_rfl) ?_)
    refine call_rule [.at 0 0, .at 1 0, .at 2 0, .at 3 0, .at 4 0] (cC) hG ?_ ?_
    · (refine ⟨?_, ?_, rfl, rfl, rfl⟩ <;> repeat' (first | refine And.intro ?_ ?_ | exact trivial | exact rfl | refine lt0 | refine lt1 ?_ | refine lt2 ?_ ?_ | refine lt3 ?_ ?_ ?_ | refine lt4 ?_ ?_ ?_ ?_ | exact veq_refl _ | decide | (intro i hi; repeat' (first | refine And.intro ?_ ?_ | exact trivial | exact rfl))))
      all_goals first | exact Nat.le_refl _ | omega
    rintro _ _ _ ⟨rfl, rfl, rfl⟩
    repeat' (first | refine And.intro (by first | (show (_ : Bool) = true; kernel_rfl) | omega | (dsimp only; omega) | decide | (repeat' (first | refine And.intro ?_ ?_ | exact trivial | exact rfl))) ?_ | refine bcs_dec (fun h => ?_) (fun h => False.elim (by first | omega | exact h rfl)) | refine bcs_dec (fun h => False.elim (by omega)) (fun h => ?_) | refine bcs_dec (fun h => ?_) (fun h => ?_) | refine bcs_ndec (fun h => ?_) (fun h => ?_) | refine bcs_not ?_ | refine bcs_intro (fun h => ?_) (fun h => ?_) | refine And.intro ?_ ?_ | refine reg_tail (by kernel_rfl) ?_)
    refine ret_plain ?_
    repeat' (first | refine And.intro ?_ ?_ | exact trivial)
    all_goals exact rfl
  rw [errV_0 rfl] at cC
  obtain ⟨vb, vm, vy⟩ := hcov rfl
  have hb1 := valid_ok1 vb (by omega)
  have hm1 := valid_ok1 vm (by omega)
  have hy1 := valid_ok1 vy (by omega)
  have hok : ∀ c ∈ l, TellOk b m y lab fmt c := fun c hc => by
    have hat := hat c hc
    exact ⟨fun i => by have := getD_flat b i; omega, fun i => by have := getD_flat m i; omega, fun i => by have := getD_flat y i; omega, hlab, by omega, by omega, by omega, hl3, f1, f2, hat.1, hat.2.1, hat.2.2.1, hat.2.2.2.1, hat.2.2.2.2.1, hat.2.2.2.2.2.1, hat.2.2.2.2.2.2.1, hat.2.2.2.2.2.2.2.1, hat.2.2.2.2.2.2.2.2⟩
  have hps := puts_none (ps := tellsP b m y lab fmt l) (fun x hx => (tells_ok hb1 hm1 hy1 hlab l x hx).2)
  rw [tells_flat (valid_NE vb) (valid_NE vm) (valid_NE vy)] at hps
  obtain ⟨W, hW⟩ : ∃ W, W = puts none (tellsP b m y lab fmt l) := ⟨_, rfl⟩
  rw [← hW] at hps
  refine spec_intro (tab := tab) (N := 93) Tryd.func34 rfl rfl tab_ok mix rfl rfl _ rfl ?_
  intro B hG
  repeat' (first | refine And.intro (by first | (show (_ : Bool) = true; kernel_rfl) | omega | (dsimp only; omega) | decide | (repeat' (first | refine And.intro ?_ ?_ | exact trivial | exact rfl))) ?_ | refine bcs_dec (fun h => ?_) (fun h => False.elim (by first | omega | exact h rfl)) | refine bcs_dec (fun h => False.elim (by omega)) (fun h => ?_) | refine bcs_dec (fun h => ?_) (fun h => ?_) | refine bcs_ndec (fun h => ?_) (fun h => ?_) | refine bcs_not ?_ | refine bcs_intro (fun h => ?_) (fun h => ?_) | refine And.intro ?_ ?_ | refine reg_tail (by kernel_rfl) ?_)
  all_goals first
    | omega
    | skip
  refine call_rule [.at 5 0] (cL) hG ?_ ?_
  · (refine ⟨?_, ?_, rfl, rfl, rfl⟩ <;> repeat' (first | refine And.intro ?_ ?_ | exact trivial | exact rfl | refine lt0 | refine lt1 ?_ | refine lt2 ?_ ?_ | refine lt3 ?_ ?_ ?_ | refine lt4 ?_ ?_ ?_ ?_ | exact veq_refl _ | decide | (intro i hi; repeat' (first | refine And.intro ?_ ?_ | exact trivial | exact rfl))))
    all_goals first | exact Nat.le_refl _ | omega
  rintro _ _ _ ⟨rfl, rfl, rfl⟩
  repeat' (first | refine And.intro (by first | (show (_ : Bool) = true; kernel_rfl) | omega | (dsimp only; omega) | decide | (repeat' (first | refine And.intro ?_ ?_ | exact trivial | exact rfl))) ?_ | refine bcs_dec (fun h => ?_) (fun h => False.elim (by first | omega | exact h rfl)) | refine bcs_dec (fun h => False.elim (by omega)) (fun h => ?_) | refine bcs_dec (fun h => ?_) (fun h => ?_) | refine bcs_ndec (fun h => ?_) (fun h => ?_) | refine bcs_not ?_ | refine bcs_intro (fun h => ?_) (fun h => ?_) | refine And.intro ?_ ?_ | refine reg_tail (by kernel_rfl) ?_)
  refine call_rule [.at 0 0, .at 1 0, .at 2 0, .at 3 0, .at 4 0] (cC) hG ?_ ?_
  · (refine ⟨?_, ?_, rfl, rfl, rfl⟩ <;> repeat' (first | refine And.intro ?_ ?_ | exact trivial | exact rfl | refine lt0 | refine lt1 ?_ | refine lt2 ?_ ?_ | refine lt3 ?_ ?_ ?_ | refine lt4 ?_ ?_ ?_ ?_ | exact veq_refl _ | decide | (intro i hi; repeat' (first | refine And.intro ?_ ?_ | exact trivial | exact rfl))))
    all_goals first | exact Nat.le_refl _ | omega
  rintro _ _ _ ⟨rfl, rfl, rfl⟩
  repeat' (first | refine And.intro (by first | (show (_ : Bool) = true; kernel_rfl) | omega | (dsimp only; omega) | decide | (repeat' (first | refine And.intro ?_ ?_ | exact trivial | exact rfl))) ?_ | refine bcs_dec (fun h => ?_) (fun h => False.elim (by first | omega | exact h rfl)) | refine bcs_dec (fun h => False.elim (by omega)) (fun h => ?_) | refine bcs_dec (fun h => ?_) (fun h => ?_) | refine bcs_ndec (fun h => ?_) (fun h => ?_) | refine bcs_not ?_ | refine bcs_intro (fun h => ?_) (fun h => ?_) | refine And.intro ?_ ?_ | refine reg_tail (by kernel_rfl) ?_)
  refine merge_loop b m y lab fmt l B hG hb1 hm1 hy1 hlab hlen hok W (clF fmt l) hW.symm rfl _ _ _ _ [.at 6 0, .at 7 0, .at 8 0] ?_ fun hw => ?_
  · (refine ⟨rfl, rfl, ?_, ?_⟩ <;> repeat' (first | refine And.intro ?_ ?_ | exact trivial | exact rfl | refine lt0 | refine lt1 ?_ | refine lt2 ?_ ?_ | refine lt3 ?_ ?_ ?_ | refine lt4 ?_ ?_ ?_ ?_ | exact veq_refl _ | decide | (intro i hi; repeat' (first | refine And.intro ?_ ?_ | exact trivial | exact rfl))))
    all_goals first | exact Nat.le_refl _ | omega | exact veq_refl _ | skip
  · rcases hcs with ⟨hlong, rfl⟩ | ⟨hlong, rfl⟩
    · obtain ⟨rfl, rfl⟩ := hbad (by decide)
      rw [errV_n (by decide)]
      have hfull := hps.2 hlong
      rcases W with _ | ⟨f, q⟩
      · cases hfull
      · have hfull : f = true := hfull
        subst hfull
        repeat' (first | refine And.intro (by first | (show (_ : Bool) = true; kernel_rfl) | omega | (dsimp only; omega) | decide | (repeat' (first | refine And.intro ?_ ?_ | exact trivial | exact rfl))) ?_ | refine bcs_dec (fun h => ?_) (fun h => False.elim (by first | omega | exact h rfl)) | refine bcs_dec (fun h => False.elim (by omega)) (fun h => ?_) | refine bcs_dec (fun h => ?_) (fun h => ?_) | refine bcs_ndec (fun h => ?_) (fun h => ?_) | refine bcs_not ?_ | refine bcs_intro (fun h => ?_) (fun h => ?_) | refine And.intro ?_ ?_ | refine reg_tail (by kernel_rfl) ?_)
        refine ret_plain ?_
        repeat' (first | refine And.intro ?_ ?_ | exact trivial)
        all_goals exact rfl
    · obtain ⟨e1, e2⟩ := hgood rfl
      obtain ⟨p1, p2⟩ := hps.1 hlong
      rw [← e1] at p2
      rw [errV_0 rfl, e2]
      rcases W with _ | ⟨f, q⟩
      · have p2 : ([] : Byt) = TX := p2
        subst p2
        repeat' (first | refine And.intro (by first | (show (_ : Bool) = true; kernel_rfl) | omega | (dsimp only; omega) | decide | (repeat' (first | refine And.intro ?_ ?_ | exact trivial | exact rfl))) ?_ | refine bcs_dec (fun h => ?_) (fun h => False.elim (by first | omega | exact h rfl)) | refine bcs_dec (fun h => False.elim (by omega)) (fun h => ?_) | refine bcs_dec (fun h => ?_) (fun h => ?_) | refine bcs_ndec (fun h => ?_) (fun h => ?_) | refine bcs_not ?_ | refine bcs_intro (fun h => ?_) (fun h => ?_) | refine And.intro ?_ ?_ | refine reg_tail (by kernel_rfl) ?_)
        refine call_rule [.at 8 0] (strPF_con false) hG ?_ ?_
        · (refine ⟨?_, ?_, rfl, rfl, rfl⟩ <;> repeat' (first | refine And.intro ?_ ?_ | exact trivial | exact rfl | refine lt0 | refine lt1 ?_ | refine lt2 ?_ ?_ | refine lt3 ?_ ?_ ?_ | refine lt4 ?_ ?_ ?_ ?_ | exact veq_refl _ | decide | (intro i hi; repeat' (first | refine And.intro ?_ ?_ | exact trivial | exact rfl))))
          all_goals first | exact Nat.le_refl _ | omega
        rintro _ _ _ ⟨rfl, rfl, rfl⟩
        repeat' (first | refine And.intro (by first | (show (_ : Bool) = true; kernel_rfl) | omega | (dsimp only; omega) | decide | (repeat' (first | refine And.intro ?_ ?_ | exact trivial | exact rfl))) ?_ | refine bcs_dec (fun h => ?_) (fun h => False.elim (by first | omega | exact h rfl)) | refine bcs_dec (fun h => False.elim (by omega)) (fun h => ?_) | refine bcs_dec (fun h => ?_) (fun h => ?_) | refine bcs_ndec (fun h => ?_) (fun h => ?_) | refine bcs_not ?_ | refine bcs_intro (fun h => ?_) (fun h => ?_) | refine And.intro ?_ ?_ | refine reg_tail (by kernel_rfl) ?_)
        refine ret_plain ?_
        repeat' (first | refine And.intro ?_ ?_ | exact trivial)
        all_goals first | exact rfl | exact veq_refl _
      · have p1 : f = false := p1
        have p2 : q = TX := p2
        subst p1 p2
        repeat' (first | refine And.intro (by first | (show (_ : Bool) = true; kernel_rfl) | omega | (dsimp only; omega) | decide | (repeat' (first | refine And.intro ?_ ?_ | exact trivial | exact rfl))) ?_ | refine bcs_dec (fun h => ?_) (fun h => False.elim (by first | omega | exact h rfl)) | refine bcs_dec (fun h => False.elim (by omega)) (fun h => ?_) | refine bcs_dec (fun h => ?_) (fun h => ?_) | refine bcs_ndec (fun h => ?_) (fun h => ?_) | refine bcs_not ?_ | refine bcs_intro (fun h => ?_) (fun h => ?_) | refine And.intro ?_ ?_ | refine reg_tail (by kernel_rfl) ?_)
        refine call_rule [.at 8 0, .at 9 0] (strPU_con false q hw.2) hG ?_ ?_
        · (refine ⟨?_, ?_, rfl, rfl, rfl⟩ <;> repeat' (first | refine And.intro ?_ ?_ | exact trivial | exact rfl | refine lt0 | refine lt1 ?_ | refine lt2 ?_ ?_ | refine lt3 ?_ ?_ ?_ | refine lt4 ?_ ?_ ?_ ?_ | exact veq_refl _ | decide | (intro i hi; repeat' (first | refine And.intro ?_ ?_ | exact trivial | exact rfl))))
          all_goals first | exact Nat.le_refl _ | omega
        rintro _ _ _ ⟨rfl, rfl, rfl⟩
        repeat' (first | refine And.intro (by first | (show (_ : Bool) = true; kernel_rfl) | omega | (dsimp only; omega) | decide | (repeat' (first | refine And.intro ?_ ?_ | exact trivial | exact rfl))) ?_ | refine bcs_dec (fun h => ?_) (fun h => False.elim (by first | omega | exact h rfl)) | refine bcs_dec (fun h => False.elim (by omega)) (fun h => ?_) | refine bcs_dec (fun h => ?_) (fun h => ?_) | refine bcs_ndec (fun h => ?_) (fun h => ?_) | refine bcs_not ?_ | refine bcs_intro (fun h => ?_) (fun h => ?_) | refine And.intro ?_ ?_ | refine reg_tail (by kernel_rfl) ?_)
        refine ret_plain ?_
        repeat' (first | refine And.intro ?_ ?_ | exact trivial)
        all_goals first | exact rfl | exact veq_refl _
end Go.Proofs.YtlmjkphiicmclaaDoor
