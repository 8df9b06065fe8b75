/- Chapter 18: a chunk that is told: walked (the first text; marks). Printed by gen_w4.py. -/
import Derived.Test.YtlmjkphiicmclaaDoorW4
namespace Go.Proofs.YtlmjkphiicmclaaDoor
open Go Go.RowKit Vc

set_option maxRecDepth 100000 in
set_option maxHeartbeats 64000000 in
theorem tellFC1_con (b m y lab : List Byt) (fmt : Int) (c : Chk) (last : Bool) (H : TellOk b m y lab fmt c) (f' : Bool) (q' : Byt) (hT : puts none (tellP b m y lab fmt c last) = some (f', q')) (hc : c.k = 5 ∧ fmt = 1) :
    Con Tryd.prog glob 59 [.a [.s 1 0 b.length, .s 2 0 m.length, .s 3 0 y.length, .s 4 0 lab.length, .v (.int .i64 fmt)], .p 0 0 0, ckV c, .v (.bool last)] [(0, wrF false), (1, stRo b), (2, stRo m), (3, stRo y), (4, stRo lab)] 5 (retM (.t []) [(0, .box 111 [.p 0 0 0, .o 5, .v (.bool f')]), (5, byOwn q')] 6) := by
  obtain ⟨hb, hm, hy, hlab, hbl, hml, hyl, hl3, hf1, hf2, hb1, hb2, hb3, hm1, hm2, hm3, hy1, hy2, hy3⟩ := H
  have h10 : (ByteArray.mk #[10]).size = 1 := rfl
  have h60 : (ByteArray.mk #[60, 60, 60, 60, 60, 60, 60, 32]).size = 8 := rfl
  have h124 : (ByteArray.mk #[124, 124, 124, 124, 124, 124, 124, 32]).size = 8 := rfl
  have h62 : (ByteArray.mk #[62, 62, 62, 62, 62, 62, 62, 32]).size = 8 := rfl
  have y0 : (bs (lab.getD (0 + Int.toNat 0) [])).size ≤ 4096 := by rw [bs_size]; exact hlab _
  have y1 : (bs (lab.getD (0 + Int.toNat 1) [])).size ≤ 4096 := by rw [bs_size]; exact hlab _
  have y2 : (bs (lab.getD (0 + Int.toNat 2) [])).size ≤ 4096 := by rw [bs_size]; exact hlab _
  have b_len := hb
  have m_len := hm
  have y_len := hy
  rw [tellP_C1 hc] at hT
  refine spec_intro (tab := tab) (N := 125) Tryd.func59 rfl rfl tab_ok mix rfl rfl _ rfl ?_
  intro B hG
  rw [puts_cons] at hT
  obtain ⟨x1, hx1⟩ : ∃ x, x = (markP 60 (lab.getD 0 [])) := ⟨_, rfl⟩
  rw [← hx1] at hT
  have l1a : x1.length ≤ 4194304 := by rw [hx1]; have := mk_len 60 (hlab 0); omega
  rw [show put none x1 = some (false, x1) from rfl] at hT
  have c1 : Con Tryd.prog glob 76 [.p 0 0 0, .v (.string (⟨#[60, 60, 60, 60, 60, 60, 60, 32]⟩ ++ bs (lab.getD (0 + Int.toNat 0) []) ++ ⟨#[10]⟩))] [(0, wrF false)] 1 (retM (.t []) [(0, wrU false), (1, byOwn x1)] 2) := by
    rw [show (⟨#[60, 60, 60, 60, 60, 60, 60, 32]⟩ : ByteArray) ++ bs (lab.getD (0 + Int.toNat 0) []) ++ ⟨#[10]⟩ = bs x1 by rw [hx1]; exact mk_app 60 _]
    exact textF_con x1 l1a
  clear hx1
  repeat' (first | refine And.intro (by first | (show (_ : Bool) = true; kernel_rfl) | omega | (dsimp only; omega) | (simp only [ByteArray.size_append]; omega) | decide | (repeat' (first | refine And.intro ?_ ?_ | exact trivial | exact rfl))) ?_ | refine bcs_dec (fun h => ?_) (fun h => False.elim (by first | omega | exact h rfl)) | refine bcs_dec (fun h => False.elim (by omega)) (fun h => ?_) | refine bcs_dec (fun h => ?_) (fun h => ?_) | refine bcs_ndec (fun h => ?_) (fun h => ?_) | refine bcs_not ?_ | refine bcs_intro (fun h => ?_) (fun h => ?_) | refine And.intro ?_ ?_ | refine reg_tail (by kernel_rfl) ?_)
  refine call_thin [(1, .p 0 0 0), (3, .v (.bool last)), (4, .p 5 0 0), (6, .p 6 0 0), (8, .s 2 (0 + (c.m).toNat) ((c.m + c.mn).toNat - (c.m).toNat)), (9, .s 3 (0 + (c.y).toNat) ((c.y + c.yn).toNat - (c.y).toNat))] ⟨rfl, rfl, rfl, rfl, rfl, rfl, trivial⟩ ?_
  conv => whnf
  refine call_ruleS [.at 0 0] (c1) hG ?_ ?_
  · (refine ⟨?_, ?_, rfl, rfl, rfl⟩ <;> repeat' (first | refine And.intro ?_ ?_ | exact trivial | exact rfl | refine lt0 | refine lt1 ?_ | refine lt2 ?_ ?_ | refine lt3 ?_ ?_ ?_ | refine lt4 ?_ ?_ ?_ ?_ | exact veq_refl _ | decide | (intro i hi; repeat' (first | refine And.intro ?_ ?_ | exact trivial | exact rfl))))
    all_goals first | exact Nat.le_refl _ | omega
  rintro _ _ _ ⟨rfl, rfl, rfl⟩
  refine And.intro trivial ?_
  dsimp only
  have s2 := seg_len m (i := c.m) (j := c.m + c.mn) (by omega) (by omega) (by omega)
  obtain ⟨f2, q2, e2, l2⟩ := puts_some_ex (linesP (segL m c.m (c.m + c.mn)) true) false x1 l1a
  have c2 := linesU_con (segL m c.m (c.m + c.mn)) (fun k => m.getD (k + (c.m).toNat) []) true false x1 (by omega) l1a (seg_row m (by omega) (by omega) (by omega)) (fun k _ => m_len _) _ _ e2
  rw [s2] at c2
  rw [puts_app, e2] at hT
  repeat' (first | refine And.intro (by first | (show (_ : Bool) = true; kernel_rfl) | omega | (dsimp only; omega) | (simp only [ByteArray.size_append]; omega) | decide | (repeat' (first | refine And.intro ?_ ?_ | exact trivial | exact rfl))) ?_ | refine bcs_dec (fun h => ?_) (fun h => False.elim (by first | omega | exact h rfl)) | refine bcs_dec (fun h => False.elim (by omega)) (fun h => ?_) | refine bcs_dec (fun h => ?_) (fun h => ?_) | refine bcs_ndec (fun h => ?_) (fun h => ?_) | refine bcs_not ?_ | refine bcs_intro (fun h => ?_) (fun h => ?_) | refine And.intro ?_ ?_ | refine reg_tail (by kernel_rfl) ?_)
  refine call_thin [(1, .p 0 0 0), (3, .v (.bool last)), (4, .p 5 0 0), (6, .p 6 0 0), (8, .s 2 (0 + (c.m).toNat) ((c.m + c.mn).toNat - (c.m).toNat)), (9, .s 3 (0 + (c.y).toNat) ((c.y + c.yn).toNat - (c.y).toNat))] ⟨rfl, rfl, rfl, rfl, rfl, rfl, trivial⟩ ?_
  conv => whnf
  refine call_ruleS [.at 0 0, .at 7 0, .at 2 (c.m).toNat] (c2) hG ?_ ?_
  · (refine ⟨?_, ?_, rfl, rfl, rfl⟩ <;> repeat' (first | refine And.intro ?_ ?_ | exact trivial | exact rfl | refine lt0 | refine lt1 ?_ | refine lt2 ?_ ?_ | refine lt3 ?_ ?_ ?_ | refine lt4 ?_ ?_ ?_ ?_ | exact veq_refl _ | decide | (intro i hi; repeat' (first | refine And.intro ?_ ?_ | exact trivial | exact rfl))))
    all_goals first | exact Nat.le_refl _ | omega
  rintro _ _ _ ⟨rfl, rfl, rfl⟩
  refine And.intro trivial ?_
  dsimp only
  repeat' (first | refine And.intro (by first | (show (_ : Bool) = true; kernel_rfl) | omega | (dsimp only; omega) | (simp only [ByteArray.size_append]; omega) | decide | (repeat' (first | refine And.intro ?_ ?_ | exact trivial | exact rfl))) ?_ | refine bcs_dec (fun h => ?_) (fun h => False.elim (by first | omega | exact h rfl)) | refine bcs_dec (fun h => False.elim (by omega)) (fun h => ?_) | refine bcs_dec (fun h => ?_) (fun h => ?_) | refine bcs_ndec (fun h => ?_) (fun h => ?_) | refine bcs_not ?_ | refine bcs_intro (fun h => ?_) (fun h => ?_) | refine And.intro ?_ ?_ | refine reg_tail (by kernel_rfl) ?_)
  all_goals first
    | omega
    | skip
  rw [puts_cons] at hT
  obtain ⟨x3, hx3⟩ : ∃ x, x = eqsP := ⟨_, rfl⟩
  rw [← hx3] at hT
  have l3a : x3.length ≤ 4194304 := by rw [hx3]; have := (show eqsP.length = 8 from rfl); omega
  obtain ⟨f3, q3, e3, l3⟩ := putF_ok f2 x3 l2
  have c3 : Con Tryd.prog glob 76 [.p 0 0 0, .v (.string ⟨#[61, 61, 61, 61, 61, 61, 61, 10]⟩)] [(0, wrU f2), (1, byOwn q2)] 2 (retM (.t []) [(0, wrV f3), (2, byOwn q3)] 3) := by
    rw [show (⟨#[61, 61, 61, 61, 61, 61, 61, 10]⟩ : ByteArray) = bs x3 by rw [hx3]; rfl]
    exact textU2_con f2 q2 x3 l2 e3
  replace hT := puts_at e3 hT
  clear hx3 l3a
  repeat' (first | refine And.intro (by first | (show (_ : Bool) = true; kernel_rfl) | omega | (dsimp only; omega) | (simp only [ByteArray.size_append]; omega) | decide | (repeat' (first | refine And.intro ?_ ?_ | exact trivial | exact rfl))) ?_ | refine bcs_dec (fun h => ?_) (fun h => False.elim (by first | omega | exact h rfl)) | refine bcs_dec (fun h => False.elim (by omega)) (fun h => ?_) | refine bcs_dec (fun h => ?_) (fun h => ?_) | refine bcs_ndec (fun h => ?_) (fun h => ?_) | refine bcs_not ?_ | refine bcs_intro (fun h => ?_) (fun h => ?_) | refine And.intro ?_ ?_ | refine reg_tail (by kernel_rfl) ?_)
  show vcCode _ _ _ _ _ _
  repeat rw [vcCode]
  unfold vcRegion
  simp only [vcOps, vcOp, vcG]
  conv => whnf
  refine call_thin [(1, .p 0 0 0), (3, .v (.bool last)), (4, .p 5 0 0), (6, .p 6 0 0), (8, .s 2 (0 + (c.m).toNat) ((c.m + c.mn).toNat - (c.m).toNat)), (9, .s 3 (0 + (c.y).toNat) ((c.y + c.yn).toNat - (c.y).toNat))] ⟨rfl, rfl, rfl, rfl, rfl, rfl, trivial⟩ ?_
  conv => whnf
  refine call_ruleS [.at 0 0, .at 8 0] (c3) hG ?_ ?_
  · (refine ⟨?_, ?_, rfl, rfl, rfl⟩ <;> repeat' (first | refine And.intro ?_ ?_ | exact trivial | exact rfl | refine lt0 | refine lt1 ?_ | refine lt2 ?_ ?_ | refine lt3 ?_ ?_ ?_ | refine lt4 ?_ ?_ ?_ ?_ | exact veq_refl _ | decide | (intro i hi; repeat' (first | refine And.intro ?_ ?_ | exact trivial | exact rfl))))
    all_goals first | exact Nat.le_refl _ | omega
  rintro _ _ _ ⟨rfl, rfl, rfl⟩
  refine And.intro trivial ?_
  dsimp only
  have s4 := seg_len y (i := c.y) (j := c.y + c.yn) (by omega) (by omega) (by omega)
  obtain ⟨f4, q4, e4, l4⟩ := puts_some_ex (linesP (segL y c.y (c.y + c.yn)) true) f3 q3 l3
  have c4 := linesU_con (segL y c.y (c.y + c.yn)) (fun k => y.getD (k + (c.y).toNat) []) true f3 q3 (by omega) l3 (seg_row y (by omega) (by omega) (by omega)) (fun k _ => y_len _) _ _ e4
  rw [s4] at c4
  rw [puts_app, e4] at hT
  repeat' (first | refine And.intro (by first | (show (_ : Bool) = true; kernel_rfl) | omega | (dsimp only; omega) | (simp only [ByteArray.size_append]; omega) | decide | (repeat' (first | refine And.intro ?_ ?_ | exact trivial | exact rfl))) ?_ | refine bcs_dec (fun h => ?_) (fun h => False.elim (by first | omega | exact h rfl)) | refine bcs_dec (fun h => False.elim (by omega)) (fun h => ?_) | refine bcs_dec (fun h => ?_) (fun h => ?_) | refine bcs_ndec (fun h => ?_) (fun h => ?_) | refine bcs_not ?_ | refine bcs_intro (fun h => ?_) (fun h => ?_) | refine And.intro ?_ ?_ | refine reg_tail (by kernel_rfl) ?_)
  refine call_thin [(1, .p 0 0 0), (3, .v (.bool last)), (4, .p 5 0 0), (6, .p 6 0 0), (8, .s 2 (0 + (c.m).toNat) ((c.m + c.mn).toNat - (c.m).toNat)), (9, .s 3 (0 + (c.y).toNat) ((c.y + c.yn).toNat - (c.y).toNat))] ⟨rfl, rfl, rfl, rfl, rfl, rfl, trivial⟩ ?_
  conv => whnf
  refine call_ruleS [.at 0 0, .at 9 0, .at 3 (c.y).toNat] (c4) hG ?_ ?_
  · (refine ⟨?_, ?_, rfl, rfl, rfl⟩ <;> repeat' (first | refine And.intro ?_ ?_ | exact trivial | exact rfl | refine lt0 | refine lt1 ?_ | refine lt2 ?_ ?_ | refine lt3 ?_ ?_ ?_ | refine lt4 ?_ ?_ ?_ ?_ | exact veq_refl _ | decide | (intro i hi; repeat' (first | refine And.intro ?_ ?_ | exact trivial | exact rfl))))
    all_goals first | exact Nat.le_refl _ | omega
  rintro _ _ _ ⟨rfl, rfl, rfl⟩
  refine And.intro trivial ?_
  dsimp only
  repeat' (first | refine And.intro (by first | (show (_ : Bool) = true; kernel_rfl) | omega | (dsimp only; omega) | (simp only [ByteArray.size_append]; omega) | decide | (repeat' (first | refine And.intro ?_ ?_ | exact trivial | exact rfl))) ?_ | refine bcs_dec (fun h => ?_) (fun h => False.elim (by first | omega | exact h rfl)) | refine bcs_dec (fun h => False.elim (by omega)) (fun h => ?_) | refine bcs_dec (fun h => ?_) (fun h => ?_) | refine bcs_ndec (fun h => ?_) (fun h => ?_) | refine bcs_not ?_ | refine bcs_intro (fun h => ?_) (fun h => ?_) | refine And.intro ?_ ?_ | refine reg_tail (by kernel_rfl) ?_)
  all_goals first
    | omega
    | skip
  rw [puts_cons] at hT
  obtain ⟨x5, hx5⟩ : ∃ x, x = (markP 62 (lab.getD 2 [])) := ⟨_, rfl⟩
  rw [← hx5] at hT
  have l5a : x5.length ≤ 4194304 := by rw [hx5]; have := mk_len 62 (hlab 2); omega
  obtain ⟨f5, q5, e5, l5⟩ := putF_ok f4 x5 l4
  have c5 : Con Tryd.prog glob 76 [.p 0 0 0, .v (.string (⟨#[62, 62, 62, 62, 62, 62, 62, 32]⟩ ++ bs (lab.getD (0 + Int.toNat 2) []) ++ ⟨#[10]⟩))] [(0, wrU f4), (1, byOwn q4)] 2 (retM (.t []) [(0, wrV f5), (2, byOwn q5)] 3) := by
    rw [show (⟨#[62, 62, 62, 62, 62, 62, 62, 32]⟩ : ByteArray) ++ bs (lab.getD (0 + Int.toNat 2) []) ++ ⟨#[10]⟩ = bs x5 by rw [hx5]; exact mk_app 62 _]
    exact textU2_con f4 q4 x5 l4 e5
  replace hT := puts_at e5 hT
  clear hx5 l5a
  repeat' (first | refine And.intro (by first | (show (_ : Bool) = true; kernel_rfl) | omega | (dsimp only; omega) | (simp only [ByteArray.size_append]; omega) | decide | (repeat' (first | refine And.intro ?_ ?_ | exact trivial | exact rfl))) ?_ | refine bcs_dec (fun h => ?_) (fun h => False.elim (by first | omega | exact h rfl)) | refine bcs_dec (fun h => False.elim (by omega)) (fun h => ?_) | refine bcs_dec (fun h => ?_) (fun h => ?_) | refine bcs_ndec (fun h => ?_) (fun h => ?_) | refine bcs_not ?_ | refine bcs_intro (fun h => ?_) (fun h => ?_) | refine And.intro ?_ ?_ | refine reg_tail (by kernel_rfl) ?_)
  simp only [Vc.put, vcOps, vcOp, vcG]
  rw [show Nat.blt 123 125 = true from rfl]
  simp only [cond_true, fsv_eq]
  refine call_thin [(1, .p 0 0 0), (3, .v (.bool last)), (4, .p 5 0 0), (6, .p 6 0 0), (8, .s 2 (0 + (c.m).toNat) ((c.m + c.mn).toNat - (c.m).toNat)), (9, .s 3 (0 + (c.y).toNat) ((c.y + c.yn).toNat - (c.y).toNat))] ⟨rfl, rfl, rfl, rfl, rfl, rfl, trivial⟩ ?_
  conv => whnf
  refine call_ruleS [.at 0 0, .at 10 0] (c5) hG ?_ ?_
  · (refine ⟨?_, ?_, rfl, rfl, rfl⟩ <;> repeat' (first | refine And.intro ?_ ?_ | exact trivial | exact rfl | refine lt0 | refine lt1 ?_ | refine lt2 ?_ ?_ | refine lt3 ?_ ?_ ?_ | refine lt4 ?_ ?_ ?_ ?_ | exact veq_refl _ | decide | (intro i hi; repeat' (first | refine And.intro ?_ ?_ | exact trivial | exact rfl))))
    all_goals first | exact Nat.le_refl _ | omega
  rintro _ _ _ ⟨rfl, rfl, rfl⟩
  refine And.intro trivial ?_
  dsimp only
  repeat' (first | refine And.intro (by first | (show (_ : Bool) = true; kernel_rfl) | omega | (dsimp only; omega) | (simp only [ByteArray.size_append]; omega) | decide | (repeat' (first | refine And.intro ?_ ?_ | exact trivial | exact rfl))) ?_ | refine bcs_dec (fun h => ?_) (fun h => False.elim (by first | omega | exact h rfl)) | refine bcs_dec (fun h => False.elim (by omega)) (fun h => ?_) | refine bcs_dec (fun h => ?_) (fun h => ?_) | refine bcs_ndec (fun h => ?_) (fun h => ?_) | refine bcs_not ?_ | refine bcs_intro (fun h => ?_) (fun h => ?_) | refine And.intro ?_ ?_ | refine reg_tail (by kernel_rfl) ?_)
  obtain ⟨rfl, rfl⟩ := Prod.mk.inj (Option.some.inj hT)
  refine ret_mem [.at 11 0] rfl rfl ?_ ?_
  · exact trivial
  · repeat' (first | refine And.intro ?_ ?_ | exact trivial)
    all_goals try first | exact rfl | exact veq_refl _ | omega
    all_goals
      intro i hi
      repeat' (first | refine And.intro ?_ ?_ | exact trivial)
      all_goals exact rfl
end Go.Proofs.YtlmjkphiicmclaaDoor
