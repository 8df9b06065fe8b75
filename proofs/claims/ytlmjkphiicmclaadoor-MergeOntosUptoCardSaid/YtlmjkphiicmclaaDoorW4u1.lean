/- Chapter 18: a chunk that is told: walked (behind another text; no marks). Printed by gen_w4.py. -/
import Derived.Test.YtlmjkphiicmclaaDoorW4
namespace Go.Proofs.YtlmjkphiicmclaaDoor
open Go Go.RowKit Vc

set_option maxRecDepth 100000 in
set_option maxHeartbeats 64000000 in
theorem tellUA1_con (b m y lab : List Byt) (fmt : Int) (c : Chk) (last : Bool) (H : TellOk b m y lab fmt c) (f0 : Bool) (q0 : Byt) (hq0 : q0.length ≤ 4194304) (f' : Bool) (q' : Byt) (hT : puts (some (f0, q0)) (tellP b m y lab fmt c last) = some (f', q')) (hc : c.k = 3) :
    Con Tryd.prog glob 59 [.a [.s 2 0 b.length, .s 3 0 m.length, .s 4 0 y.length, .s 5 0 lab.length, .v (.int .i64 fmt)], .p 0 0 0, ckV c, .v (.bool last)] [(0, wrU f0), (1, byOwn q0), (2, stRo b), (3, stRo m), (4, stRo y), (5, stRo lab)] 6 (retM (.t []) [(0, .box 111 [.p 0 0 0, .o 6, .v (.bool f')]), (6, byOwn q')] 7) := by
  obtain ⟨hb, hm, hy, hlab, hbl, hml, hyl, hl3, hf1, hf2, hb1, hb2, hb3, hm1, hm2, hm3, hy1, hy2, hy3⟩ := H
  have h10 : (ByteArray.mk #[10]).size = 1 := rfl
  have h60 : (ByteArray.mk #[60, 60, 60, 60, 60, 60, 60, 32]).size = 8 := rfl
  have h124 : (ByteArray.mk #[124, 124, 124, 124, 124, 124, 124, 32]).size = 8 := rfl
  have h62 : (ByteArray.mk #[62, 62, 62, 62, 62, 62, 62, 32]).size = 8 := rfl
  have y0 : (bs (lab.getD (0 + Int.toNat 0) [])).size ≤ 4096 := by rw [bs_size]; exact hlab _
  have y1 : (bs (lab.getD (0 + Int.toNat 1) [])).size ≤ 4096 := by rw [bs_size]; exact hlab _
  have y2 : (bs (lab.getD (0 + Int.toNat 2) [])).size ≤ 4096 := by rw [bs_size]; exact hlab _
  have b_len := hb
  have m_len := hm
  have y_len := hy
  rw [tellP_A1 hc] at hT
  refine spec_intro (tab := tab) (N := 125) Tryd.func59 rfl rfl tab_ok mix rfl rfl _ rfl ?_
  intro B hG
  have s1 := seg_len y (i := c.y) (j := c.y + c.yn) (by omega) (by omega) (by omega)
  have c1 := linesU_con (segL y c.y (c.y + c.yn)) (fun k => y.getD (k + (c.y).toNat) []) (!last) f0 q0 (by omega) hq0 (seg_row y (by omega) (by omega) (by omega)) (fun k _ => y_len _) _ _ hT
  rw [s1] at c1
  repeat' (first | refine And.intro (by first | (show (_ : Bool) = true; kernel_rfl) | omega | (dsimp only; omega) | (simp only [ByteArray.size_append]; omega) | decide | (repeat' (first | refine And.intro ?_ ?_ | exact trivial | exact rfl))) ?_ | refine bcs_dec (fun h => ?_) (fun h => False.elim (by first | omega | exact h rfl)) | refine bcs_dec (fun h => False.elim (by omega)) (fun h => ?_) | refine bcs_dec (fun h => ?_) (fun h => ?_) | refine bcs_ndec (fun h => ?_) (fun h => ?_) | refine bcs_not ?_ | refine bcs_intro (fun h => ?_) (fun h => ?_) | refine And.intro ?_ ?_ | refine reg_tail (by kernel_rfl) ?_)
  refine call_rule [.at 0 0, .at 1 0, .at 4 (c.y).toNat] (c1) hG ?_ ?_
  · (refine ⟨?_, ?_, rfl, rfl, rfl⟩ <;> repeat' (first | refine And.intro ?_ ?_ | exact trivial | exact rfl | refine lt0 | refine lt1 ?_ | refine lt2 ?_ ?_ | refine lt3 ?_ ?_ ?_ | refine lt4 ?_ ?_ ?_ ?_ | exact veq_refl _ | decide | (intro i hi; repeat' (first | refine And.intro ?_ ?_ | exact trivial | exact rfl))))
    all_goals first | exact Nat.le_refl _ | omega
  rintro _ _ _ ⟨rfl, rfl, rfl⟩
  repeat' (first | refine And.intro (by first | (show (_ : Bool) = true; kernel_rfl) | omega | (dsimp only; omega) | (simp only [ByteArray.size_append]; omega) | decide | (repeat' (first | refine And.intro ?_ ?_ | exact trivial | exact rfl))) ?_ | refine bcs_dec (fun h => ?_) (fun h => False.elim (by first | omega | exact h rfl)) | refine bcs_dec (fun h => False.elim (by omega)) (fun h => ?_) | refine bcs_dec (fun h => ?_) (fun h => ?_) | refine bcs_ndec (fun h => ?_) (fun h => ?_) | refine bcs_not ?_ | refine bcs_intro (fun h => ?_) (fun h => ?_) | refine And.intro ?_ ?_ | refine reg_tail (by kernel_rfl) ?_)
  all_goals first
    | omega
    | skip
  refine ret_mem [.at 8 0] rfl rfl ?_ ?_
  · exact trivial
  · repeat' (first | refine And.intro ?_ ?_ | exact trivial)
    all_goals try first | exact rfl | exact veq_refl _ | omega
    all_goals
      intro i hi
      repeat' (first | refine And.intro ?_ ?_ | exact trivial)
      all_goals exact rfl
set_option maxRecDepth 100000 in
set_option maxHeartbeats 64000000 in
theorem tellUA2_con (b m y lab : List Byt) (fmt : Int) (c : Chk) (last : Bool) (H : TellOk b m y lab fmt c) (f0 : Bool) (q0 : Byt) (hq0 : q0.length ≤ 4194304) (f' : Bool) (q' : Byt) (hT : puts (some (f0, q0)) (tellP b m y lab fmt c last) = some (f', q')) (hc : c.k = 5 ∧ fmt = 5) :
    Con Tryd.prog glob 59 [.a [.s 2 0 b.length, .s 3 0 m.length, .s 4 0 y.length, .s 5 0 lab.length, .v (.int .i64 fmt)], .p 0 0 0, ckV c, .v (.bool last)] [(0, wrU f0), (1, byOwn q0), (2, stRo b), (3, stRo m), (4, stRo y), (5, stRo lab)] 6 (retM (.t []) [(0, .box 111 [.p 0 0 0, .o 6, .v (.bool f')]), (6, byOwn q')] 7) := by
  obtain ⟨hb, hm, hy, hlab, hbl, hml, hyl, hl3, hf1, hf2, hb1, hb2, hb3, hm1, hm2, hm3, hy1, hy2, hy3⟩ := H
  have h10 : (ByteArray.mk #[10]).size = 1 := rfl
  have h60 : (ByteArray.mk #[60, 60, 60, 60, 60, 60, 60, 32]).size = 8 := rfl
  have h124 : (ByteArray.mk #[124, 124, 124, 124, 124, 124, 124, 32]).size = 8 := rfl
  have h62 : (ByteArray.mk #[62, 62, 62, 62, 62, 62, 62, 32]).size = 8 := rfl
  have y0 : (bs (lab.getD (0 + Int.toNat 0) [])).size ≤ 4096 := by rw [bs_size]; exact hlab _
  have y1 : (bs (lab.getD (0 + Int.toNat 1) [])).size ≤ 4096 := by rw [bs_size]; exact hlab _
  have y2 : (bs (lab.getD (0 + Int.toNat 2) [])).size ≤ 4096 := by rw [bs_size]; exact hlab _
  have b_len := hb
  have m_len := hm
  have y_len := hy
  rw [tellP_A2 hc] at hT
  refine spec_intro (tab := tab) (N := 125) Tryd.func59 rfl rfl tab_ok mix rfl rfl _ rfl ?_
  intro B hG
  have s1 := seg_len y (i := c.y) (j := c.y + c.yn) (by omega) (by omega) (by omega)
  have c1 := linesU_con (segL y c.y (c.y + c.yn)) (fun k => y.getD (k + (c.y).toNat) []) (!last) f0 q0 (by omega) hq0 (seg_row y (by omega) (by omega) (by omega)) (fun k _ => y_len _) _ _ hT
  rw [s1] at c1
  repeat' (first | refine And.intro (by first | (show (_ : Bool) = true; kernel_rfl) | omega | (dsimp only; omega) | (simp only [ByteArray.size_append]; omega) | decide | (repeat' (first | refine And.intro ?_ ?_ | exact trivial | exact rfl))) ?_ | refine bcs_dec (fun h => ?_) (fun h => False.elim (by first | omega | exact h rfl)) | refine bcs_dec (fun h => False.elim (by omega)) (fun h => ?_) | refine bcs_dec (fun h => ?_) (fun h => ?_) | refine bcs_ndec (fun h => ?_) (fun h => ?_) | refine bcs_not ?_ | refine bcs_intro (fun h => ?_) (fun h => ?_) | refine And.intro ?_ ?_ | refine reg_tail (by kernel_rfl) ?_)
  refine call_rule [.at 0 0, .at 1 0, .at 4 (c.y).toNat] (c1) hG ?_ ?_
  · (refine ⟨?_, ?_, rfl, rfl, rfl⟩ <;> repeat' (first | refine And.intro ?_ ?_ | exact trivial | exact rfl | refine lt0 | refine lt1 ?_ | refine lt2 ?_ ?_ | refine lt3 ?_ ?_ ?_ | refine lt4 ?_ ?_ ?_ ?_ | exact veq_refl _ | decide | (intro i hi; repeat' (first | refine And.intro ?_ ?_ | exact trivial | exact rfl))))
    all_goals first | exact Nat.le_refl _ | omega
  rintro _ _ _ ⟨rfl, rfl, rfl⟩
  repeat' (first | refine And.intro (by first | (show (_ : Bool) = true; kernel_rfl) | omega | (dsimp only; omega) | (simp only [ByteArray.size_append]; omega) | decide | (repeat' (first | refine And.intro ?_ ?_ | exact trivial | exact rfl))) ?_ | refine bcs_dec (fun h => ?_) (fun h => False.elim (by first | omega | exact h rfl)) | refine bcs_dec (fun h => False.elim (by omega)) (fun h => ?_) | refine bcs_dec (fun h => ?_) (fun h => ?_) | refine bcs_ndec (fun h => ?_) (fun h => ?_) | refine bcs_not ?_ | refine bcs_intro (fun h => ?_) (fun h => ?_) | refine And.intro ?_ ?_ | refine reg_tail (by kernel_rfl) ?_)
  all_goals first
    | omega
    | skip
  refine ret_mem [.at 8 0] rfl rfl ?_ ?_
  · exact trivial
  · repeat' (first | refine And.intro ?_ ?_ | exact trivial)
    all_goals try first | exact rfl | exact veq_refl _ | omega
    all_goals
      intro i hi
      repeat' (first | refine And.intro ?_ ?_ | exact trivial)
      all_goals exact rfl
set_option maxRecDepth 100000 in
set_option maxHeartbeats 64000000 in
theorem tellUB_con (b m y lab : List Byt) (fmt : Int) (c : Chk) (last : Bool) (H : TellOk b m y lab fmt c) (f0 : Bool) (q0 : Byt) (hq0 : q0.length ≤ 4194304) (f' : Bool) (q' : Byt) (hT : puts (some (f0, q0)) (tellP b m y lab fmt c last) = some (f', q')) (hc : c.k = 5 ∧ fmt = 3) :
    Con Tryd.prog glob 59 [.a [.s 2 0 b.length, .s 3 0 m.length, .s 4 0 y.length, .s 5 0 lab.length, .v (.int .i64 fmt)], .p 0 0 0, ckV c, .v (.bool last)] [(0, wrU f0), (1, byOwn q0), (2, stRo b), (3, stRo m), (4, stRo y), (5, stRo lab)] 6 (retM (.t []) [(0, .box 111 [.p 0 0 0, .o 6, .v (.bool f')]), (6, byOwn q')] 7) := by
  obtain ⟨hb, hm, hy, hlab, hbl, hml, hyl, hl3, hf1, hf2, hb1, hb2, hb3, hm1, hm2, hm3, hy1, hy2, hy3⟩ := H
  have h10 : (ByteArray.mk #[10]).size = 1 := rfl
  have h60 : (ByteArray.mk #[60, 60, 60, 60, 60, 60, 60, 32]).size = 8 := rfl
  have h124 : (ByteArray.mk #[124, 124, 124, 124, 124, 124, 124, 32]).size = 8 := rfl
  have h62 : (ByteArray.mk #[62, 62, 62, 62, 62, 62, 62, 32]).size = 8 := rfl
  have y0 : (bs (lab.getD (0 + Int.toNat 0) [])).size ≤ 4096 := by rw [bs_size]; exact hlab _
  have y1 : (bs (lab.getD (0 + Int.toNat 1) [])).size ≤ 4096 := by rw [bs_size]; exact hlab _
  have y2 : (bs (lab.getD (0 + Int.toNat 2) [])).size ≤ 4096 := by rw [bs_size]; exact hlab _
  have b_len := hb
  have m_len := hm
  have y_len := hy
  rw [tellP_B hc] at hT
  refine spec_intro (tab := tab) (N := 125) Tryd.func59 rfl rfl tab_ok mix rfl rfl _ rfl ?_
  intro B hG
  have s1 := seg_len m (i := c.m) (j := c.m + c.mn) (by omega) (by omega) (by omega)
  obtain ⟨f1, q1, e1, l1⟩ := puts_some_ex (linesP (segL m c.m (c.m + c.mn)) true) f0 q0 hq0
  have c1 := linesU_con (segL m c.m (c.m + c.mn)) (fun k => m.getD (k + (c.m).toNat) []) true f0 q0 (by omega) hq0 (seg_row m (by omega) (by omega) (by omega)) (fun k _ => m_len _) _ _ e1
  rw [s1] at c1
  rw [puts_app, e1] at hT
  repeat' (first | refine And.intro (by first | (show (_ : Bool) = true; kernel_rfl) | omega | (dsimp only; omega) | (simp only [ByteArray.size_append]; omega) | decide | (repeat' (first | refine And.intro ?_ ?_ | exact trivial | exact rfl))) ?_ | refine bcs_dec (fun h => ?_) (fun h => False.elim (by first | omega | exact h rfl)) | refine bcs_dec (fun h => False.elim (by omega)) (fun h => ?_) | refine bcs_dec (fun h => ?_) (fun h => ?_) | refine bcs_ndec (fun h => ?_) (fun h => ?_) | refine bcs_not ?_ | refine bcs_intro (fun h => ?_) (fun h => ?_) | refine And.intro ?_ ?_ | refine reg_tail (by kernel_rfl) ?_)
  refine call_rule [.at 0 0, .at 1 0, .at 3 (c.m).toNat] (c1) hG ?_ ?_
  · (refine ⟨?_, ?_, rfl, rfl, rfl⟩ <;> repeat' (first | refine And.intro ?_ ?_ | exact trivial | exact rfl | refine lt0 | refine lt1 ?_ | refine lt2 ?_ ?_ | refine lt3 ?_ ?_ ?_ | refine lt4 ?_ ?_ ?_ ?_ | exact veq_refl _ | decide | (intro i hi; repeat' (first | refine And.intro ?_ ?_ | exact trivial | exact rfl))))
    all_goals first | exact Nat.le_refl _ | omega
  rintro _ _ _ ⟨rfl, rfl, rfl⟩
  repeat' (first | refine And.intro (by first | (show (_ : Bool) = true; kernel_rfl) | omega | (dsimp only; omega) | (simp only [ByteArray.size_append]; omega) | decide | (repeat' (first | refine And.intro ?_ ?_ | exact trivial | exact rfl))) ?_ | refine bcs_dec (fun h => ?_) (fun h => False.elim (by first | omega | exact h rfl)) | refine bcs_dec (fun h => False.elim (by omega)) (fun h => ?_) | refine bcs_dec (fun h => ?_) (fun h => ?_) | refine bcs_ndec (fun h => ?_) (fun h => ?_) | refine bcs_not ?_ | refine bcs_intro (fun h => ?_) (fun h => ?_) | refine And.intro ?_ ?_ | refine reg_tail (by kernel_rfl) ?_)
  all_goals first
    | omega
    | skip
  have s2 := seg_len y (i := c.y) (j := c.y + c.yn) (by omega) (by omega) (by omega)
  have c2 := linesU_con (segL y c.y (c.y + c.yn)) (fun k => y.getD (k + (c.y).toNat) []) (!last) f1 q1 (by omega) l1 (seg_row y (by omega) (by omega) (by omega)) (fun k _ => y_len _) _ _ hT
  rw [s2] at c2
  repeat' (first | refine And.intro (by first | (show (_ : Bool) = true; kernel_rfl) | omega | (dsimp only; omega) | (simp only [ByteArray.size_append]; omega) | decide | (repeat' (first | refine And.intro ?_ ?_ | exact trivial | exact rfl))) ?_ | refine bcs_dec (fun h => ?_) (fun h => False.elim (by first | omega | exact h rfl)) | refine bcs_dec (fun h => False.elim (by omega)) (fun h => ?_) | refine bcs_dec (fun h => ?_) (fun h => ?_) | refine bcs_ndec (fun h => ?_) (fun h => ?_) | refine bcs_not ?_ | refine bcs_intro (fun h => ?_) (fun h => ?_) | refine And.intro ?_ ?_ | refine reg_tail (by kernel_rfl) ?_)
  refine call_rule [.at 0 0, .at 8 0, .at 4 (c.y).toNat] (c2) hG ?_ ?_
  · (refine ⟨?_, ?_, rfl, rfl, rfl⟩ <;> repeat' (first | refine And.intro ?_ ?_ | exact trivial | exact rfl | refine lt0 | refine lt1 ?_ | refine lt2 ?_ ?_ | refine lt3 ?_ ?_ ?_ | refine lt4 ?_ ?_ ?_ ?_ | exact veq_refl _ | decide | (intro i hi; repeat' (first | refine And.intro ?_ ?_ | exact trivial | exact rfl))))
    all_goals first | exact Nat.le_refl _ | omega
  rintro _ _ _ ⟨rfl, rfl, rfl⟩
  repeat' (first | refine And.intro (by first | (show (_ : Bool) = true; kernel_rfl) | omega | (dsimp only; omega) | (simp only [ByteArray.size_append]; omega) | decide | (repeat' (first | refine And.intro ?_ ?_ | exact trivial | exact rfl))) ?_ | refine bcs_dec (fun h => ?_) (fun h => False.elim (by first | omega | exact h rfl)) | refine bcs_dec (fun h => False.elim (by omega)) (fun h => ?_) | refine bcs_dec (fun h => ?_) (fun h => ?_) | refine bcs_ndec (fun h => ?_) (fun h => ?_) | refine bcs_not ?_ | refine bcs_intro (fun h => ?_) (fun h => ?_) | refine And.intro ?_ ?_ | refine reg_tail (by kernel_rfl) ?_)
  all_goals first
    | omega
    | skip
  refine ret_mem [.at 9 0] rfl rfl ?_ ?_
  · exact trivial
  · repeat' (first | refine And.intro ?_ ?_ | exact trivial)
    all_goals try first | exact rfl | exact veq_refl _ | omega
    all_goals
      intro i hi
      repeat' (first | refine And.intro ?_ ?_ | exact trivial)
      all_goals exact rfl
set_option maxRecDepth 100000 in
set_option maxHeartbeats 64000000 in
theorem tellUD1_con (b m y lab : List Byt) (fmt : Int) (c : Chk) (last : Bool) (H : TellOk b m y lab fmt c) (f0 : Bool) (q0 : Byt) (hq0 : q0.length ≤ 4194304) (f' : Bool) (q' : Byt) (hT : puts (some (f0, q0)) (tellP b m y lab fmt c last) = some (f', q')) (hc : c.k = 5 ∧ fmt = 4) :
    Con Tryd.prog glob 59 [.a [.s 2 0 b.length, .s 3 0 m.length, .s 4 0 y.length, .s 5 0 lab.length, .v (.int .i64 fmt)], .p 0 0 0, ckV c, .v (.bool last)] [(0, wrU f0), (1, byOwn q0), (2, stRo b), (3, stRo m), (4, stRo y), (5, stRo lab)] 6 (retM (.t []) [(0, .box 111 [.p 0 0 0, .o 6, .v (.bool f')]), (6, byOwn q')] 7) := by
  obtain ⟨hb, hm, hy, hlab, hbl, hml, hyl, hl3, hf1, hf2, hb1, hb2, hb3, hm1, hm2, hm3, hy1, hy2, hy3⟩ := H
  have h10 : (ByteArray.mk #[10]).size = 1 := rfl
  have h60 : (ByteArray.mk #[60, 60, 60, 60, 60, 60, 60, 32]).size = 8 := rfl
  have h124 : (ByteArray.mk #[124, 124, 124, 124, 124, 124, 124, 32]).size = 8 := rfl
  have h62 : (ByteArray.mk #[62, 62, 62, 62, 62, 62, 62, 32]).size = 8 := rfl
  have y0 : (bs (lab.getD (0 + Int.toNat 0) [])).size ≤ 4096 := by rw [bs_size]; exact hlab _
  have y1 : (bs (lab.getD (0 + Int.toNat 1) [])).size ≤ 4096 := by rw [bs_size]; exact hlab _
  have y2 : (bs (lab.getD (0 + Int.toNat 2) [])).size ≤ 4096 := by rw [bs_size]; exact hlab _
  have b_len := hb
  have m_len := hm
  have y_len := hy
  rw [tellP_D1 hc] at hT
  refine spec_intro (tab := tab) (N := 125) Tryd.func59 rfl rfl tab_ok mix rfl rfl _ rfl ?_
  intro B hG
  have s1 := seg_len m (i := c.m) (j := c.m + c.mn) (by omega) (by omega) (by omega)
  have c1 := linesU_con (segL m c.m (c.m + c.mn)) (fun k => m.getD (k + (c.m).toNat) []) (!last) f0 q0 (by omega) hq0 (seg_row m (by omega) (by omega) (by omega)) (fun k _ => m_len _) _ _ hT
  rw [s1] at c1
  repeat' (first | refine And.intro (by first | (show (_ : Bool) = true; kernel_rfl) | omega | (dsimp only; omega) | (simp only [ByteArray.size_append]; omega) | decide | (repeat' (first | refine And.intro ?_ ?_ | exact trivial | exact rfl))) ?_ | refine bcs_dec (fun h => ?_) (fun h => False.elim (by first | omega | exact h rfl)) | refine bcs_dec (fun h => False.elim (by omega)) (fun h => ?_) | refine bcs_dec (fun h => ?_) (fun h => ?_) | refine bcs_ndec (fun h => ?_) (fun h => ?_) | refine bcs_not ?_ | refine bcs_intro (fun h => ?_) (fun h => ?_) | refine And.intro ?_ ?_ | refine reg_tail (by kernel_rfl) ?_)
  refine call_rule [.at 0 0, .at 1 0, .at 3 (c.m).toNat] (c1) hG ?_ ?_
  · (refine ⟨?_, ?_, rfl, rfl, rfl⟩ <;> repeat' (first | refine And.intro ?_ ?_ | exact trivial | exact rfl | refine lt0 | refine lt1 ?_ | refine lt2 ?_ ?_ | refine lt3 ?_ ?_ ?_ | refine lt4 ?_ ?_ ?_ ?_ | exact veq_refl _ | decide | (intro i hi; repeat' (first | refine And.intro ?_ ?_ | exact trivial | exact rfl))))
    all_goals first | exact Nat.le_refl _ | omega
  rintro _ _ _ ⟨rfl, rfl, rfl⟩
  repeat' (first | refine And.intro (by first | (show (_ : Bool) = true; kernel_rfl) | omega | (dsimp only; omega) | (simp only [ByteArray.size_append]; omega) | decide | (repeat' (first | refine And.intro ?_ ?_ | exact trivial | exact rfl))) ?_ | refine bcs_dec (fun h => ?_) (fun h => False.elim (by first | omega | exact h rfl)) | refine bcs_dec (fun h => False.elim (by omega)) (fun h => ?_) | refine bcs_dec (fun h => ?_) (fun h => ?_) | refine bcs_ndec (fun h => ?_) (fun h => ?_) | refine bcs_not ?_ | refine bcs_intro (fun h => ?_) (fun h => ?_) | refine And.intro ?_ ?_ | refine reg_tail (by kernel_rfl) ?_)
  all_goals first
    | omega
    | skip
  refine ret_mem [.at 8 0] rfl rfl ?_ ?_
  · exact trivial
  · repeat' (first | refine And.intro ?_ ?_ | exact trivial)
    all_goals try first | exact rfl | exact veq_refl _ | omega
    all_goals
      intro i hi
      repeat' (first | refine And.intro ?_ ?_ | exact trivial)
      all_goals exact rfl
set_option maxRecDepth 100000 in
set_option maxHeartbeats 64000000 in
theorem tellUD2_con (b m y lab : List Byt) (fmt : Int) (c : Chk) (last : Bool) (H : TellOk b m y lab fmt c) (f0 : Bool) (q0 : Byt) (hq0 : q0.length ≤ 4194304) (f' : Bool) (q' : Byt) (hT : puts (some (f0, q0)) (tellP b m y lab fmt c last) = some (f', q')) (hc : c.k ≠ 3 ∧ c.k ≠ 5) :
    Con Tryd.prog glob 59 [.a [.s 2 0 b.length, .s 3 0 m.length, .s 4 0 y.length, .s 5 0 lab.length, .v (.int .i64 fmt)], .p 0 0 0, ckV c, .v (.bool last)] [(0, wrU f0), (1, byOwn q0), (2, stRo b), (3, stRo m), (4, stRo y), (5, stRo lab)] 6 (retM (.t []) [(0, .box 111 [.p 0 0 0, .o 6, .v (.bool f')]), (6, byOwn q')] 7) := by
  obtain ⟨hb, hm, hy, hlab, hbl, hml, hyl, hl3, hf1, hf2, hb1, hb2, hb3, hm1, hm2, hm3, hy1, hy2, hy3⟩ := H
  have h10 : (ByteArray.mk #[10]).size = 1 := rfl
  have h60 : (ByteArray.mk #[60, 60, 60, 60, 60, 60, 60, 32]).size = 8 := rfl
  have h124 : (ByteArray.mk #[124, 124, 124, 124, 124, 124, 124, 32]).size = 8 := rfl
  have h62 : (ByteArray.mk #[62, 62, 62, 62, 62, 62, 62, 32]).size = 8 := rfl
  have y0 : (bs (lab.getD (0 + Int.toNat 0) [])).size ≤ 4096 := by rw [bs_size]; exact hlab _
  have y1 : (bs (lab.getD (0 + Int.toNat 1) [])).size ≤ 4096 := by rw [bs_size]; exact hlab _
  have y2 : (bs (lab.getD (0 + Int.toNat 2) [])).size ≤ 4096 := by rw [bs_size]; exact hlab _
  have b_len := hb
  have m_len := hm
  have y_len := hy
  rw [tellP_D2 hc] at hT
  refine spec_intro (tab := tab) (N := 125) Tryd.func59 rfl rfl tab_ok mix rfl rfl _ rfl ?_
  intro B hG
  have s1 := seg_len m (i := c.m) (j := c.m + c.mn) (by omega) (by omega) (by omega)
  have c1 := linesU_con (segL m c.m (c.m + c.mn)) (fun k => m.getD (k + (c.m).toNat) []) (!last) f0 q0 (by omega) hq0 (seg_row m (by omega) (by omega) (by omega)) (fun k _ => m_len _) _ _ hT
  rw [s1] at c1
  repeat' (first | refine And.intro (by first | (show (_ : Bool) = true; kernel_rfl) | omega | (dsimp only; omega) | (simp only [ByteArray.size_append]; omega) | decide | (repeat' (first | refine And.intro ?_ ?_ | exact trivial | exact rfl))) ?_ | refine bcs_dec (fun h => ?_) (fun h => False.elim (by first | omega | exact h rfl)) | refine bcs_dec (fun h => False.elim (by omega)) (fun h => ?_) | refine bcs_dec (fun h => ?_) (fun h => ?_) | refine bcs_ndec (fun h => ?_) (fun h => ?_) | refine bcs_not ?_ | refine bcs_intro (fun h => ?_) (fun h => ?_) | refine And.intro ?_ ?_ | refine reg_tail (by kernel_rfl) ?_)
  refine call_rule [.at 0 0, .at 1 0, .at 3 (c.m).toNat] (c1) hG ?_ ?_
  · (refine ⟨?_, ?_, rfl, rfl, rfl⟩ <;> repeat' (first | refine And.intro ?_ ?_ | exact trivial | exact rfl | refine lt0 | refine lt1 ?_ | refine lt2 ?_ ?_ | refine lt3 ?_ ?_ ?_ | refine lt4 ?_ ?_ ?_ ?_ | exact veq_refl _ | decide | (intro i hi; repeat' (first | refine And.intro ?_ ?_ | exact trivial | exact rfl))))
    all_goals first | exact Nat.le_refl _ | omega
  rintro _ _ _ ⟨rfl, rfl, rfl⟩
  repeat' (first | refine And.intro (by first | (show (_ : Bool) = true; kernel_rfl) | omega | (dsimp only; omega) | (simp only [ByteArray.size_append]; omega) | decide | (repeat' (first | refine And.intro ?_ ?_ | exact trivial | exact rfl))) ?_ | refine bcs_dec (fun h => ?_) (fun h => False.elim (by first | omega | exact h rfl)) | refine bcs_dec (fun h => False.elim (by omega)) (fun h => ?_) | refine bcs_dec (fun h => ?_) (fun h => ?_) | refine bcs_ndec (fun h => ?_) (fun h => ?_) | refine bcs_not ?_ | refine bcs_intro (fun h => ?_) (fun h => ?_) | refine And.intro ?_ ?_ | refine reg_tail (by kernel_rfl) ?_)
  all_goals first
    | omega
    | skip
  refine ret_mem [.at 8 0] rfl rfl ?_ ?_
  · exact trivial
  · repeat' (first | refine And.intro ?_ ?_ | exact trivial)
    all_goals try first | exact rfl | exact veq_refl _ | omega
    all_goals
      intro i hi
      repeat' (first | refine And.intro ?_ ?_ | exact trivial)
      all_goals exact rfl
end Go.Proofs.YtlmjkphiicmclaaDoor
