/- Chapter 18: a chunk that is told: walked (where nothing is written). Printed by gen_w4.py. -/
import Derived.Test.YtlmjkphiicmclaaDoorW4
namespace Go.Proofs.YtlmjkphiicmclaaDoor
open Go Go.RowKit Vc

set_option maxRecDepth 100000 in
set_option maxHeartbeats 64000000 in
theorem tellN_con (b m y lab : List Byt) (fmt : Int) (c : Chk) (last : Bool) (H : TellOk b m y lab fmt c) (hT : puts none (tellP b m y lab fmt c last) = none) :
    Con Tryd.prog glob 59 [.a [.s 1 0 b.length, .s 2 0 m.length, .s 3 0 y.length, .s 4 0 lab.length, .v (.int .i64 fmt)], .p 0 0 0, ckV c, .v (.bool last)] [(0, wrF false), (1, stRo b), (2, stRo m), (3, stRo y), (4, stRo lab)] 5 (retM (.t []) [(0, wrF false)] 5) := by
  obtain ⟨hb, hm, hy, hlab, hbl, hml, hyl, hl3, hf1, hf2, hb1, hb2, hb3, hm1, hm2, hm3, hy1, hy2, hy3⟩ := H
  have h10 : (ByteArray.mk #[10]).size = 1 := rfl
  have h60 : (ByteArray.mk #[60, 60, 60, 60, 60, 60, 60, 32]).size = 8 := rfl
  have h124 : (ByteArray.mk #[124, 124, 124, 124, 124, 124, 124, 32]).size = 8 := rfl
  have h62 : (ByteArray.mk #[62, 62, 62, 62, 62, 62, 62, 32]).size = 8 := rfl
  have y0 : (bs (lab.getD (0 + Int.toNat 0) [])).size ≤ 4096 := by rw [bs_size]; exact hlab _
  have y1 : (bs (lab.getD (0 + Int.toNat 1) [])).size ≤ 4096 := by rw [bs_size]; exact hlab _
  have y2 : (bs (lab.getD (0 + Int.toNat 2) [])).size ≤ 4096 := by rw [bs_size]; exact hlab _
  have b_len := hb
  have m_len := hm
  have y_len := hy
  by_cases hA1 : c.k = 3
  · rw [tellP_A1 hA1] at hT
    have emt : (segL y c.y (c.y + c.yn)) = [] := by
      refine Classical.byContradiction fun ne => ?_
      obtain ⟨_, _, e, _⟩ := puts_none_ex (lines_ne ne (!last)) (by rw [lines_hd ne, ← seg_row y (by omega) (by omega) (by omega) 0 (List.length_pos_iff.2 ne)]; exact y_len _)
      rw [e] at hT; cases hT
    refine spec_intro (tab := tab) (N := 125) Tryd.func59 rfl rfl tab_ok mix rfl rfl _ rfl ?_
    intro B hG
    have s1 := seg_len y (i := c.y) (j := c.y + c.yn) (by omega) (by omega) (by omega)
    have s1b : ((c.y + c.yn) - c.y).toNat = 0 := by rw [← s1, emt]; rfl
    have c1 := linesN_con (fun k => y.getD (k + (c.y).toNat) []) (!last)
    repeat' (first | refine And.intro (by first | (show (_ : Bool) = true; kernel_rfl) | omega | (dsimp only; omega) | (simp only [ByteArray.size_append]; omega) | decide | (repeat' (first | refine And.intro ?_ ?_ | exact trivial | exact rfl))) ?_ | refine bcs_dec (fun h => ?_) (fun h => False.elim (by first | omega | exact h rfl)) | refine bcs_dec (fun h => False.elim (by omega)) (fun h => ?_) | refine bcs_dec (fun h => ?_) (fun h => ?_) | refine bcs_ndec (fun h => ?_) (fun h => ?_) | refine bcs_not ?_ | refine bcs_intro (fun h => ?_) (fun h => ?_) | refine And.intro ?_ ?_ | refine reg_tail (by kernel_rfl) ?_)
    refine call_rule [.at 0 0, .at 3 (c.y).toNat] (c1) hG ?_ ?_
    · (refine ⟨?_, ?_, rfl, rfl, rfl⟩ <;> repeat' (first | refine And.intro ?_ ?_ | exact trivial | exact rfl | refine lt0 | refine lt1 ?_ | refine lt2 ?_ ?_ | refine lt3 ?_ ?_ ?_ | refine lt4 ?_ ?_ ?_ ?_ | exact veq_refl _ | decide | (intro i hi; repeat' (first | refine And.intro ?_ ?_ | exact trivial | exact rfl))))
      all_goals first | exact Nat.le_refl _ | omega
    rintro _ _ _ ⟨rfl, rfl, rfl⟩
    repeat' (first | refine And.intro (by first | (show (_ : Bool) = true; kernel_rfl) | omega | (dsimp only; omega) | (simp only [ByteArray.size_append]; omega) | decide | (repeat' (first | refine And.intro ?_ ?_ | exact trivial | exact rfl))) ?_ | refine bcs_dec (fun h => ?_) (fun h => False.elim (by first | omega | exact h rfl)) | refine bcs_dec (fun h => False.elim (by omega)) (fun h => ?_) | refine bcs_dec (fun h => ?_) (fun h => ?_) | refine bcs_ndec (fun h => ?_) (fun h => ?_) | refine bcs_not ?_ | refine bcs_intro (fun h => ?_) (fun h => ?_) | refine And.intro ?_ ?_ | refine reg_tail (by kernel_rfl) ?_)
    refine ret_mem [] rfl rfl ?_ ?_
    · exact trivial
    · repeat' (first | refine And.intro ?_ ?_ | exact trivial)
      all_goals try first | exact rfl | exact veq_refl _
  by_cases hk : c.k = 5
  · obtain rfl | rfl | rfl | rfl | rfl : fmt = 1 ∨ fmt = 2 ∨ fmt = 3 ∨ fmt = 4 ∨ fmt = 5 := by omega
    · rw [tellP_C1 ⟨hk, rfl⟩] at hT
      rw [puts_cons] at hT
      obtain ⟨_, _, e, _⟩ := puts_some_ex _ _ _ (show (markP 60 (lab.getD 0 [])).length ≤ 4194304 by have := mk_len 60 (hlab 0); omega)
      exact absurd (e.symm.trans hT) (by intro k; cases k)
    · rw [tellP_C2 ⟨hk, rfl⟩] at hT
      rw [puts_cons] at hT
      obtain ⟨_, _, e, _⟩ := puts_some_ex _ _ _ (show (markP 60 (lab.getD 0 [])).length ≤ 4194304 by have := mk_len 60 (hlab 0); omega)
      exact absurd (e.symm.trans hT) (by intro k; cases k)
    · rw [tellP_B ⟨hk, rfl⟩] at hT
      have emo : (segL m c.m (c.m + c.mn)) = [] := by
        refine Classical.byContradiction fun ne => ?_
        obtain ⟨_, _, e, l⟩ := puts_none_ex (lines_ne ne true) (by rw [lines_hd ne, ← seg_row m (by omega) (by omega) (by omega) 0 (List.length_pos_iff.2 ne)]; exact m_len _)
        rw [puts_app, e] at hT
        obtain ⟨_, _, e, _⟩ := puts_some_ex (linesP (segL y c.y (c.y + c.yn)) (!last)) _ _ l
        rw [e] at hT; cases hT
      rw [emo, lines_nil, List.nil_append] at hT
      have emt : (segL y c.y (c.y + c.yn)) = [] := by
        refine Classical.byContradiction fun ne => ?_
        obtain ⟨_, _, e, _⟩ := puts_none_ex (lines_ne ne (!last)) (by rw [lines_hd ne, ← seg_row y (by omega) (by omega) (by omega) 0 (List.length_pos_iff.2 ne)]; exact y_len _)
        rw [e] at hT; cases hT
      refine spec_intro (tab := tab) (N := 125) Tryd.func59 rfl rfl tab_ok mix rfl rfl _ rfl ?_
      intro B hG
      have s1 := seg_len m (i := c.m) (j := c.m + c.mn) (by omega) (by omega) (by omega)
      have s1b : ((c.m + c.mn) - c.m).toNat = 0 := by rw [← s1, emo]; rfl
      have c1 := linesN_con (fun k => m.getD (k + (c.m).toNat) []) true
      repeat' (first | refine And.intro (by first | (show (_ : Bool) = true; kernel_rfl) | omega | (dsimp only; omega) | (simp only [ByteArray.size_append]; omega) | decide | (repeat' (first | refine And.intro ?_ ?_ | exact trivial | exact rfl))) ?_ | refine bcs_dec (fun h => ?_) (fun h => False.elim (by first | omega | exact h rfl)) | refine bcs_dec (fun h => False.elim (by omega)) (fun h => ?_) | refine bcs_dec (fun h => ?_) (fun h => ?_) | refine bcs_ndec (fun h => ?_) (fun h => ?_) | refine bcs_not ?_ | refine bcs_intro (fun h => ?_) (fun h => ?_) | refine And.intro ?_ ?_ | refine reg_tail (by kernel_rfl) ?_)
      refine call_rule [.at 0 0, .at 2 (c.m).toNat] (c1) hG ?_ ?_
      · (refine ⟨?_, ?_, rfl, rfl, rfl⟩ <;> repeat' (first | refine And.intro ?_ ?_ | exact trivial | exact rfl | refine lt0 | refine lt1 ?_ | refine lt2 ?_ ?_ | refine lt3 ?_ ?_ ?_ | refine lt4 ?_ ?_ ?_ ?_ | exact veq_refl _ | decide | (intro i hi; repeat' (first | refine And.intro ?_ ?_ | exact trivial | exact rfl))))
        all_goals first | exact Nat.le_refl _ | omega
      rintro _ _ _ ⟨rfl, rfl, rfl⟩
      repeat' (first | refine And.intro (by first | (show (_ : Bool) = true; kernel_rfl) | omega | (dsimp only; omega) | (simp only [ByteArray.size_append]; omega) | decide | (repeat' (first | refine And.intro ?_ ?_ | exact trivial | exact rfl))) ?_ | refine bcs_dec (fun h => ?_) (fun h => False.elim (by first | omega | exact h rfl)) | refine bcs_dec (fun h => False.elim (by omega)) (fun h => ?_) | refine bcs_dec (fun h => ?_) (fun h => ?_) | refine bcs_ndec (fun h => ?_) (fun h => ?_) | refine bcs_not ?_ | refine bcs_intro (fun h => ?_) (fun h => ?_) | refine And.intro ?_ ?_ | refine reg_tail (by kernel_rfl) ?_)
      have s2 := seg_len y (i := c.y) (j := c.y + c.yn) (by omega) (by omega) (by omega)
      have s2b : ((c.y + c.yn) - c.y).toNat = 0 := by rw [← s2, emt]; rfl
      have c2 := linesN_con (fun k => y.getD (k + (c.y).toNat) []) (!last)
      repeat' (first | refine And.intro (by first | (show (_ : Bool) = true; kernel_rfl) | omega | (dsimp only; omega) | (simp only [ByteArray.size_append]; omega) | decide | (repeat' (first | refine And.intro ?_ ?_ | exact trivial | exact rfl))) ?_ | refine bcs_dec (fun h => ?_) (fun h => False.elim (by first | omega | exact h rfl)) | refine bcs_dec (fun h => False.elim (by omega)) (fun h => ?_) | refine bcs_dec (fun h => ?_) (fun h => ?_) | refine bcs_ndec (fun h => ?_) (fun h => ?_) | refine bcs_not ?_ | refine bcs_intro (fun h => ?_) (fun h => ?_) | refine And.intro ?_ ?_ | refine reg_tail (by kernel_rfl) ?_)
      refine call_rule [.at 0 0, .at 3 (c.y).toNat] (c2) hG ?_ ?_
      · (refine ⟨?_, ?_, rfl, rfl, rfl⟩ <;> repeat' (first | refine And.intro ?_ ?_ | exact trivial | exact rfl | refine lt0 | refine lt1 ?_ | refine lt2 ?_ ?_ | refine lt3 ?_ ?_ ?_ | refine lt4 ?_ ?_ ?_ ?_ | exact veq_refl _ | decide | (intro i hi; repeat' (first | refine And.intro ?_ ?_ | exact trivial | exact rfl))))
        all_goals first | exact Nat.le_refl _ | omega
      rintro _ _ _ ⟨rfl, rfl, rfl⟩
      repeat' (first | refine And.intro (by first | (show (_ : Bool) = true; kernel_rfl) | omega | (dsimp only; omega) | (simp only [ByteArray.size_append]; omega) | decide | (repeat' (first | refine And.intro ?_ ?_ | exact trivial | exact rfl))) ?_ | refine bcs_dec (fun h => ?_) (fun h => False.elim (by first | omega | exact h rfl)) | refine bcs_dec (fun h => False.elim (by omega)) (fun h => ?_) | refine bcs_dec (fun h => ?_) (fun h => ?_) | refine bcs_ndec (fun h => ?_) (fun h => ?_) | refine bcs_not ?_ | refine bcs_intro (fun h => ?_) (fun h => ?_) | refine And.intro ?_ ?_ | refine reg_tail (by kernel_rfl) ?_)
      refine ret_mem [] rfl rfl ?_ ?_
      · exact trivial
      · repeat' (first | refine And.intro ?_ ?_ | exact trivial)
        all_goals try first | exact rfl | exact veq_refl _
    · rw [tellP_D1 ⟨hk, rfl⟩] at hT
      have emo : (segL m c.m (c.m + c.mn)) = [] := by
        refine Classical.byContradiction fun ne => ?_
        obtain ⟨_, _, e, _⟩ := puts_none_ex (lines_ne ne (!last)) (by rw [lines_hd ne, ← seg_row m (by omega) (by omega) (by omega) 0 (List.length_pos_iff.2 ne)]; exact m_len _)
        rw [e] at hT; cases hT
      refine spec_intro (tab := tab) (N := 125) Tryd.func59 rfl rfl tab_ok mix rfl rfl _ rfl ?_
      intro B hG
      have s1 := seg_len m (i := c.m) (j := c.m + c.mn) (by omega) (by omega) (by omega)
      have s1b : ((c.m + c.mn) - c.m).toNat = 0 := by rw [← s1, emo]; rfl
      have c1 := linesN_con (fun k => m.getD (k + (c.m).toNat) []) (!last)
      repeat' (first | refine And.intro (by first | (show (_ : Bool) = true; kernel_rfl) | omega | (dsimp only; omega) | (simp only [ByteArray.size_append]; omega) | decide | (repeat' (first | refine And.intro ?_ ?_ | exact trivial | exact rfl))) ?_ | refine bcs_dec (fun h => ?_) (fun h => False.elim (by first | omega | exact h rfl)) | refine bcs_dec (fun h => False.elim (by omega)) (fun h => ?_) | refine bcs_dec (fun h => ?_) (fun h => ?_) | refine bcs_ndec (fun h => ?_) (fun h => ?_) | refine bcs_not ?_ | refine bcs_intro (fun h => ?_) (fun h => ?_) | refine And.intro ?_ ?_ | refine reg_tail (by kernel_rfl) ?_)
      refine call_rule [.at 0 0, .at 2 (c.m).toNat] (c1) hG ?_ ?_
      · (refine ⟨?_, ?_, rfl, rfl, rfl⟩ <;> repeat' (first | refine And.intro ?_ ?_ | exact trivial | exact rfl | refine lt0 | refine lt1 ?_ | refine lt2 ?_ ?_ | refine lt3 ?_ ?_ ?_ | refine lt4 ?_ ?_ ?_ ?_ | exact veq_refl _ | decide | (intro i hi; repeat' (first | refine And.intro ?_ ?_ | exact trivial | exact rfl))))
        all_goals first | exact Nat.le_refl _ | omega
      rintro _ _ _ ⟨rfl, rfl, rfl⟩
      repeat' (first | refine And.intro (by first | (show (_ : Bool) = true; kernel_rfl) | omega | (dsimp only; omega) | (simp only [ByteArray.size_append]; omega) | decide | (repeat' (first | refine And.intro ?_ ?_ | exact trivial | exact rfl))) ?_ | refine bcs_dec (fun h => ?_) (fun h => False.elim (by first | omega | exact h rfl)) | refine bcs_dec (fun h => False.elim (by omega)) (fun h => ?_) | refine bcs_dec (fun h => ?_) (fun h => ?_) | refine bcs_ndec (fun h => ?_) (fun h => ?_) | refine bcs_not ?_ | refine bcs_intro (fun h => ?_) (fun h => ?_) | refine And.intro ?_ ?_ | refine reg_tail (by kernel_rfl) ?_)
      refine ret_mem [] rfl rfl ?_ ?_
      · exact trivial
      · repeat' (first | refine And.intro ?_ ?_ | exact trivial)
        all_goals try first | exact rfl | exact veq_refl _
    · rw [tellP_A2 ⟨hk, rfl⟩] at hT
      have emt : (segL y c.y (c.y + c.yn)) = [] := by
        refine Classical.byContradiction fun ne => ?_
        obtain ⟨_, _, e, _⟩ := puts_none_ex (lines_ne ne (!last)) (by rw [lines_hd ne, ← seg_row y (by omega) (by omega) (by omega) 0 (List.length_pos_iff.2 ne)]; exact y_len _)
        rw [e] at hT; cases hT
      refine spec_intro (tab := tab) (N := 125) Tryd.func59 rfl rfl tab_ok mix rfl rfl _ rfl ?_
      intro B hG
      have s1 := seg_len y (i := c.y) (j := c.y + c.yn) (by omega) (by omega) (by omega)
      have s1b : ((c.y + c.yn) - c.y).toNat = 0 := by rw [← s1, emt]; rfl
      have c1 := linesN_con (fun k => y.getD (k + (c.y).toNat) []) (!last)
      repeat' (first | refine And.intro (by first | (show (_ : Bool) = true; kernel_rfl) | omega | (dsimp only; omega) | (simp only [ByteArray.size_append]; omega) | decide | (repeat' (first | refine And.intro ?_ ?_ | exact trivial | exact rfl))) ?_ | refine bcs_dec (fun h => ?_) (fun h => False.elim (by first | omega | exact h rfl)) | refine bcs_dec (fun h => False.elim (by omega)) (fun h => ?_) | refine bcs_dec (fun h => ?_) (fun h => ?_) | refine bcs_ndec (fun h => ?_) (fun h => ?_) | refine bcs_not ?_ | refine bcs_intro (fun h => ?_) (fun h => ?_) | refine And.intro ?_ ?_ | refine reg_tail (by kernel_rfl) ?_)
      refine call_rule [.at 0 0, .at 3 (c.y).toNat] (c1) hG ?_ ?_
      · (refine ⟨?_, ?_, rfl, rfl, rfl⟩ <;> repeat' (first | refine And.intro ?_ ?_ | exact trivial | exact rfl | refine lt0 | refine lt1 ?_ | refine lt2 ?_ ?_ | refine lt3 ?_ ?_ ?_ | refine lt4 ?_ ?_ ?_ ?_ | exact veq_refl _ | decide | (intro i hi; repeat' (first | refine And.intro ?_ ?_ | exact trivial | exact rfl))))
        all_goals first | exact Nat.le_refl _ | omega
      rintro _ _ _ ⟨rfl, rfl, rfl⟩
      repeat' (first | refine And.intro (by first | (show (_ : Bool) = true; kernel_rfl) | omega | (dsimp only; omega) | (simp only [ByteArray.size_append]; omega) | decide | (repeat' (first | refine And.intro ?_ ?_ | exact trivial | exact rfl))) ?_ | refine bcs_dec (fun h => ?_) (fun h => False.elim (by first | omega | exact h rfl)) | refine bcs_dec (fun h => False.elim (by omega)) (fun h => ?_) | refine bcs_dec (fun h => ?_) (fun h => ?_) | refine bcs_ndec (fun h => ?_) (fun h => ?_) | refine bcs_not ?_ | refine bcs_intro (fun h => ?_) (fun h => ?_) | refine And.intro ?_ ?_ | refine reg_tail (by kernel_rfl) ?_)
      refine ret_mem [] rfl rfl ?_ ?_
      · exact trivial
      · repeat' (first | refine And.intro ?_ ?_ | exact trivial)
        all_goals try first | exact rfl | exact veq_refl _
  · rw [tellP_D2 ⟨hA1, hk⟩] at hT
    have emo : (segL m c.m (c.m + c.mn)) = [] := by
      refine Classical.byContradiction fun ne => ?_
      obtain ⟨_, _, e, _⟩ := puts_none_ex (lines_ne ne (!last)) (by rw [lines_hd ne, ← seg_row m (by omega) (by omega) (by omega) 0 (List.length_pos_iff.2 ne)]; exact m_len _)
      rw [e] at hT; cases hT
    refine spec_intro (tab := tab) (N := 125) Tryd.func59 rfl rfl tab_ok mix rfl rfl _ rfl ?_
    intro B hG
    have s1 := seg_len m (i := c.m) (j := c.m + c.mn) (by omega) (by omega) (by omega)
    have s1b : ((c.m + c.mn) - c.m).toNat = 0 := by rw [← s1, emo]; rfl
    have c1 := linesN_con (fun k => m.getD (k + (c.m).toNat) []) (!last)
    repeat' (first | refine And.intro (by first | (show (_ : Bool) = true; kernel_rfl) | omega | (dsimp only; omega) | (simp only [ByteArray.size_append]; omega) | decide | (repeat' (first | refine And.intro ?_ ?_ | exact trivial | exact rfl))) ?_ | refine bcs_dec (fun h => ?_) (fun h => False.elim (by first | omega | exact h rfl)) | refine bcs_dec (fun h => False.elim (by omega)) (fun h => ?_) | refine bcs_dec (fun h => ?_) (fun h => ?_) | refine bcs_ndec (fun h => ?_) (fun h => ?_) | refine bcs_not ?_ | refine bcs_intro (fun h => ?_) (fun h => ?_) | refine And.intro ?_ ?_ | refine reg_tail (by kernel_rfl) ?_)
    refine call_rule [.at 0 0, .at 2 (c.m).toNat] (c1) hG ?_ ?_
    · (refine ⟨?_, ?_, rfl, rfl, rfl⟩ <;> repeat' (first | refine And.intro ?_ ?_ | exact trivial | exact rfl | refine lt0 | refine lt1 ?_ | refine lt2 ?_ ?_ | refine lt3 ?_ ?_ ?_ | refine lt4 ?_ ?_ ?_ ?_ | exact veq_refl _ | decide | (intro i hi; repeat' (first | refine And.intro ?_ ?_ | exact trivial | exact rfl))))
      all_goals first | exact Nat.le_refl _ | omega
    rintro _ _ _ ⟨rfl, rfl, rfl⟩
    repeat' (first | refine And.intro (by first | (show (_ : Bool) = true; kernel_rfl) | omega | (dsimp only; omega) | (simp only [ByteArray.size_append]; omega) | decide | (repeat' (first | refine And.intro ?_ ?_ | exact trivial | exact rfl))) ?_ | refine bcs_dec (fun h => ?_) (fun h => False.elim (by first | omega | exact h rfl)) | refine bcs_dec (fun h => False.elim (by omega)) (fun h => ?_) | refine bcs_dec (fun h => ?_) (fun h => ?_) | refine bcs_ndec (fun h => ?_) (fun h => ?_) | refine bcs_not ?_ | refine bcs_intro (fun h => ?_) (fun h => ?_) | refine And.intro ?_ ?_ | refine reg_tail (by kernel_rfl) ?_)
    refine ret_mem [] rfl rfl ?_ ?_
    · exact trivial
    · repeat' (first | refine And.intro ?_ ?_ | exact trivial)
      all_goals try first | exact rfl | exact veq_refl _
end Go.Proofs.YtlmjkphiicmclaaDoor
