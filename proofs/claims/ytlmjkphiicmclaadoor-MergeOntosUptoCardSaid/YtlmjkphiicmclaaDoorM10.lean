/- Chapter 18: the chunks of two scripts: the program's walked, where nothing is refused. Printed by gen_m10.py. -/
import Derived.Test.YtlmjkphiicmclaaDoorM9
import Derived.Test.YtlmjkphiicmclaaDoorM9b
namespace Go.Proofs.YtlmjkphiicmclaaDoor
open Go Go.RowKit Vc

set_option maxRecDepth 100000 in
set_option maxHeartbeats 64000000 in
theorem chunks_good (s t : List Chg) (b m y : List Byt) (hb : b.flatten.length ≤ 4194304) (hm : m.flatten.length ≤ 4194304) (hy : y.flatten.length ≤ 4194304) (hbl : b.length ≤ 4194304) (hml : m.length ≤ 4194304) (hyl : y.length ≤ 4194304)
    (vb : validB b = true) (vm : validB m = true) (vy : validB y = true) (hs : s.length ≤ 4194304) (ht : t.length ≤ 4194304) (hv : validE s b.length m.length = 0) (hw : validE t b.length y.length = 0)
    (h1 : staysF b m (pairsF (normF s) 0 0 b.length) = true) (h2 : staysF b y (pairsF (normF t) 0 0 b.length) = true) :
    Con Tryd.prog glob 29 [.s 0 0 s.length, .s 1 0 t.length, .s 2 0 b.length, .s 3 0 m.length, .s 4 0 y.length] [(0, chRo s), (1, chRo t), (2, stRo b), (3, stRo m), (4, stRo y)] 5 (retM (.t [.o 5, .v .nilIface]) [(5, ckOwn (chF b.length m y ((normF s).length + (normF t).length + 1) (normF s) (normF t) 0 0 0))] 6) := by
  have cb := lvalid_con b (by omega) (len_of hb); have cm := lvalid_con m (by omega) (len_of hm); have cy := lvalid_con y (by omega) (len_of hy); rw [vb] at cb; rw [vm] at cm; rw [vy] at cy
  have cN := normal_ok (n := b.length) (m := m.length) (by omega) hv
  have cM := normal_ok (n := b.length) (m := y.length) (by omega) hw
  have l1 : (normF s).length ≤ s.length := by
    have h := mergeF_len s []
    simpa using h
  have l2 : (normF t).length ≤ t.length := by
    have h := mergeF_len t []
    simpa using h
  have v1 := norm_validE hv
  have v2 := norm_validE hw
  have cS := stays_con (normF s) b m (by omega) v1
  have cT := stays_con (normF t) b y (by omega) v2
  obtain ⟨_, _, _, _, w1⟩ := valid_range v1
  obtain ⟨_, _, _, _, w2⟩ := valid_range v2
  obtain ⟨P, hP⟩ : ∃ P, P = normF s := ⟨_, rfl⟩
  obtain ⟨Q, hQ⟩ : ∃ Q, Q = normF t := ⟨_, rfl⟩
  rw [← hP] at cN cS h1 l1 w1 ⊢
  rw [← hQ] at cM cT h2 l2 w2 ⊢
  have x0 : atF b.length m.length (P.drop 0) 0 0 := ⟨w1, by omega, by omega, by omega, by omega⟩
  have y0 : atF b.length y.length (Q.drop 0) 0 0 := ⟨w2, by omega, by omega, by omega, by omega⟩
  obtain ⟨T, hT⟩ : ∃ T, T = chF b.length m y (P.length + Q.length + 1) P Q 0 0 0 := ⟨_, rfl⟩
  rw [← hT]
  rw [h1] at cS
  rw [h2] at cT
  clear hP hQ
  have pl : P.length ≤ 4194304 := Nat.le_trans l1 hs
  have ql : Q.length ≤ 4194304 := Nat.le_trans l2 ht
  refine spec_intro (tab := tab) (N := 184) Tryd.func29 rfl rfl tab_ok mix rfl rfl _ rfl ?_
  intro B hG
  repeat' (first | refine And.intro (by first | omega | (dsimp only; omega) | (show (_ : Bool) = true; kernel_rfl) | decide | (repeat' (first | refine And.intro ?_ ?_ | exact trivial | exact rfl))) ?_ | refine bcs_dec (fun h => ?_) (fun h => False.elim (by first | omega | exact h rfl)) | refine bcs_dec (fun h => False.elim (by omega)) (fun h => ?_) | refine bcs_dec (fun h => ?_) (fun h => ?_) | refine bcs_ndec (fun h => ?_) (fun h => ?_) | refine bcs_not ?_ | refine bcs_intro (fun h => ?_) (fun h => ?_) | refine And.intro ?_ ?_ | refine reg_tail (by kernel_rfl) ?_)
  refine call_rule [.at 2 0] (cb) hG ?_ ?_
  · (refine ⟨?_, ?_, rfl, rfl, rfl⟩ <;> repeat' (first | refine And.intro ?_ ?_ | exact trivial | exact rfl | refine lt0 | refine lt1 ?_ | refine lt2 ?_ ?_ | refine lt3 ?_ ?_ ?_ | refine lt4 ?_ ?_ ?_ ?_ | exact veq_refl _ | decide | (intro i hi; repeat' (first | refine And.intro ?_ ?_ | exact trivial | exact rfl))))
    all_goals first | exact Nat.le_refl _ | omega
  rintro _ _ _ ⟨rfl, rfl, rfl⟩
  repeat' (first | refine And.intro (by first | omega | (dsimp only; omega) | (show (_ : Bool) = true; kernel_rfl) | decide | (repeat' (first | refine And.intro ?_ ?_ | exact trivial | exact rfl))) ?_ | refine bcs_dec (fun h => ?_) (fun h => False.elim (by first | omega | exact h rfl)) | refine bcs_dec (fun h => False.elim (by omega)) (fun h => ?_) | refine bcs_dec (fun h => ?_) (fun h => ?_) | refine bcs_ndec (fun h => ?_) (fun h => ?_) | refine bcs_not ?_ | refine bcs_intro (fun h => ?_) (fun h => ?_) | refine And.intro ?_ ?_ | refine reg_tail (by kernel_rfl) ?_)
  refine call_rule [.at 3 0] (cm) hG ?_ ?_
  · (refine ⟨?_, ?_, rfl, rfl, rfl⟩ <;> repeat' (first | refine And.intro ?_ ?_ | exact trivial | exact rfl | refine lt0 | refine lt1 ?_ | refine lt2 ?_ ?_ | refine lt3 ?_ ?_ ?_ | refine lt4 ?_ ?_ ?_ ?_ | exact veq_refl _ | decide | (intro i hi; repeat' (first | refine And.intro ?_ ?_ | exact trivial | exact rfl))))
    all_goals first | exact Nat.le_refl _ | omega
  rintro _ _ _ ⟨rfl, rfl, rfl⟩
  repeat' (first | refine And.intro (by first | omega | (dsimp only; omega) | (show (_ : Bool) = true; kernel_rfl) | decide | (repeat' (first | refine And.intro ?_ ?_ | exact trivial | exact rfl))) ?_ | refine bcs_dec (fun h => ?_) (fun h => False.elim (by first | omega | exact h rfl)) | refine bcs_dec (fun h => False.elim (by omega)) (fun h => ?_) | refine bcs_dec (fun h => ?_) (fun h => ?_) | refine bcs_ndec (fun h => ?_) (fun h => ?_) | refine bcs_not ?_ | refine bcs_intro (fun h => ?_) (fun h => ?_) | refine And.intro ?_ ?_ | refine reg_tail (by kernel_rfl) ?_)
  refine call_rule [.at 4 0] (cy) hG ?_ ?_
  · (refine ⟨?_, ?_, rfl, rfl, rfl⟩ <;> repeat' (first | refine And.intro ?_ ?_ | exact trivial | exact rfl | refine lt0 | refine lt1 ?_ | refine lt2 ?_ ?_ | refine lt3 ?_ ?_ ?_ | refine lt4 ?_ ?_ ?_ ?_ | exact veq_refl _ | decide | (intro i hi; repeat' (first | refine And.intro ?_ ?_ | exact trivial | exact rfl))))
    all_goals first | exact Nat.le_refl _ | omega
  rintro _ _ _ ⟨rfl, rfl, rfl⟩
  repeat' (first | refine And.intro (by first | omega | (dsimp only; omega) | (show (_ : Bool) = true; kernel_rfl) | decide | (repeat' (first | refine And.intro ?_ ?_ | exact trivial | exact rfl))) ?_ | refine bcs_dec (fun h => ?_) (fun h => False.elim (by first | omega | exact h rfl)) | refine bcs_dec (fun h => False.elim (by omega)) (fun h => ?_) | refine bcs_dec (fun h => ?_) (fun h => ?_) | refine bcs_ndec (fun h => ?_) (fun h => ?_) | refine bcs_not ?_ | refine bcs_intro (fun h => ?_) (fun h => ?_) | refine And.intro ?_ ?_ | refine reg_tail (by kernel_rfl) ?_)
  refine call_rule [.at 0 0] (cN) hG ?_ ?_
  · (refine ⟨?_, ?_, rfl, rfl, rfl⟩ <;> repeat' (first | refine And.intro ?_ ?_ | exact trivial | exact rfl | refine lt0 | refine lt1 ?_ | refine lt2 ?_ ?_ | refine lt3 ?_ ?_ ?_ | refine lt4 ?_ ?_ ?_ ?_ | exact veq_refl _ | decide | (intro i hi; repeat' (first | refine And.intro ?_ ?_ | exact trivial | exact rfl))))
    all_goals first | exact Nat.le_refl _ | omega
  rintro _ _ _ ⟨rfl, rfl, rfl⟩
  repeat' (first | refine And.intro (by first | omega | (dsimp only; omega) | (show (_ : Bool) = true; kernel_rfl) | decide | (repeat' (first | refine And.intro ?_ ?_ | exact trivial | exact rfl))) ?_ | refine bcs_dec (fun h => ?_) (fun h => False.elim (by first | omega | exact h rfl)) | refine bcs_dec (fun h => False.elim (by omega)) (fun h => ?_) | refine bcs_dec (fun h => ?_) (fun h => ?_) | refine bcs_ndec (fun h => ?_) (fun h => ?_) | refine bcs_not ?_ | refine bcs_intro (fun h => ?_) (fun h => ?_) | refine And.intro ?_ ?_ | refine reg_tail (by kernel_rfl) ?_)
  refine call_rule [.at 1 0] (cM) hG ?_ ?_
  · (refine ⟨?_, ?_, rfl, rfl, rfl⟩ <;> repeat' (first | refine And.intro ?_ ?_ | exact trivial | exact rfl | refine lt0 | refine lt1 ?_ | refine lt2 ?_ ?_ | refine lt3 ?_ ?_ ?_ | refine lt4 ?_ ?_ ?_ ?_ | exact veq_refl _ | decide | (intro i hi; repeat' (first | refine And.intro ?_ ?_ | exact trivial | exact rfl))))
    all_goals first | exact Nat.le_refl _ | omega
  rintro _ _ _ ⟨rfl, rfl, rfl⟩
  repeat' (first | refine And.intro (by first | omega | (dsimp only; omega) | (show (_ : Bool) = true; kernel_rfl) | decide | (repeat' (first | refine And.intro ?_ ?_ | exact trivial | exact rfl))) ?_ | refine bcs_dec (fun h => ?_) (fun h => False.elim (by first | omega | exact h rfl)) | refine bcs_dec (fun h => False.elim (by omega)) (fun h => ?_) | refine bcs_dec (fun h => ?_) (fun h => ?_) | refine bcs_ndec (fun h => ?_) (fun h => ?_) | refine bcs_not ?_ | refine bcs_intro (fun h => ?_) (fun h => ?_) | refine And.intro ?_ ?_ | refine reg_tail (by kernel_rfl) ?_)
  refine call_rule [.at 5 0, .at 2 0, .at 3 0] (cS) hG ?_ ?_
  · (refine ⟨?_, ?_, rfl, rfl, rfl⟩ <;> repeat' (first | refine And.intro ?_ ?_ | exact trivial | exact rfl | refine lt0 | refine lt1 ?_ | refine lt2 ?_ ?_ | refine lt3 ?_ ?_ ?_ | refine lt4 ?_ ?_ ?_ ?_ | exact veq_refl _ | decide | (intro i hi; repeat' (first | refine And.intro ?_ ?_ | exact trivial | exact rfl))))
    all_goals first | exact Nat.le_refl _ | omega
  rintro _ _ _ ⟨rfl, rfl, rfl⟩
  repeat' (first | refine And.intro (by first | omega | (dsimp only; omega) | (show (_ : Bool) = true; kernel_rfl) | decide | (repeat' (first | refine And.intro ?_ ?_ | exact trivial | exact rfl))) ?_ | refine bcs_dec (fun h => ?_) (fun h => False.elim (by first | omega | exact h rfl)) | refine bcs_dec (fun h => False.elim (by omega)) (fun h => ?_) | refine bcs_dec (fun h => ?_) (fun h => ?_) | refine bcs_ndec (fun h => ?_) (fun h => ?_) | refine bcs_not ?_ | refine bcs_intro (fun h => ?_) (fun h => ?_) | refine And.intro ?_ ?_ | refine reg_tail (by kernel_rfl) ?_)
  refine call_rule [.at 6 0, .at 2 0, .at 4 0] (cT) hG ?_ ?_
  · (refine ⟨?_, ?_, rfl, rfl, rfl⟩ <;> repeat' (first | refine And.intro ?_ ?_ | exact trivial | exact rfl | refine lt0 | refine lt1 ?_ | refine lt2 ?_ ?_ | refine lt3 ?_ ?_ ?_ | refine lt4 ?_ ?_ ?_ ?_ | exact veq_refl _ | decide | (intro i hi; repeat' (first | refine And.intro ?_ ?_ | exact trivial | exact rfl))))
    all_goals first | exact Nat.le_refl _ | omega
  rintro _ _ _ ⟨rfl, rfl, rfl⟩
  repeat' (first | refine And.intro (by first | omega | (dsimp only; omega) | (show (_ : Bool) = true; kernel_rfl) | decide | (repeat' (first | refine And.intro ?_ ?_ | exact trivial | exact rfl))) ?_ | refine bcs_dec (fun h => ?_) (fun h => False.elim (by first | omega | exact h rfl)) | refine bcs_dec (fun h => False.elim (by omega)) (fun h => ?_) | refine bcs_dec (fun h => ?_) (fun h => ?_) | refine bcs_ndec (fun h => ?_) (fun h => ?_) | refine bcs_not ?_ | refine bcs_intro (fun h => ?_) (fun h => ?_) | refine And.intro ?_ ?_ | refine reg_tail (by kernel_rfl) ?_)
  refine loop_rule (α := Nat × Nat × Int × Int × Int × List Chk) (fun (i, j, z, xm, ym, out) => oSt P Q b m y i j z xm ym out)
    (fun (i, j, z, xm, ym, out) => i ≤ P.length ∧ j ≤ Q.length ∧ (∃ k, P.length - i + (Q.length - j) < k ∧ out ++ chF b.length m y k (P.drop i) (Q.drop j) z xm ym = T) ∧ atF b.length m.length (P.drop i) z xm ∧ atF b.length y.length (Q.drop j) z ym ∧ out.length ≤ 2 * (i + j))
    (fun (i, j, _) => P.length - i + (Q.length - j)) (0, 0, 0, 0, 0, []) [.at 5 0, .at 6 0, .at 7 0, .at 8 0, .at 9 0, .at 10 0, .at 11 0, .at 12 0, .nil 7] ?_ ?_ ?_
  · exact ⟨Nat.zero_le _, Nat.zero_le _, ⟨P.length + Q.length + 1, by omega, by rw [List.nil_append, List.drop_zero, List.drop_zero]; exact hT.symm⟩, x0, y0, by simp⟩
  · (refine ⟨rfl, rfl, ?_, ?_⟩ <;> repeat' (first | refine And.intro ?_ ?_ | exact trivial | exact rfl | refine lt0 | refine lt1 ?_ | refine lt2 ?_ ?_ | refine lt3 ?_ ?_ ?_ | refine lt4 ?_ ?_ ?_ ?_ | exact veq_refl _ | decide | (intro i hi; repeat' (first | refine And.intro ?_ ?_ | exact trivial | exact rfl))))
    all_goals first | exact Nat.le_refl _ | omega | exact veq_refl _ | skip
  rintro ⟨i, j, z, xm, ym, out⟩ ⟨c1, c2, ⟨k0, c3, hT⟩, hx, hy', c4⟩
  clear cb cm cy cN cM cS cT v1 v2 l1 l2 x0 y0 w1 w2 hs ht hv hw h1 h2 vb vm vy hb hm hy
  obtain ⟨k, rfl⟩ : ∃ k, k0 = k + 1 := ⟨k0 - 1, by omega⟩
  have cX := next_con P i xm b.length c1
  have cY := next_con Q j ym b.length c2
  have ex := next_nxt P i b.length
  have ey := next_nxt Q j b.length
  obtain ⟨fx, hfx⟩ : ∃ fx, fx = nextF P i b.length := ⟨_, rfl⟩
  obtain ⟨fy, hfy⟩ : ∃ fy, fy = nextF Q j b.length := ⟨_, rfl⟩
  rw [← hfx] at cX ex
  rw [← hfy] at cY ey
  have r1 := nxt_range hx
  have r2 := nxt_range hy'
  have hin := gIn_new hx hy'
  rw [← ex] at r1
  rw [← ey] at r2
  rw [← ex, ← ey] at hin
  have hx' := hx
  have hy2 := hy'
  obtain ⟨_, q1, q2, q3, q4⟩ := hx'
  obtain ⟨_, _, q5, _, q6⟩ := hy2
  have lx : (P.drop i).length = P.length - i := List.length_drop
  have ly : (Q.drop j).length = Q.length - j := List.length_drop
  have cC := add_con P Q out i (P.length - i) j (Q.length - j) 1 (min fx fy) xm ym z xm ym (by omega) (by unfold smallI; omega) (by unfold smallI; omega) (by unfold smallI; omega) (by unfold smallI; omega) (by unfold smallI; omega) (by unfold smallI; omega)
  by_cases hd0 : (P.drop i).length = 0 ∧ (Q.drop j).length = 0
  · rw [chF_done (f := min fx fy) hd0 (by rw [ex, ey])] at hT
    rw [lx, ly] at hd0
    by_cases hc : min fx fy > z
    · unfold calF at hT
      rw [if_pos hc] at hT
      repeat' (first | refine Both.mk ?_ ?_ | refine And.intro (by first | omega | (dsimp only; omega) | (show (_ : Bool) = true; kernel_rfl) | decide | (repeat' (first | refine And.intro ?_ ?_ | exact trivial | exact rfl))) ?_ | refine bcs_dec (fun h => ?_) (fun h => False.elim (by first | omega | exact h rfl)) | refine bcs_dec (fun h => False.elim (by omega)) (fun h => ?_) | refine bcs_dec (fun h => ?_) (fun h => ?_) | refine bcs_ndec (fun h => ?_) (fun h => ?_) | refine bcs_not ?_ | refine And.intro ?_ ?_)
      refine reg_ord [9, 10] (.early 0 (.early 1 (.early 4 (.early 5 (.fork 2 (.fork 3 (.late 6 (.late 7 (.late 8 (.late 9 .nil)))) 6 (.late 3 (.late 7 (.late 8 (.late 9 .nil))))) 6 (.late 2 (.late 3 (.late 7 (.late 8 (.late 9 .nil)))))))))) (by decide +kernel) rfl ?_
      intro B' hB'
      have hG' := hG
      have hG := hB'.trans hG
      repeat' (first | refine Both.mk ?_ ?_ | refine And.intro (by first | omega | (dsimp only; omega) | (show (_ : Bool) = true; kernel_rfl) | decide | (repeat' (first | refine And.intro ?_ ?_ | exact trivial | exact rfl))) ?_ | refine bcs_dec (fun h => ?_) (fun h => False.elim (by first | omega | exact h rfl)) | refine bcs_dec (fun h => False.elim (by omega)) (fun h => ?_) | refine bcs_dec (fun h => ?_) (fun h => ?_) | refine bcs_ndec (fun h => ?_) (fun h => ?_) | refine bcs_not ?_ | refine And.intro ?_ ?_)
      all_goals
        skip
        refine call_rule [.at 7 0, .at 5 0] (cX) hG ?_ ?_
        · (refine ⟨?_, ?_, rfl, rfl, rfl⟩ <;> repeat' (first | refine And.intro ?_ ?_ | exact trivial | exact rfl | refine lt0 | refine lt1 ?_ | refine lt2 ?_ ?_ | refine lt3 ?_ ?_ ?_ | refine lt4 ?_ ?_ ?_ ?_ | exact veq_refl _ | decide | (intro i hi; repeat' (first | refine And.intro ?_ ?_ | exact trivial | exact rfl))))
          all_goals first | exact Nat.le_refl _ | omega
        rintro _ _ _ ⟨rfl, rfl, rfl⟩
        repeat' (first | refine Both.mk ?_ ?_ | refine And.intro (by first | omega | (dsimp only; omega) | (show (_ : Bool) = true; kernel_rfl) | decide | (repeat' (first | refine And.intro ?_ ?_ | exact trivial | exact rfl))) ?_ | refine bcs_dec (fun h => ?_) (fun h => False.elim (by first | omega | exact h rfl)) | refine bcs_dec (fun h => False.elim (by omega)) (fun h => ?_) | refine bcs_dec (fun h => ?_) (fun h => ?_) | refine bcs_ndec (fun h => ?_) (fun h => ?_) | refine bcs_not ?_ | refine And.intro ?_ ?_)
      all_goals
        skip
        refine call_rule [.at 8 0, .at 6 0] (cY) hG ?_ ?_
        · (refine ⟨?_, ?_, rfl, rfl, rfl⟩ <;> repeat' (first | refine And.intro ?_ ?_ | exact trivial | exact rfl | refine lt0 | refine lt1 ?_ | refine lt2 ?_ ?_ | refine lt3 ?_ ?_ ?_ | refine lt4 ?_ ?_ ?_ ?_ | exact veq_refl _ | decide | (intro i hi; repeat' (first | refine And.intro ?_ ?_ | exact trivial | exact rfl))))
          all_goals first | exact Nat.le_refl _ | omega
        rintro _ _ _ ⟨rfl, rfl, rfl⟩
        repeat' (first | refine And.intro (by first | omega | (dsimp only; omega) | (show (_ : Bool) = true; kernel_rfl) | decide | (repeat' (first | refine And.intro ?_ ?_ | exact trivial | exact rfl))) ?_ | refine bcs_dec (fun h => ?_) (fun h => False.elim (by first | omega | exact h rfl)) | refine bcs_dec (fun h => False.elim (by omega)) (fun h => ?_) | refine bcs_dec (fun h => ?_) (fun h => ?_) | refine bcs_ndec (fun h => ?_) (fun h => ?_) | refine bcs_not ?_ | refine bcs_intro (fun h => ?_) (fun h => ?_) | refine And.intro ?_ ?_ | refine reg_tail (by kernel_rfl) ?_)
      all_goals have hG := hG'
      all_goals
        skip
        refine call_rule [.at 11 0, .at 12 0, .at 9 0, .at 10 0, .at 13 0, .at 7 0, .at 8 0, .at 5 0, .at 6 0] (cC) hG ?_ ?_
        · (refine ⟨?_, ?_, rfl, rfl, rfl⟩ <;> repeat' (first | refine And.intro ?_ ?_ | exact trivial | exact rfl | refine lt0 | refine lt1 ?_ | refine lt2 ?_ ?_ | refine lt3 ?_ ?_ ?_ | refine lt4 ?_ ?_ ?_ ?_ | exact veq_refl _ | decide | (intro i hi; repeat' (first | refine And.intro ?_ ?_ | exact trivial | exact rfl))))
          all_goals first | exact Nat.le_refl _ | omega
        rintro _ _ _ ⟨rfl, rfl, rfl⟩
        repeat' (first | refine And.intro (by first | omega | (dsimp only; omega) | (show (_ : Bool) = true; kernel_rfl) | decide | (repeat' (first | refine And.intro ?_ ?_ | exact trivial | exact rfl))) ?_ | refine bcs_dec (fun h => ?_) (fun h => False.elim (by first | omega | exact h rfl)) | refine bcs_dec (fun h => False.elim (by omega)) (fun h => ?_) | refine bcs_dec (fun h => ?_) (fun h => ?_) | refine bcs_ndec (fun h => ?_) (fun h => ?_) | refine bcs_not ?_ | refine bcs_intro (fun h => ?_) (fun h => ?_) | refine And.intro ?_ ?_ | refine reg_tail (by kernel_rfl) ?_)
        rw [← hT]
        refine ret_mem [.at 14 0] rfl rfl ?_ ?_
        · repeat' (first | refine And.intro ?_ ?_ | exact trivial)
          all_goals exact rfl
        · repeat' (first | refine And.intro ?_ ?_ | exact trivial)
          all_goals try first | exact rfl | exact veq_refl _ | omega
          all_goals
            intro i hi
            repeat' (first | refine And.intro ?_ ?_ | exact trivial)
            all_goals exact rfl
    · unfold calF at hT
      rw [if_neg hc, List.append_nil] at hT
      rw [← hT]
      repeat' (first | refine Both.mk ?_ ?_ | refine And.intro (by first | omega | (dsimp only; omega) | (show (_ : Bool) = true; kernel_rfl) | decide | (repeat' (first | refine And.intro ?_ ?_ | exact trivial | exact rfl))) ?_ | refine bcs_dec (fun h => ?_) (fun h => False.elim (by first | omega | exact h rfl)) | refine bcs_dec (fun h => False.elim (by omega)) (fun h => ?_) | refine bcs_dec (fun h => ?_) (fun h => ?_) | refine bcs_ndec (fun h => ?_) (fun h => ?_) | refine bcs_not ?_ | refine And.intro ?_ ?_)
      refine reg_ord [9, 10] (.early 0 (.early 1 (.early 4 (.early 5 (.fork 2 (.fork 3 (.late 6 (.late 7 (.late 8 (.late 9 .nil)))) 6 (.late 3 (.late 7 (.late 8 (.late 9 .nil))))) 6 (.late 2 (.late 3 (.late 7 (.late 8 (.late 9 .nil)))))))))) (by decide +kernel) rfl ?_
      intro B' hB'
      have hG' := hG
      have hG := hB'.trans hG
      repeat' (first | refine Both.mk ?_ ?_ | refine And.intro (by first | omega | (dsimp only; omega) | (show (_ : Bool) = true; kernel_rfl) | decide | (repeat' (first | refine And.intro ?_ ?_ | exact trivial | exact rfl))) ?_ | refine bcs_dec (fun h => ?_) (fun h => False.elim (by first | omega | exact h rfl)) | refine bcs_dec (fun h => False.elim (by omega)) (fun h => ?_) | refine bcs_dec (fun h => ?_) (fun h => ?_) | refine bcs_ndec (fun h => ?_) (fun h => ?_) | refine bcs_not ?_ | refine And.intro ?_ ?_)
      all_goals
        skip
        refine call_rule [.at 7 0, .at 5 0] (cX) hG ?_ ?_
        · (refine ⟨?_, ?_, rfl, rfl, rfl⟩ <;> repeat' (first | refine And.intro ?_ ?_ | exact trivial | exact rfl | refine lt0 | refine lt1 ?_ | refine lt2 ?_ ?_ | refine lt3 ?_ ?_ ?_ | refine lt4 ?_ ?_ ?_ ?_ | exact veq_refl _ | decide | (intro i hi; repeat' (first | refine And.intro ?_ ?_ | exact trivial | exact rfl))))
          all_goals first | exact Nat.le_refl _ | omega
        rintro _ _ _ ⟨rfl, rfl, rfl⟩
        repeat' (first | refine Both.mk ?_ ?_ | refine And.intro (by first | omega | (dsimp only; omega) | (show (_ : Bool) = true; kernel_rfl) | decide | (repeat' (first | refine And.intro ?_ ?_ | exact trivial | exact rfl))) ?_ | refine bcs_dec (fun h => ?_) (fun h => False.elim (by first | omega | exact h rfl)) | refine bcs_dec (fun h => False.elim (by omega)) (fun h => ?_) | refine bcs_dec (fun h => ?_) (fun h => ?_) | refine bcs_ndec (fun h => ?_) (fun h => ?_) | refine bcs_not ?_ | refine And.intro ?_ ?_)
      all_goals
        skip
        refine call_rule [.at 8 0, .at 6 0] (cY) hG ?_ ?_
        · (refine ⟨?_, ?_, rfl, rfl, rfl⟩ <;> repeat' (first | refine And.intro ?_ ?_ | exact trivial | exact rfl | refine lt0 | refine lt1 ?_ | refine lt2 ?_ ?_ | refine lt3 ?_ ?_ ?_ | refine lt4 ?_ ?_ ?_ ?_ | exact veq_refl _ | decide | (intro i hi; repeat' (first | refine And.intro ?_ ?_ | exact trivial | exact rfl))))
          all_goals first | exact Nat.le_refl _ | omega
        rintro _ _ _ ⟨rfl, rfl, rfl⟩
        repeat' (first | refine And.intro (by first | omega | (dsimp only; omega) | (show (_ : Bool) = true; kernel_rfl) | decide | (repeat' (first | refine And.intro ?_ ?_ | exact trivial | exact rfl))) ?_ | refine bcs_dec (fun h => ?_) (fun h => False.elim (by first | omega | exact h rfl)) | refine bcs_dec (fun h => False.elim (by omega)) (fun h => ?_) | refine bcs_dec (fun h => ?_) (fun h => ?_) | refine bcs_ndec (fun h => ?_) (fun h => ?_) | refine bcs_not ?_ | refine bcs_intro (fun h => ?_) (fun h => ?_) | refine And.intro ?_ ?_ | refine reg_tail (by kernel_rfl) ?_)
      all_goals have hG := hG'
      all_goals
        skip
        refine ret_mem [.at 13 0] rfl rfl ?_ ?_
        · repeat' (first | refine And.intro ?_ ?_ | exact trivial)
          all_goals exact rfl
        · repeat' (first | refine And.intro ?_ ?_ | exact trivial)
          all_goals try first | exact rfl | exact veq_refl _ | omega
          all_goals
            intro i hi
            repeat' (first | refine And.intro ?_ ?_ | exact trivial)
            all_goals exact rfl
  · have hless := gth_less (mx := xm) (my := ym) (le_of_at hx) (le_of_at hy') hd0
    rw [← ex, ← ey] at hless
    obtain ⟨G, hGr⟩ : ∃ G, G = gth ((P.drop i).length + (Q.drop j).length) ⟨P.drop i, Q.drop j, min fx fy, xm, ym⟩ := ⟨_, rfl⟩
    rw [← hGr] at hless
    rw [chF_more (f := min fx fy) hd0 (by rw [ex, ey]) hGr.symm, ← List.append_assoc] at hT
    rw [lx, ly] at hd0 hGr
    apply use_rest (C := fun (i' j' : Nat) (tw xm' ym' : Int) (o : List Chk) => i ≤ i' ∧ i' ≤ P.length ∧ j ≤ j' ∧ j' ≤ Q.length ∧ G = ⟨P.drop i', Q.drop j', tw, xm', ym'⟩ ∧ gIn b.length m.length y.length (min fx fy) xm ym G ∧ hd G.p G.tw = false ∧ hd G.q G.tw = false ∧ o = out ++ calF (min fx fy) z xm ym)
    · intro hrest
      by_cases hc : min fx fy > z
      · unfold calF at hrest
        rw [if_pos hc] at hrest
        obtain ⟨o, ho⟩ : ∃ o, o = out ++ [mkC 1 (min fx fy) xm ym z xm ym] := ⟨_, rfl⟩
        rw [← ho] at cC hrest
        repeat' (first | refine Both.mk ?_ ?_ | refine And.intro (by first | omega | (dsimp only; omega) | (show (_ : Bool) = true; kernel_rfl) | decide | (repeat' (first | refine And.intro ?_ ?_ | exact trivial | exact rfl))) ?_ | refine bcs_dec (fun h => ?_) (fun h => False.elim (by first | omega | exact h rfl)) | refine bcs_dec (fun h => False.elim (by omega)) (fun h => ?_) | refine bcs_dec (fun h => ?_) (fun h => ?_) | refine bcs_ndec (fun h => ?_) (fun h => ?_) | refine bcs_not ?_ | refine And.intro ?_ ?_)
        refine reg_ord [9, 10] (.early 0 (.early 1 (.early 4 (.early 5 (.fork 2 (.fork 3 (.late 6 (.late 7 (.late 8 (.late 9 .nil)))) 6 (.late 3 (.late 7 (.late 8 (.late 9 .nil))))) 6 (.late 2 (.late 3 (.late 7 (.late 8 (.late 9 .nil)))))))))) (by decide +kernel) rfl ?_
        intro B' hB'
        have hG' := hG
        have hG := hB'.trans hG
        repeat' (first | refine Both.mk ?_ ?_ | refine And.intro (by first | omega | (dsimp only; omega) | (show (_ : Bool) = true; kernel_rfl) | decide | (repeat' (first | refine And.intro ?_ ?_ | exact trivial | exact rfl))) ?_ | refine bcs_dec (fun h => ?_) (fun h => False.elim (by first | omega | exact h rfl)) | refine bcs_dec (fun h => False.elim (by omega)) (fun h => ?_) | refine bcs_dec (fun h => ?_) (fun h => ?_) | refine bcs_ndec (fun h => ?_) (fun h => ?_) | refine bcs_not ?_ | refine And.intro ?_ ?_)
        all_goals
          skip
          refine call_rule [.at 7 0, .at 5 0] (cX) hG ?_ ?_
          · (refine ⟨?_, ?_, rfl, rfl, rfl⟩ <;> repeat' (first | refine And.intro ?_ ?_ | exact trivial | exact rfl | refine lt0 | refine lt1 ?_ | refine lt2 ?_ ?_ | refine lt3 ?_ ?_ ?_ | refine lt4 ?_ ?_ ?_ ?_ | exact veq_refl _ | decide | (intro i hi; repeat' (first | refine And.intro ?_ ?_ | exact trivial | exact rfl))))
            all_goals first | exact Nat.le_refl _ | omega
          rintro _ _ _ ⟨rfl, rfl, rfl⟩
          repeat' (first | refine Both.mk ?_ ?_ | refine And.intro (by first | omega | (dsimp only; omega) | (show (_ : Bool) = true; kernel_rfl) | decide | (repeat' (first | refine And.intro ?_ ?_ | exact trivial | exact rfl))) ?_ | refine bcs_dec (fun h => ?_) (fun h => False.elim (by first | omega | exact h rfl)) | refine bcs_dec (fun h => False.elim (by omega)) (fun h => ?_) | refine bcs_dec (fun h => ?_) (fun h => ?_) | refine bcs_ndec (fun h => ?_) (fun h => ?_) | refine bcs_not ?_ | refine And.intro ?_ ?_)
        all_goals
          skip
          refine call_rule [.at 8 0, .at 6 0] (cY) hG ?_ ?_
          · (refine ⟨?_, ?_, rfl, rfl, rfl⟩ <;> repeat' (first | refine And.intro ?_ ?_ | exact trivial | exact rfl | refine lt0 | refine lt1 ?_ | refine lt2 ?_ ?_ | refine lt3 ?_ ?_ ?_ | refine lt4 ?_ ?_ ?_ ?_ | exact veq_refl _ | decide | (intro i hi; repeat' (first | refine And.intro ?_ ?_ | exact trivial | exact rfl))))
            all_goals first | exact Nat.le_refl _ | omega
          rintro _ _ _ ⟨rfl, rfl, rfl⟩
          repeat' (first | refine And.intro (by first | omega | (dsimp only; omega) | (show (_ : Bool) = true; kernel_rfl) | decide | (repeat' (first | refine And.intro ?_ ?_ | exact trivial | exact rfl))) ?_ | refine bcs_dec (fun h => ?_) (fun h => False.elim (by first | omega | exact h rfl)) | refine bcs_dec (fun h => False.elim (by omega)) (fun h => ?_) | refine bcs_dec (fun h => ?_) (fun h => ?_) | refine bcs_ndec (fun h => ?_) (fun h => ?_) | refine bcs_not ?_ | refine bcs_intro (fun h => ?_) (fun h => ?_) | refine And.intro ?_ ?_ | refine reg_tail (by kernel_rfl) ?_)
        all_goals have hG := hG'
        all_goals
          skip
          refine call_rule [.at 11 0, .at 12 0, .at 9 0, .at 10 0, .at 13 0, .at 7 0, .at 8 0, .at 5 0, .at 6 0] (cC) hG ?_ ?_
          · (refine ⟨?_, ?_, rfl, rfl, rfl⟩ <;> repeat' (first | refine And.intro ?_ ?_ | exact trivial | exact rfl | refine lt0 | refine lt1 ?_ | refine lt2 ?_ ?_ | refine lt3 ?_ ?_ ?_ | refine lt4 ?_ ?_ ?_ ?_ | exact veq_refl _ | decide | (intro i hi; repeat' (first | refine And.intro ?_ ?_ | exact trivial | exact rfl))))
            all_goals first | exact Nat.le_refl _ | omega
          rintro _ _ _ ⟨rfl, rfl, rfl⟩
          repeat' (first | refine And.intro (by first | omega | (dsimp only; omega) | (show (_ : Bool) = true; kernel_rfl) | decide | (repeat' (first | refine And.intro ?_ ?_ | exact trivial | exact rfl))) ?_ | refine bcs_dec (fun h => ?_) (fun h => False.elim (by first | omega | exact h rfl)) | refine bcs_dec (fun h => False.elim (by omega)) (fun h => ?_) | refine bcs_dec (fun h => ?_) (fun h => ?_) | refine bcs_ndec (fun h => ?_) (fun h => ?_) | refine bcs_not ?_ | refine bcs_intro (fun h => ?_) (fun h => ?_) | refine And.intro ?_ ?_ | refine reg_tail (by kernel_rfl) ?_)
          all_goals
            skip
            refine grp_loop P Q b m y (min fx fy) xm ym (min fx fy) o i j G B hG hbl hml hyl c1 c2 _ _ _ _ [.at 5 0, .at 6 0, .at 7 0, .at 8 0, .at 9 0, .at 10 0, .at 11 0, .at 12 0, .at 14 0] hGr.symm hin ?_ ?_
            · (refine ⟨rfl, rfl, ?_, ?_⟩ <;> repeat' (first | refine And.intro ?_ ?_ | exact trivial | exact rfl | refine lt0 | refine lt1 ?_ | refine lt2 ?_ ?_ | refine lt3 ?_ ?_ ?_ | refine lt4 ?_ ?_ ?_ ?_ | exact veq_refl _ | decide | (intro i hi; repeat' (first | refine And.intro ?_ ?_ | exact trivial | exact rfl))))
              all_goals first | exact Nat.le_refl _ | omega | exact veq_refl _ | (refine veq_of_eq (congrArg (Value.int .i64) ?_); omega) | skip
            · intro i' j' tw xm' ym' g1 g2 g3 g4 g5 g6 g7 g8
              exact hrest i' j' tw xm' ym' o ⟨g1, g2, g3, g4, g5, g6, g7, g8, rfl⟩
      · unfold calF at hrest
        rw [if_neg hc, List.append_nil] at hrest
        obtain ⟨o, ho⟩ : ∃ o, o = out := ⟨_, rfl⟩
        rw [← ho]
        repeat' (first | refine Both.mk ?_ ?_ | refine And.intro (by first | omega | (dsimp only; omega) | (show (_ : Bool) = true; kernel_rfl) | decide | (repeat' (first | refine And.intro ?_ ?_ | exact trivial | exact rfl))) ?_ | refine bcs_dec (fun h => ?_) (fun h => False.elim (by first | omega | exact h rfl)) | refine bcs_dec (fun h => False.elim (by omega)) (fun h => ?_) | refine bcs_dec (fun h => ?_) (fun h => ?_) | refine bcs_ndec (fun h => ?_) (fun h => ?_) | refine bcs_not ?_ | refine And.intro ?_ ?_)
        refine reg_ord [9, 10] (.early 0 (.early 1 (.early 4 (.early 5 (.fork 2 (.fork 3 (.late 6 (.late 7 (.late 8 (.late 9 .nil)))) 6 (.late 3 (.late 7 (.late 8 (.late 9 .nil))))) 6 (.late 2 (.late 3 (.late 7 (.late 8 (.late 9 .nil)))))))))) (by decide +kernel) rfl ?_
        intro B' hB'
        have hG' := hG
        have hG := hB'.trans hG
        repeat' (first | refine Both.mk ?_ ?_ | refine And.intro (by first | omega | (dsimp only; omega) | (show (_ : Bool) = true; kernel_rfl) | decide | (repeat' (first | refine And.intro ?_ ?_ | exact trivial | exact rfl))) ?_ | refine bcs_dec (fun h => ?_) (fun h => False.elim (by first | omega | exact h rfl)) | refine bcs_dec (fun h => False.elim (by omega)) (fun h => ?_) | refine bcs_dec (fun h => ?_) (fun h => ?_) | refine bcs_ndec (fun h => ?_) (fun h => ?_) | refine bcs_not ?_ | refine And.intro ?_ ?_)
        all_goals
          skip
          refine call_rule [.at 7 0, .at 5 0] (cX) hG ?_ ?_
          · (refine ⟨?_, ?_, rfl, rfl, rfl⟩ <;> repeat' (first | refine And.intro ?_ ?_ | exact trivial | exact rfl | refine lt0 | refine lt1 ?_ | refine lt2 ?_ ?_ | refine lt3 ?_ ?_ ?_ | refine lt4 ?_ ?_ ?_ ?_ | exact veq_refl _ | decide | (intro i hi; repeat' (first | refine And.intro ?_ ?_ | exact trivial | exact rfl))))
            all_goals first | exact Nat.le_refl _ | omega
          rintro _ _ _ ⟨rfl, rfl, rfl⟩
          repeat' (first | refine Both.mk ?_ ?_ | refine And.intro (by first | omega | (dsimp only; omega) | (show (_ : Bool) = true; kernel_rfl) | decide | (repeat' (first | refine And.intro ?_ ?_ | exact trivial | exact rfl))) ?_ | refine bcs_dec (fun h => ?_) (fun h => False.elim (by first | omega | exact h rfl)) | refine bcs_dec (fun h => False.elim (by omega)) (fun h => ?_) | refine bcs_dec (fun h => ?_) (fun h => ?_) | refine bcs_ndec (fun h => ?_) (fun h => ?_) | refine bcs_not ?_ | refine And.intro ?_ ?_)
        all_goals
          skip
          refine call_rule [.at 8 0, .at 6 0] (cY) hG ?_ ?_
          · (refine ⟨?_, ?_, rfl, rfl, rfl⟩ <;> repeat' (first | refine And.intro ?_ ?_ | exact trivial | exact rfl | refine lt0 | refine lt1 ?_ | refine lt2 ?_ ?_ | refine lt3 ?_ ?_ ?_ | refine lt4 ?_ ?_ ?_ ?_ | exact veq_refl _ | decide | (intro i hi; repeat' (first | refine And.intro ?_ ?_ | exact trivial | exact rfl))))
            all_goals first | exact Nat.le_refl _ | omega
          rintro _ _ _ ⟨rfl, rfl, rfl⟩
          repeat' (first | refine And.intro (by first | omega | (dsimp only; omega) | (show (_ : Bool) = true; kernel_rfl) | decide | (repeat' (first | refine And.intro ?_ ?_ | exact trivial | exact rfl))) ?_ | refine bcs_dec (fun h => ?_) (fun h => False.elim (by first | omega | exact h rfl)) | refine bcs_dec (fun h => False.elim (by omega)) (fun h => ?_) | refine bcs_dec (fun h => ?_) (fun h => ?_) | refine bcs_ndec (fun h => ?_) (fun h => ?_) | refine bcs_not ?_ | refine bcs_intro (fun h => ?_) (fun h => ?_) | refine And.intro ?_ ?_ | refine reg_tail (by kernel_rfl) ?_)
        all_goals have hG := hG'
        all_goals
          skip
          refine grp_loop P Q b m y (min fx fy) xm ym (min fx fy) o i j G B hG hbl hml hyl c1 c2 _ _ _ _ [.at 5 0, .at 6 0, .at 7 0, .at 8 0, .at 9 0, .at 10 0, .at 11 0, .at 12 0, .at 13 0] hGr.symm hin ?_ ?_
          · (refine ⟨rfl, rfl, ?_, ?_⟩ <;> repeat' (first | refine And.intro ?_ ?_ | exact trivial | exact rfl | refine lt0 | refine lt1 ?_ | refine lt2 ?_ ?_ | refine lt3 ?_ ?_ ?_ | refine lt4 ?_ ?_ ?_ ?_ | exact veq_refl _ | decide | (intro i hi; repeat' (first | refine And.intro ?_ ?_ | exact trivial | exact rfl))))
            all_goals first | exact Nat.le_refl _ | omega | exact veq_refl _ | (refine veq_of_eq (congrArg (Value.int .i64) ?_); omega) | skip
          · intro i' j' tw xm' ym' g1 g2 g3 g4 g5 g6 g7 g8
            exact hrest i' j' tw xm' ym' o ⟨g1, g2, g3, g4, g5, g6, g7, g8, ho⟩
    · intro i' j' tw xm' ym' o ⟨g1, g2, g3, g4, g5, g6, g7, g8, g9⟩
      obtain ⟨a1, a2, a3, a4, a5, a6⟩ := gIn_end g6 g7 g8
      rw [← g9] at hT
      have lo : o.length ≤ 2 * (i + j) + 1 := by
        rw [g9, List.length_append]
        unfold calF
        split
        · show out.length + 1 ≤ _; omega
        · show out.length + 0 ≤ _; omega
      subst g5
      dsimp only at hT hless a1 a2 a3 a4 a5 a6
      have lx' : (P.drop i').length = P.length - i' := List.length_drop
      have ly' : (Q.drop j').length = Q.length - j' := List.length_drop
      rw [lx, ly, lx', ly'] at hless
      have a1' := a1
      have a2' := a2
      obtain ⟨_, p1, p2, _, p4⟩ := a1'
      obtain ⟨_, _, p5, _, p6⟩ := a2'
      by_cases hj : j' = j
      · rw [show decide (j < j') = false by simp [hj]]
        have hi : i < i' := by omega
        rw [decide_eq_true hi]
        have cA := add_con P Q o i' (P.length - i') j' (Q.length - j') 2 tw xm ym (min fx fy) xm' ym' (by omega) (by unfold smallI; omega) (by unfold smallI; omega) (by unfold smallI; omega) (by unfold smallI; omega) (by unfold smallI; omega) (by unfold smallI; omega)
        repeat' (first | refine And.intro (by first | omega | (dsimp only; omega) | (show (_ : Bool) = true; kernel_rfl) | decide | (repeat' (first | refine And.intro ?_ ?_ | exact trivial | exact rfl))) ?_ | refine bcs_dec (fun h => ?_) (fun h => False.elim (by first | omega | exact h rfl)) | refine bcs_dec (fun h => False.elim (by omega)) (fun h => ?_) | refine bcs_dec (fun h => ?_) (fun h => ?_) | refine bcs_ndec (fun h => ?_) (fun h => ?_) | refine bcs_not ?_ | refine bcs_intro (fun h => ?_) (fun h => ?_) | refine And.intro ?_ ?_ | refine reg_tail (by kernel_rfl) ?_)
        refine call_rule [.at 11 0, .at 12 0, .at 9 0, .at 10 0, .at 13 0, .at 7 0, .at 8 0, .at 5 0, .at 6 0] (cA) hG ?_ ?_
        · (refine ⟨?_, ?_, rfl, rfl, rfl⟩ <;> repeat' (first | refine And.intro ?_ ?_ | exact trivial | exact rfl | refine lt0 | refine lt1 ?_ | refine lt2 ?_ ?_ | refine lt3 ?_ ?_ ?_ | refine lt4 ?_ ?_ ?_ ?_ | exact veq_refl _ | decide | (intro i hi; repeat' (first | refine And.intro ?_ ?_ | exact trivial | exact rfl))))
          all_goals first | exact Nat.le_refl _ | omega
        rintro _ _ _ ⟨rfl, rfl, rfl⟩
        repeat' (first | refine And.intro (by first | omega | (dsimp only; omega) | (show (_ : Bool) = true; kernel_rfl) | decide | (repeat' (first | refine And.intro ?_ ?_ | exact trivial | exact rfl))) ?_ | refine bcs_dec (fun h => ?_) (fun h => False.elim (by first | omega | exact h rfl)) | refine bcs_dec (fun h => False.elim (by omega)) (fun h => ?_) | refine bcs_dec (fun h => ?_) (fun h => ?_) | refine bcs_ndec (fun h => ?_) (fun h => ?_) | refine bcs_not ?_ | refine bcs_intro (fun h => ?_) (fun h => ?_) | refine And.intro ?_ ?_ | refine reg_tail (by kernel_rfl) ?_)
        refine ⟨(i', j', tw, xm', ym', o ++ [⟨2, min fx fy, min fx fy + xm, min fx fy + ym, tw - min fx fy, tw + xm' - min fx fy - xm, tw + ym' - min fx fy - ym⟩]), [.at 5 0, .at 6 0, .at 7 0, .at 8 0, .at 9 0, .at 10 0, .at 11 0, .at 12 0, .at 14 0], ?_, ?_, ?_⟩
        · refine ⟨g2, g4, ⟨k, ?_, ?_⟩, a1, a2, ?_⟩
          · omega
          · rw [List.append_assoc, List.singleton_append]
            rw [show kindC m y (P.drop i) (Q.drop j) (min fx fy) xm ym ⟨P.drop i', Q.drop j', tw, xm', ym'⟩ = 2 from if_pos (by rw [hj])] at hT
            exact hT
          · rw [List.length_append]
            show o.length + 1 ≤ _
            omega
        · show P.length - i' + (Q.length - j') < P.length - i + (Q.length - j)
          omega
        · (refine ⟨rfl, rfl, ?_, ?_⟩ <;> repeat' (first | refine And.intro ?_ ?_ | exact trivial | exact rfl | refine lt0 | refine lt1 ?_ | refine lt2 ?_ ?_ | refine lt3 ?_ ?_ ?_ | refine lt4 ?_ ?_ ?_ ?_ | exact veq_refl _ | decide | (intro i hi; repeat' (first | refine And.intro ?_ ?_ | exact trivial | exact rfl))))
          all_goals first | exact Nat.le_refl _ | omega | exact veq_refl _ | skip
      · rw [decide_eq_true (show j < j' by omega)]
        have hq : ¬ (Q.drop j').length = (Q.drop j).length := by rw [ly, ly']; omega
        by_cases hi : i' = i
        · rw [show decide (i < i') = false by simp [hi]]
          have cA := add_con P Q o i' (P.length - i') j' (Q.length - j') 3 tw xm ym (min fx fy) xm' ym' (by omega) (by unfold smallI; omega) (by unfold smallI; omega) (by unfold smallI; omega) (by unfold smallI; omega) (by unfold smallI; omega) (by unfold smallI; omega)
          repeat' (first | refine And.intro (by first | omega | (dsimp only; omega) | (show (_ : Bool) = true; kernel_rfl) | decide | (repeat' (first | refine And.intro ?_ ?_ | exact trivial | exact rfl))) ?_ | refine bcs_dec (fun h => ?_) (fun h => False.elim (by first | omega | exact h rfl)) | refine bcs_dec (fun h => False.elim (by omega)) (fun h => ?_) | refine bcs_dec (fun h => ?_) (fun h => ?_) | refine bcs_ndec (fun h => ?_) (fun h => ?_) | refine bcs_not ?_ | refine bcs_intro (fun h => ?_) (fun h => ?_) | refine And.intro ?_ ?_ | refine reg_tail (by kernel_rfl) ?_)
          refine call_rule [.at 11 0, .at 12 0, .at 9 0, .at 10 0, .at 13 0, .at 7 0, .at 8 0, .at 5 0, .at 6 0] (cA) hG ?_ ?_
          · (refine ⟨?_, ?_, rfl, rfl, rfl⟩ <;> repeat' (first | refine And.intro ?_ ?_ | exact trivial | exact rfl | refine lt0 | refine lt1 ?_ | refine lt2 ?_ ?_ | refine lt3 ?_ ?_ ?_ | refine lt4 ?_ ?_ ?_ ?_ | exact veq_refl _ | decide | (intro i hi; repeat' (first | refine And.intro ?_ ?_ | exact trivial | exact rfl))))
            all_goals first | exact Nat.le_refl _ | omega
          rintro _ _ _ ⟨rfl, rfl, rfl⟩
          repeat' (first | refine And.intro (by first | omega | (dsimp only; omega) | (show (_ : Bool) = true; kernel_rfl) | decide | (repeat' (first | refine And.intro ?_ ?_ | exact trivial | exact rfl))) ?_ | refine bcs_dec (fun h => ?_) (fun h => False.elim (by first | omega | exact h rfl)) | refine bcs_dec (fun h => False.elim (by omega)) (fun h => ?_) | refine bcs_dec (fun h => ?_) (fun h => ?_) | refine bcs_ndec (fun h => ?_) (fun h => ?_) | refine bcs_not ?_ | refine bcs_intro (fun h => ?_) (fun h => ?_) | refine And.intro ?_ ?_ | refine reg_tail (by kernel_rfl) ?_)
          refine ⟨(i', j', tw, xm', ym', o ++ [⟨3, min fx fy, min fx fy + xm, min fx fy + ym, tw - min fx fy, tw + xm' - min fx fy - xm, tw + ym' - min fx fy - ym⟩]), [.at 5 0, .at 6 0, .at 7 0, .at 8 0, .at 9 0, .at 10 0, .at 11 0, .at 12 0, .at 14 0], ?_, ?_, ?_⟩
          · refine ⟨g2, g4, ⟨k, ?_, ?_⟩, a1, a2, ?_⟩
            · omega
            · rw [List.append_assoc, List.singleton_append]
              rw [show kindC m y (P.drop i) (Q.drop j) (min fx fy) xm ym ⟨P.drop i', Q.drop j', tw, xm', ym'⟩ = 3 from by unfold kindC; rw [if_neg hq]; exact if_pos (by rw [hi])] at hT
              exact hT
            · rw [List.length_append]
              show o.length + 1 ≤ _
              omega
          · show P.length - i' + (Q.length - j') < P.length - i + (Q.length - j)
            omega
          · (refine ⟨rfl, rfl, ?_, ?_⟩ <;> repeat' (first | refine And.intro ?_ ?_ | exact trivial | exact rfl | refine lt0 | refine lt1 ?_ | refine lt2 ?_ ?_ | refine lt3 ?_ ?_ ?_ | refine lt4 ?_ ?_ ?_ ?_ | exact veq_refl _ | decide | (intro i hi; repeat' (first | refine And.intro ?_ ?_ | exact trivial | exact rfl))))
            all_goals first | exact Nat.le_refl _ | omega | exact veq_refl _ | skip
        · rw [decide_eq_true (show i < i' by omega)]
          have hp : ¬ (P.drop i').length = (P.drop i).length := by rw [lx, lx']; omega
          have s1 := seg_len m (show 0 ≤ min fx fy + xm by omega) (show min fx fy + xm ≤ tw + xm' by omega) (by omega)
          have s2 := seg_len y (show 0 ≤ min fx fy + ym by omega) (show min fx fy + ym ≤ tw + ym' by omega) (by omega)
          have cE := equalG_con (segL m (min fx fy + xm) (tw + xm')) (segL y (min fx fy + ym) (tw + ym')) (fun k => m.getD (k + (min fx fy + xm).toNat) []) (fun k => y.getD (k + (min fx fy + ym).toNat) []) (by omega)
            (seg_row m (by omega) (by omega) (by omega)) (seg_row y (by omega) (by omega) (by omega))
          rw [s1, s2] at cE
          by_cases hE : segL m (min fx fy + xm) (tw + xm') = segL y (min fx fy + ym) (tw + ym')
          · rw [decide_eq_true hE] at cE
            have cA := add_con P Q o i' (P.length - i') j' (Q.length - j') 4 tw xm ym (min fx fy) xm' ym' (by omega) (by unfold smallI; omega) (by unfold smallI; omega) (by unfold smallI; omega) (by unfold smallI; omega) (by unfold smallI; omega) (by unfold smallI; omega)
            repeat' (first | refine And.intro (by first | omega | (dsimp only; omega) | (show (_ : Bool) = true; kernel_rfl) | decide | (repeat' (first | refine And.intro ?_ ?_ | exact trivial | exact rfl))) ?_ | refine bcs_dec (fun h => ?_) (fun h => False.elim (by first | omega | exact h rfl)) | refine bcs_dec (fun h => False.elim (by omega)) (fun h => ?_) | refine bcs_dec (fun h => ?_) (fun h => ?_) | refine bcs_ndec (fun h => ?_) (fun h => ?_) | refine bcs_not ?_ | refine bcs_intro (fun h => ?_) (fun h => ?_) | refine And.intro ?_ ?_ | refine reg_tail (by kernel_rfl) ?_)
            refine call_rule [.at 3 (min fx fy + xm).toNat, .at 4 (min fx fy + ym).toNat] (cE) hG ?_ ?_
            · (refine ⟨?_, ?_, rfl, rfl, rfl⟩ <;> repeat' (first | refine And.intro ?_ ?_ | exact trivial | exact rfl | refine lt0 | refine lt1 ?_ | refine lt2 ?_ ?_ | refine lt3 ?_ ?_ ?_ | refine lt4 ?_ ?_ ?_ ?_ | exact veq_refl _ | decide | (intro i hi; repeat' (first | refine And.intro ?_ ?_ | exact trivial | exact rfl))))
              all_goals first | exact Nat.le_refl _ | omega
            rintro _ _ _ ⟨rfl, rfl, rfl⟩
            repeat' (first | refine And.intro (by first | omega | (dsimp only; omega) | (show (_ : Bool) = true; kernel_rfl) | decide | (repeat' (first | refine And.intro ?_ ?_ | exact trivial | exact rfl))) ?_ | refine bcs_dec (fun h => ?_) (fun h => False.elim (by first | omega | exact h rfl)) | refine bcs_dec (fun h => False.elim (by omega)) (fun h => ?_) | refine bcs_dec (fun h => ?_) (fun h => ?_) | refine bcs_ndec (fun h => ?_) (fun h => ?_) | refine bcs_not ?_ | refine bcs_intro (fun h => ?_) (fun h => ?_) | refine And.intro ?_ ?_ | refine reg_tail (by kernel_rfl) ?_)
            refine call_rule [.at 11 0, .at 12 0, .at 9 0, .at 10 0, .at 13 0, .at 7 0, .at 8 0, .at 5 0, .at 6 0] (cA) hG ?_ ?_
            · (refine ⟨?_, ?_, rfl, rfl, rfl⟩ <;> repeat' (first | refine And.intro ?_ ?_ | exact trivial | exact rfl | refine lt0 | refine lt1 ?_ | refine lt2 ?_ ?_ | refine lt3 ?_ ?_ ?_ | refine lt4 ?_ ?_ ?_ ?_ | exact veq_refl _ | decide | (intro i hi; repeat' (first | refine And.intro ?_ ?_ | exact trivial | exact rfl))))
              all_goals first | exact Nat.le_refl _ | omega
            rintro _ _ _ ⟨rfl, rfl, rfl⟩
            repeat' (first | refine And.intro (by first | omega | (dsimp only; omega) | (show (_ : Bool) = true; kernel_rfl) | decide | (repeat' (first | refine And.intro ?_ ?_ | exact trivial | exact rfl))) ?_ | refine bcs_dec (fun h => ?_) (fun h => False.elim (by first | omega | exact h rfl)) | refine bcs_dec (fun h => False.elim (by omega)) (fun h => ?_) | refine bcs_dec (fun h => ?_) (fun h => ?_) | refine bcs_ndec (fun h => ?_) (fun h => ?_) | refine bcs_not ?_ | refine bcs_intro (fun h => ?_) (fun h => ?_) | refine And.intro ?_ ?_ | refine reg_tail (by kernel_rfl) ?_)
            refine ⟨(i', j', tw, xm', ym', o ++ [⟨4, min fx fy, min fx fy + xm, min fx fy + ym, tw - min fx fy, tw + xm' - min fx fy - xm, tw + ym' - min fx fy - ym⟩]), [.at 5 0, .at 6 0, .at 7 0, .at 8 0, .at 9 0, .at 10 0, .at 11 0, .at 12 0, .at 14 0], ?_, ?_, ?_⟩
            · refine ⟨g2, g4, ⟨k, ?_, ?_⟩, a1, a2, ?_⟩
              · omega
              · rw [List.append_assoc, List.singleton_append]
                rw [show kindC m y (P.drop i) (Q.drop j) (min fx fy) xm ym ⟨P.drop i', Q.drop j', tw, xm', ym'⟩ = 4 from by unfold kindC; rw [if_neg hq, if_neg hp]; exact if_pos hE] at hT
                exact hT
              · rw [List.length_append]
                show o.length + 1 ≤ _
                omega
            · show P.length - i' + (Q.length - j') < P.length - i + (Q.length - j)
              omega
            · (refine ⟨rfl, rfl, ?_, ?_⟩ <;> repeat' (first | refine And.intro ?_ ?_ | exact trivial | exact rfl | refine lt0 | refine lt1 ?_ | refine lt2 ?_ ?_ | refine lt3 ?_ ?_ ?_ | refine lt4 ?_ ?_ ?_ ?_ | exact veq_refl _ | decide | (intro i hi; repeat' (first | refine And.intro ?_ ?_ | exact trivial | exact rfl))))
              all_goals first | exact Nat.le_refl _ | omega | exact veq_refl _ | skip
          · rw [decide_eq_false hE] at cE
            have cA := add_con P Q o i' (P.length - i') j' (Q.length - j') 5 tw xm ym (min fx fy) xm' ym' (by omega) (by unfold smallI; omega) (by unfold smallI; omega) (by unfold smallI; omega) (by unfold smallI; omega) (by unfold smallI; omega) (by unfold smallI; omega)
            repeat' (first | refine And.intro (by first | omega | (dsimp only; omega) | (show (_ : Bool) = true; kernel_rfl) | decide | (repeat' (first | refine And.intro ?_ ?_ | exact trivial | exact rfl))) ?_ | refine bcs_dec (fun h => ?_) (fun h => False.elim (by first | omega | exact h rfl)) | refine bcs_dec (fun h => False.elim (by omega)) (fun h => ?_) | refine bcs_dec (fun h => ?_) (fun h => ?_) | refine bcs_ndec (fun h => ?_) (fun h => ?_) | refine bcs_not ?_ | refine bcs_intro (fun h => ?_) (fun h => ?_) | refine And.intro ?_ ?_ | refine reg_tail (by kernel_rfl) ?_)
            refine call_rule [.at 3 (min fx fy + xm).toNat, .at 4 (min fx fy + ym).toNat] (cE) hG ?_ ?_
            · (refine ⟨?_, ?_, rfl, rfl, rfl⟩ <;> repeat' (first | refine And.intro ?_ ?_ | exact trivial | exact rfl | refine lt0 | refine lt1 ?_ | refine lt2 ?_ ?_ | refine lt3 ?_ ?_ ?_ | refine lt4 ?_ ?_ ?_ ?_ | exact veq_refl _ | decide | (intro i hi; repeat' (first | refine And.intro ?_ ?_ | exact trivial | exact rfl))))
              all_goals first | exact Nat.le_refl _ | omega
            rintro _ _ _ ⟨rfl, rfl, rfl⟩
            repeat' (first | refine And.intro (by first | omega | (dsimp only; omega) | (show (_ : Bool) = true; kernel_rfl) | decide | (repeat' (first | refine And.intro ?_ ?_ | exact trivial | exact rfl))) ?_ | refine bcs_dec (fun h => ?_) (fun h => False.elim (by first | omega | exact h rfl)) | refine bcs_dec (fun h => False.elim (by omega)) (fun h => ?_) | refine bcs_dec (fun h => ?_) (fun h => ?_) | refine bcs_ndec (fun h => ?_) (fun h => ?_) | refine bcs_not ?_ | refine bcs_intro (fun h => ?_) (fun h => ?_) | refine And.intro ?_ ?_ | refine reg_tail (by kernel_rfl) ?_)
            refine call_rule [.at 11 0, .at 12 0, .at 9 0, .at 10 0, .at 13 0, .at 7 0, .at 8 0, .at 5 0, .at 6 0] (cA) hG ?_ ?_
            · (refine ⟨?_, ?_, rfl, rfl, rfl⟩ <;> repeat' (first | refine And.intro ?_ ?_ | exact trivial | exact rfl | refine lt0 | refine lt1 ?_ | refine lt2 ?_ ?_ | refine lt3 ?_ ?_ ?_ | refine lt4 ?_ ?_ ?_ ?_ | exact veq_refl _ | decide | (intro i hi; repeat' (first | refine And.intro ?_ ?_ | exact trivial | exact rfl))))
              all_goals first | exact Nat.le_refl _ | omega
            rintro _ _ _ ⟨rfl, rfl, rfl⟩
            repeat' (first | refine And.intro (by first | omega | (dsimp only; omega) | (show (_ : Bool) = true; kernel_rfl) | decide | (repeat' (first | refine And.intro ?_ ?_ | exact trivial | exact rfl))) ?_ | refine bcs_dec (fun h => ?_) (fun h => False.elim (by first | omega | exact h rfl)) | refine bcs_dec (fun h => False.elim (by omega)) (fun h => ?_) | refine bcs_dec (fun h => ?_) (fun h => ?_) | refine bcs_ndec (fun h => ?_) (fun h => ?_) | refine bcs_not ?_ | refine bcs_intro (fun h => ?_) (fun h => ?_) | refine And.intro ?_ ?_ | refine reg_tail (by kernel_rfl) ?_)
            refine ⟨(i', j', tw, xm', ym', o ++ [⟨5, min fx fy, min fx fy + xm, min fx fy + ym, tw - min fx fy, tw + xm' - min fx fy - xm, tw + ym' - min fx fy - ym⟩]), [.at 5 0, .at 6 0, .at 7 0, .at 8 0, .at 9 0, .at 10 0, .at 11 0, .at 12 0, .at 14 0], ?_, ?_, ?_⟩
            · refine ⟨g2, g4, ⟨k, ?_, ?_⟩, a1, a2, ?_⟩
              · omega
              · rw [List.append_assoc, List.singleton_append]
                rw [show kindC m y (P.drop i) (Q.drop j) (min fx fy) xm ym ⟨P.drop i', Q.drop j', tw, xm', ym'⟩ = 5 from by unfold kindC; rw [if_neg hq, if_neg hp]; exact if_neg hE] at hT
                exact hT
              · rw [List.length_append]
                show o.length + 1 ≤ _
                omega
            · show P.length - i' + (Q.length - j') < P.length - i + (Q.length - j)
              omega
            · (refine ⟨rfl, rfl, ?_, ?_⟩ <;> repeat' (first | refine And.intro ?_ ?_ | exact trivial | exact rfl | refine lt0 | refine lt1 ?_ | refine lt2 ?_ ?_ | refine lt3 ?_ ?_ ?_ | refine lt4 ?_ ?_ ?_ ?_ | exact veq_refl _ | decide | (intro i hi; repeat' (first | refine And.intro ?_ ?_ | exact trivial | exact rfl))))
              all_goals first | exact Nat.le_refl _ | omega | exact veq_refl _ | skip
end Go.Proofs.YtlmjkphiicmclaaDoor
