/- Chapter 18: the chunks of two scripts: the document's walked, where nothing is refused. Printed by gen_m12.py. -/
import Derived.Test.YtlmjkphiicmclaaDoorM12b
import Derived.Test.YtlmjkphiicmclaaDoorM12c
namespace Go.Proofs.YtlmjkphiicmclaaDoor
open Go Go.RowKit Vc

theorem use_rest3 {α1 α2 α3 : Type} {C K : α1 → α2 → α3 → Prop} {g : Prop} (h1 : (∀ a b c, C a b c → K a b c) → g) (h2 : ∀ a b c, C a b c → K a b c) : g := h1 h2
theorem valid_small {n m : Int} : ∀ (L : List Chg) (a b : Int), 0 ≤ a → 0 ≤ b → n ≤ 4194304 → m ≤ 4194304 → validF L a b n m = 0 → ∀ c ∈ L, 0 ≤ c.N ∧ c.N ≤ 4194304 ∧ 0 ≤ c.M ∧ c.M ≤ 4194304
  | [], _, _, _, _, _, _, _ => fun c hc => by cases hc
  | d :: r, a, b, ha, hb, hn, hm, h => by
    obtain ⟨k1, k2⟩ := valid_cons h
    intro c hc
    unfold bad at k1
    rcases List.mem_cons.1 hc with rfl | hc
    · omega
    · exact valid_small r _ _ (by omega) (by omega) hn hm k2 c hc
set_option maxRecDepth 100000 in
set_option maxHeartbeats 64000000 in
theorem chunksR_good (s t : List Chg) (b m y : List Byt) (hb : b.flatten.length ≤ 4194304) (hm : m.flatten.length ≤ 4194304) (hy : y.flatten.length ≤ 4194304) (hbl : b.length ≤ 4194304) (hml : m.length ≤ 4194304) (hyl : y.length ≤ 4194304)
    (vb : validB b = true) (vm : validB m = true) (vy : validB y = true) (hs : s.length ≤ 4194304) (ht : t.length ≤ 4194304) (hv : validE s b.length m.length = 0) (hw : validE t b.length y.length = 0)
    (h1 : staysF b m (pairsF (normF s) 0 0 b.length) = true) (h2 : staysF b y (pairsF (normF t) 0 0 b.length) = true) :
    Con Tryd.prog glob 13 [.s 0 0 s.length, .s 1 0 t.length, .s 2 0 b.length, .s 3 0 m.length, .s 4 0 y.length] [(0, chRo s), (1, chRo t), (2, stRo b), (3, stRo m), (4, stRo y)] 5 (retM (.t [.o 5, .v (.int .i64 0)]) [(5, ckROwn (chF b.length m y ((normF s).length + (normF t).length + 1) (normF s) (normF t) 0 0 0))] 6) := by
  have cb := lrValid_con b (by omega) (len_of hb); have cm := lrValid_con m (by omega) (len_of hm); have cy := lrValid_con y (by omega) (len_of hy); rw [vb] at cb; rw [vm] at cm; rw [vy] at cy
  have cN := rNormal_good (n := b.length) (m := m.length) (by omega) hv
  have cM := rNormal_good (n := b.length) (m := y.length) (by omega) hw
  have l1 : (normF s).length ≤ s.length := by
    have h := mergeF_len s []
    simpa using h
  have l2 : (normF t).length ≤ t.length := by
    have h := mergeF_len t []
    simpa using h
  have v1 := norm_validE hv
  have v2 := norm_validE hw
  have cS := rStays_con (normF s) b m (by omega) v1
  have cT := rStays_con (normF t) b y (by omega) v2
  obtain ⟨_, _, _, _, w1⟩ := valid_range v1
  obtain ⟨_, _, _, _, w2⟩ := valid_range v2
  obtain ⟨P, hP⟩ : ∃ P, P = normF s := ⟨_, rfl⟩
  obtain ⟨Q, hQ⟩ : ∃ Q, Q = normF t := ⟨_, rfl⟩
  rw [← hP] at cN cS h1 l1 w1 ⊢
  rw [← hQ] at cM cT h2 l2 w2 ⊢
  have x0 : atF b.length m.length (P.drop 0) 0 (shiftF P 0) := ⟨w1, by omega, (by show (0 : Int) ≤ 0 + 0; decide), by omega, by show (0 : Int) + 0 ≤ _; omega⟩
  have y0 : atF b.length y.length (Q.drop 0) 0 (shiftF Q 0) := ⟨w2, by omega, (by show (0 : Int) ≤ 0 + 0; decide), by omega, by show (0 : Int) + 0 ≤ _; omega⟩
  obtain ⟨T, hT⟩ : ∃ T, T = chF b.length m y (P.length + Q.length + 1) P Q 0 0 0 := ⟨_, rfl⟩
  rw [← hT]
  rw [h1] at cS
  rw [h2] at cT
  clear hP hQ
  have pl : P.length ≤ 4194304 := Nat.le_trans l1 hs
  have ql : Q.length ≤ 4194304 := Nat.le_trans l2 ht
  have sP := valid_small P 0 0 (by omega) (by omega) (by omega) (by omega) w1
  have sQ := valid_small Q 0 0 (by omega) (by omega) (by omega) (by omega) w2
  refine spec_intro (tab := tab) (N := 295) Tryd.func13 rfl rfl tab_ok mix rfl rfl _ rfl ?_
  intro B hG
  repeat' (first | refine And.intro (by first | (show (_ : Bool) = true; kernel_rfl) | omega | (dsimp only; omega) | decide | (repeat' (first | refine And.intro ?_ ?_ | exact trivial | exact rfl))) ?_ | refine bcs_dec (fun h => ?_) (fun h => False.elim (by first | omega | exact h rfl)) | refine bcs_dec (fun h => False.elim (by omega)) (fun h => ?_) | refine bcs_dec (fun h => ?_) (fun h => ?_) | refine bcs_ndec (fun h => ?_) (fun h => ?_) | refine bcs_not ?_ | refine bcs_intro (fun h => ?_) (fun h => ?_) | refine And.intro ?_ ?_ | refine reg_tail (by kernel_rfl) ?_)
  refine call_rule [.at 2 0] (cb) hG ?_ ?_
  · (refine ⟨?_, ?_, rfl, rfl, rfl⟩ <;> repeat' (first | refine And.intro ?_ ?_ | exact trivial | exact rfl | refine lt0 | refine lt1 ?_ | refine lt2 ?_ ?_ | refine lt3 ?_ ?_ ?_ | refine lt4 ?_ ?_ ?_ ?_ | exact veq_refl _ | decide | (intro i hi; repeat' (first | refine And.intro ?_ ?_ | exact trivial | exact rfl))))
    all_goals first | exact Nat.le_refl _ | omega
  rintro _ _ _ ⟨rfl, rfl, rfl⟩
  repeat' (first | refine And.intro (by first | (show (_ : Bool) = true; kernel_rfl) | omega | (dsimp only; omega) | decide | (repeat' (first | refine And.intro ?_ ?_ | exact trivial | exact rfl))) ?_ | refine bcs_dec (fun h => ?_) (fun h => False.elim (by first | omega | exact h rfl)) | refine bcs_dec (fun h => False.elim (by omega)) (fun h => ?_) | refine bcs_dec (fun h => ?_) (fun h => ?_) | refine bcs_ndec (fun h => ?_) (fun h => ?_) | refine bcs_not ?_ | refine bcs_intro (fun h => ?_) (fun h => ?_) | refine And.intro ?_ ?_ | refine reg_tail (by kernel_rfl) ?_)
  refine call_rule [.at 3 0] (cm) hG ?_ ?_
  · (refine ⟨?_, ?_, rfl, rfl, rfl⟩ <;> repeat' (first | refine And.intro ?_ ?_ | exact trivial | exact rfl | refine lt0 | refine lt1 ?_ | refine lt2 ?_ ?_ | refine lt3 ?_ ?_ ?_ | refine lt4 ?_ ?_ ?_ ?_ | exact veq_refl _ | decide | (intro i hi; repeat' (first | refine And.intro ?_ ?_ | exact trivial | exact rfl))))
    all_goals first | exact Nat.le_refl _ | omega
  rintro _ _ _ ⟨rfl, rfl, rfl⟩
  repeat' (first | refine And.intro (by first | (show (_ : Bool) = true; kernel_rfl) | omega | (dsimp only; omega) | decide | (repeat' (first | refine And.intro ?_ ?_ | exact trivial | exact rfl))) ?_ | refine bcs_dec (fun h => ?_) (fun h => False.elim (by first | omega | exact h rfl)) | refine bcs_dec (fun h => False.elim (by omega)) (fun h => ?_) | refine bcs_dec (fun h => ?_) (fun h => ?_) | refine bcs_ndec (fun h => ?_) (fun h => ?_) | refine bcs_not ?_ | refine bcs_intro (fun h => ?_) (fun h => ?_) | refine And.intro ?_ ?_ | refine reg_tail (by kernel_rfl) ?_)
  refine call_rule [.at 4 0] (cy) hG ?_ ?_
  · (refine ⟨?_, ?_, rfl, rfl, rfl⟩ <;> repeat' (first | refine And.intro ?_ ?_ | exact trivial | exact rfl | refine lt0 | refine lt1 ?_ | refine lt2 ?_ ?_ | refine lt3 ?_ ?_ ?_ | refine lt4 ?_ ?_ ?_ ?_ | exact veq_refl _ | decide | (intro i hi; repeat' (first | refine And.intro ?_ ?_ | exact trivial | exact rfl))))
    all_goals first | exact Nat.le_refl _ | omega
  rintro _ _ _ ⟨rfl, rfl, rfl⟩
  repeat' (first | refine And.intro (by first | (show (_ : Bool) = true; kernel_rfl) | omega | (dsimp only; omega) | decide | (repeat' (first | refine And.intro ?_ ?_ | exact trivial | exact rfl))) ?_ | refine bcs_dec (fun h => ?_) (fun h => False.elim (by first | omega | exact h rfl)) | refine bcs_dec (fun h => False.elim (by omega)) (fun h => ?_) | refine bcs_dec (fun h => ?_) (fun h => ?_) | refine bcs_ndec (fun h => ?_) (fun h => ?_) | refine bcs_not ?_ | refine bcs_intro (fun h => ?_) (fun h => ?_) | refine And.intro ?_ ?_ | refine reg_tail (by kernel_rfl) ?_)
  refine call_rule [.at 0 0] (cN) hG ?_ ?_
  · (refine ⟨?_, ?_, rfl, rfl, rfl⟩ <;> repeat' (first | refine And.intro ?_ ?_ | exact trivial | exact rfl | refine lt0 | refine lt1 ?_ | refine lt2 ?_ ?_ | refine lt3 ?_ ?_ ?_ | refine lt4 ?_ ?_ ?_ ?_ | exact veq_refl _ | decide | (intro i hi; repeat' (first | refine And.intro ?_ ?_ | exact trivial | exact rfl))))
    all_goals first | exact Nat.le_refl _ | omega
  rintro _ _ _ ⟨rfl, rfl, rfl⟩
  repeat' (first | refine And.intro (by first | (show (_ : Bool) = true; kernel_rfl) | omega | (dsimp only; omega) | decide | (repeat' (first | refine And.intro ?_ ?_ | exact trivial | exact rfl))) ?_ | refine bcs_dec (fun h => ?_) (fun h => False.elim (by first | omega | exact h rfl)) | refine bcs_dec (fun h => False.elim (by omega)) (fun h => ?_) | refine bcs_dec (fun h => ?_) (fun h => ?_) | refine bcs_ndec (fun h => ?_) (fun h => ?_) | refine bcs_not ?_ | refine bcs_intro (fun h => ?_) (fun h => ?_) | refine And.intro ?_ ?_ | refine reg_tail (by kernel_rfl) ?_)
  refine call_rule [.at 1 0] (cM) hG ?_ ?_
  · (refine ⟨?_, ?_, rfl, rfl, rfl⟩ <;> repeat' (first | refine And.intro ?_ ?_ | exact trivial | exact rfl | refine lt0 | refine lt1 ?_ | refine lt2 ?_ ?_ | refine lt3 ?_ ?_ ?_ | refine lt4 ?_ ?_ ?_ ?_ | exact veq_refl _ | decide | (intro i hi; repeat' (first | refine And.intro ?_ ?_ | exact trivial | exact rfl))))
    all_goals first | exact Nat.le_refl _ | omega
  rintro _ _ _ ⟨rfl, rfl, rfl⟩
  repeat' (first | refine And.intro (by first | (show (_ : Bool) = true; kernel_rfl) | omega | (dsimp only; omega) | decide | (repeat' (first | refine And.intro ?_ ?_ | exact trivial | exact rfl))) ?_ | refine bcs_dec (fun h => ?_) (fun h => False.elim (by first | omega | exact h rfl)) | refine bcs_dec (fun h => False.elim (by omega)) (fun h => ?_) | refine bcs_dec (fun h => ?_) (fun h => ?_) | refine bcs_ndec (fun h => ?_) (fun h => ?_) | refine bcs_not ?_ | refine bcs_intro (fun h => ?_) (fun h => ?_) | refine And.intro ?_ ?_ | refine reg_tail (by kernel_rfl) ?_)
  refine call_rule [.at 5 0, .at 2 0, .at 3 0] (cS) hG ?_ ?_
  · (refine ⟨?_, ?_, rfl, rfl, rfl⟩ <;> repeat' (first | refine And.intro ?_ ?_ | exact trivial | exact rfl | refine lt0 | refine lt1 ?_ | refine lt2 ?_ ?_ | refine lt3 ?_ ?_ ?_ | refine lt4 ?_ ?_ ?_ ?_ | exact veq_refl _ | decide | (intro i hi; repeat' (first | refine And.intro ?_ ?_ | exact trivial | exact rfl))))
    all_goals first | exact Nat.le_refl _ | omega
  rintro _ _ _ ⟨rfl, rfl, rfl⟩
  repeat' (first | refine And.intro (by first | (show (_ : Bool) = true; kernel_rfl) | omega | (dsimp only; omega) | decide | (repeat' (first | refine And.intro ?_ ?_ | exact trivial | exact rfl))) ?_ | refine bcs_dec (fun h => ?_) (fun h => False.elim (by first | omega | exact h rfl)) | refine bcs_dec (fun h => False.elim (by omega)) (fun h => ?_) | refine bcs_dec (fun h => ?_) (fun h => ?_) | refine bcs_ndec (fun h => ?_) (fun h => ?_) | refine bcs_not ?_ | refine bcs_intro (fun h => ?_) (fun h => ?_) | refine And.intro ?_ ?_ | refine reg_tail (by kernel_rfl) ?_)
  refine call_rule [.at 6 0, .at 2 0, .at 4 0] (cT) hG ?_ ?_
  · (refine ⟨?_, ?_, rfl, rfl, rfl⟩ <;> repeat' (first | refine And.intro ?_ ?_ | exact trivial | exact rfl | refine lt0 | refine lt1 ?_ | refine lt2 ?_ ?_ | refine lt3 ?_ ?_ ?_ | refine lt4 ?_ ?_ ?_ ?_ | exact veq_refl _ | decide | (intro i hi; repeat' (first | refine And.intro ?_ ?_ | exact trivial | exact rfl))))
    all_goals first | exact Nat.le_refl _ | omega
  rintro _ _ _ ⟨rfl, rfl, rfl⟩
  repeat' (first | refine And.intro (by first | (show (_ : Bool) = true; kernel_rfl) | omega | (dsimp only; omega) | decide | (repeat' (first | refine And.intro ?_ ?_ | exact trivial | exact rfl))) ?_ | refine bcs_dec (fun h => ?_) (fun h => False.elim (by first | omega | exact h rfl)) | refine bcs_dec (fun h => False.elim (by omega)) (fun h => ?_) | refine bcs_dec (fun h => ?_) (fun h => ?_) | refine bcs_ndec (fun h => ?_) (fun h => ?_) | refine bcs_not ?_ | refine bcs_intro (fun h => ?_) (fun h => ?_) | refine And.intro ?_ ?_ | refine reg_tail (by kernel_rfl) ?_)
  refine loop_rule (α := Nat × Nat × Int × List Chk) (fun (i, j, z, out) => rSta P Q b m y i j z out)
    (fun (i, j, z, out) => i ≤ P.length ∧ j ≤ Q.length ∧ (∃ k, P.length - i + (Q.length - j) < k ∧ out ++ chF b.length m y k (P.drop i) (Q.drop j) z (shiftF P i) (shiftF Q j) = T) ∧ atF b.length m.length (P.drop i) z (shiftF P i) ∧ atF b.length y.length (Q.drop j) z (shiftF Q j) ∧ out.length ≤ 2 * (i + j))
    (fun (i, j, _) => P.length - i + (Q.length - j)) (0, 0, 0, []) [.at 5 0, .at 6 0, .nil 7] ?_ ?_ ?_
  · exact ⟨Nat.zero_le _, Nat.zero_le _, ⟨P.length + Q.length + 1, by omega, by rw [List.nil_append, List.drop_zero, List.drop_zero]; exact hT.symm⟩, x0, y0, by simp⟩
  · (refine ⟨rfl, rfl, ?_, ?_⟩ <;> repeat' (first | refine And.intro ?_ ?_ | exact trivial | exact rfl | refine lt0 | refine lt1 ?_ | refine lt2 ?_ ?_ | refine lt3 ?_ ?_ ?_ | refine lt4 ?_ ?_ ?_ ?_ | exact veq_refl _ | decide | (intro i hi; repeat' (first | refine And.intro ?_ ?_ | exact trivial | exact rfl))))
    all_goals first | exact Nat.le_refl _ | omega | exact veq_refl _ | skip
  rintro ⟨i, j, z, out⟩ ⟨c1, c2, ⟨k0, c3, hT⟩, hx, hy', c4⟩
  clear cb cm cy cN cM cS cT v1 v2 l1 l2 x0 y0 w1 w2 hs ht hv hw h1 h2 vb vm vy hb hm hy
  obtain ⟨k, rfl⟩ : ∃ k, k0 = k + 1 := ⟨k0 - 1, by omega⟩
  have ex := next_nxt P i b.length
  have ey := next_nxt Q j b.length
  have r1 := nxt_range hx
  have r2 := nxt_range hy'
  rw [← ex] at r1
  rw [← ey] at r2
  have hx' := hx
  have hy2 := hy'
  obtain ⟨_, q1, q2, q3, q4⟩ := hx'
  obtain ⟨_, _, q5, _, q6⟩ := hy2
  have lx : (P.drop i).length = P.length - i := List.length_drop
  have ly : (Q.drop j).length = Q.length - j := List.length_drop
  have cSx := shift_con P i c1 pl sP
  have cSy := shift_con Q j c2 ql sQ
  by_cases hd0 : (P.drop i).length = 0 ∧ (Q.drop j).length = 0
  · have n1 : nxt (P.drop i) (b.length : Int) = b.length := by rw [List.length_eq_zero_iff.1 hd0.1]; rfl
    have n2 : nxt (Q.drop j) (b.length : Int) = b.length := by rw [List.length_eq_zero_iff.1 hd0.2]; rfl
    rw [chF_done (f := b.length) hd0 (by rw [n1, n2]; omega)] at hT
    rw [lx, ly] at hd0
    by_cases hc : (b.length : Int) > z
    · unfold calF at hT
      rw [if_pos hc] at hT
      rw [show mkC 1 (b.length : Int) (shiftF P i) (shiftF Q j) z (shiftF P i) (shiftF Q j) = ⟨1, z, z + shiftF P i, z + shiftF Q j, (b.length : Int) - z, (b.length : Int) - z, (b.length : Int) - z⟩ by rw [Chk.mk.injEq]; exact ⟨rfl, rfl, rfl, rfl, rfl, by omega, by omega⟩] at hT
      repeat' (first | refine And.intro (by first | (show (_ : Bool) = true; kernel_rfl) | omega | (dsimp only; omega) | decide | (repeat' (first | refine And.intro ?_ ?_ | exact trivial | exact rfl))) ?_ | refine bcs_dec (fun h => ?_) (fun h => False.elim (by first | omega | exact h rfl)) | refine bcs_dec (fun h => False.elim (by omega)) (fun h => ?_) | refine bcs_dec (fun h => ?_) (fun h => ?_) | refine bcs_ndec (fun h => ?_) (fun h => ?_) | refine bcs_not ?_ | refine bcs_intro (fun h => ?_) (fun h => ?_) | refine And.intro ?_ ?_ | refine reg_tail (by kernel_rfl) ?_)
      refine call_rule [.at 5 0] (cSx) hG ?_ ?_
      · (refine ⟨?_, ?_, rfl, rfl, rfl⟩ <;> repeat' (first | refine And.intro ?_ ?_ | exact trivial | exact rfl | refine lt0 | refine lt1 ?_ | refine lt2 ?_ ?_ | refine lt3 ?_ ?_ ?_ | refine lt4 ?_ ?_ ?_ ?_ | exact veq_refl _ | decide | (intro i hi; repeat' (first | refine And.intro ?_ ?_ | exact trivial | exact rfl))))
        all_goals first | exact Nat.le_refl _ | omega
      rintro _ _ _ ⟨rfl, rfl, rfl⟩
      repeat' (first | refine And.intro (by first | (show (_ : Bool) = true; kernel_rfl) | omega | (dsimp only; omega) | decide | (repeat' (first | refine And.intro ?_ ?_ | exact trivial | exact rfl))) ?_ | refine bcs_dec (fun h => ?_) (fun h => False.elim (by first | omega | exact h rfl)) | refine bcs_dec (fun h => False.elim (by omega)) (fun h => ?_) | refine bcs_dec (fun h => ?_) (fun h => ?_) | refine bcs_ndec (fun h => ?_) (fun h => ?_) | refine bcs_not ?_ | refine bcs_intro (fun h => ?_) (fun h => ?_) | refine And.intro ?_ ?_ | refine reg_tail (by kernel_rfl) ?_)
      refine call_rule [.at 6 0] (cSy) hG ?_ ?_
      · (refine ⟨?_, ?_, rfl, rfl, rfl⟩ <;> repeat' (first | refine And.intro ?_ ?_ | exact trivial | exact rfl | refine lt0 | refine lt1 ?_ | refine lt2 ?_ ?_ | refine lt3 ?_ ?_ ?_ | refine lt4 ?_ ?_ ?_ ?_ | exact veq_refl _ | decide | (intro i hi; repeat' (first | refine And.intro ?_ ?_ | exact trivial | exact rfl))))
        all_goals first | exact Nat.le_refl _ | omega
      rintro _ _ _ ⟨rfl, rfl, rfl⟩
      repeat' (first | refine And.intro (by first | (show (_ : Bool) = true; kernel_rfl) | omega | (dsimp only; omega) | decide | (repeat' (first | refine And.intro ?_ ?_ | exact trivial | exact rfl))) ?_ | refine bcs_dec (fun h => ?_) (fun h => False.elim (by first | omega | exact h rfl)) | refine bcs_dec (fun h => False.elim (by omega)) (fun h => ?_) | refine bcs_dec (fun h => ?_) (fun h => ?_) | refine bcs_ndec (fun h => ?_) (fun h => ?_) | refine bcs_not ?_ | refine bcs_intro (fun h => ?_) (fun h => ?_) | refine And.intro ?_ ?_ | refine reg_tail (by kernel_rfl) ?_)
      refine app1 ckEnc Chk.d out ⟨1, z, z + shiftF P i, z + shiftF Q j, (b.length : Int) - z, (b.length : Int) - z, (b.length : Int) - z⟩ rfl rfl ?_
      repeat' (first | refine And.intro (by first | (show (_ : Bool) = true; kernel_rfl) | omega | (dsimp only; omega) | decide | (repeat' (first | refine And.intro ?_ ?_ | exact trivial | exact rfl))) ?_ | refine bcs_dec (fun h => ?_) (fun h => False.elim (by first | omega | exact h rfl)) | refine bcs_dec (fun h => False.elim (by omega)) (fun h => ?_) | refine bcs_dec (fun h => ?_) (fun h => ?_) | refine bcs_ndec (fun h => ?_) (fun h => ?_) | refine bcs_not ?_ | refine bcs_intro (fun h => ?_) (fun h => ?_) | refine And.intro ?_ ?_ | refine reg_tail (by kernel_rfl) ?_)
      rw [← hT]
      refine ret_mem [.at 9 0] rfl rfl ?_ ?_
      · repeat' (first | refine And.intro ?_ ?_ | exact trivial)
        all_goals exact rfl
      · repeat' (first | refine And.intro ?_ ?_ | exact trivial)
        all_goals try first | exact rfl | exact veq_refl _ | omega | (simp; done)
        all_goals
          intro i hi
          repeat' (first | refine And.intro ?_ ?_ | exact trivial)
          all_goals exact rfl
    · unfold calF at hT
      rw [if_neg hc, List.append_nil] at hT
      rw [← hT]
      repeat' (first | refine And.intro (by first | (show (_ : Bool) = true; kernel_rfl) | omega | (dsimp only; omega) | decide | (repeat' (first | refine And.intro ?_ ?_ | exact trivial | exact rfl))) ?_ | refine bcs_dec (fun h => ?_) (fun h => False.elim (by first | omega | exact h rfl)) | refine bcs_dec (fun h => False.elim (by omega)) (fun h => ?_) | refine bcs_dec (fun h => ?_) (fun h => ?_) | refine bcs_ndec (fun h => ?_) (fun h => ?_) | refine bcs_not ?_ | refine bcs_intro (fun h => ?_) (fun h => ?_) | refine And.intro ?_ ?_ | refine reg_tail (by kernel_rfl) ?_)
      refine ret_mem [.at 7 0] rfl rfl ?_ ?_
      · repeat' (first | refine And.intro ?_ ?_ | exact trivial)
        all_goals exact rfl
      · repeat' (first | refine And.intro ?_ ?_ | exact trivial)
        all_goals try first | exact rfl | exact veq_refl _ | omega
        all_goals
          intro i hi
          repeat' (first | refine And.intro ?_ ?_ | exact trivial)
          all_goals exact rfl
  · have hless := gth_less (mx := shiftF P i) (my := shiftF Q j) (le_of_at hx) (le_of_at hy') hd0
    have hin := gIn_new hx hy'
    rw [← ex, ← ey] at hless hin
    obtain ⟨fx, hfx⟩ : ∃ fx, fx = nextF P i b.length := ⟨_, rfl⟩
    obtain ⟨fy, hfy⟩ : ∃ fy, fy = nextF Q j b.length := ⟨_, rfl⟩
    rw [← hfx] at hless hin ex r1
    rw [← hfy] at hless hin ey r2
    obtain ⟨f, hf⟩ : ∃ f, f = min fx fy := ⟨_, rfl⟩
    rw [← hf] at hless hin
    obtain ⟨G, hGr⟩ : ∃ G, G = gth ((P.drop i).length + (Q.drop j).length) ⟨P.drop i, Q.drop j, f, shiftF P i, shiftF Q j⟩ := ⟨_, rfl⟩
    rw [← hGr] at hless
    rw [chF_more (f := f) hd0 (by rw [hf, ex, ey]) hGr.symm, ← List.append_assoc] at hT
    rw [lx, ly] at hd0 hGr
    have fX : i < P.length → fx = (P.getD (0 + (i : Int).toNat) Chg.d).A := fun h => by rw [hfx, Nat.zero_add, Int.toNat_natCast]; exact if_pos h
    have fX' : ¬ i < P.length → fx = b.length := fun h => by rw [hfx]; exact if_neg h
    have fY : j < Q.length → fy = (Q.getD (0 + (j : Int).toNat) Chg.d).A := fun h => by rw [hfy, Nat.zero_add, Int.toNat_natCast]; exact if_pos h
    have fY' : ¬ j < Q.length → fy = b.length := fun h => by rw [hfy]; exact if_neg h
    apply use_rest3 (C := fun (x w : Nat) (tw : Int) => i ≤ x ∧ x ≤ P.length ∧ j ≤ w ∧ w ≤ Q.length ∧ G = ⟨P.drop x, Q.drop w, tw, shiftF P x, shiftF Q w⟩ ∧ gIn b.length m.length y.length f (shiftF P i) (shiftF Q j) G ∧ hd G.p G.tw = false ∧ hd G.q G.tw = false)
    · intro hrest
      by_cases hX : i < P.length
      · have fX := fX hX
        by_cases hY : j < Q.length
        · have fY := fY hY
          repeat' (first | refine And.intro (by first | (show (_ : Bool) = true; kernel_rfl) | omega | (dsimp only; omega) | decide | (repeat' (first | refine And.intro ?_ ?_ | exact trivial | exact rfl))) ?_ | refine bcs_dec (fun h => ?_) (fun h => False.elim (by first | omega | exact h rfl)) | refine bcs_dec (fun h => False.elim (by omega)) (fun h => ?_) | refine bcs_dec (fun h => ?_) (fun h => ?_) | refine bcs_ndec (fun h => ?_) (fun h => ?_) | refine bcs_not ?_ | refine bcs_intro (fun h => ?_) (fun h => ?_) | refine And.intro ?_ ?_ | refine reg_tail (by kernel_rfl) ?_)
          all_goals first
            | omega
            | skip
          all_goals
            refine rgrp_loop P Q b m y f z out i j G B hbl hml hyl c1 c2 pl ql _ _ _ _ [.at 5 0, .at 6 0, .at 7 0] hGr.symm hin ?_ ?_
            · (refine ⟨rfl, rfl, ?_, ?_⟩ <;> repeat' (first | refine And.intro ?_ ?_ | exact trivial | exact rfl | refine lt0 | refine lt1 ?_ | refine lt2 ?_ ?_ | refine lt3 ?_ ?_ ?_ | refine lt4 ?_ ?_ ?_ ?_ | exact veq_refl _ | decide | (intro i hi; repeat' (first | refine And.intro ?_ ?_ | exact trivial | exact rfl))))
              all_goals first | exact Nat.le_refl _ | omega | exact veq_refl _ | (refine veq_of_eq (congrArg (Value.int .i64) ?_); omega) | skip
            · intro x w tw g1 g2 g3 g4 g5 g6 g7 g8
              exact hrest x w tw ⟨g1, g2, g3, g4, g5, g6, g7, g8⟩
        · have fY := fY' hY
          repeat' (first | refine And.intro (by first | (show (_ : Bool) = true; kernel_rfl) | omega | (dsimp only; omega) | decide | (repeat' (first | refine And.intro ?_ ?_ | exact trivial | exact rfl))) ?_ | refine bcs_dec (fun h => ?_) (fun h => False.elim (by first | omega | exact h rfl)) | refine bcs_dec (fun h => False.elim (by omega)) (fun h => ?_) | refine bcs_dec (fun h => ?_) (fun h => ?_) | refine bcs_ndec (fun h => ?_) (fun h => ?_) | refine bcs_not ?_ | refine bcs_intro (fun h => ?_) (fun h => ?_) | refine And.intro ?_ ?_ | refine reg_tail (by kernel_rfl) ?_)
          all_goals first
            | omega
            | skip
          all_goals
            refine rgrp_loop P Q b m y f z out i j G B hbl hml hyl c1 c2 pl ql _ _ _ _ [.at 5 0, .at 6 0, .at 7 0] hGr.symm hin ?_ ?_
            · (refine ⟨rfl, rfl, ?_, ?_⟩ <;> repeat' (first | refine And.intro ?_ ?_ | exact trivial | exact rfl | refine lt0 | refine lt1 ?_ | refine lt2 ?_ ?_ | refine lt3 ?_ ?_ ?_ | refine lt4 ?_ ?_ ?_ ?_ | exact veq_refl _ | decide | (intro i hi; repeat' (first | refine And.intro ?_ ?_ | exact trivial | exact rfl))))
              all_goals first | exact Nat.le_refl _ | omega | exact veq_refl _ | (refine veq_of_eq (congrArg (Value.int .i64) ?_); omega) | skip
            · intro x w tw g1 g2 g3 g4 g5 g6 g7 g8
              exact hrest x w tw ⟨g1, g2, g3, g4, g5, g6, g7, g8⟩
      · have fX := fX' hX
        have hY : j < Q.length := by omega
        have fY := fY hY
        repeat' (first | refine And.intro (by first | (show (_ : Bool) = true; kernel_rfl) | omega | (dsimp only; omega) | decide | (repeat' (first | refine And.intro ?_ ?_ | exact trivial | exact rfl))) ?_ | refine bcs_dec (fun h => ?_) (fun h => False.elim (by first | omega | exact h rfl)) | refine bcs_dec (fun h => False.elim (by omega)) (fun h => ?_) | refine bcs_dec (fun h => ?_) (fun h => ?_) | refine bcs_ndec (fun h => ?_) (fun h => ?_) | refine bcs_not ?_ | refine bcs_intro (fun h => ?_) (fun h => ?_) | refine And.intro ?_ ?_ | refine reg_tail (by kernel_rfl) ?_)
        all_goals first
          | omega
          | skip
        all_goals
          refine rgrp_loop P Q b m y f z out i j G B hbl hml hyl c1 c2 pl ql _ _ _ _ [.at 5 0, .at 6 0, .at 7 0] hGr.symm hin ?_ ?_
          · (refine ⟨rfl, rfl, ?_, ?_⟩ <;> repeat' (first | refine And.intro ?_ ?_ | exact trivial | exact rfl | refine lt0 | refine lt1 ?_ | refine lt2 ?_ ?_ | refine lt3 ?_ ?_ ?_ | refine lt4 ?_ ?_ ?_ ?_ | exact veq_refl _ | decide | (intro i hi; repeat' (first | refine And.intro ?_ ?_ | exact trivial | exact rfl))))
            all_goals first | exact Nat.le_refl _ | omega | exact veq_refl _ | (refine veq_of_eq (congrArg (Value.int .i64) ?_); omega) | skip
          · intro x w tw g1 g2 g3 g4 g5 g6 g7 g8
            exact hrest x w tw ⟨g1, g2, g3, g4, g5, g6, g7, g8⟩
    · intro x w tw ⟨g1, g2, g3, g4, g5, g6, g7, g8⟩
      obtain ⟨a1, a2, a3, a4, a5, a6⟩ := gIn_end g6 g7 g8
      subst g5
      dsimp only at hT hless a1 a2 a3 a4 a5 a6
      have lx' : (P.drop x).length = P.length - x := List.length_drop
      have ly' : (Q.drop w).length = Q.length - w := List.length_drop
      rw [lx, ly, lx', ly'] at hless
      have a1' := a1
      have a2' := a2
      obtain ⟨_, p1, p2, _, p4⟩ := a1'
      obtain ⟨_, _, p5, _, p6⟩ := a2'
      have cTx := shift_con P x g2 pl sP
      have cTy := shift_con Q w g4 ql sQ
      have R1 : 0 ≤ z ∧ 0 ≤ z + shiftF P i ∧ z + shiftF P i ≤ m.length ∧ 0 ≤ z + shiftF Q j ∧ z + shiftF Q j ≤ y.length ∧ z ≤ f := ⟨by omega, by omega, by omega, by omega, by omega, by omega⟩
      have R2 : f ≤ tw ∧ tw ≤ b.length ∧ 0 ≤ f + shiftF P i ∧ f + shiftF P i ≤ tw + shiftF P x ∧ tw + shiftF P x ≤ m.length ∧ 0 ≤ f + shiftF Q j ∧ f + shiftF Q j ≤ tw + shiftF Q w ∧ tw + shiftF Q w ≤ y.length := ⟨by omega, by omega, by omega, by omega, by omega, by omega, by omega, by omega⟩
      by_cases hc : f > z
      · unfold calF at hT
        rw [if_pos hc] at hT
        refine restC_ok P Q b m y f z out i j x w tw B hG hbl hml hyl (by omega) cSx cSy cTx cTy ⟨g1, g2, g3, g4⟩ R1 R2 hc _ _ _ fun kd s' new hk hsub => ⟨(x, w, tw, _), new, ?_, ?_, hsub⟩
        · refine ⟨g2, g4, ⟨k, by omega, ?_⟩, a1, a2, ?_⟩
          · rw [hk] at hT
            rw [show (⟨kd, f, f + shiftF P i, f + shiftF Q j, tw - f, tw + shiftF P x - (f + shiftF P i), tw + shiftF Q w - (f + shiftF Q j)⟩ : Chk) = mkC kd tw (shiftF P i) (shiftF Q j) f (shiftF P x) (shiftF Q w) by rw [Chk.mk.injEq]; exact ⟨rfl, rfl, rfl, rfl, rfl, by omega, by omega⟩]
            rw [show (⟨1, z, z + shiftF P i, z + shiftF Q j, f - z, f - z, f - z⟩ : Chk) = mkC 1 f (shiftF P i) (shiftF Q j) z (shiftF P i) (shiftF Q j) by rw [Chk.mk.injEq]; exact ⟨rfl, rfl, rfl, rfl, rfl, by omega, by omega⟩]
            rw [List.append_assoc, List.singleton_append]
            exact hT
          · simp only [List.length_append, List.length_cons, List.length_nil]
            omega
        · show P.length - x + (Q.length - w) < P.length - i + (Q.length - j)
          omega
      · unfold calF at hT
        rw [if_neg hc, List.append_nil] at hT
        refine restN_ok P Q b m y f z out i j x w tw B hG hbl hml hyl (by omega) cSx cSy cTx cTy ⟨g1, g2, g3, g4⟩ R1 R2 hc _ _ _ fun kd s' new hk hsub => ⟨(x, w, tw, _), new, ?_, ?_, hsub⟩
        · refine ⟨g2, g4, ⟨k, by omega, ?_⟩, a1, a2, ?_⟩
          · rw [hk] at hT
            rw [show (⟨kd, f, f + shiftF P i, f + shiftF Q j, tw - f, tw + shiftF P x - (f + shiftF P i), tw + shiftF Q w - (f + shiftF Q j)⟩ : Chk) = mkC kd tw (shiftF P i) (shiftF Q j) f (shiftF P x) (shiftF Q w) by rw [Chk.mk.injEq]; exact ⟨rfl, rfl, rfl, rfl, rfl, by omega, by omega⟩]
            rw [List.append_assoc, List.singleton_append]
            exact hT
          · simp only [List.length_append, List.length_cons, List.length_nil]
            omega
        · show P.length - x + (Q.length - w) < P.length - i + (Q.length - j)
          omega
end Go.Proofs.YtlmjkphiicmclaaDoor
