/- Chapter 6: contracts: two scripts as one. -/
import Derived.Test.YtiihmggoebohkaaDoorB25
namespace Go.Proofs.YtiihmggoebohkaaDoor
open Go Go.RowKit Vc

set_option maxRecDepth 100000 in
set_option maxHeartbeats 4000000 in
theorem join_ok {s t : List Chg} {n m k : Int} (hs : s.length ≤ 9223372036854775807 - 1) (ht : t.length ≤ 9223372036854775807 - 1) (hv : validE s n m = 0) (hw : validE t m k = 0) : Con Tryd.prog glob 36 [.s 0 0 s.length, .s 1 0 t.length, .v (.int .i64 n), .v (.int .i64 m), .v (.int .i64 k)] [(0, chRo s), (1, chRo t)] 2
    (retM (.t [.o 2, .v .nilIface]) [(2, chOwn (joinG s t n m k))] 3) := by
  obtain ⟨r1, r2, r3, r4, r5⟩ := valid_range hv
  obtain ⟨t1, t2, t3, t4, t5⟩ := valid_range hw
  have hp := pairsF_len s 0 0 n m r5 (by omega) (by omega)
  have hq := pairsF_len t 0 0 m k t5 (by omega) (by omega)
  obtain ⟨j1, j2⟩ := join_of hv hw
  have cP := pairs_ok hs hv
  have cQ := pairs_ok ht hw
  have cO : ∀ l, l = jn (pairsF s 0 0 n) (pairsF t 0 0 m) → Con Tryd.prog glob 20 [.s 0 0 l.length, .v (.int .i64 n), .v (.int .i64 k)] [(0, prRo l)] 1 (retM (.t [.o 1, .v .nilIface]) [(1, chOwn (joinG s t n m k))] 2) := by
    rintro l rfl
    have h := of_con (l := jn (pairsF s 0 0 n) (pairsF t 0 0 m)) (n := n) (m := k) (by have := jn_len (pairsF s 0 0 n) (pairsF t 0 0 m); omega)
    rw [j1, errV_0 rfl] at h
    exact h
  obtain ⟨J, hJ⟩ : ∃ J, J = jn (pairsF s 0 0 n) (pairsF t 0 0 m) := ⟨_, rfl⟩
  obtain ⟨p, hpp⟩ : ∃ p, p = pairsF s 0 0 n := ⟨_, rfl⟩
  obtain ⟨q, hqq⟩ : ∃ q, q = pairsF t 0 0 m := ⟨_, rfl⟩
  rw [← hpp] at cP hp hJ cO
  rw [← hqq] at cQ hq hJ cO
  rw [← hJ] at cO
  refine spec_intro (tab := tab) (N := 88) Tryd.func36 rfl rfl tab_ok mix rfl rfl _ rfl ?_
  intro B hG
  repeat' (first | refine And.intro (by first | omega | (dsimp only; omega) | (show (_ : Bool) = true; kernel_rfl) | decide | (repeat' (first | refine And.intro ?_ ?_ | exact trivial | exact rfl))) ?_ | refine bcs_dec (fun h => ?_) (fun h => ?_) | refine bcs_ndec (fun h => ?_) (fun h => ?_) | refine bcs_not ?_ | refine bcs_intro (fun h => ?_) (fun h => ?_) | refine And.intro ?_ ?_ | refine reg_tail (by kernel_rfl) ?_)
  refine call_rule [.at 0 0] (cP) hG ?_ ?_
  · (refine ⟨?_, ?_, rfl, rfl, rfl⟩ <;> repeat' (first | refine And.intro ?_ ?_ | exact trivial | exact rfl | refine lt0 | refine lt1 ?_ | refine lt2 ?_ ?_ | refine lt3 ?_ ?_ ?_ | refine lt4 ?_ ?_ ?_ ?_ | exact veq_refl _ | decide | (intro i hi; repeat' (first | refine And.intro ?_ ?_ | exact trivial | exact rfl))))
    all_goals first | exact Nat.le_refl _ | omega
  rintro _ _ _ ⟨rfl, rfl, rfl⟩
  repeat' (first | refine And.intro (by first | omega | (dsimp only; omega) | (show (_ : Bool) = true; kernel_rfl) | decide | (repeat' (first | refine And.intro ?_ ?_ | exact trivial | exact rfl))) ?_ | refine bcs_dec (fun h => ?_) (fun h => False.elim (by first | omega | exact h rfl)) | refine bcs_dec (fun h => False.elim (by omega)) (fun h => ?_) | refine bcs_dec (fun h => ?_) (fun h => ?_) | refine bcs_ndec (fun h => ?_) (fun h => ?_) | refine bcs_not ?_ | refine bcs_intro (fun h => ?_) (fun h => ?_) | refine And.intro ?_ ?_ | refine reg_tail (by kernel_rfl) ?_)
  refine call_rule [.at 1 0] (cQ) hG ?_ ?_
  · (refine ⟨?_, ?_, rfl, rfl, rfl⟩ <;> repeat' (first | refine And.intro ?_ ?_ | exact trivial | exact rfl | refine lt0 | refine lt1 ?_ | refine lt2 ?_ ?_ | refine lt3 ?_ ?_ ?_ | refine lt4 ?_ ?_ ?_ ?_ | exact veq_refl _ | decide | (intro i hi; repeat' (first | refine And.intro ?_ ?_ | exact trivial | exact rfl))))
    all_goals first | exact Nat.le_refl _ | omega
  rintro _ _ _ ⟨rfl, rfl, rfl⟩
  repeat' (first | refine And.intro (by first | omega | (dsimp only; omega) | (show (_ : Bool) = true; kernel_rfl) | decide | (repeat' (first | refine And.intro ?_ ?_ | exact trivial | exact rfl))) ?_ | refine bcs_dec (fun h => ?_) (fun h => False.elim (by first | omega | exact h rfl)) | refine bcs_dec (fun h => False.elim (by omega)) (fun h => ?_) | refine bcs_dec (fun h => ?_) (fun h => ?_) | refine bcs_ndec (fun h => ?_) (fun h => ?_) | refine bcs_not ?_ | refine bcs_intro (fun h => ?_) (fun h => ?_) | refine And.intro ?_ ?_ | refine reg_tail (by kernel_rfl) ?_)
  refine loop_rule (α := Nat × Nat × List (Int × Int)) (fun (i, j, out) => ⟨[(12, .s 2 i (p.length - i)), (14, .s 3 j (q.length - j)), (15, .o 4), (2, .v (.int .i64 n)), (4, .v (.int .i64 k))], [(0, chRo s), (1, chRo t), (2, prRo p), (3, prRo q), (4, prOwn out)], 5⟩)
    (fun (i, j, out) => i ≤ p.length ∧ j ≤ q.length ∧ out.length ≤ i ∧ out ++ jn (p.drop i) (q.drop j) = J) (fun (i, j, out) => (p.length - i) + (q.length - j)) (0, 0, []) [.at 2 0, .at 3 0, .nil 2] ?_ ?_ ?_
  · exact ⟨by omega, by omega, by simp, hJ.symm⟩
  · (refine ⟨rfl, rfl, ?_, ?_⟩ <;> repeat' (first | refine And.intro ?_ ?_ | exact trivial | exact rfl | refine lt0 | refine lt1 ?_ | refine lt2 ?_ ?_ | refine lt3 ?_ ?_ ?_ | refine lt4 ?_ ?_ ?_ ?_ | exact veq_refl _ | decide | (intro i hi; repeat' (first | refine And.intro ?_ ?_ | exact trivial | exact rfl))))
    all_goals first | omega | trace_state
  rintro ⟨i, j, out⟩ ⟨h1, h2, h3, h4⟩
  have ei : i + Int.toNat 0 = i := by simp
  have ej : j + Int.toNat 0 = j := by simp
  have hst : i < p.length → j < q.length → out ++ (if (p.getD (i + Int.toNat 0) (0, 0)).2 < (q.getD (j + Int.toNat 0) (0, 0)).1 then jn (p.drop (i + 1)) (q.drop j) else if (p.getD (i + Int.toNat 0) (0, 0)).2 > (q.getD (j + Int.toNat 0) (0, 0)).1 then jn (p.drop i) (q.drop (j + 1)) else ((p.getD (i + Int.toNat 0) (0, 0)).1, (q.getD (j + Int.toNat 0) (0, 0)).2) :: jn (p.drop (i + 1)) (q.drop (j + 1))) = J := fun hi hj => by
    rw [← h4, ei, ej]
    conv => rhs; rw [drop_get (0, 0) p i hi, drop_get (0, 0) q j hj]
    rw [jn_cons, ← drop_get (0, 0) p i hi, ← drop_get (0, 0) q j hj]
  repeat' (first | refine And.intro (by first | omega | (dsimp only; omega) | (show (_ : Bool) = true; kernel_rfl) | decide | (repeat' (first | refine And.intro ?_ ?_ | exact trivial | exact rfl))) ?_ | refine bcs_dec (fun h => ?_) (fun h => ?_) | refine bcs_ndec (fun h => ?_) (fun h => ?_) | refine bcs_not ?_ | refine bcs_intro (fun h => ?_) (fun h => ?_) | refine And.intro ?_ ?_)
  · repeat' (first | refine And.intro (by first | omega | (dsimp only; omega) | (show (_ : Bool) = true; kernel_rfl) | decide | (repeat' (first | refine And.intro ?_ ?_ | exact trivial | exact rfl))) ?_ | refine bcs_dec (fun h => ?_) (fun h => ?_) | refine bcs_ndec (fun h => ?_) (fun h => ?_) | refine bcs_not ?_ | refine bcs_intro (fun h => ?_) (fun h => ?_) | refine And.intro ?_ ?_ | refine reg_tail (by kernel_rfl) ?_)
    refine ⟨(i + 1, j, out), [.at 2 0, .at 3 0, .at 4 0], ?_, ?_, ?_⟩
    · refine ⟨by omega, by omega, by omega, ?_⟩
      rw [← hst (by omega) (by omega), if_pos (by omega)]
    · show (p.length - (i + 1)) + (q.length - j) < (p.length - i) + (q.length - j)
      omega
    · (refine ⟨rfl, rfl, ?_, ?_⟩ <;> repeat' (first | refine And.intro ?_ ?_ | exact trivial | exact rfl | refine lt0 | refine lt1 ?_ | refine lt2 ?_ ?_ | refine lt3 ?_ ?_ ?_ | refine lt4 ?_ ?_ ?_ ?_ | exact veq_refl _ | decide | (intro i hi; repeat' (first | refine And.intro ?_ ?_ | exact trivial | exact rfl))))
      all_goals first | omega | (simp; done) | trace_state
  · repeat' (first | refine And.intro (by first | omega | (dsimp only; omega) | (show (_ : Bool) = true; kernel_rfl) | decide | (repeat' (first | refine And.intro ?_ ?_ | exact trivial | exact rfl))) ?_ | refine bcs_dec (fun h => ?_) (fun h => ?_) | refine bcs_ndec (fun h => ?_) (fun h => ?_) | refine bcs_not ?_ | refine bcs_intro (fun h => ?_) (fun h => ?_) | refine And.intro ?_ ?_ | refine reg_tail (by kernel_rfl) ?_)
    refine ⟨(i, j + 1, out), [.at 2 0, .at 3 0, .at 4 0], ?_, ?_, ?_⟩
    · refine ⟨by omega, by omega, by omega, ?_⟩
      rw [← hst (by omega) (by omega), if_neg (by omega), if_pos (by omega)]
    · show (p.length - i) + (q.length - (j + 1)) < (p.length - i) + (q.length - j)
      omega
    · (refine ⟨rfl, rfl, ?_, ?_⟩ <;> repeat' (first | refine And.intro ?_ ?_ | exact trivial | exact rfl | refine lt0 | refine lt1 ?_ | refine lt2 ?_ ?_ | refine lt3 ?_ ?_ ?_ | refine lt4 ?_ ?_ ?_ ?_ | exact veq_refl _ | decide | (intro i hi; repeat' (first | refine And.intro ?_ ?_ | exact trivial | exact rfl))))
      all_goals first | omega | (simp; done) | trace_state
  · refine reg_mix [] [(0, true), (1, true), (2, true), (3, true), (4, true), (5, false), (6, false), (7, false), (8, false), (9, false), (10, false), (11, false), (12, false)] (by decide +kernel) rfl ?_
    intro B' hB'
    repeat' (first | refine And.intro (by first | omega | (dsimp only; omega) | (show (_ : Bool) = true; kernel_rfl) | decide | (repeat' (first | refine And.intro ?_ ?_ | exact trivial | exact rfl))) ?_ | refine bcs_dec (fun h => ?_) (fun h => ?_) | refine bcs_ndec (fun h => ?_) (fun h => ?_) | refine bcs_not ?_ | refine bcs_intro (fun h => ?_) (fun h => ?_) | refine And.intro ?_ ?_ | refine reg_tail (by kernel_rfl) ?_)

    refine app1 prEnc (0, 0) out ((p.getD (i + Int.toNat 0) (0, 0)).1, (q.getD (j + Int.toNat 0) (0, 0)).2) rfl (by simp; rfl) ?_
    repeat' (first | refine And.intro (by first | omega | (dsimp only; omega) | (show (_ : Bool) = true; kernel_rfl) | decide | (repeat' (first | refine And.intro ?_ ?_ | exact trivial | exact rfl))) ?_ | refine bcs_dec (fun h => ?_) (fun h => ?_) | refine bcs_ndec (fun h => ?_) (fun h => ?_) | refine bcs_not ?_ | refine bcs_intro (fun h => ?_) (fun h => ?_) | refine And.intro ?_ ?_ | refine reg_tail (by kernel_rfl) ?_)
    refine ⟨(i + 1, j + 1, out ++ [((p.getD (i + Int.toNat 0) (0, 0)).1, (q.getD (j + Int.toNat 0) (0, 0)).2)]), [.at 2 0, .at 3 0, .at 6 0], ?_, ?_, ?_⟩
    · refine ⟨by omega, by omega, by rw [List.length_append]; simp only [List.length_singleton]; omega, ?_⟩
      rw [← hst (by omega) (by omega), if_neg (by omega), if_neg (by omega), List.append_assoc]
      rfl
    · show (p.length - (i + 1)) + (q.length - (j + 1)) < (p.length - i) + (q.length - j)
      omega
    · (refine ⟨rfl, rfl, ?_, ?_⟩ <;> repeat' (first | refine And.intro ?_ ?_ | exact trivial | exact rfl | refine lt0 | refine lt1 ?_ | refine lt2 ?_ ?_ | refine lt3 ?_ ?_ ?_ | refine lt4 ?_ ?_ ?_ ?_ | exact veq_refl _ | decide | (intro i hi; repeat' (first | refine And.intro ?_ ?_ | exact trivial | exact rfl))))
      all_goals first | omega | (simp; done) | trace_state
  · have e : out = J := by
      rw [← h4, show q.drop j = [] from List.drop_of_length_le (by omega), jn_nil, List.append_nil]
    repeat' (first | refine And.intro (by first | omega | (dsimp only; omega) | (show (_ : Bool) = true; kernel_rfl) | decide | (repeat' (first | refine And.intro ?_ ?_ | exact trivial | exact rfl))) ?_ | refine bcs_dec (fun h => ?_) (fun h => ?_) | refine bcs_ndec (fun h => ?_) (fun h => ?_) | refine bcs_not ?_ | refine bcs_intro (fun h => ?_) (fun h => ?_) | refine And.intro ?_ ?_ | refine reg_tail (by kernel_rfl) ?_)
    refine call_rule [.at 4 0] (cO out e) hG ?_ ?_
    · (refine ⟨?_, ?_, rfl, rfl, rfl⟩ <;> repeat' (first | refine And.intro ?_ ?_ | exact trivial | exact rfl | refine lt0 | refine lt1 ?_ | refine lt2 ?_ ?_ | refine lt3 ?_ ?_ ?_ | refine lt4 ?_ ?_ ?_ ?_ | exact veq_refl _ | decide | (intro i hi; repeat' (first | refine And.intro ?_ ?_ | exact trivial | exact rfl))))
      all_goals first | exact Nat.le_refl _ | omega
    rintro _ _ _ ⟨rfl, rfl, rfl⟩
    repeat' (first | refine And.intro (by first | omega | (dsimp only; omega) | (show (_ : Bool) = true; kernel_rfl) | decide | (repeat' (first | refine And.intro ?_ ?_ | exact trivial | exact rfl))) ?_ | refine bcs_dec (fun h => ?_) (fun h => ?_) | refine bcs_ndec (fun h => ?_) (fun h => ?_) | refine bcs_not ?_ | refine bcs_intro (fun h => ?_) (fun h => ?_) | refine And.intro ?_ ?_ | refine reg_tail (by kernel_rfl) ?_)
    refine ret_mem [.at 5 0] rfl rfl ?_ ?_
    · repeat' (first | refine And.intro ?_ ?_ | exact trivial)
      all_goals exact rfl
    · repeat' (first | refine And.intro ?_ ?_ | exact trivial)
      · exact rfl
      · intro i hi
        repeat' (first | refine And.intro ?_ ?_ | exact trivial)
        all_goals exact rfl
  · have e : out = J := by
      rw [← h4, show p.drop i = [] from List.drop_of_length_le (by omega), jn_nil', List.append_nil]
    repeat' (first | refine And.intro (by first | omega | (dsimp only; omega) | (show (_ : Bool) = true; kernel_rfl) | decide | (repeat' (first | refine And.intro ?_ ?_ | exact trivial | exact rfl))) ?_ | refine bcs_dec (fun h => ?_) (fun h => ?_) | refine bcs_ndec (fun h => ?_) (fun h => ?_) | refine bcs_not ?_ | refine bcs_intro (fun h => ?_) (fun h => ?_) | refine And.intro ?_ ?_ | refine reg_tail (by kernel_rfl) ?_)
    refine call_rule [.at 4 0] (cO out e) hG ?_ ?_
    · (refine ⟨?_, ?_, rfl, rfl, rfl⟩ <;> repeat' (first | refine And.intro ?_ ?_ | exact trivial | exact rfl | refine lt0 | refine lt1 ?_ | refine lt2 ?_ ?_ | refine lt3 ?_ ?_ ?_ | refine lt4 ?_ ?_ ?_ ?_ | exact veq_refl _ | decide | (intro i hi; repeat' (first | refine And.intro ?_ ?_ | exact trivial | exact rfl))))
      all_goals first | exact Nat.le_refl _ | omega
    rintro _ _ _ ⟨rfl, rfl, rfl⟩
    repeat' (first | refine And.intro (by first | omega | (dsimp only; omega) | (show (_ : Bool) = true; kernel_rfl) | decide | (repeat' (first | refine And.intro ?_ ?_ | exact trivial | exact rfl))) ?_ | refine bcs_dec (fun h => ?_) (fun h => ?_) | refine bcs_ndec (fun h => ?_) (fun h => ?_) | refine bcs_not ?_ | refine bcs_intro (fun h => ?_) (fun h => ?_) | refine And.intro ?_ ?_ | refine reg_tail (by kernel_rfl) ?_)
    refine ret_mem [.at 5 0] rfl rfl ?_ ?_
    · repeat' (first | refine And.intro ?_ ?_ | exact trivial)
      all_goals exact rfl
    · repeat' (first | refine And.intro ?_ ?_ | exact trivial)
      · exact rfl
      · intro i hi
        repeat' (first | refine And.intro ?_ ?_ | exact trivial)
        all_goals exact rfl
end Go.Proofs.YtiihmggoebohkaaDoor
