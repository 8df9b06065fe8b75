/- Chapter 6: contracts: the document's two scripts as one. -/
import Derived.Test.YtiihmggoebohkaaDoorB26
namespace Go.Proofs.YtiihmggoebohkaaDoor
open Go Go.RowKit Vc

theorem cut_step {x : Int} {c : Int × Int} {q : List (Int × Int)} (h : c.1 < x) : cut x (c :: q) = cut x q := by
  rw [cut, if_pos h]
theorem cut_stop {x : Int} {c : Int × Int} {q : List (Int × Int)} (h : ¬ c.1 < x) : cut x (c :: q) = c :: q := by
  rw [cut, if_neg h]
def jm (p : Int × Int) (ps : List (Int × Int)) : List (Int × Int) → List (Int × Int)
  | [] => jr ps []
  | c :: cs => if c.1 = p.2 then (p.1, c.2) :: jr ps (c :: cs) else jr ps (c :: cs)
theorem jr_jm (p : Int × Int) (ps q : List (Int × Int)) : jr (p :: ps) q = jm p ps (cut p.2 q) := by
  simp only [jr]
  cases cut p.2 q <;> rfl

set_option maxRecDepth 100000 in
set_option maxHeartbeats 4000000 in
theorem rJoin_ok {s t : List Chg} {n m k : Int} (hs : s.length ≤ 9223372036854775807 - 1) (ht : t.length ≤ 9223372036854775807 - 1) (hv : validE s n m = 0) (hw : validE t m k = 0) : Con Tryd.prog glob 37 [.s 0 0 s.length, .s 1 0 t.length, .v (.int .i64 n), .v (.int .i64 m), .v (.int .i64 k)] [(0, chRo s), (1, chRo t)] 2
    (retM (.t [.o 2, .v (.int .i64 0)]) [(2, chOwn (joinG s t n m k))] 3) := by
  obtain ⟨r1, r2, r3, r4, r5⟩ := valid_range hv
  obtain ⟨t1, t2, t3, t4, t5⟩ := valid_range hw
  have hp := pairsF_len s 0 0 n m r5 (by omega) (by omega)
  have hq := pairsF_len t 0 0 m k t5 (by omega) (by omega)
  obtain ⟨j1, j2⟩ := join_of hv hw
  have hri := rise_pairs s 0 0 n m r5 (by omega) (by omega)
  have cP := pairsR_con hs hv
  have cQ := pairsR_con ht hw
  have cO : ∀ l, l = jn (pairsF s 0 0 n) (pairsF t 0 0 m) → Con Tryd.prog glob 21 [.s 0 0 l.length, .v (.int .i64 n), .v (.int .i64 k)] [(0, prRo l)] 1 (retM (.t [.o 1, .v (.int .i64 0)]) [(1, chOwn (joinG s t n m k))] 2) := by
    rintro l rfl
    have h := ofR_con (l := jn (pairsF s 0 0 n) (pairsF t 0 0 m)) (n := n) (m := k) (by have := jn_len (pairsF s 0 0 n) (pairsF t 0 0 m); omega)
    rw [j1] at h
    exact h
  have cV := validR_con s n m (by omega)
  have cW := validR_con t m k (by omega)
  rw [hv] at cV
  rw [hw] at cW
  obtain ⟨J, hJ⟩ : ∃ J, J = jn (pairsF s 0 0 n) (pairsF t 0 0 m) := ⟨_, rfl⟩
  obtain ⟨p, hpp⟩ : ∃ p, p = pairsF s 0 0 n := ⟨_, rfl⟩
  obtain ⟨q, hqq⟩ : ∃ q, q = pairsF t 0 0 m := ⟨_, rfl⟩
  rw [← hpp] at cP hp hJ cO hri
  rw [← hqq] at cQ hq hJ cO
  rw [← hJ] at cO
  rw [jn_jr p q _ _ _ _ hri] at hJ
  refine spec_intro (tab := tab) (N := 99) Tryd.func37 rfl rfl tab_ok mix rfl rfl _ rfl ?_
  intro B hG
  repeat' (first | refine And.intro (by first | omega | (dsimp only; omega) | (show (_ : Bool) = true; kernel_rfl) | decide | (repeat' (first | refine And.intro ?_ ?_ | exact trivial | exact rfl))) ?_ | refine bcs_dec (fun h => ?_) (fun h => ?_) | refine bcs_ndec (fun h => ?_) (fun h => ?_) | refine bcs_not ?_ | refine bcs_intro (fun h => ?_) (fun h => ?_) | refine And.intro ?_ ?_ | refine reg_tail (by kernel_rfl) ?_)
  refine call_rule [.at 0 0] (cV) hG ?_ ?_
  · (refine ⟨?_, ?_, rfl, rfl, rfl⟩ <;> repeat' (first | refine And.intro ?_ ?_ | exact trivial | exact rfl | refine lt0 | refine lt1 ?_ | refine lt2 ?_ ?_ | refine lt3 ?_ ?_ ?_ | refine lt4 ?_ ?_ ?_ ?_ | exact veq_refl _ | decide | (intro i hi; repeat' (first | refine And.intro ?_ ?_ | exact trivial | exact rfl))))
    all_goals first | exact Nat.le_refl _ | omega
  rintro _ _ _ ⟨rfl, rfl, rfl⟩
  repeat' (first | refine And.intro (by first | omega | (dsimp only; omega) | (show (_ : Bool) = true; kernel_rfl) | decide | (repeat' (first | refine And.intro ?_ ?_ | exact trivial | exact rfl))) ?_ | refine bcs_dec (fun h => ?_) (fun h => False.elim (by first | omega | exact h rfl)) | refine bcs_dec (fun h => False.elim (by omega)) (fun h => ?_) | refine bcs_dec (fun h => ?_) (fun h => ?_) | refine bcs_ndec (fun h => ?_) (fun h => ?_) | refine bcs_not ?_ | refine bcs_intro (fun h => ?_) (fun h => ?_) | refine And.intro ?_ ?_ | refine reg_tail (by kernel_rfl) ?_)
  refine call_rule [.at 1 0] (cW) hG ?_ ?_
  · (refine ⟨?_, ?_, rfl, rfl, rfl⟩ <;> repeat' (first | refine And.intro ?_ ?_ | exact trivial | exact rfl | refine lt0 | refine lt1 ?_ | refine lt2 ?_ ?_ | refine lt3 ?_ ?_ ?_ | refine lt4 ?_ ?_ ?_ ?_ | exact veq_refl _ | decide | (intro i hi; repeat' (first | refine And.intro ?_ ?_ | exact trivial | exact rfl))))
    all_goals first | exact Nat.le_refl _ | omega
  rintro _ _ _ ⟨rfl, rfl, rfl⟩
  repeat' (first | refine And.intro (by first | omega | (dsimp only; omega) | (show (_ : Bool) = true; kernel_rfl) | decide | (repeat' (first | refine And.intro ?_ ?_ | exact trivial | exact rfl))) ?_ | refine bcs_dec (fun h => ?_) (fun h => False.elim (by first | omega | exact h rfl)) | refine bcs_dec (fun h => False.elim (by omega)) (fun h => ?_) | refine bcs_dec (fun h => ?_) (fun h => ?_) | refine bcs_ndec (fun h => ?_) (fun h => ?_) | refine bcs_not ?_ | refine bcs_intro (fun h => ?_) (fun h => ?_) | refine And.intro ?_ ?_ | refine reg_tail (by kernel_rfl) ?_)
  refine call_rule [.at 0 0] (cP) hG ?_ ?_
  · (refine ⟨?_, ?_, rfl, rfl, rfl⟩ <;> repeat' (first | refine And.intro ?_ ?_ | exact trivial | exact rfl | refine lt0 | refine lt1 ?_ | refine lt2 ?_ ?_ | refine lt3 ?_ ?_ ?_ | refine lt4 ?_ ?_ ?_ ?_ | exact veq_refl _ | decide | (intro i hi; repeat' (first | refine And.intro ?_ ?_ | exact trivial | exact rfl))))
    all_goals first | exact Nat.le_refl _ | omega
  rintro _ _ _ ⟨rfl, rfl, rfl⟩
  repeat' (first | refine And.intro (by first | omega | (dsimp only; omega) | (show (_ : Bool) = true; kernel_rfl) | decide | (repeat' (first | refine And.intro ?_ ?_ | exact trivial | exact rfl))) ?_ | refine bcs_dec (fun h => ?_) (fun h => ?_) | refine bcs_ndec (fun h => ?_) (fun h => ?_) | refine bcs_not ?_ | refine bcs_intro (fun h => ?_) (fun h => ?_) | refine And.intro ?_ ?_ | refine reg_tail (by kernel_rfl) ?_)
  refine call_rule [.at 1 0] (cQ) hG ?_ ?_
  · (refine ⟨?_, ?_, rfl, rfl, rfl⟩ <;> repeat' (first | refine And.intro ?_ ?_ | exact trivial | exact rfl | refine lt0 | refine lt1 ?_ | refine lt2 ?_ ?_ | refine lt3 ?_ ?_ ?_ | refine lt4 ?_ ?_ ?_ ?_ | exact veq_refl _ | decide | (intro i hi; repeat' (first | refine And.intro ?_ ?_ | exact trivial | exact rfl))))
    all_goals first | exact Nat.le_refl _ | omega
  rintro _ _ _ ⟨rfl, rfl, rfl⟩
  repeat' (first | refine And.intro (by first | omega | (dsimp only; omega) | (show (_ : Bool) = true; kernel_rfl) | decide | (repeat' (first | refine And.intro ?_ ?_ | exact trivial | exact rfl))) ?_ | refine bcs_dec (fun h => ?_) (fun h => ?_) | refine bcs_ndec (fun h => ?_) (fun h => ?_) | refine bcs_not ?_ | refine bcs_intro (fun h => ?_) (fun h => ?_) | refine And.intro ?_ ?_ | refine reg_tail (by kernel_rfl) ?_)
  refine loop_rule (α := Nat × Nat × List (Int × Int)) (fun (i, j, out) => ⟨[(13, .s 2 0 p.length), (14, .s 3 0 q.length), (15, .o 4), (16, .v (.int .i64 j)), (17, .v (.int .i64 i)), (2, .v (.int .i64 n)), (4, .v (.int .i64 k))], [(0, chRo s), (1, chRo t), (2, prRo p), (3, prRo q), (4, prOwn out)], 5⟩)
    (fun (i, j, out) => i ≤ p.length ∧ j ≤ q.length ∧ out.length ≤ i ∧ out ++ jr (p.drop i) (q.drop j) = J) (fun (i, j, out) => p.length - i) (0, 0, []) [.at 2 0, .at 3 0, .nil 2] ?_ ?_ ?_
  · exact ⟨by omega, by omega, by simp, hJ.symm⟩
  · (refine ⟨rfl, rfl, ?_, ?_⟩ <;> repeat' (first | refine And.intro ?_ ?_ | exact trivial | exact rfl | refine lt0 | refine lt1 ?_ | refine lt2 ?_ ?_ | refine lt3 ?_ ?_ ?_ | refine lt4 ?_ ?_ ?_ ?_ | exact veq_refl _ | decide | (intro i hi; repeat' (first | refine And.intro ?_ ?_ | exact trivial | exact rfl))))
    all_goals first | omega | trace_state
  rintro ⟨i, j, out⟩ ⟨h1, h2, h3, h4⟩
  have ei : 0 + (i : Int).toNat = i := by simp
  repeat' (first | refine And.intro (by first | omega | (dsimp only; omega) | (show (_ : Bool) = true; kernel_rfl) | decide | (repeat' (first | refine And.intro ?_ ?_ | exact trivial | exact rfl))) ?_ | refine bcs_dec (fun h => ?_) (fun h => ?_) | refine bcs_ndec (fun h => ?_) (fun h => ?_) | refine bcs_not ?_ | refine bcs_intro (fun h => ?_) (fun h => ?_) | refine And.intro ?_ ?_ | refine reg_tail (by kernel_rfl) ?_)
  · have hst : out ++ jm (p.getD (0 + (i : Int).toNat) (0, 0)) (p.drop (i + 1)) (cut (p.getD (0 + (i : Int).toNat) (0, 0)).2 (q.drop j)) = J := by
      rw [← jr_jm, ei, ← drop_get (0, 0) p i (by omega)]
      exact h4
    refine loop_rule (α := Nat) (fun j' => ⟨[(13, .s 2 0 p.length), (14, .s 3 0 q.length), (15, .o 4), (16, .v (.int .i64 j')), (17, .v (.int .i64 i)), (2, .v (.int .i64 n)), (4, .v (.int .i64 k))], [(0, chRo s), (1, chRo t), (2, prRo p), (3, prRo q), (4, prOwn out)], 5⟩)
      (fun j' => j' ≤ q.length ∧ out ++ jm (p.getD (0 + (i : Int).toNat) (0, 0)) (p.drop (i + 1)) (cut (p.getD (0 + (i : Int).toNat) (0, 0)).2 (q.drop j')) = J) (fun j' => q.length - j') j [.at 2 0, .at 3 0, .at 4 0] ?_ ?_ ?_
    · exact ⟨h2, hst⟩
    · (refine ⟨rfl, rfl, ?_, ?_⟩ <;> repeat' (first | refine And.intro ?_ ?_ | exact trivial | exact rfl | refine lt0 | refine lt1 ?_ | refine lt2 ?_ ?_ | refine lt3 ?_ ?_ ?_ | refine lt4 ?_ ?_ ?_ ?_ | exact veq_refl _ | decide | (intro i hi; repeat' (first | refine And.intro ?_ ?_ | exact trivial | exact rfl))))
      all_goals first | omega | trace_state
    rintro j' ⟨g1, g2⟩
    have ej : 0 + (j' : Int).toNat = j' := by simp
    have hc : j' < q.length → out ++ jm (p.getD (0 + (i : Int).toNat) (0, 0)) (p.drop (i + 1)) (cut (p.getD (0 + (i : Int).toNat) (0, 0)).2 ((q.getD (0 + (j' : Int).toNat) (0, 0)) :: q.drop (j' + 1))) = J := fun h => by
      rw [ej, ← drop_get (0, 0) q j' h]; exact g2
    have hd : j' < q.length → (q.getD (0 + (j' : Int).toNat) (0, 0)) :: q.drop (j' + 1) = q.drop j' := fun h => by rw [ej, ← drop_get (0, 0) q j' h]
    repeat' (first | refine And.intro (by first | omega | (dsimp only; omega) | (show (_ : Bool) = true; kernel_rfl) | decide | (repeat' (first | refine And.intro ?_ ?_ | exact trivial | exact rfl))) ?_ | refine bcs_dec (fun h => ?_) (fun h => ?_) | refine bcs_ndec (fun h => ?_) (fun h => ?_) | refine bcs_not ?_ | refine bcs_intro (fun h => ?_) (fun h => ?_) | refine And.intro ?_ ?_)
    · repeat' (first | refine And.intro (by first | omega | (dsimp only; omega) | (show (_ : Bool) = true; kernel_rfl) | decide | (repeat' (first | refine And.intro ?_ ?_ | exact trivial | exact rfl))) ?_ | refine bcs_dec (fun h => ?_) (fun h => ?_) | refine bcs_ndec (fun h => ?_) (fun h => ?_) | refine bcs_not ?_ | refine bcs_intro (fun h => ?_) (fun h => ?_) | refine And.intro ?_ ?_ | refine reg_tail (by kernel_rfl) ?_)
      refine ⟨j' + 1, [.at 2 0, .at 3 0, .at 4 0], ?_, ?_, ?_⟩
      · refine ⟨by omega, ?_⟩
        rw [← hc (by omega), cut_step (by omega)]
      · show q.length - (j' + 1) < q.length - j'
        omega
      · (refine ⟨rfl, rfl, ?_, ?_⟩ <;> repeat' (first | refine And.intro ?_ ?_ | exact trivial | exact rfl | refine lt0 | refine lt1 ?_ | refine lt2 ?_ ?_ | refine lt3 ?_ ?_ ?_ | refine lt4 ?_ ?_ ?_ ?_ | exact veq_refl _ | decide | (intro i hi; repeat' (first | refine And.intro ?_ ?_ | exact trivial | exact rfl))))
        all_goals first | omega | (simp; done) | trace_state
    all_goals first
      | (exfalso; omega)
      | (refine reg_mix [] [(0, true), (1, true), (2, true), (3, true), (4, true), (5, true), (6, true), (7, false), (8, false), (9, false), (10, false), (11, false), (12, false), (13, false), (14, false)] (by decide +kernel) rfl ?_
         intro B' hB'
         repeat' (first | refine And.intro (by first | omega | (dsimp only; omega) | (show (_ : Bool) = true; kernel_rfl) | decide | (repeat' (first | refine And.intro ?_ ?_ | exact trivial | exact rfl))) ?_ | refine bcs_dec (fun h => ?_) (fun h => ?_) | refine bcs_ndec (fun h => ?_) (fun h => ?_) | refine bcs_not ?_ | refine bcs_intro (fun h => ?_) (fun h => ?_) | refine And.intro ?_ ?_ | refine reg_tail (by kernel_rfl) ?_)
         refine app1 prEnc (0, 0) out ((p.getD (0 + (i : Int).toNat) (0, 0)).1, (q.getD (0 + (j' : Int).toNat) (0, 0)).2) rfl (by simp; rfl) ?_
         repeat' (first | refine And.intro (by first | omega | (dsimp only; omega) | (show (_ : Bool) = true; kernel_rfl) | decide | (repeat' (first | refine And.intro ?_ ?_ | exact trivial | exact rfl))) ?_ | refine bcs_dec (fun h => ?_) (fun h => ?_) | refine bcs_ndec (fun h => ?_) (fun h => ?_) | refine bcs_not ?_ | refine bcs_intro (fun h => ?_) (fun h => ?_) | refine And.intro ?_ ?_ | refine reg_tail (by kernel_rfl) ?_)
         refine ⟨(i + 1, j', out ++ [((p.getD (0 + (i : Int).toNat) (0, 0)).1, (q.getD (0 + (j' : Int).toNat) (0, 0)).2)]), [.at 2 0, .at 3 0, .at 6 0], ?_, ?_, ?_⟩
         · refine ⟨by omega, by omega, by rw [List.length_append]; simp only [List.length_singleton]; omega, ?_⟩
           rw [← hc (by omega), cut_stop (by omega), jm, if_pos (by omega), hd (by omega), List.append_assoc]
           rfl
         · show p.length - (i + 1) < p.length - i
           omega
         · (refine ⟨rfl, rfl, ?_, ?_⟩ <;> repeat' (first | refine And.intro ?_ ?_ | exact trivial | exact rfl | refine lt0 | refine lt1 ?_ | refine lt2 ?_ ?_ | refine lt3 ?_ ?_ ?_ | refine lt4 ?_ ?_ ?_ ?_ | exact veq_refl _ | decide | (intro i hi; repeat' (first | refine And.intro ?_ ?_ | exact trivial | exact rfl))))
           all_goals first | omega | (simp; done)
         done)
      | (repeat' (first | refine And.intro (by first | omega | (dsimp only; omega) | (show (_ : Bool) = true; kernel_rfl) | decide | (repeat' (first | refine And.intro ?_ ?_ | exact trivial | exact rfl))) ?_ | refine bcs_dec (fun h => ?_) (fun h => ?_) | refine bcs_ndec (fun h => ?_) (fun h => ?_) | refine bcs_not ?_ | refine bcs_intro (fun h => ?_) (fun h => ?_) | refine And.intro ?_ ?_ | refine reg_tail (by kernel_rfl) ?_)
         refine ⟨(i + 1, j', out), [.at 2 0, .at 3 0, .at 4 0], ?_, ?_, ?_⟩
         · refine ⟨by omega, by omega, by omega, ?_⟩
           by_cases hjl : j' < q.length
           · rw [← hc hjl, cut_stop (by omega), jm, if_neg (by omega), hd hjl]
           · rw [← g2, show q.drop j' = [] from List.drop_of_length_le (by omega)]
             rfl
         · show p.length - (i + 1) < p.length - i
           omega
         · (refine ⟨rfl, rfl, ?_, ?_⟩ <;> repeat' (first | refine And.intro ?_ ?_ | exact trivial | exact rfl | refine lt0 | refine lt1 ?_ | refine lt2 ?_ ?_ | refine lt3 ?_ ?_ ?_ | refine lt4 ?_ ?_ ?_ ?_ | exact veq_refl _ | decide | (intro i hi; repeat' (first | refine And.intro ?_ ?_ | exact trivial | exact rfl))))
           all_goals first | omega | (simp; done)
         done)
      | trace_state
  · have e : out = J := by
      rw [← h4, show p.drop i = [] from List.drop_of_length_le (by omega)]
      simp [jr]
    repeat' (first | refine And.intro (by first | omega | (dsimp only; omega) | (show (_ : Bool) = true; kernel_rfl) | decide | (repeat' (first | refine And.intro ?_ ?_ | exact trivial | exact rfl))) ?_ | refine bcs_dec (fun h => ?_) (fun h => ?_) | refine bcs_ndec (fun h => ?_) (fun h => ?_) | refine bcs_not ?_ | refine bcs_intro (fun h => ?_) (fun h => ?_) | refine And.intro ?_ ?_ | refine reg_tail (by kernel_rfl) ?_)
    refine call_rule [.at 4 0] (cO out e) hG ?_ ?_
    · (refine ⟨?_, ?_, rfl, rfl, rfl⟩ <;> repeat' (first | refine And.intro ?_ ?_ | exact trivial | exact rfl | refine lt0 | refine lt1 ?_ | refine lt2 ?_ ?_ | refine lt3 ?_ ?_ ?_ | refine lt4 ?_ ?_ ?_ ?_ | exact veq_refl _ | decide | (intro i hi; repeat' (first | refine And.intro ?_ ?_ | exact trivial | exact rfl))))
      all_goals first | exact Nat.le_refl _ | omega
    rintro _ _ _ ⟨rfl, rfl, rfl⟩
    repeat' (first | refine And.intro (by first | omega | (dsimp only; omega) | (show (_ : Bool) = true; kernel_rfl) | decide | (repeat' (first | refine And.intro ?_ ?_ | exact trivial | exact rfl))) ?_ | refine bcs_dec (fun h => ?_) (fun h => ?_) | refine bcs_ndec (fun h => ?_) (fun h => ?_) | refine bcs_not ?_ | refine bcs_intro (fun h => ?_) (fun h => ?_) | refine And.intro ?_ ?_ | refine reg_tail (by kernel_rfl) ?_)
    refine ret_mem [.at 5 0] rfl rfl ?_ ?_
    · repeat' (first | refine And.intro ?_ ?_ | exact trivial)
      all_goals exact rfl
    · repeat' (first | refine And.intro ?_ ?_ | exact trivial)
      · exact rfl
      · intro i hi
        repeat' (first | refine And.intro ?_ ?_ | exact trivial)
        all_goals exact rfl
end Go.Proofs.YtiihmggoebohkaaDoor
