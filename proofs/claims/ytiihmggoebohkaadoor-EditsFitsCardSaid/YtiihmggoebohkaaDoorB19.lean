/- Chapter 6: contracts: Fits. -/
import Derived.Test.YtiihmggoebohkaaDoorB18
namespace Go.Proofs.YtiihmggoebohkaaDoor
open Go Go.RowKit Vc

theorem dec_app (a b : List Int) (l r : List (Int × Int)) : decide (∀ p ∈ l ++ r, sameAt a b p) = (decide (∀ p ∈ l, sameAt a b p) && decide (∀ p ∈ r, sameAt a b p)) := by
  rw [Bool.eq_iff_iff]
  simp only [decide_eq_true_eq, Bool.and_eq_true, List.mem_append]
  exact ⟨fun h => ⟨fun p hp => h p (.inl hp), fun p hp => h p (.inr hp)⟩, fun ⟨h1, h2⟩ p hp => hp.elim (h1 p) (h2 p)⟩

set_option maxRecDepth 100000 in
set_option maxHeartbeats 4000000 in
theorem stay2_con {s : List Chg} {a b : List Int} (hs : s.length ≤ 9223372036854775807 - 1) (hv : validE s a.length b.length = 0) :
    Con Tryd.prog glob 44 [.s 0 0 s.length, .v (.int .i64 a.length), .f 46 [.p 1 0 0, .p 2 0 0, .p 3 0 0]] [(0, chRo s), (1, .box 4 [.v (.bool true)]), (2, .box 50 [.s 4 0 a.length]), (3, .box 50 [.s 5 0 b.length]), (4, inRo a), (5, inRo b)] 6
    (retM (.t []) [(1, .box 4 [.v (.bool (decide (∀ p ∈ pairsF s 0 0 a.length, sameAt a b p)))]), (2, .box 50 [.s 4 0 a.length]), (3, .box 50 [.s 5 0 b.length])] 6) := by
  refine spec_intro (tab := tab) (N := 42) Tryd.func44 rfl rfl tab_ok mix rfl rfl _ rfl ?_
  intro B hG
  repeat' (first | refine And.intro (by first | omega | (dsimp only; omega) | (show (_ : Bool) = true; kernel_rfl) | decide | (repeat' (first | refine And.intro ?_ ?_ | exact trivial | exact rfl))) ?_ | refine bcs_dec (fun h => ?_) (fun h => ?_) | refine bcs_ndec (fun h => ?_) (fun h => ?_) | refine bcs_not ?_ | refine bcs_intro (fun h => ?_) (fun h => ?_) | refine And.intro ?_ ?_ | refine reg_tail (by kernel_rfl) ?_)
  obtain ⟨r1, r2, r3, r4, r5⟩ := valid_range hv
  refine loop_rule (α := Nat × Int × Int × Bool) (fun (k, x, y, f) => ⟨[(10, .s 0 0 s.length), (11, .v (.int .i64 s.length)), (12, .v (.int .i64 k)), (1, .v (.int .i64 a.length)), (2, .f 46 [.p 1 0 0, .p 2 0 0, .p 3 0 0]), (6, .v (.int .i64 x)), (7, .v (.int .i64 y))], [(0, chRo s), (1, .box 4 [.v (.bool f)]), (2, .box 50 [.s 4 0 a.length]), (3, .box 50 [.s 5 0 b.length]), (4, inRo a), (5, inRo b)], 6⟩)
    (fun (k, x, y, f) => k ≤ s.length ∧ 0 ≤ x ∧ x ≤ a.length ∧ 0 ≤ y ∧ y ≤ b.length ∧ validF (s.drop k) x y a.length b.length = 0 ∧ (f && decide (∀ p ∈ pairsF (s.drop k) x y a.length, sameAt a b p)) = decide (∀ p ∈ pairsF s 0 0 a.length, sameAt a b p))
    (fun (k, x, y, f) => s.length - k) (0, 0, 0, true) [] ?_ ?_ ?_
  · exact ⟨by omega, by omega, by omega, by omega, by omega, r5, Bool.true_and _⟩
  · (refine ⟨rfl, rfl, ?_, ?_⟩ <;> repeat' (first | refine And.intro ?_ ?_ | exact trivial | exact rfl | refine lt0 | refine lt1 ?_ | refine lt2 ?_ ?_ | refine lt3 ?_ ?_ ?_ | refine lt4 ?_ ?_ ?_ ?_ | exact veq_refl _ | decide | (intro i hi; repeat' (first | refine And.intro ?_ ?_ | exact trivial | exact rfl))))
    all_goals first | omega | trace_state
  · rintro ⟨k, x, y, f⟩ ⟨h1, h2, h3, h4, h5, h7, h8⟩
    have hb : k < s.length → ¬ bad (s.getD (0 + (k : Int).toNat) Chg.d) x y a.length b.length ∧ validF (s.drop (k + 1)) ((s.getD k Chg.d).A + (s.getD k Chg.d).N) ((s.getD k Chg.d).B + (s.getD k Chg.d).M) a.length b.length = 0 := fun h => by
      simpa using valid_at h7 h
    unfold bad at hb
    repeat' (first | refine And.intro (by first | omega | (dsimp only; omega) | (show (_ : Bool) = true; kernel_rfl) | decide | (repeat' (first | refine And.intro ?_ ?_ | exact trivial | exact rfl))) ?_ | refine bcs_dec (fun h => ?_) (fun h => ?_) | refine bcs_ndec (fun h => ?_) (fun h => ?_) | refine bcs_not ?_ | refine bcs_intro (fun h => ?_) (fun h => ?_) | refine And.intro ?_ ?_ | refine reg_tail (by kernel_rfl) ?_)
    · have hb1 := (hb (by omega)).1
      have hv' := (hb (by omega)).2
      refine call_rule [.at 1 0, .at 2 0, .at 3 0, .at 4 0, .at 5 0] (cmp_con (a := a) (b := b) (f := f) (i := x) (k := y) (c := (s.getD (0 + (k : Int).toNat) Chg.d).A - x) (by omega) (by omega) (by omega) (by omega) (by omega) (by omega) (by omega)) hG ?_ ?_
      · (refine ⟨?_, ?_, rfl, rfl, rfl⟩ <;> repeat' (first | refine And.intro ?_ ?_ | exact trivial | exact rfl | refine lt0 | refine lt1 ?_ | refine lt2 ?_ ?_ | refine lt3 ?_ ?_ ?_ | refine lt4 ?_ ?_ ?_ ?_ | exact veq_refl _ | decide | (intro i hi; repeat' (first | refine And.intro ?_ ?_ | exact trivial | exact rfl))))
        all_goals first | exact Nat.le_refl _ | trace_state
      rintro _ _ _ ⟨rfl, rfl, rfl⟩
      repeat' (first | refine And.intro (by first | omega | (dsimp only; omega) | (show (_ : Bool) = true; kernel_rfl) | decide | (repeat' (first | refine And.intro ?_ ?_ | exact trivial | exact rfl))) ?_ | refine bcs_dec (fun h => ?_) (fun h => ?_) | refine bcs_ndec (fun h => ?_) (fun h => ?_) | refine bcs_not ?_ | refine bcs_intro (fun h => ?_) (fun h => ?_) | refine And.intro ?_ ?_ | refine reg_tail (by kernel_rfl) ?_)
      refine ⟨(k + 1, (s.getD (0 + (k : Int).toNat) Chg.d).A + (s.getD (0 + (k : Int).toNat) Chg.d).N, (s.getD (0 + (k : Int).toNat) Chg.d).B + (s.getD (0 + (k : Int).toNat) Chg.d).M, f && decide (∀ p ∈ diag x y ((s.getD (0 + (k : Int).toNat) Chg.d).A - x).toNat, sameAt a b p)), [], ?_, ?_, ?_⟩
      · have ek : 0 + (k : Int).toNat = k := by simp
        rw [ek] at hb1 ⊢
        rw [drop_get Chg.d s k (by omega)] at h8
        rw [show pairsF (s.getD k Chg.d :: s.drop (k + 1)) x y a.length = diag x y ((s.getD k Chg.d).A - x).toNat ++ pairsF (s.drop (k + 1)) ((s.getD k Chg.d).A + (s.getD k Chg.d).N) ((s.getD k Chg.d).B + (s.getD k Chg.d).M) a.length from rfl, dec_app, ← Bool.and_assoc] at h8
        exact ⟨by omega, by omega, by omega, by omega, by omega, hv', h8⟩
      · show s.length - (k + 1) < s.length - k
        omega
      · (refine ⟨rfl, rfl, ?_, ?_⟩ <;> repeat' (first | refine And.intro ?_ ?_ | exact trivial | exact rfl | refine lt0 | refine lt1 ?_ | refine lt2 ?_ ?_ | refine lt3 ?_ ?_ ?_ | refine lt4 ?_ ?_ ?_ ?_ | exact veq_refl _ | decide | (intro i hi; repeat' (first | refine And.intro ?_ ?_ | exact trivial | exact rfl))))
        all_goals first | omega | (simp; done)
    · have hk : k = s.length := by omega
      have hn : (a.length : Int) - x = b.length - y := by rw [hk, List.drop_length] at h7; exact valid_nil h7
      have h9 : (f && decide (∀ p ∈ diag x y ((a.length : Int) - x).toNat, sameAt a b p)) = decide (∀ p ∈ pairsF s 0 0 a.length, sameAt a b p) := by
        rw [← h8, hk, List.drop_length]; rfl
      refine call_rule [.at 1 0, .at 2 0, .at 3 0, .at 4 0, .at 5 0] (cmp_con (a := a) (b := b) (f := f) (i := x) (k := y) (c := (a.length : Int) - x) (by omega) (by omega) (by omega) (by omega) (by omega) (by omega) (by omega)) hG ?_ ?_
      · (refine ⟨?_, ?_, rfl, rfl, rfl⟩ <;> repeat' (first | refine And.intro ?_ ?_ | exact trivial | exact rfl | refine lt0 | refine lt1 ?_ | refine lt2 ?_ ?_ | refine lt3 ?_ ?_ ?_ | refine lt4 ?_ ?_ ?_ ?_ | exact veq_refl _ | decide | (intro i hi; repeat' (first | refine And.intro ?_ ?_ | exact trivial | exact rfl))))
        all_goals first | exact Nat.le_refl _ | trace_state
      rintro _ _ _ ⟨rfl, rfl, rfl⟩
      repeat' (first | refine And.intro (by first | omega | (dsimp only; omega) | (show (_ : Bool) = true; kernel_rfl) | decide | (repeat' (first | refine And.intro ?_ ?_ | exact trivial | exact rfl))) ?_ | refine bcs_dec (fun h => ?_) (fun h => ?_) | refine bcs_ndec (fun h => ?_) (fun h => ?_) | refine bcs_not ?_ | refine bcs_intro (fun h => ?_) (fun h => ?_) | refine And.intro ?_ ?_ | refine reg_tail (by kernel_rfl) ?_)
      rw [← h9]
      refine ret_mem [] rfl rfl ?_ ?_
      · repeat' (first | refine And.intro ?_ ?_ | exact trivial)
      · repeat' (first | refine And.intro ?_ ?_ | exact trivial)
        all_goals exact rfl

theorem fits0 {s : List Chg} {a b : List Int} (hv : validE s a.length b.length = 0) : fitsF s a b = if ∀ p ∈ pairsF s 0 0 a.length, sameAt a b p then 0 else 61 := by
  unfold fitsF; rw [if_neg (by omega)]

set_option maxRecDepth 100000 in
set_option maxHeartbeats 4000000 in
theorem fits_nil {s : List Chg} {a b : List Int} (hs : s.length ≤ 9223372036854775807 - 1) (h0 : fitsF s a b = 0) : Con Tryd.prog glob 33 [.s 0 0 s.length, .s 1 0 a.length, .s 2 0 b.length] [(0, chRo s), (1, inRo a), (2, inRo b)] 3
    (retV 3 (.v .nilIface)) := by
  have hv : validE s a.length b.length = 0 := by
    unfold fitsF at h0
    split at h0 <;> omega
  have hd : decide (∀ p ∈ pairsF s 0 0 a.length, sameAt a b p) = true := by
    rw [fits0 hv] at h0
    split at h0
    · rename_i h; exact decide_eq_true h
    · omega
  have hst := stay2_con hs hv
  rw [hd] at hst
  refine spec_intro (tab := tab) (N := 26) Tryd.func33 rfl rfl tab_ok mix rfl rfl _ rfl ?_
  intro B hG
  repeat' (first | refine And.intro (by first | omega | (dsimp only; omega) | (show (_ : Bool) = true; kernel_rfl) | decide | (repeat' (first | refine And.intro ?_ ?_ | exact trivial | exact rfl))) ?_ | refine bcs_dec (fun h => ?_) (fun h => ?_) | refine bcs_ndec (fun h => ?_) (fun h => ?_) | refine bcs_not ?_ | refine bcs_intro (fun h => ?_) (fun h => ?_) | refine And.intro ?_ ?_ | refine reg_tail (by kernel_rfl) ?_)
  refine call_rule [.at 0 0] (valid_ok (by omega) hv) hG ?_ ?_
  · (refine ⟨?_, ?_, rfl, rfl, rfl⟩ <;> repeat' (first | refine And.intro ?_ ?_ | exact trivial | exact rfl | refine lt0 | refine lt1 ?_ | refine lt2 ?_ ?_ | refine lt3 ?_ ?_ ?_ | refine lt4 ?_ ?_ ?_ ?_ | exact veq_refl _ | decide | (intro i hi; repeat' (first | refine And.intro ?_ ?_ | exact trivial | exact rfl))))
    all_goals first | exact Nat.le_refl _ | omega
  rintro _ _ _ ⟨rfl, rfl, rfl⟩
  repeat' (first | refine And.intro (by first | omega | (dsimp only; omega) | (show (_ : Bool) = true; kernel_rfl) | decide | (repeat' (first | refine And.intro ?_ ?_ | exact trivial | exact rfl))) ?_ | refine bcs_dec (fun h => ?_) (fun h => ?_) | refine bcs_ndec (fun h => ?_) (fun h => ?_) | refine bcs_not ?_ | refine bcs_intro (fun h => ?_) (fun h => ?_) | refine And.intro ?_ ?_ | refine reg_tail (by kernel_rfl) ?_)
  refine call_rule [.at 0 0, .at 5 0, .at 3 0, .at 4 0, .at 1 0, .at 2 0] (hst) hG ?_ ?_
  · (refine ⟨?_, ?_, rfl, rfl, rfl⟩ <;> repeat' (first | refine And.intro ?_ ?_ | exact trivial | exact rfl | refine lt0 | refine lt1 ?_ | refine lt2 ?_ ?_ | refine lt3 ?_ ?_ ?_ | refine lt4 ?_ ?_ ?_ ?_ | exact veq_refl _ | decide | (intro i hi; repeat' (first | refine And.intro ?_ ?_ | exact trivial | exact rfl))))
    all_goals first | exact Nat.le_refl _ | omega
  rintro _ _ _ ⟨rfl, rfl, rfl⟩
  repeat' (first | refine And.intro (by first | omega | (dsimp only; omega) | (show (_ : Bool) = true; kernel_rfl) | decide | (repeat' (first | refine And.intro ?_ ?_ | exact trivial | exact rfl))) ?_ | refine bcs_dec (fun h => ?_) (fun h => ?_) | refine bcs_ndec (fun h => ?_) (fun h => ?_) | refine bcs_not ?_ | refine bcs_intro (fun h => ?_) (fun h => ?_) | refine And.intro ?_ ?_ | refine reg_tail (by kernel_rfl) ?_)
  refine ret_plain ?_
  exact rfl

set_option maxRecDepth 100000 in
set_option maxHeartbeats 4000000 in
theorem fits_err {s : List Chg} {a b : List Int} (hs : s.length ≤ 9223372036854775807 - 1) (h0 : fitsF s a b ≠ 0) : Con Tryd.prog glob 33 [.s 0 0 s.length, .s 1 0 a.length, .s 2 0 b.length] [(0, chRo s), (1, inRo a), (2, inRo b)] 3
    (retV 3 (.v (.iface 84 (.int .i64 (fitsF s a b))))) := by
  by_cases hv : validE s a.length b.length = 0
  · have hd : decide (∀ p ∈ pairsF s 0 0 a.length, sameAt a b p) = false ∧ fitsF s a b = 61 := by
      rw [fits0 hv] at h0 ⊢
      split at h0
      · omega
      · rename_i h; exact ⟨decide_eq_false h, if_neg h⟩
    have hst := stay2_con hs hv
    rw [hd.1] at hst
    rw [hd.2]
    refine spec_intro (tab := tab) (N := 26) Tryd.func33 rfl rfl tab_ok mix rfl rfl _ rfl ?_
    intro B hG
    repeat' (first | refine And.intro (by first | omega | (dsimp only; omega) | (show (_ : Bool) = true; kernel_rfl) | decide | (repeat' (first | refine And.intro ?_ ?_ | exact trivial | exact rfl))) ?_ | refine bcs_dec (fun h => ?_) (fun h => ?_) | refine bcs_ndec (fun h => ?_) (fun h => ?_) | refine bcs_not ?_ | refine bcs_intro (fun h => ?_) (fun h => ?_) | refine And.intro ?_ ?_ | refine reg_tail (by kernel_rfl) ?_)
    refine call_rule [.at 0 0] (valid_ok (by omega) hv) hG ?_ ?_
    · (refine ⟨?_, ?_, rfl, rfl, rfl⟩ <;> repeat' (first | refine And.intro ?_ ?_ | exact trivial | exact rfl | refine lt0 | refine lt1 ?_ | refine lt2 ?_ ?_ | refine lt3 ?_ ?_ ?_ | refine lt4 ?_ ?_ ?_ ?_ | exact veq_refl _ | decide | (intro i hi; repeat' (first | refine And.intro ?_ ?_ | exact trivial | exact rfl))))
      all_goals first | exact Nat.le_refl _ | omega
    rintro _ _ _ ⟨rfl, rfl, rfl⟩
    repeat' (first | refine And.intro (by first | omega | (dsimp only; omega) | (show (_ : Bool) = true; kernel_rfl) | decide | (repeat' (first | refine And.intro ?_ ?_ | exact trivial | exact rfl))) ?_ | refine bcs_dec (fun h => ?_) (fun h => ?_) | refine bcs_ndec (fun h => ?_) (fun h => ?_) | refine bcs_not ?_ | refine bcs_intro (fun h => ?_) (fun h => ?_) | refine And.intro ?_ ?_ | refine reg_tail (by kernel_rfl) ?_)
    refine call_rule [.at 0 0, .at 5 0, .at 3 0, .at 4 0, .at 1 0, .at 2 0] (hst) hG ?_ ?_
    · (refine ⟨?_, ?_, rfl, rfl, rfl⟩ <;> repeat' (first | refine And.intro ?_ ?_ | exact trivial | exact rfl | refine lt0 | refine lt1 ?_ | refine lt2 ?_ ?_ | refine lt3 ?_ ?_ ?_ | refine lt4 ?_ ?_ ?_ ?_ | exact veq_refl _ | decide | (intro i hi; repeat' (first | refine And.intro ?_ ?_ | exact trivial | exact rfl))))
      all_goals first | exact Nat.le_refl _ | omega
    rintro _ _ _ ⟨rfl, rfl, rfl⟩
    repeat' (first | refine And.intro (by first | omega | (dsimp only; omega) | (show (_ : Bool) = true; kernel_rfl) | decide | (repeat' (first | refine And.intro ?_ ?_ | exact trivial | exact rfl))) ?_ | refine bcs_dec (fun h => ?_) (fun h => ?_) | refine bcs_ndec (fun h => ?_) (fun h => ?_) | refine bcs_not ?_ | refine bcs_intro (fun h => ?_) (fun h => ?_) | refine And.intro ?_ ?_ | refine reg_tail (by kernel_rfl) ?_)
    refine ret_plain ?_
    exact ⟨rfl, rfl⟩
  · have e : fitsF s a b = validE s a.length b.length := by unfold fitsF; rw [if_pos hv]
    rw [e]
    refine spec_intro (tab := tab) (N := 26) Tryd.func33 rfl rfl tab_ok mix rfl rfl _ rfl ?_
    intro B hG
    repeat' (first | refine And.intro (by first | omega | (dsimp only; omega) | (show (_ : Bool) = true; kernel_rfl) | decide | (repeat' (first | refine And.intro ?_ ?_ | exact trivial | exact rfl))) ?_ | refine bcs_dec (fun h => ?_) (fun h => ?_) | refine bcs_ndec (fun h => ?_) (fun h => ?_) | refine bcs_not ?_ | refine bcs_intro (fun h => ?_) (fun h => ?_) | refine And.intro ?_ ?_ | refine reg_tail (by kernel_rfl) ?_)
    refine call_rule [.at 0 0] (valid_no (by omega) hv) hG ?_ ?_
    · (refine ⟨?_, ?_, rfl, rfl, rfl⟩ <;> repeat' (first | refine And.intro ?_ ?_ | exact trivial | exact rfl | refine lt0 | refine lt1 ?_ | refine lt2 ?_ ?_ | refine lt3 ?_ ?_ ?_ | refine lt4 ?_ ?_ ?_ ?_ | exact veq_refl _ | decide | (intro i hi; repeat' (first | refine And.intro ?_ ?_ | exact trivial | exact rfl))))
      all_goals first | exact Nat.le_refl _ | omega
    rintro _ _ _ ⟨rfl, rfl, rfl⟩
    repeat' (first | refine And.intro (by first | omega | (dsimp only; omega) | (show (_ : Bool) = true; kernel_rfl) | decide | (repeat' (first | refine And.intro ?_ ?_ | exact trivial | exact rfl))) ?_ | refine bcs_dec (fun h => ?_) (fun h => ?_) | refine bcs_ndec (fun h => ?_) (fun h => ?_) | refine bcs_not ?_ | refine bcs_intro (fun h => ?_) (fun h => ?_) | refine And.intro ?_ ?_ | refine reg_tail (by kernel_rfl) ?_)
    refine ret_plain ?_
    exact ⟨rfl, rfl⟩
end Go.Proofs.YtiihmggoebohkaaDoor
