/- Chapter 7: the distance, and what is common. -/
import Derived.Test.YtdabahipeepheaaS10
namespace Go.Proofs.Ytdabahipeepheaa
open Go Go.RowKit Vc

theorem dif_len (g c : List Bool) (n m : Nat) : ∀ (k x y : Nat), (difF g c n m k x y).length ≤ k
  | 0, _, _ => Nat.le_refl _
  | k + 1, x, y => by
    unfold difF
    split
    · split
      · have := dif_len g c n m k (skF g n (n - x) x) (skF c m (m - y) y)
        rw [List.length_cons]; omega
      · have := dif_len g c n m k (x + 1) (y + 1)
        omega
    · simp
theorem diffL_len (A C : Nat → Int) (N M : Nat) : (diffL A C N M).length ≤ N + M := dif_len _ _ _ _ _ _ _
theorem drop_getC {α : Type} (d : α) (s : List α) (k : Nat) (h : k < s.length) : s.drop k = s.getD k d :: s.drop (k + 1) := drop_get d s k h
theorem sum_pos : ∀ (l : List Chg), (∀ e ∈ l, 0 ≤ e.N ∧ 0 ≤ e.M) → 0 ≤ sumN l ∧ 0 ≤ sumM l
  | [], _ => by simp [sumN, sumM]
  | c :: r, h => by
    have h1 := h c (List.mem_cons_self ..)
    have h2 := sum_pos r fun e he => h e (List.mem_cons_of_mem _ he)
    simp only [sumN, sumM]
    omega

set_option maxRecDepth 100000 in
set_option maxHeartbeats 64000000 in
theorem dist_con (A C : Nat → Int) (N M : Nat) (hN : N ≤ 1048576) (hM : M ≤ 1048576) : Con Try.prog glob 7 [.s 0 0 N, .s 1 0 M] [(0, iRo N A), (1, iRo M C)] 2 (retV 2 (.v (.int .i64 (dist A C N M)))) := by
  obtain ⟨hs, hq⟩ := diff_sum A C N M
  have cD := diff_con A C N M hN hM
  have hpos : ∀ e ∈ diffL A C N M, 0 ≤ e.N ∧ 0 ≤ e.M := dif_in _ _ _ _ _ _ _
  have hd : dist A C N M ≤ 2097152 := by unfold dist; omega
  have hlen := diffL_len A C N M
  generalize diffL A C N M = L at *
  generalize dist A C N M = D at *
  clear hq
  refine spec_intro (tab := tab) (N := 25) Try.func7 rfl rfl tab_ok mix rfl rfl _ rfl ?_
  intro B hG
  repeat' (first | refine And.intro (by first | (show (_ : Bool) = true; kernel_rfl) | omega | (dsimp only; omega) | decide | (repeat' (first | refine And.intro ?_ ?_ | exact trivial | exact rfl))) ?_ | refine bcs_dec (fun h => ?_) (fun h => False.elim (by first | omega | exact h rfl)) | refine bcs_dec (fun h => False.elim (by omega)) (fun h => ?_) | refine bcs_dec (fun h => ?_) (fun h => ?_) | refine bcs_ndec (fun h => ?_) (fun h => ?_) | refine bcs_not ?_ | refine bcs_intro (fun h => ?_) (fun h => ?_) | refine And.intro ?_ ?_ | refine reg_tail (by kernel_rfl) ?_)
  refine call_rule [.at 0 0, .at 1 0] (cD) hG ?_ ?_
  · (refine ⟨?_, ?_, rfl, rfl, rfl⟩ <;> repeat' (first | refine And.intro ?_ ?_ | exact trivial | exact rfl | refine lt0 | refine lt1 ?_ | refine lt2 ?_ ?_ | refine lt3 ?_ ?_ ?_ | refine lt4 ?_ ?_ ?_ ?_ | exact veq_refl _ | decide | (intro i hi; repeat' (first | refine And.intro ?_ ?_ | exact trivial | exact rfl))))
    all_goals first | exact Nat.le_refl _ | omega
  rintro _ _ _ ⟨rfl, rfl, rfl⟩
  repeat' (first | refine And.intro (by first | (show (_ : Bool) = true; kernel_rfl) | omega | (dsimp only; omega) | decide | (repeat' (first | refine And.intro ?_ ?_ | exact trivial | exact rfl))) ?_ | refine bcs_dec (fun h => ?_) (fun h => False.elim (by first | omega | exact h rfl)) | refine bcs_dec (fun h => False.elim (by omega)) (fun h => ?_) | refine bcs_dec (fun h => ?_) (fun h => ?_) | refine bcs_ndec (fun h => ?_) (fun h => ?_) | refine bcs_not ?_ | refine bcs_intro (fun h => ?_) (fun h => ?_) | refine And.intro ?_ ?_ | refine reg_tail (by kernel_rfl) ?_)
  refine loop_rule (α := Nat × Int) (fun (k, n) => ⟨[(5, .v (.int .i64 n)), (10, .o 2), (11, .v (.int .i64 L.length)), (12, .v (.int .i64 k))], [(0, iRo N A), (1, iRo M C), (2, chOwn L)], 3⟩)
    (fun (k, n) => k ≤ L.length ∧ 0 ≤ n ∧ n + (sumN (L.drop k) + sumM (L.drop k)) = D) (fun (k, n) => L.length - k) (0, 0) [.at 2 0] ?_ ?_ ?_
  · exact ⟨Nat.zero_le _, Int.le_refl _, by simpa using hs⟩
  · (refine ⟨rfl, rfl, ?_, ?_⟩ <;> repeat' (first | refine And.intro ?_ ?_ | exact trivial | exact rfl | refine lt0 | refine lt1 ?_ | refine lt2 ?_ ?_ | refine lt3 ?_ ?_ ?_ | refine lt4 ?_ ?_ ?_ ?_ | exact veq_refl _ | decide | (intro i hi; repeat' (first | refine And.intro ?_ ?_ | exact trivial | exact rfl))))
    all_goals first | exact Nat.le_refl _ | omega | (dsimp only; omega) | (simp; done) | (show @Eq Int _ _; omega)
  · rintro ⟨k, n⟩ ⟨h1, h2, h3⟩
    have hk : k < L.length → n + ((L.getD (k : Int).toNat Chg.d).N + (L.getD (k : Int).toNat Chg.d).M) + (sumN (L.drop (k + 1)) + sumM (L.drop (k + 1))) = D ∧ 0 ≤ (L.getD (k : Int).toNat Chg.d).N ∧ 0 ≤ (L.getD (k : Int).toNat Chg.d).M ∧ 0 ≤ sumN (L.drop (k + 1)) ∧ 0 ≤ sumM (L.drop (k + 1)) := by
      intro hk
      rw [Int.toNat_natCast]
      have e := drop_getC Chg.d L k hk
      have h4 := sum_pos (L.drop (k + 1)) fun e he => hpos e (List.mem_of_mem_drop he)
      have h5 := hpos (L.getD k Chg.d) (by
        rw [List.getD_eq_getElem?_getD, List.getElem?_eq_getElem hk]; exact List.getElem_mem hk)
      rw [e] at h3
      simp only [sumN, sumM] at h3
      omega
    have he : ¬ k < L.length → n = D := by
      intro hk
      rw [List.drop_of_length_le (by omega)] at h3
      simp only [sumN, sumM] at h3
      omega
    clear h3 hs
    by_cases hk2 : k < L.length
    · have hk3 := hk hk2
      clear hk he
      repeat' (first | refine And.intro (by first | (show (_ : Bool) = true; kernel_rfl) | omega | (dsimp only; omega) | decide | (repeat' (first | refine And.intro ?_ ?_ | exact trivial | exact rfl))) ?_ | refine bcs_dec (fun h => ?_) (fun h => False.elim (by first | omega | exact h rfl)) | refine bcs_dec (fun h => False.elim (by omega)) (fun h => ?_) | refine bcs_dec (fun h => ?_) (fun h => ?_) | refine bcs_ndec (fun h => ?_) (fun h => ?_) | refine bcs_not ?_ | refine bcs_intro (fun h => ?_) (fun h => ?_) | refine And.intro ?_ ?_ | refine reg_tail (by kernel_rfl) ?_)
      all_goals first
        | omega
        | skip
      all_goals
        refine ⟨(k + 1, n + ((L.getD (k : Int).toNat Chg.d).N + (L.getD (k : Int).toNat Chg.d).M)), [.at 2 0], ⟨by omega, by omega, hk3.1⟩, ?_, ?_⟩
        · show L.length - (k + 1) < L.length - k
          omega
        · (refine ⟨rfl, rfl, ?_, ?_⟩ <;> repeat' (first | refine And.intro ?_ ?_ | exact trivial | exact rfl | refine lt0 | refine lt1 ?_ | refine lt2 ?_ ?_ | refine lt3 ?_ ?_ ?_ | refine lt4 ?_ ?_ ?_ ?_ | exact veq_refl _ | decide | (intro i hi; repeat' (first | refine And.intro ?_ ?_ | exact trivial | exact rfl))))
          all_goals first | exact Nat.le_refl _ | omega | (dsimp only; omega) | (simp; done) | (show @Eq Int _ _; omega)
    · have hk3 := he hk2
      clear hk he
      repeat' (first | refine And.intro (by first | (show (_ : Bool) = true; kernel_rfl) | omega | (dsimp only; omega) | decide | (repeat' (first | refine And.intro ?_ ?_ | exact trivial | exact rfl))) ?_ | refine bcs_dec (fun h => ?_) (fun h => False.elim (by first | omega | exact h rfl)) | refine bcs_dec (fun h => False.elim (by omega)) (fun h => ?_) | refine bcs_dec (fun h => ?_) (fun h => ?_) | refine bcs_ndec (fun h => ?_) (fun h => ?_) | refine bcs_not ?_ | refine bcs_intro (fun h => ?_) (fun h => ?_) | refine And.intro ?_ ?_ | refine reg_tail (by kernel_rfl) ?_)
      all_goals first
        | omega
        | skip
      all_goals
        refine ret_plain ?_
        show @Eq Int _ _
        omega

set_option maxRecDepth 100000 in
set_option maxHeartbeats 64000000 in
theorem common_con (A C : Nat → Int) (N M : Nat) (hN : N ≤ 1048576) (hM : M ≤ 1048576) : Con Try.prog glob 9 [.s 0 0 N, .s 1 0 M] [(0, iRo N A), (1, iRo M C)] 2 (retV 2 (.v (.int .i64 (mq (fA A C N M) N M)))) := by
  obtain ⟨hs, hq⟩ := diff_sum A C N M
  have cD := dist_con A C N M hN hM
  have hd : dist A C N M = N + M - 2 * mq (fA A C N M) N M := rfl
  refine spec_intro (tab := tab) (N := 15) Try.func9 rfl rfl tab_ok mix rfl rfl _ rfl ?_
  intro B hG
  repeat' (first | refine And.intro (by first | (show (_ : Bool) = true; kernel_rfl) | omega | (dsimp only; omega) | decide | (repeat' (first | refine And.intro ?_ ?_ | exact trivial | exact rfl))) ?_ | refine bcs_dec (fun h => ?_) (fun h => False.elim (by first | omega | exact h rfl)) | refine bcs_dec (fun h => False.elim (by omega)) (fun h => ?_) | refine bcs_dec (fun h => ?_) (fun h => ?_) | refine bcs_ndec (fun h => ?_) (fun h => ?_) | refine bcs_not ?_ | refine bcs_intro (fun h => ?_) (fun h => ?_) | refine And.intro ?_ ?_ | refine reg_tail (by kernel_rfl) ?_)
  refine call_rule [.at 0 0, .at 1 0] (cD) hG ?_ ?_
  · (refine ⟨?_, ?_, rfl, rfl, rfl⟩ <;> repeat' (first | refine And.intro ?_ ?_ | exact trivial | exact rfl | refine lt0 | refine lt1 ?_ | refine lt2 ?_ ?_ | refine lt3 ?_ ?_ ?_ | refine lt4 ?_ ?_ ?_ ?_ | exact veq_refl _ | decide | (intro i hi; repeat' (first | refine And.intro ?_ ?_ | exact trivial | exact rfl))))
    all_goals first | exact Nat.le_refl _ | omega
  rintro _ _ _ ⟨rfl, rfl, rfl⟩
  repeat' (first | refine And.intro (by first | (show (_ : Bool) = true; kernel_rfl) | omega | (dsimp only; omega) | decide | (repeat' (first | refine And.intro ?_ ?_ | exact trivial | exact rfl))) ?_ | refine bcs_dec (fun h => ?_) (fun h => False.elim (by first | omega | exact h rfl)) | refine bcs_dec (fun h => False.elim (by omega)) (fun h => ?_) | refine bcs_dec (fun h => ?_) (fun h => ?_) | refine bcs_ndec (fun h => ?_) (fun h => ?_) | refine bcs_not ?_ | refine bcs_intro (fun h => ?_) (fun h => ?_) | refine And.intro ?_ ?_ | refine reg_tail (by kernel_rfl) ?_)
  refine ret_plain ?_
  show @Eq Int _ _
  omega
end Go.Proofs.Ytdabahipeepheaa
