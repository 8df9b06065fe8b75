/- Chapter 7: long rows: walked. -/
import Derived.Test.YtdabahipeepheaaF2
namespace Go.Proofs.Ytdabahipeepheaa
open Go Go.RowKit Vc

def lSt (K : Nat) (pl : Nat → Int) (N : Int) (P b : List Int) (t : Nat) (i : Nat) : St := ⟨[(0, .v (.int .i64 N)), (1, .s 0 0 K), (5, .o 1), (6, .o 2), (t, .v (.int .i64 i))], [(0, iRo K pl), (1, iOwn P), (2, iOwn b)], 3⟩

set_option maxRecDepth 100000 in
set_option maxHeartbeats 64000000 in
theorem long_con (n : Int) (K : Nat) (pl : Nat → Int) : Con Try.prog glob 6 [.v (.int .i64 n), .s 0 0 K] [(0, iRo K pl)] 1 (retV 1 (.v (.bool true))) := by
  obtain ⟨N, hN⟩ : ∃ N : Nat, (N : Int) = max 0 (min n 3000) := ⟨(max 0 (min n 3000)).toNat, by omega⟩
  have hN3 : N ≤ 3000 := by omega
  refine spec_intro (tab := tab) (N := 95) Try.func6 rfl rfl tab_ok mix rfl rfl _ rfl ?_
  intro B hG
  repeat' (first | refine And.intro (by first | omega | (dsimp only; omega) | (show (_ : Bool) = true; kernel_rfl) | decide | (repeat' (first | refine And.intro ?_ ?_ | exact trivial | exact rfl))) ?_ | refine bcs_dec (fun h => ?_) (fun h => False.elim (by first | omega | exact h rfl)) | refine bcs_dec (fun h => False.elim (by omega)) (fun h => ?_) | refine bcs_dec (fun h => ?_) (fun h => ?_) | refine bcs_ndec (fun h => ?_) (fun h => ?_) | refine bcs_not ?_ | refine bcs_intro (fun h => ?_) (fun h => ?_) | refine And.intro ?_ ?_ | refine reg_tail (by kernel_rfl) ?_)
  refine loop_out (fun P : List Int => lSt K pl N P P 7 N) (fun P => P.length = N)
    (loop_rule (α := Nat × List Int) (fun (i, P) => lSt K pl N P P 7 i) (fun (i, P) => i ≤ N ∧ P.length = i) (fun (i, _) => N - i) (0, []) [.nil 1, .nil 1] ⟨Nat.zero_le _, rfl⟩ ?_ ?_) ?_
  · (refine ⟨rfl, rfl, ?_, ?_⟩ <;> repeat' (first | refine And.intro ?_ ?_ | exact trivial | exact rfl | refine lt0 | refine lt1 ?_ | refine lt2 ?_ ?_ | refine lt3 ?_ ?_ ?_ | refine lt4 ?_ ?_ ?_ ?_ | exact veq_refl _ | decide | (intro i hi; repeat' (first | refine And.intro ?_ ?_ | exact trivial | exact rfl))))
    all_goals first | exact Nat.le_refl _ | omega | (dsimp only; omega) | (simp; done) | (show @Eq Int _ _; omega)
  · rintro ⟨i, P⟩ ⟨h1, h2⟩
    clear hN
    repeat' (first | refine And.intro (by first | omega | (dsimp only; omega) | (show (_ : Bool) = true; kernel_rfl) | decide | (repeat' (first | refine And.intro ?_ ?_ | exact trivial | exact rfl))) ?_ | refine bcs_dec (fun h => ?_) (fun h => False.elim (by first | omega | exact h rfl)) | refine bcs_dec (fun h => False.elim (by omega)) (fun h => ?_) | refine bcs_dec (fun h => ?_) (fun h => ?_) | refine bcs_ndec (fun h => ?_) (fun h => ?_) | refine bcs_not ?_ | refine bcs_intro (fun h => ?_) (fun h => ?_) | refine And.intro ?_ ?_ | refine reg_tail (by kernel_rfl) ?_)
    all_goals first
      | omega
      | skip
    · refine app1 nEnc 0 P ((i : Int).tmod 7) rfl rfl ?_
      repeat' (first | refine And.intro (by first | omega | (dsimp only; omega) | (show (_ : Bool) = true; kernel_rfl) | decide | (repeat' (first | refine And.intro ?_ ?_ | exact trivial | exact rfl))) ?_ | refine bcs_dec (fun h => ?_) (fun h => False.elim (by first | omega | exact h rfl)) | refine bcs_dec (fun h => False.elim (by omega)) (fun h => ?_) | refine bcs_dec (fun h => ?_) (fun h => ?_) | refine bcs_ndec (fun h => ?_) (fun h => ?_) | refine bcs_not ?_ | refine bcs_intro (fun h => ?_) (fun h => ?_) | refine And.intro ?_ ?_ | refine reg_tail (by kernel_rfl) ?_)
      refine app1 nEnc 0 P ((i : Int).tmod 7) rfl rfl ?_
      repeat' (first | refine And.intro (by first | omega | (dsimp only; omega) | (show (_ : Bool) = true; kernel_rfl) | decide | (repeat' (first | refine And.intro ?_ ?_ | exact trivial | exact rfl))) ?_ | refine bcs_dec (fun h => ?_) (fun h => False.elim (by first | omega | exact h rfl)) | refine bcs_dec (fun h => False.elim (by omega)) (fun h => ?_) | refine bcs_dec (fun h => ?_) (fun h => ?_) | refine bcs_ndec (fun h => ?_) (fun h => ?_) | refine bcs_not ?_ | refine bcs_intro (fun h => ?_) (fun h => ?_) | refine And.intro ?_ ?_ | refine reg_tail (by kernel_rfl) ?_)
      refine ⟨(i + 1, P ++ [(i : Int).tmod 7]), [.at 4 0, .at 6 0], ⟨by omega, by rw [List.length_append, h2]; rfl⟩, by dsimp only; omega, ?_⟩
      (refine ⟨rfl, rfl, ?_, ?_⟩ <;> repeat' (first | refine And.intro ?_ ?_ | exact trivial | exact rfl | refine lt0 | refine lt1 ?_ | refine lt2 ?_ ?_ | refine lt3 ?_ ?_ ?_ | refine lt4 ?_ ?_ ?_ ?_ | exact veq_refl _ | decide | (intro i hi; repeat' (first | refine And.intro ?_ ?_ | exact trivial | exact rfl))))
      all_goals first | exact Nat.le_refl _ | omega | (dsimp only; omega) | (simp; done) | (show @Eq Int _ _; omega)
    · have e : i = N := by omega
      refine ⟨P, [.at 1 0, .at 2 0], by omega, ?_⟩
      (refine ⟨rfl, rfl, ?_, ?_⟩ <;> repeat' (first | refine And.intro ?_ ?_ | exact trivial | exact rfl | refine lt0 | refine lt1 ?_ | refine lt2 ?_ ?_ | refine lt3 ?_ ?_ ?_ | refine lt4 ?_ ?_ ?_ ?_ | exact veq_refl _ | decide | (intro i hi; repeat' (first | refine And.intro ?_ ?_ | exact trivial | exact rfl))))
      all_goals first | exact Nat.le_refl _ | omega | (dsimp only; omega) | (simp; done) | (show @Eq Int _ _; omega)
  intro P lP
  clear hN
  repeat' (first | refine And.intro (by first | omega | (dsimp only; omega) | (show (_ : Bool) = true; kernel_rfl) | decide | (repeat' (first | refine And.intro ?_ ?_ | exact trivial | exact rfl))) ?_ | refine bcs_dec (fun h => ?_) (fun h => False.elim (by first | omega | exact h rfl)) | refine bcs_dec (fun h => False.elim (by omega)) (fun h => ?_) | refine bcs_dec (fun h => ?_) (fun h => ?_) | refine bcs_ndec (fun h => ?_) (fun h => ?_) | refine bcs_not ?_ | refine bcs_intro (fun h => ?_) (fun h => ?_) | refine And.intro ?_ ?_ | refine reg_tail (by kernel_rfl) ?_)
  refine loop_out (fun y : List Int × Nat => lSt K pl N P y.1 8 y.2) (fun y => y.1.length = N ∧ dist (lA P) (lA y.1) N N ≤ 40)
    (loop_rule (α := Nat × List Int) (fun (i, b) => lSt K pl N P b 8 i) (fun (i, b) => i ≤ K ∧ i ≤ 20 ∧ b.length = N ∧ dist (lA P) (lA b) N N ≤ 2 * i) (fun (i, _) => 20 - i) (0, P) [.at 1 0, .at 2 0] ⟨Nat.zero_le _, Nat.zero_le _, lP, ?_⟩ ?_ ?_) ?_
  · have := dist_self P
    rw [lP] at this
    omega
  · (refine ⟨rfl, rfl, ?_, ?_⟩ <;> repeat' (first | refine And.intro ?_ ?_ | exact trivial | exact rfl | refine lt0 | refine lt1 ?_ | refine lt2 ?_ ?_ | refine lt3 ?_ ?_ ?_ | refine lt4 ?_ ?_ ?_ ?_ | exact veq_refl _ | decide | (intro i hi; repeat' (first | refine And.intro ?_ ?_ | exact trivial | exact rfl))))
    all_goals first | exact Nat.le_refl _ | omega | (dsimp only; omega) | (simp; done) | (show @Eq Int _ _; omega)
  · rintro ⟨i, b⟩ ⟨h1, h2, h3, h4⟩
    have hb1 : 0 < N → -(N : Int) < ((pl (0 + (i : Int).toNat)).tmod (N : Int)) ∧ ((pl (0 + (i : Int).toNat)).tmod (N : Int)) < N := fun h0 => ⟨Int.lt_tmod_of_pos _ (by omega), Int.tmod_lt_of_pos _ (by omega)⟩
    have hb2 : 0 < N → 0 ≤ ((((pl (0 + (i : Int).toNat)).tmod (N : Int)) + (N : Int)).tmod (N : Int)) ∧ ((((pl (0 + (i : Int).toNat)).tmod (N : Int)) + (N : Int)).tmod (N : Int)) < N := fun h0 => by
      rw [rem_eq _ _ (by omega)]
      exact mod_in _ (by omega)
    have hd : ∀ v : Int, 0 < N → dist (lA P) (lA (b.set (((((pl (0 + (i : Int).toNat)).tmod (N : Int)) + (N : Int)).tmod (N : Int))).toNat v)) N N ≤ 2 * (i + 1) := fun v h0 => by
      have q1 := dist_set b (((((pl (0 + (i : Int).toNat)).tmod (N : Int)) + (N : Int)).tmod (N : Int))).toNat v (by have := hb2 h0; omega)
      rw [h3] at q1
      have q2 := dist_tri (lA P) (lA (b.set (((((pl (0 + (i : Int).toNat)).tmod (N : Int)) + (N : Int)).tmod (N : Int))).toNat v)) (lA b) N N N
      omega
    have hid := Hd.mk hd
    have hid4 := Hd.mk h4
    clear hd h4
    repeat' (first | refine And.intro (by first | omega | (dsimp only; omega) | (show (_ : Bool) = true; kernel_rfl) | decide | (repeat' (first | refine And.intro ?_ ?_ | exact trivial | exact rfl))) ?_ | refine bcs_dec (fun h => ?_) (fun h => False.elim (by first | omega | exact h rfl)) | refine bcs_dec (fun h => False.elim (by omega)) (fun h => ?_) | refine bcs_dec (fun h => ?_) (fun h => ?_) | refine bcs_ndec (fun h => ?_) (fun h => ?_) | refine bcs_not ?_ | refine bcs_intro (fun h => ?_) (fun h => ?_) | refine And.intro ?_ ?_ | refine reg_tail (by kernel_rfl) ?_)
    all_goals first
      | omega
      | skip
    · refine sto1 nEnc 0 b (100 + (i : Int)) rfl (by omega) rfl ?_
      repeat' (first | refine And.intro (by first | omega | (dsimp only; omega) | (show (_ : Bool) = true; kernel_rfl) | decide | (repeat' (first | refine And.intro ?_ ?_ | exact trivial | exact rfl))) ?_ | refine bcs_dec (fun h => ?_) (fun h => False.elim (by first | omega | exact h rfl)) | refine bcs_dec (fun h => False.elim (by omega)) (fun h => ?_) | refine bcs_dec (fun h => ?_) (fun h => ?_) | refine bcs_ndec (fun h => ?_) (fun h => ?_) | refine bcs_not ?_ | refine bcs_intro (fun h => ?_) (fun h => ?_) | refine And.intro ?_ ?_ | refine reg_tail (by kernel_rfl) ?_)
      all_goals first
        | omega
        | skip
      refine ⟨(i + 1, b.set (((((pl (0 + (i : Int).toNat)).tmod (N : Int)) + (N : Int)).tmod (N : Int))).toNat (100 + (i : Int))), [.at 1 0, .at 2 0], ⟨by omega, by omega, by rw [List.length_set]; exact h3, hid.out _ (by omega)⟩, by dsimp only; omega, ?_⟩
      (refine ⟨rfl, rfl, ?_, ?_⟩ <;> repeat' (first | refine And.intro ?_ ?_ | exact trivial | exact rfl | refine lt0 | refine lt1 ?_ | refine lt2 ?_ ?_ | refine lt3 ?_ ?_ ?_ | refine lt4 ?_ ?_ ?_ ?_ | exact veq_refl _ | decide | (intro i hi; repeat' (first | refine And.intro ?_ ?_ | exact trivial | exact rfl))))
      all_goals first | exact Nat.le_refl _ | omega | (dsimp only; omega) | (simp; done) | (show @Eq Int _ _; omega)
    all_goals
      have := hid4.out
      refine ⟨(b, i), [.at 1 0, .at 2 0], ⟨h3, by dsimp only; omega⟩, ?_⟩
      (refine ⟨rfl, rfl, ?_, ?_⟩ <;> repeat' (first | refine And.intro ?_ ?_ | exact trivial | exact rfl | refine lt0 | refine lt1 ?_ | refine lt2 ?_ ?_ | refine lt3 ?_ ?_ ?_ | refine lt4 ?_ ?_ ?_ ?_ | exact veq_refl _ | decide | (intro i hi; repeat' (first | refine And.intro ?_ ?_ | exact trivial | exact rfl))))
      all_goals first | exact Nat.le_refl _ | omega | (dsimp only; omega) | (simp; done) | (show @Eq Int _ _; omega)
  rintro ⟨b, i⟩ ⟨lb, hd⟩
  dsimp only at lb hd
  obtain ⟨w1, w2, w3⟩ := diff_law P b (by omega) (by omega)
  obtain ⟨w4, _⟩ := diff_sum (lA P) (lA b) P.length b.length
  have w5 := valid_mem _ 0 0 _ _ (Int.le_refl _) (Int.le_refl _) (valid_range w1).2.2.2.2
  have w6 := diffL_len (lA P) (lA b) P.length b.length
  have w7 := sum_pos _ fun e he => ⟨(w5 e he).2.2.1, (w5 e he).2.2.2.1⟩
  have cD := diff_con (lA P) (lA b) P.length b.length (by omega) (by omega)
  have cE := dist_con (lA P) (lA b) P.length b.length (by omega) (by omega)
  have hd' : dist (lA P) (lA b) P.length b.length ≤ 40 := by rw [lP, lb]; exact hd
  generalize hL : diffL (lA P) (lA b) P.length b.length = L at *
  have cF := rFits_con (s := L) (a := P) (b := b) (by omega)
  have cN := normal7_con L (by omega) w3 (fun e he => by have := w5 e he; omega)
  have cC := costR_con L (by omega)
  rw [w2] at cF
  rw [cost_sum L 0 0 (fun e he => by have := w5 e he; omega) (Int.le_refl _) (Int.le_refl _) (by omega) (by omega)] at cC
  obtain ⟨d, hdd⟩ : ∃ d, d = dist (lA P) (lA b) P.length b.length := ⟨_, rfl⟩
  rw [← hdd] at cE w4 hd'
  obtain ⟨sN, hsN⟩ : ∃ d, d = sumN L := ⟨_, rfl⟩
  obtain ⟨sM, hsM⟩ : ∃ d, d = sumM L := ⟨_, rfl⟩
  rw [← hsN, ← hsM] at cC w4 w7
  clear hL hdd hsN hsM w1 w2 w3 w5 hd
  repeat' (first | refine And.intro (by first | omega | (dsimp only; omega) | (show (_ : Bool) = true; kernel_rfl) | decide | (repeat' (first | refine And.intro ?_ ?_ | exact trivial | exact rfl))) ?_ | refine bcs_dec (fun h => ?_) (fun h => False.elim (by first | omega | exact h rfl)) | refine bcs_dec (fun h => False.elim (by omega)) (fun h => ?_) | refine bcs_dec (fun h => ?_) (fun h => ?_) | refine bcs_ndec (fun h => ?_) (fun h => ?_) | refine bcs_not ?_ | refine bcs_intro (fun h => ?_) (fun h => ?_) | refine And.intro ?_ ?_ | refine reg_tail (by kernel_rfl) ?_)
  refine call_rule [.at 1 0, .at 2 0] (cD) hG ?_ ?_
  · (refine ⟨?_, ?_, rfl, rfl, rfl⟩ <;> repeat' (first | refine And.intro ?_ ?_ | exact trivial | exact rfl | refine lt0 | refine lt1 ?_ | refine lt2 ?_ ?_ | refine lt3 ?_ ?_ ?_ | refine lt4 ?_ ?_ ?_ ?_ | exact veq_refl _ | decide | (intro i hi; repeat' (first | refine And.intro ?_ ?_ | exact trivial | exact rfl))))
    all_goals first | exact Nat.le_refl _ | omega
  rintro _ _ _ ⟨rfl, rfl, rfl⟩
  repeat' (first | refine And.intro (by first | omega | (dsimp only; omega) | (show (_ : Bool) = true; kernel_rfl) | decide | (repeat' (first | refine And.intro ?_ ?_ | exact trivial | exact rfl))) ?_ | refine bcs_dec (fun h => ?_) (fun h => False.elim (by first | omega | exact h rfl)) | refine bcs_dec (fun h => False.elim (by omega)) (fun h => ?_) | refine bcs_dec (fun h => ?_) (fun h => ?_) | refine bcs_ndec (fun h => ?_) (fun h => ?_) | refine bcs_not ?_ | refine bcs_intro (fun h => ?_) (fun h => ?_) | refine And.intro ?_ ?_ | refine reg_tail (by kernel_rfl) ?_)
  refine call_rule [.at 3 0] (cC) hG ?_ ?_
  · (refine ⟨?_, ?_, rfl, rfl, rfl⟩ <;> repeat' (first | refine And.intro ?_ ?_ | exact trivial | exact rfl | refine lt0 | refine lt1 ?_ | refine lt2 ?_ ?_ | refine lt3 ?_ ?_ ?_ | refine lt4 ?_ ?_ ?_ ?_ | exact veq_refl _ | decide | (intro i hi; repeat' (first | refine And.intro ?_ ?_ | exact trivial | exact rfl))))
    all_goals first | exact Nat.le_refl _ | omega
  rintro _ _ _ ⟨rfl, rfl, rfl⟩
  repeat' (first | refine And.intro (by first | omega | (dsimp only; omega) | (show (_ : Bool) = true; kernel_rfl) | decide | (repeat' (first | refine And.intro ?_ ?_ | exact trivial | exact rfl))) ?_ | refine bcs_dec (fun h => ?_) (fun h => False.elim (by first | omega | exact h rfl)) | refine bcs_dec (fun h => False.elim (by omega)) (fun h => ?_) | refine bcs_dec (fun h => ?_) (fun h => ?_) | refine bcs_ndec (fun h => ?_) (fun h => ?_) | refine bcs_not ?_ | refine bcs_intro (fun h => ?_) (fun h => ?_) | refine And.intro ?_ ?_ | refine reg_tail (by kernel_rfl) ?_)
  refine call_rule [.at 3 0, .at 1 0, .at 2 0] (cF) hG ?_ ?_
  · (refine ⟨?_, ?_, rfl, rfl, rfl⟩ <;> repeat' (first | refine And.intro ?_ ?_ | exact trivial | exact rfl | refine lt0 | refine lt1 ?_ | refine lt2 ?_ ?_ | refine lt3 ?_ ?_ ?_ | refine lt4 ?_ ?_ ?_ ?_ | exact veq_refl _ | decide | (intro i hi; repeat' (first | refine And.intro ?_ ?_ | exact trivial | exact rfl))))
    all_goals first | exact Nat.le_refl _ | omega
  rintro _ _ _ ⟨rfl, rfl, rfl⟩
  repeat' (first | refine And.intro (by first | omega | (dsimp only; omega) | (show (_ : Bool) = true; kernel_rfl) | decide | (repeat' (first | refine And.intro ?_ ?_ | exact trivial | exact rfl))) ?_ | refine bcs_dec (fun h => ?_) (fun h => False.elim (by first | omega | exact h rfl)) | refine bcs_dec (fun h => False.elim (by omega)) (fun h => ?_) | refine bcs_dec (fun h => ?_) (fun h => ?_) | refine bcs_ndec (fun h => ?_) (fun h => ?_) | refine bcs_not ?_ | refine bcs_intro (fun h => ?_) (fun h => ?_) | refine And.intro ?_ ?_ | refine reg_tail (by kernel_rfl) ?_)
  all_goals first
    | omega
    | (exfalso; omega)
    | skip
  refine call_rule [.at 3 0] (cN) hG ?_ ?_
  · (refine ⟨?_, ?_, rfl, rfl, rfl⟩ <;> repeat' (first | refine And.intro ?_ ?_ | exact trivial | exact rfl | refine lt0 | refine lt1 ?_ | refine lt2 ?_ ?_ | refine lt3 ?_ ?_ ?_ | refine lt4 ?_ ?_ ?_ ?_ | exact veq_refl _ | decide | (intro i hi; repeat' (first | refine And.intro ?_ ?_ | exact trivial | exact rfl))))
    all_goals first | exact Nat.le_refl _ | omega
  rintro _ _ _ ⟨rfl, rfl, rfl⟩
  repeat' (first | refine And.intro (by first | omega | (dsimp only; omega) | (show (_ : Bool) = true; kernel_rfl) | decide | (repeat' (first | refine And.intro ?_ ?_ | exact trivial | exact rfl))) ?_ | refine bcs_dec (fun h => ?_) (fun h => False.elim (by first | omega | exact h rfl)) | refine bcs_dec (fun h => False.elim (by omega)) (fun h => ?_) | refine bcs_dec (fun h => ?_) (fun h => ?_) | refine bcs_ndec (fun h => ?_) (fun h => ?_) | refine bcs_not ?_ | refine bcs_intro (fun h => ?_) (fun h => ?_) | refine And.intro ?_ ?_ | refine reg_tail (by kernel_rfl) ?_)
  all_goals first
    | omega
    | (exfalso; omega)
    | skip
  refine call_rule [.at 1 0, .at 2 0] (cE) hG ?_ ?_
  · (refine ⟨?_, ?_, rfl, rfl, rfl⟩ <;> repeat' (first | refine And.intro ?_ ?_ | exact trivial | exact rfl | refine lt0 | refine lt1 ?_ | refine lt2 ?_ ?_ | refine lt3 ?_ ?_ ?_ | refine lt4 ?_ ?_ ?_ ?_ | exact veq_refl _ | decide | (intro i hi; repeat' (first | refine And.intro ?_ ?_ | exact trivial | exact rfl))))
    all_goals first | exact Nat.le_refl _ | omega
  rintro _ _ _ ⟨rfl, rfl, rfl⟩
  repeat' (first | refine And.intro (by first | omega | (dsimp only; omega) | (show (_ : Bool) = true; kernel_rfl) | decide | (repeat' (first | refine And.intro ?_ ?_ | exact trivial | exact rfl))) ?_ | refine bcs_dec (fun h => ?_) (fun h => False.elim (by first | omega | exact h rfl)) | refine bcs_dec (fun h => False.elim (by omega)) (fun h => ?_) | refine bcs_dec (fun h => ?_) (fun h => ?_) | refine bcs_ndec (fun h => ?_) (fun h => ?_) | refine bcs_not ?_ | refine bcs_intro (fun h => ?_) (fun h => ?_) | refine And.intro ?_ ?_ | refine reg_tail (by kernel_rfl) ?_)
  all_goals first
    | omega
    | (exfalso; omega)
    | skip
  refine call_rule [] (sure_con) hG ?_ ?_
  · (refine ⟨?_, ?_, rfl, rfl, rfl⟩ <;> repeat' (first | refine And.intro ?_ ?_ | exact trivial | exact rfl | refine lt0 | refine lt1 ?_ | refine lt2 ?_ ?_ | refine lt3 ?_ ?_ ?_ | refine lt4 ?_ ?_ ?_ ?_ | exact veq_refl _ | decide | (intro i hi; repeat' (first | refine And.intro ?_ ?_ | exact trivial | exact rfl))))
    all_goals first | exact Nat.le_refl _ | omega
  rintro _ _ _ ⟨rfl, rfl, rfl⟩
  repeat' (first | refine And.intro (by first | omega | (dsimp only; omega) | (show (_ : Bool) = true; kernel_rfl) | decide | (repeat' (first | refine And.intro ?_ ?_ | exact trivial | exact rfl))) ?_ | refine bcs_dec (fun h => ?_) (fun h => False.elim (by first | omega | exact h rfl)) | refine bcs_dec (fun h => False.elim (by omega)) (fun h => ?_) | refine bcs_dec (fun h => ?_) (fun h => ?_) | refine bcs_ndec (fun h => ?_) (fun h => ?_) | refine bcs_not ?_ | refine bcs_intro (fun h => ?_) (fun h => ?_) | refine And.intro ?_ ?_ | refine reg_tail (by kernel_rfl) ?_)
  refine ret_plain ?_
  exact rfl
end Go.Proofs.Ytdabahipeepheaa
