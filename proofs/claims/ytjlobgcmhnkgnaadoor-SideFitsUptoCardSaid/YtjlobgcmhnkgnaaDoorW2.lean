/- Chapter 15: the pieces of a text: both functions walked. -/
import Derived.Test.YtjlobgcmhnkgnaaDoorW1
namespace Go.Proofs.YtjlobgcmhnkgnaaDoor
open Go Go.RowKit Vc

abbrev u8s (c : UInt8) : SV := .v (.int .u8 (c.toNat : Int))
theorem kind0 {c : UInt8} (h : (97 ≤ c.toNat ∧ c.toNat ≤ 122) ∨ (65 ≤ c.toNat ∧ c.toNat ≤ 90) ∨ (48 ≤ c.toNat ∧ c.toNat ≤ 57) ∨ c.toNat = 95 ∨ 128 ≤ c.toNat) : kindF c = 0 := by unfold kindF; rw [if_pos h]
theorem kind1 {c : UInt8} (h : ¬ ((97 ≤ c.toNat ∧ c.toNat ≤ 122) ∨ (65 ≤ c.toNat ∧ c.toNat ≤ 90) ∨ (48 ≤ c.toNat ∧ c.toNat ≤ 57) ∨ c.toNat = 95 ∨ 128 ≤ c.toNat)) (k : c.toNat = 9 ∨ c.toNat = 32) : kindF c = 1 := by unfold kindF; rw [if_neg h, if_pos k]
theorem kind2 {c : UInt8} (h : ¬ ((97 ≤ c.toNat ∧ c.toNat ≤ 122) ∨ (65 ≤ c.toNat ∧ c.toNat ≤ 90) ∨ (48 ≤ c.toNat ∧ c.toNat ≤ 57) ∨ c.toNat = 95 ∨ 128 ≤ c.toNat)) (k : ¬ (c.toNat = 9 ∨ c.toNat = 32)) : kindF c = 2 := by unfold kindF; rw [if_neg h, if_neg k]
set_option maxRecDepth 100000 in
set_option maxHeartbeats 4000000 in
theorem kind_con (c : UInt8) : Con Tryd.prog glob 54 [u8s c] [] 0 (retV 0 (.v (.int .i64 (kindF c : Int)))) := by
  have hc : c.toNat < 256 := c.toNat_lt
  refine spec_intro (tab := tab) (N := 31) Tryd.func54 rfl rfl tab_ok mix rfl rfl _ rfl ?_
  intro B hG
  repeat' (first | refine And.intro (by first | omega | (dsimp only; omega) | (show (_ : Bool) = true; kernel_rfl) | decide | (repeat' (first | refine And.intro ?_ ?_ | exact trivial | exact rfl))) ?_ | refine bcs_dec (fun h => ?_) (fun h => ?_) | refine bcs_ndec (fun h => ?_) (fun h => ?_) | refine bcs_not ?_ | refine bcs_intro (fun h => ?_) (fun h => ?_) | refine And.intro ?_ ?_ | refine reg_tail (by kernel_rfl) ?_)
  all_goals
    refine ret_plain ?_
    refine veq_of_eq (congrArg (Value.int .i64) ?_)
    first
      | (rw [kind0 (by omega)]; rfl)
      | (rw [kind1 (by omega) (by omega)]; rfl)
      | (rw [kind2 (by omega) (by omega)]; rfl)
def classF (c : UInt8) : Int := if kindF c = 0 then 1 else if kindF c = 1 then 2 else 0
theorem nil_of {r : Byt} (h : ((bs r).toList == (ByteArray.mk #[]).toList) = true) : r = [] := by
  have := (bs_eq r []).symm.trans h
  simpa using this
theorem cons_of {r : Byt} (h : ((bs r).toList == (ByteArray.mk #[]).toList) = false) : r ≠ [] := by
  have := (bs_eq r []).symm.trans h
  simpa using this
theorem seq (a : Byt) : ((bs a).toList == (bs a).toList) = true := by rw [bs_eq]; simp
theorem cut0 (r : Byt) (j : Nat) : (bs r).extract 0 j = bs (r.take j) := by rw [bs_cut]; simp
theorem cutE (r : Byt) (i : Nat) : (bs r).extract i (bs r).size = bs (r.drop i) := by
  rw [bs_cut, bs_size, List.take_of_length_le (by simp)]
theorem enc_eq {x y : ByteArray} (h : x = y) : [SV.v (.string x)] = [SV.v (.string y)] := by rw [h]
theorem kind_le (c : UInt8) : kindF c ≤ 2 := by unfold kindF; split; omega; split <;> omega

set_option maxRecDepth 100000 in
set_option maxHeartbeats 4000000 in
theorem words_con (l : Byt) (hl : l.length ≤ 4194304) : Con Tryd.prog glob 30 [str l] [] 0 (retM (.o 0) [(0, stOwn (wordsF l))] 1) := by
  refine spec_intro (tab := tab) (N := 39) Tryd.func30 rfl rfl tab_ok mix rfl rfl _ rfl ?_
  intro B hG
  repeat' (first | refine And.intro (by first | omega | (dsimp only; omega) | (show (_ : Bool) = true; kernel_rfl) | decide | (repeat' (first | refine And.intro ?_ ?_ | exact trivial | exact rfl))) ?_ | refine bcs_dec (fun h => ?_) (fun h => ?_) | refine bcs_ndec (fun h => ?_) (fun h => ?_) | refine bcs_not ?_ | refine bcs_intro (fun h => ?_) (fun h => ?_) | refine And.intro ?_ ?_ | refine reg_tail (by kernel_rfl) ?_)
  refine loop_rule (α := Byt × List Byt) (fun (r, out) => ⟨[(0, str r), (3, .o 0)], [(0, stOwn out)], 1⟩)
    (fun (r, out) => r.length ≤ 4194304 ∧ out.length + r.length ≤ 4194304 ∧ out ++ wordsF r = wordsF l) (fun (r, _) => r.length) (l, []) [.nil 1] ?_ ?_ ?_
  · exact ⟨hl, by simpa using hl, rfl⟩
  · (refine ⟨rfl, rfl, ?_, ?_⟩ <;> repeat' (first | refine And.intro ?_ ?_ | exact trivial | exact rfl | refine lt0 | refine lt1 ?_ | refine lt2 ?_ ?_ | refine lt3 ?_ ?_ ?_ | refine lt4 ?_ ?_ ?_ ?_ | exact veq_refl _ | decide | (intro i hi; repeat' (first | refine And.intro ?_ ?_ | exact trivial | exact rfl))))
  rintro ⟨r, out⟩ ⟨h1, h2, h3⟩
  have hb : (bs r).size = r.length := bs_size r
  by_cases hr : r = []
  · repeat' (first | refine bcs_not ?_ | refine bcs_intro (fun _ => ?_) (fun h => absurd hr (cons_of h)) | refine And.intro ?_ ?_)
    obtain rfl := hr
    have e : out = wordsF l := by rw [← h3]; simp [wordsF]
    subst e
    refine ret_mem [.at 0 0] rfl rfl ?_ ?_
    · repeat' (first | refine And.intro ?_ ?_ | exact trivial)
      all_goals exact rfl
    · repeat' (first | refine And.intro ?_ ?_ | exact trivial)
      · exact rfl
      · intro i hi
        repeat' (first | refine And.intro ?_ ?_ | exact trivial)
        all_goals exact rfl
  · have hp := List.length_pos_iff.2 hr
    have hk0 := kind_con (r.getD 0 0)
    have hk2 := kind_le (r.getD 0 0)
    repeat' (first | refine And.intro (by first | omega | (dsimp only; omega) | (show (_ : Bool) = true; kernel_rfl) | decide | (repeat' (first | refine And.intro ?_ ?_ | exact trivial | exact rfl))) ?_ | refine bcs_dec (fun h => ?_) (fun h => ?_) | refine bcs_ndec (fun h => ?_) (fun h => ?_) | refine bcs_not ?_ | refine bcs_intro (fun h => ?_) (fun h => ?_) | refine And.intro ?_ ?_ | refine reg_tail (by kernel_rfl) ?_)
    · exact absurd (nil_of (by assumption)) hr
    refine call_rule [] (hk0) hG ?_ ?_
    · (refine ⟨?_, ?_, rfl, rfl, rfl⟩ <;> repeat' (first | refine And.intro ?_ ?_ | exact trivial | exact rfl | refine lt0 | refine lt1 ?_ | refine lt2 ?_ ?_ | refine lt3 ?_ ?_ ?_ | refine lt4 ?_ ?_ ?_ ?_ | exact veq_refl _ | decide | (intro i hi; repeat' (first | refine And.intro ?_ ?_ | exact trivial | exact rfl))))
      all_goals first | exact Nat.le_refl _ | omega
    rintro _ _ _ ⟨rfl, rfl, rfl⟩
    repeat' (first | refine And.intro (by first | omega | (dsimp only; omega) | (show (_ : Bool) = true; kernel_rfl) | decide | (repeat' (first | refine And.intro ?_ ?_ | exact trivial | exact rfl))) ?_ | refine bcs_dec (fun h => ?_) (fun h => ?_) | refine bcs_ndec (fun h => ?_) (fun h => ?_) | refine bcs_not ?_ | refine bcs_intro (fun h => ?_) (fun h => ?_) | refine And.intro ?_ ?_ | refine reg_tail (by kernel_rfl) ?_)
    refine loop_rule (α := Nat) (fun n => ⟨[(0, str r), (3, .o 0), (4, .v (.int .i64 n)), (5, .v (.int .i64 (kindF (r.getD 0 0) : Int)))], [(0, stOwn out)], 1⟩)
      (fun n => 1 ≤ n ∧ n ≤ r.length ∧ (kindF (r.getD 0 0) = 2 → n = 1) ∧ ∀ j, j < n → kindF (r.getD j 0) = kindF (r.getD 0 0)) (fun n => r.length - n) 1 [.at 0 0] ?_ ?_ ?_
    · exact ⟨by omega, by omega, fun _ => rfl, fun j hj => by rw [show j = 0 by omega]⟩
    · (refine ⟨rfl, rfl, ?_, ?_⟩ <;> repeat' (first | refine And.intro ?_ ?_ | exact trivial | exact rfl | refine lt0 | refine lt1 ?_ | refine lt2 ?_ ?_ | refine lt3 ?_ ?_ ?_ | refine lt4 ?_ ?_ ?_ ?_ | exact veq_refl _ | decide | (intro i hi; repeat' (first | refine And.intro ?_ ?_ | exact trivial | exact rfl))))
    rintro n ⟨n1, n2, n3, n4⟩
    have hkn := kind_con (r.getD n 0)
    have fin : (n = r.length ∨ kindF (r.getD 0 0) = 2 ∨ kindF (r.getD n 0) ≠ kindF (r.getD 0 0)) → wordsF r = r.take n :: wordsF (r.drop n) := fun h => by
      obtain ⟨c, q, rfl⟩ : ∃ c q, r = c :: q := by cases r with | nil => exact absurd rfl hr | cons c q => exact ⟨c, q, rfl⟩
      simp only [List.getD_cons_zero] at n3 n4 h
      have e := words_cut (n - 1) (s := q) (cur := [c]) (by simp at n2; omega) (fun j hj => ?_) ?_
      · obtain ⟨m, rfl⟩ : ∃ m, n = m + 1 := ⟨n - 1, by omega⟩
        simpa [wordsF] using e
      · have := n4 (j + 1) (by omega)
        simp only [List.getD_cons_succ] at this
        exact ⟨fun e => by rw [this] at e; have := n3 e; omega, by simpa [lastB] using this⟩
      · obtain ⟨m, rfl⟩ : ∃ m, n = m + 1 := ⟨n - 1, by omega⟩
        simp only [List.length_cons, List.getD_cons_succ, Nat.add_sub_cancel] at h ⊢
        rcases h with h | h | h
        · exact .inl (by omega)
        · have := n3 h
          obtain rfl : m = 0 := by omega
          cases q with
          | nil => exact .inl rfl
          | cons d q =>
            by_cases hd : kindF d = 2
            · exact .inr (.inl hd)
            · exact .inr (.inr (by simp [lastB]; omega))
        · exact .inr (.inr (by simpa [lastB] using h))
    repeat' (first | refine And.intro (by first | omega | (dsimp only; omega) | (show (_ : Bool) = true; kernel_rfl) | decide | (repeat' (first | refine And.intro ?_ ?_ | exact trivial | exact rfl))) ?_ | refine bcs_dec (fun h => ?_) (fun h => ?_) | refine bcs_ndec (fun h => ?_) (fun h => ?_) | refine bcs_not ?_ | refine bcs_intro (fun h => ?_) (fun h => ?_) | refine And.intro ?_ ?_ | refine reg_tail (by kernel_rfl) ?_)
    · skip
      refine call_rule [] (hkn) hG ?_ ?_
      · (refine ⟨?_, ?_, rfl, rfl, rfl⟩ <;> repeat' (first | refine And.intro ?_ ?_ | exact trivial | exact rfl | refine lt0 | refine lt1 ?_ | refine lt2 ?_ ?_ | refine lt3 ?_ ?_ ?_ | refine lt4 ?_ ?_ ?_ ?_ | exact veq_refl _ | decide | (intro i hi; repeat' (first | refine And.intro ?_ ?_ | exact trivial | exact rfl))))
        all_goals first | exact Nat.le_refl _ | omega
      rintro _ _ _ ⟨rfl, rfl, rfl⟩
      repeat' (first | refine And.intro (by first | omega | (dsimp only; omega) | (show (_ : Bool) = true; kernel_rfl) | decide | (repeat' (first | refine And.intro ?_ ?_ | exact trivial | exact rfl))) ?_ | refine bcs_dec (fun h => ?_) (fun h => ?_) | refine bcs_ndec (fun h => ?_) (fun h => ?_) | refine bcs_not ?_ | refine bcs_intro (fun h => ?_) (fun h => ?_) | refine And.intro ?_ ?_ | refine reg_tail (by kernel_rfl) ?_)
      · refine ⟨n + 1, [.at 0 0], ?_, ?_, ?_⟩
        · refine ⟨by omega, by omega, fun e => by omega, fun j hj => ?_⟩
          rcases Nat.lt_succ_iff_lt_or_eq.1 hj with hj | rfl
          · exact n4 j hj
          · omega
        · show r.length - (n + 1) < r.length - n
          omega
        · (refine ⟨rfl, rfl, ?_, ?_⟩ <;> repeat' (first | refine And.intro ?_ ?_ | exact trivial | exact rfl | refine lt0 | refine lt1 ?_ | refine lt2 ?_ ?_ | refine lt3 ?_ ?_ ?_ | refine lt4 ?_ ?_ ?_ ?_ | exact veq_refl _ | decide | (intro i hi; repeat' (first | refine And.intro ?_ ?_ | exact trivial | exact rfl))))
      · skip
        have ew := fin (by first | exact .inl (by omega) | exact .inr (.inl (by omega)) | exact .inr (.inr (by omega)))
        refine app1 stEnc [] out (r.take n) rfl (enc_eq (cut0 r n)) ?_
        repeat' (first | refine And.intro (by first | omega | (dsimp only; omega) | (show (_ : Bool) = true; kernel_rfl) | decide | (repeat' (first | refine And.intro ?_ ?_ | exact trivial | exact rfl))) ?_ | refine bcs_dec (fun h => ?_) (fun h => ?_) | refine bcs_ndec (fun h => ?_) (fun h => ?_) | refine bcs_not ?_ | refine bcs_intro (fun h => ?_) (fun h => ?_) | refine And.intro ?_ ?_ | refine reg_tail (by kernel_rfl) ?_)
        refine ⟨(r.drop n, out ++ [r.take n]), [.at 2 0], ?_, ?_, ?_⟩
        · refine ⟨by simp; omega, by simp; omega, ?_⟩
          rw [← h3, ew]
          simp
        · show (r.drop n).length < r.length
          simp; omega
        · (refine ⟨rfl, rfl, ?_, ?_⟩ <;> repeat' (first | refine And.intro ?_ ?_ | exact trivial | exact rfl | refine lt0 | refine lt1 ?_ | refine lt2 ?_ ?_ | refine lt3 ?_ ?_ ?_ | refine lt4 ?_ ?_ ?_ ?_ | exact veq_refl _ | decide | (intro i hi; repeat' (first | refine And.intro ?_ ?_ | exact trivial | exact rfl))))
          · exact veq_of_eq (congrArg Value.string (cutE r n).symm)
          · simp
    · skip
      have ew := fin (by first | exact .inl (by omega) | exact .inr (.inl (by omega)) | exact .inr (.inr (by omega)))
      refine app1 stEnc [] out (r.take n) rfl (enc_eq (cut0 r n)) ?_
      repeat' (first | refine And.intro (by first | omega | (dsimp only; omega) | (show (_ : Bool) = true; kernel_rfl) | decide | (repeat' (first | refine And.intro ?_ ?_ | exact trivial | exact rfl))) ?_ | refine bcs_dec (fun h => ?_) (fun h => ?_) | refine bcs_ndec (fun h => ?_) (fun h => ?_) | refine bcs_not ?_ | refine bcs_intro (fun h => ?_) (fun h => ?_) | refine And.intro ?_ ?_ | refine reg_tail (by kernel_rfl) ?_)
      refine ⟨(r.drop n, out ++ [r.take n]), [.at 2 0], ?_, ?_, ?_⟩
      · refine ⟨by simp; omega, by simp; omega, ?_⟩
        rw [← h3, ew]
        simp
      · show (r.drop n).length < r.length
        simp; omega
      · (refine ⟨rfl, rfl, ?_, ?_⟩ <;> repeat' (first | refine And.intro ?_ ?_ | exact trivial | exact rfl | refine lt0 | refine lt1 ?_ | refine lt2 ?_ ?_ | refine lt3 ?_ ?_ ?_ | refine lt4 ?_ ?_ ?_ ?_ | exact veq_refl _ | decide | (intro i hi; repeat' (first | refine And.intro ?_ ?_ | exact trivial | exact rfl))))
        · exact veq_of_eq (congrArg Value.string (cutE r n).symm)
        · simp
    · skip
      have ew := fin (by first | exact .inl (by omega) | exact .inr (.inl (by omega)) | exact .inr (.inr (by omega)))
      refine app1 stEnc [] out (r.take n) rfl (enc_eq (cut0 r n)) ?_
      repeat' (first | refine And.intro (by first | omega | (dsimp only; omega) | (show (_ : Bool) = true; kernel_rfl) | decide | (repeat' (first | refine And.intro ?_ ?_ | exact trivial | exact rfl))) ?_ | refine bcs_dec (fun h => ?_) (fun h => ?_) | refine bcs_ndec (fun h => ?_) (fun h => ?_) | refine bcs_not ?_ | refine bcs_intro (fun h => ?_) (fun h => ?_) | refine And.intro ?_ ?_ | refine reg_tail (by kernel_rfl) ?_)
      refine ⟨(r.drop n, out ++ [r.take n]), [.at 2 0], ?_, ?_, ?_⟩
      · refine ⟨by simp; omega, by simp; omega, ?_⟩
        rw [← h3, ew]
        simp
      · show (r.drop n).length < r.length
        simp; omega
      · (refine ⟨rfl, rfl, ?_, ?_⟩ <;> repeat' (first | refine And.intro ?_ ?_ | exact trivial | exact rfl | refine lt0 | refine lt1 ?_ | refine lt2 ?_ ?_ | refine lt3 ?_ ?_ ?_ | refine lt4 ?_ ?_ ?_ ?_ | exact veq_refl _ | decide | (intro i hi; repeat' (first | refine And.intro ?_ ?_ | exact trivial | exact rfl))))
        · exact veq_of_eq (congrArg Value.string (cutE r n).symm)
        · simp
end Go.Proofs.YtjlobgcmhnkgnaaDoor
