/- Chapter 6: contracts: the document's Apply and Fits; slices.Equal. -/
import Derived.Test.YtiihmggoebohkaaDoorB15
namespace Go.Proofs.YtiihmggoebohkaaDoor
open Go Go.RowKit Vc

set_option maxRecDepth 100000 in
set_option maxHeartbeats 4000000 in
theorem rApply_no {s : List Chg} {a b : List Int} (hs : s.length ≤ 9223372036854775807) (hv : validE s a.length b.length ≠ 0) : Con Tryd.prog glob 32 [.s 0 0 s.length, .s 1 0 a.length, .s 2 0 b.length] [(0, chRo s), (1, inRo a), (2, inRo b)] 3
    (retM (.t [.o 3, .v (.int .i64 (validE s a.length b.length))]) [(3, inOwn [])] 4) := by
  refine spec_intro (tab := tab) (N := 73) Tryd.func32 rfl rfl tab_ok mix rfl rfl _ rfl ?_
  intro B hG
  repeat' (first | refine And.intro (by first | omega | (dsimp only; omega) | (show (_ : Bool) = true; kernel_rfl) | decide | (repeat' (first | refine And.intro ?_ ?_ | exact trivial | exact rfl))) ?_ | refine bcs_dec (fun h => ?_) (fun h => ?_) | refine bcs_ndec (fun h => ?_) (fun h => ?_) | refine bcs_not ?_ | refine bcs_intro (fun h => ?_) (fun h => ?_) | refine And.intro ?_ ?_ | refine reg_tail (by kernel_rfl) ?_)
  refine call_rule [.at 0 0] (validR_con s a.length b.length hs) hG ?_ ?_
  · (refine ⟨?_, ?_, rfl, rfl, rfl⟩ <;> repeat' (first | refine And.intro ?_ ?_ | exact trivial | exact rfl | refine lt0 | refine lt1 ?_ | refine lt2 ?_ ?_ | refine lt3 ?_ ?_ ?_ | refine lt4 ?_ ?_ ?_ ?_ | exact veq_refl _ | decide | (intro i hi; repeat' (first | refine And.intro ?_ ?_ | exact trivial | exact rfl))))
    all_goals first | exact Nat.le_refl _ | omega
  rintro _ _ _ ⟨rfl, rfl, rfl⟩
  repeat' (first | refine And.intro (by first | omega | (dsimp only; omega) | (show (_ : Bool) = true; kernel_rfl) | decide | (repeat' (first | refine And.intro ?_ ?_ | exact trivial | exact rfl))) ?_ | refine bcs_dec (fun h => ?_) (fun h => ?_) | refine bcs_ndec (fun h => ?_) (fun h => ?_) | refine bcs_not ?_ | refine bcs_intro (fun h => ?_) (fun h => ?_) | refine And.intro ?_ ?_ | refine reg_tail (by kernel_rfl) ?_)
  · refine ret_mem [.nil 1] rfl rfl ?_ ?_
    · repeat' (first | refine And.intro ?_ ?_ | exact trivial)
      all_goals exact rfl
    · repeat' (first | refine And.intro ?_ ?_ | exact trivial)
      all_goals exact rfl
  · omega

set_option maxRecDepth 100000 in
set_option maxHeartbeats 4000000 in
theorem rApply_ok {s : List Chg} {a b : List Int} (hs : s.length ≤ 9223372036854775807) (hv : validE s a.length b.length = 0) : Con Tryd.prog glob 32 [.s 0 0 s.length, .s 1 0 a.length, .s 2 0 b.length] [(0, chRo s), (1, inRo a), (2, inRo b)] 3
    (retM (.t [.o 3, .v (.int .i64 0)]) [(3, inOwn (applyF s a b 0))] 4) := by
  refine spec_intro (tab := tab) (N := 73) Tryd.func32 rfl rfl tab_ok mix rfl rfl _ rfl ?_
  intro B hG
  repeat' (first | refine And.intro (by first | omega | (dsimp only; omega) | (show (_ : Bool) = true; kernel_rfl) | decide | (repeat' (first | refine And.intro ?_ ?_ | exact trivial | exact rfl))) ?_ | refine bcs_dec (fun h => ?_) (fun h => ?_) | refine bcs_ndec (fun h => ?_) (fun h => ?_) | refine bcs_not ?_ | refine bcs_intro (fun h => ?_) (fun h => ?_) | refine And.intro ?_ ?_ | refine reg_tail (by kernel_rfl) ?_)
  refine call_rule [.at 0 0] (validR_con s a.length b.length hs) hG ?_ ?_
  · (refine ⟨?_, ?_, rfl, rfl, rfl⟩ <;> repeat' (first | refine And.intro ?_ ?_ | exact trivial | exact rfl | refine lt0 | refine lt1 ?_ | refine lt2 ?_ ?_ | refine lt3 ?_ ?_ ?_ | refine lt4 ?_ ?_ ?_ ?_ | exact veq_refl _ | decide | (intro i hi; repeat' (first | refine And.intro ?_ ?_ | exact trivial | exact rfl))))
    all_goals first | exact Nat.le_refl _ | omega
  rintro _ _ _ ⟨rfl, rfl, rfl⟩
  repeat' (first | refine And.intro (by first | omega | (dsimp only; omega) | (show (_ : Bool) = true; kernel_rfl) | decide | (repeat' (first | refine And.intro ?_ ?_ | exact trivial | exact rfl))) ?_ | refine bcs_dec (fun h => ?_) (fun h => ?_) | refine bcs_ndec (fun h => ?_) (fun h => ?_) | refine bcs_not ?_ | refine bcs_intro (fun h => ?_) (fun h => ?_) | refine And.intro ?_ ?_ | refine reg_tail (by kernel_rfl) ?_)
  · omega
  obtain ⟨r1, r2, r3, r4, r5⟩ := valid_range hv
  refine loop_rule (α := Nat × Int × Int × List Int) (fun (k, x, y, out) => ⟨[(0, .s 0 0 s.length), (1, .s 1 0 a.length), (2, .s 2 0 b.length), (11, .v (.int .i64 k)), (10, .v (.int .i64 x)), (9, .o 3)], [(0, chRo s), (1, inRo a), (2, inRo b), (3, inOwn out)], 4⟩)
    (fun (k, x, y, out) => k ≤ s.length ∧ 0 ≤ x ∧ x ≤ a.length ∧ 0 ≤ y ∧ y ≤ b.length ∧ (out.length : Int) = y ∧ validF (s.drop k) x y a.length b.length = 0 ∧ out ++ applyF (s.drop k) a b x = applyF s a b 0)
    (fun (k, x, y, out) => s.length - k) (0, 0, 0, []) [.nil 1] ?_ ?_ ?_
  · refine ⟨by omega, by omega, by omega, by omega, by omega, by simp, r5, rfl⟩
  · (refine ⟨rfl, rfl, ?_, ?_⟩ <;> repeat' (first | refine And.intro ?_ ?_ | exact trivial | exact rfl | refine lt0 | refine lt1 ?_ | refine lt2 ?_ ?_ | refine lt3 ?_ ?_ ?_ | refine lt4 ?_ ?_ ?_ ?_ | exact veq_refl _ | decide | (intro i hi; repeat' (first | refine And.intro ?_ ?_ | exact trivial | exact rfl))))
    all_goals omega
  · rintro ⟨k, x, y, out⟩ ⟨h1, h2, h3, h4, h5, h6, h7, h8⟩
    have hb : k < s.length → ¬ bad (s.getD (0 + (k : Int).toNat) Chg.d) x y a.length b.length ∧ validF (s.drop (k + 1)) ((s.getD k Chg.d).A + (s.getD k Chg.d).N) ((s.getD k Chg.d).B + (s.getD k Chg.d).M) a.length b.length = 0 := fun h => by
      simpa using valid_at h7 h
    unfold bad at hb
    repeat' (first | refine And.intro (by first | omega | (dsimp only; omega) | (show (_ : Bool) = true; kernel_rfl) | decide | (repeat' (first | refine And.intro ?_ ?_ | exact trivial | exact rfl))) ?_ | refine bcs_dec (fun h => ?_) (fun h => ?_) | refine bcs_ndec (fun h => ?_) (fun h => ?_) | refine bcs_not ?_ | refine bcs_intro (fun h => ?_) (fun h => ?_) | refine And.intro ?_ ?_ | refine reg_tail (by kernel_rfl) ?_)
    · refine appS inEnc 0 out a rfl (by omega) ?_
      repeat' (first | refine And.intro (by first | omega | (dsimp only; omega) | (show (_ : Bool) = true; kernel_rfl) | decide | (repeat' (first | refine And.intro ?_ ?_ | exact trivial | exact rfl))) ?_ | refine bcs_dec (fun h => ?_) (fun h => ?_) | refine bcs_ndec (fun h => ?_) (fun h => ?_) | refine bcs_not ?_ | refine bcs_intro (fun h => ?_) (fun h => ?_) | refine And.intro ?_ ?_ | refine reg_tail (by kernel_rfl) ?_)
      have hl1 : ((a.drop (0 + x.toNat)).take ((s.getD (0 + (k : Int).toNat) Chg.d).A.toNat - x.toNat)).length = (s.getD (0 + (k : Int).toNat) Chg.d).A.toNat - x.toNat := seg_len (by omega)
      have hl2 : ((b.drop (0 + (s.getD (0 + (k : Int).toNat) Chg.d).B.toNat)).take (((s.getD (0 + (k : Int).toNat) Chg.d).B + (s.getD (0 + (k : Int).toNat) Chg.d).M).toNat - (s.getD (0 + (k : Int).toNat) Chg.d).B.toNat)).length = ((s.getD (0 + (k : Int).toNat) Chg.d).B + (s.getD (0 + (k : Int).toNat) Chg.d).M).toNat - (s.getD (0 + (k : Int).toNat) Chg.d).B.toNat := seg_len (by omega)
      refine appS inEnc 0 (out ++ (a.drop (0 + x.toNat)).take ((s.getD (0 + (k : Int).toNat) Chg.d).A.toNat - x.toNat)) b ?_ (by omega) ?_
      · rw [List.length_append, hl1]
      repeat' (first | refine And.intro (by first | omega | (dsimp only; omega) | (show (_ : Bool) = true; kernel_rfl) | decide | (repeat' (first | refine And.intro ?_ ?_ | exact trivial | exact rfl))) ?_ | refine bcs_dec (fun h => ?_) (fun h => ?_) | refine bcs_ndec (fun h => ?_) (fun h => ?_) | refine bcs_not ?_ | refine bcs_intro (fun h => ?_) (fun h => ?_) | refine And.intro ?_ ?_ | refine reg_tail (by kernel_rfl) ?_)
      refine ⟨(k + 1, (s.getD (0 + (k : Int).toNat) Chg.d).A + (s.getD (0 + (k : Int).toNat) Chg.d).N, (s.getD (0 + (k : Int).toNat) Chg.d).B + (s.getD (0 + (k : Int).toNat) Chg.d).M, (out ++ (a.drop (0 + x.toNat)).take ((s.getD (0 + (k : Int).toNat) Chg.d).A.toNat - x.toNat)) ++ (b.drop (0 + (s.getD (0 + (k : Int).toNat) Chg.d).B.toNat)).take (((s.getD (0 + (k : Int).toNat) Chg.d).B + (s.getD (0 + (k : Int).toNat) Chg.d).M).toNat - (s.getD (0 + (k : Int).toNat) Chg.d).B.toNat)), [.at 5 0], ?_, ?_, ?_⟩
      · simp only [nm] at *
        refine ⟨by omega, by omega, by omega, by omega, by omega, ?_, (hb (by omega)).2, ?_⟩
        · rw [List.length_append, List.length_append, hl1, hl2]; omega
        · rw [← h8, drop_get Chg.d s k (by omega)]
          conv => rhs; simp only [applyF]
          simp only [List.append_assoc]
      · show s.length - (k + 1) < s.length - k
        omega
      · (refine ⟨rfl, rfl, ?_, ?_⟩ <;> repeat' (first | refine And.intro ?_ ?_ | exact trivial | exact rfl | refine lt0 | refine lt1 ?_ | refine lt2 ?_ ?_ | refine lt3 ?_ ?_ ?_ | refine lt4 ?_ ?_ ?_ ?_ | exact veq_refl _ | decide | (intro i hi; repeat' (first | refine And.intro ?_ ?_ | exact trivial | exact rfl))))
        all_goals first | exact Nat.le_refl _ | (rw [List.length_append, List.length_append, hl1, hl2])
    · have hl1 : ((a.drop (0 + x.toNat)).take ((a.length : Int).toNat - x.toNat)).length = (a.length : Int).toNat - x.toNat := seg_len (by omega)
      have e8 : out ++ (a.drop (0 + x.toNat)).take ((a.length : Int).toNat - x.toNat) = applyF s a b 0 := by
        rw [← h8, show s.drop k = [] from List.drop_of_length_le (by omega)]
        simp only [applyF, Int.toNat_natCast, Nat.zero_add]
      refine appS inEnc 0 out a rfl (by omega) ?_
      rw [e8]
      refine ret_mem [.at 4 0] (by rfl) (by rfl) ?_ ?_
      · repeat' (first | refine And.intro ?_ ?_ | exact trivial)
        all_goals exact rfl
      · repeat' (first | refine And.intro ?_ ?_ | exact trivial)
        · rw [← e8, List.length_append, hl1]
        · intro i hi
          repeat' (first | refine And.intro ?_ ?_ | exact trivial)
          all_goals exact rfl
end Go.Proofs.YtiihmggoebohkaaDoor
