/- Chapter 6: contracts: the script the other way round, a script applied. -/
import Derived.Test.YtiihmggoebohkaaDoorB5
namespace Go.Proofs.YtiihmggoebohkaaDoor
open Go Go.RowKit Vc

abbrev Chg.inv (c : Chg) : Chg := ⟨c.B, c.M, c.A, c.N⟩
set_option maxRecDepth 100000 in
set_option maxHeartbeats 4000000 in
theorem invert_con (s : List Chg) (hs : s.length * 32 ≤ 140737488355328) : Con Tryd.prog glob 29 [.s 0 0 s.length] [(0, chRo s)] 1 (retM (.o 1) [(1, chOwn (s.map Chg.inv))] 2) := by
  refine spec_intro (tab := tab) (N := 26) Tryd.func29 rfl rfl tab_ok mix rfl rfl _ rfl ?_
  intro B hG
  repeat' (first | refine And.intro (by first | omega | (dsimp only; omega) | (show (_ : Bool) = true; kernel_rfl) | decide | (repeat' (first | refine And.intro ?_ ?_ | exact trivial | exact rfl))) ?_ | refine bcs_dec (fun h => ?_) (fun h => ?_) | refine bcs_ndec (fun h => ?_) (fun h => ?_) | refine bcs_not ?_ | refine bcs_intro (fun h => ?_) (fun h => ?_) | refine And.intro ?_ ?_ | refine reg_tail (by kernel_rfl) ?_)
  refine loop_rule (α := Nat × List Chg) (fun (k, out) => ⟨[(6, .s 0 0 s.length), (7, .v (.int .i64 s.length)), (8, .v (.int .i64 k)), (3, .o 1)], [(0, chRo s), (1, chOwn out)], 2⟩)
    (fun (k, out) => k ≤ s.length ∧ out = (s.map Chg.inv).take k) (fun (k, out) => s.length - k) (0, []) [.nil 4] ?_ ?_ ?_
  · simp
  · (refine ⟨rfl, rfl, ?_, ?_⟩ <;> repeat' (first | refine And.intro ?_ ?_ | exact trivial | exact rfl | refine lt0 | refine lt1 ?_ | refine lt2 ?_ ?_ | refine lt3 ?_ ?_ ?_ | refine lt4 ?_ ?_ ?_ ?_ | exact veq_refl _ | decide | (intro i hi; repeat' (first | refine And.intro ?_ ?_ | exact trivial | exact rfl))))
    all_goals omega
  · rintro ⟨k, out⟩ ⟨h1, h2⟩
    have hol : out.length = k := by rw [h2]; simp; omega
    repeat' (first | refine And.intro (by first | omega | (dsimp only; omega) | (show (_ : Bool) = true; kernel_rfl) | decide | (repeat' (first | refine And.intro ?_ ?_ | exact trivial | exact rfl))) ?_ | refine bcs_dec (fun h => ?_) (fun h => ?_) | refine bcs_ndec (fun h => ?_) (fun h => ?_) | refine bcs_not ?_ | refine bcs_intro (fun h => ?_) (fun h => ?_) | refine And.intro ?_ ?_ | refine reg_tail (by kernel_rfl) ?_)
    · refine app1 Chg.enc Chg.d out (s.getD k Chg.d).inv rfl (by simp; rfl) ?_
      repeat' (first | refine And.intro (by first | omega | (dsimp only; omega) | (show (_ : Bool) = true; kernel_rfl) | decide | (repeat' (first | refine And.intro ?_ ?_ | exact trivial | exact rfl))) ?_ | refine bcs_dec (fun h => ?_) (fun h => ?_) | refine bcs_ndec (fun h => ?_) (fun h => ?_) | refine bcs_not ?_ | refine bcs_intro (fun h => ?_) (fun h => ?_) | refine And.intro ?_ ?_ | refine reg_tail (by kernel_rfl) ?_)
      refine ⟨(k + 1, out ++ [(s.getD k Chg.d).inv]), [.at 4 0], ?_, ?_, ?_⟩
      · have hk : k < s.length := by omega
        refine ⟨by omega, ?_⟩
        rw [h2, List.take_succ_eq_append_getElem (by simpa using hk)]; simp [hk]
      · show s.length - (k + 1) < s.length - k
        omega
      · (refine ⟨rfl, rfl, ?_, ?_⟩ <;> repeat' (first | refine And.intro ?_ ?_ | exact trivial | exact rfl | refine lt0 | refine lt1 ?_ | refine lt2 ?_ ?_ | refine lt3 ?_ ?_ ?_ | refine lt4 ?_ ?_ ?_ ?_ | exact veq_refl _ | decide | (intro i hi; repeat' (first | refine And.intro ?_ ?_ | exact trivial | exact rfl))))
        all_goals first | omega | (simp; done)
    · have hk : out = s.map Chg.inv := by rw [h2, List.take_of_length_le (by simp; omega)]
      subst hk
      refine ret_mem [.at 1 0] (by rfl) (by rfl) ?_ ?_
      · repeat' (first | refine And.intro ?_ ?_ | exact trivial)
        all_goals exact rfl
      · repeat' (first | refine And.intro ?_ ?_ | exact trivial)
        · rfl
        · intro i hi
          repeat' (first | refine And.intro ?_ ?_ | exact trivial)
          all_goals exact rfl

set_option maxRecDepth 100000 in
set_option maxHeartbeats 4000000 in
theorem invertR_con (s : List Chg) (hs : s.length * 32 ≤ 140737488355328) : Con Tryd.prog glob 30 [.s 0 0 s.length] [(0, chRo s)] 1 (retM (.o 1) [(1, chOwn (s.map Chg.inv))] 2) := by
  refine spec_intro (tab := tab) (N := 36) Tryd.func30 rfl rfl tab_ok mix rfl rfl _ rfl ?_
  intro B hG
  repeat' (first | refine And.intro (by first | omega | (dsimp only; omega) | (show (_ : Bool) = true; kernel_rfl) | decide | (repeat' (first | refine And.intro ?_ ?_ | exact trivial | exact rfl))) ?_ | refine bcs_dec (fun h => ?_) (fun h => ?_) | refine bcs_ndec (fun h => ?_) (fun h => ?_) | refine bcs_not ?_ | refine bcs_intro (fun h => ?_) (fun h => ?_) | refine And.intro ?_ ?_ | refine reg_tail (by kernel_rfl) ?_)
  refine loop_rule (α := Nat × List Chg) (fun (k, out) => ⟨[(0, .s 0 0 s.length), (4, .v (.int .i64 k)), (3, .o 1)], [(0, chRo s), (1, chOwn out)], 2⟩)
    (fun (k, out) => k ≤ s.length ∧ out = (s.map Chg.inv).take k) (fun (k, out) => s.length - k) (0, []) [.nil 4] ?_ ?_ ?_
  · simp
  · (refine ⟨rfl, rfl, ?_, ?_⟩ <;> repeat' (first | refine And.intro ?_ ?_ | exact trivial | exact rfl | refine lt0 | refine lt1 ?_ | refine lt2 ?_ ?_ | refine lt3 ?_ ?_ ?_ | refine lt4 ?_ ?_ ?_ ?_ | exact veq_refl _ | decide | (intro i hi; repeat' (first | refine And.intro ?_ ?_ | exact trivial | exact rfl))))
    all_goals omega
  · rintro ⟨k, out⟩ ⟨h1, h2⟩
    have hol : out.length = k := by rw [h2]; simp; omega
    repeat' (first | refine And.intro (by first | omega | (dsimp only; omega) | (show (_ : Bool) = true; kernel_rfl) | decide | (repeat' (first | refine And.intro ?_ ?_ | exact trivial | exact rfl))) ?_ | refine bcs_dec (fun h => ?_) (fun h => ?_) | refine bcs_ndec (fun h => ?_) (fun h => ?_) | refine bcs_not ?_ | refine bcs_intro (fun h => ?_) (fun h => ?_) | refine And.intro ?_ ?_)
    · refine reg_mix [] [(0, true), (1, true), (2, true), (3, true), (4, true), (5, true), (6, true), (7, true), (8, true), (9, true), (10, true), (11, true), (12, true), (13, true), (14, true), (15, true), (16, true), (17, false), (18, false), (19, false), (20, false), (21, false), (22, false), (23, false), (24, false)] (by decide +kernel) rfl ?_
      intro B' hB'
      repeat' (first | refine And.intro (by first | omega | (dsimp only; omega) | (show (_ : Bool) = true; kernel_rfl) | decide | (repeat' (first | refine And.intro ?_ ?_ | exact trivial | exact rfl))) ?_ | refine bcs_dec (fun h => ?_) (fun h => ?_) | refine bcs_ndec (fun h => ?_) (fun h => ?_) | refine bcs_not ?_ | refine bcs_intro (fun h => ?_) (fun h => ?_) | refine And.intro ?_ ?_ | refine reg_tail (by kernel_rfl) ?_)
      refine app1 Chg.enc Chg.d out (s.getD k Chg.d).inv rfl (by simp; rfl) ?_
      repeat' (first | refine And.intro (by first | omega | (dsimp only; omega) | (show (_ : Bool) = true; kernel_rfl) | decide | (repeat' (first | refine And.intro ?_ ?_ | exact trivial | exact rfl))) ?_ | refine bcs_dec (fun h => ?_) (fun h => ?_) | refine bcs_ndec (fun h => ?_) (fun h => ?_) | refine bcs_not ?_ | refine bcs_intro (fun h => ?_) (fun h => ?_) | refine And.intro ?_ ?_ | refine reg_tail (by kernel_rfl) ?_)
      refine ⟨(k + 1, out ++ [(s.getD k Chg.d).inv]), [.at 3 0], ?_, ?_, ?_⟩
      · have hk : k < s.length := by omega
        refine ⟨by omega, ?_⟩
        rw [h2, List.take_succ_eq_append_getElem (by simpa using hk)]; simp [hk]
      · show s.length - (k + 1) < s.length - k
        omega
      · (refine ⟨rfl, rfl, ?_, ?_⟩ <;> repeat' (first | refine And.intro ?_ ?_ | exact trivial | exact rfl | refine lt0 | refine lt1 ?_ | refine lt2 ?_ ?_ | refine lt3 ?_ ?_ ?_ | refine lt4 ?_ ?_ ?_ ?_ | exact veq_refl _ | decide | (intro i hi; repeat' (first | refine And.intro ?_ ?_ | exact trivial | exact rfl))))
        all_goals first | omega | (simp; done)
    · have hk : out = s.map Chg.inv := by rw [h2, List.take_of_length_le (by simp; omega)]
      subst hk
      refine ret_mem [.at 1 0] (by rfl) (by rfl) ?_ ?_
      · repeat' (first | refine And.intro ?_ ?_ | exact trivial)
        all_goals exact rfl
      · repeat' (first | refine And.intro ?_ ?_ | exact trivial)
        · rfl
        · intro i hi
          repeat' (first | refine And.intro ?_ ?_ | exact trivial)
          all_goals exact rfl

def applyF : List Chg → List Int → List Int → Int → List Int
  | [], a, _, at_ => (a.drop at_.toNat).take (a.length - at_.toNat)
  | c :: r, a, b, at_ => (a.drop at_.toNat).take (c.A.toNat - at_.toNat) ++ ((b.drop c.B.toNat).take ((c.B + c.M).toNat - c.B.toNat) ++ applyF r a b (c.A + c.N))
abbrev inEnc (x : Int) : List SV := [.v (.int .i64 x)]

set_option maxRecDepth 100000 in
set_option maxHeartbeats 4000000 in
theorem apply_no {s : List Chg} {a b : List Int} (hs : s.length ≤ 9223372036854775807) (hv : validE s a.length b.length ≠ 0) : Con Tryd.prog glob 31 [.s 0 0 s.length, .s 1 0 a.length, .s 2 0 b.length] [(0, chRo s), (1, inRo a), (2, inRo b)] 3
    (retM (.t [.o 3, .v (.iface 84 (.int .i64 (validE s a.length b.length)))]) [(3, inOwn [])] 4) := by
  refine spec_intro (tab := tab) (N := 57) Tryd.func31 rfl rfl tab_ok mix rfl rfl _ rfl ?_
  intro B hG
  repeat' (first | refine And.intro (by first | omega | (dsimp only; omega) | (show (_ : Bool) = true; kernel_rfl) | decide | (repeat' (first | refine And.intro ?_ ?_ | exact trivial | exact rfl))) ?_ | refine bcs_dec (fun h => ?_) (fun h => ?_) | refine bcs_ndec (fun h => ?_) (fun h => ?_) | refine bcs_not ?_ | refine bcs_intro (fun h => ?_) (fun h => ?_) | refine And.intro ?_ ?_ | refine reg_tail (by kernel_rfl) ?_)
  refine call_rule [.at 0 0] (valid_no hs hv) hG ?_ ?_
  · (refine ⟨?_, ?_, rfl, rfl, rfl⟩ <;> repeat' (first | refine And.intro ?_ ?_ | exact trivial | exact rfl | refine lt0 | refine lt1 ?_ | refine lt2 ?_ ?_ | refine lt3 ?_ ?_ ?_ | refine lt4 ?_ ?_ ?_ ?_ | exact veq_refl _ | decide | (intro i hi; repeat' (first | refine And.intro ?_ ?_ | exact trivial | exact rfl))))
    all_goals omega
  rintro _ _ _ ⟨rfl, rfl, rfl⟩
  repeat' (first | refine And.intro (by first | omega | (dsimp only; omega) | (show (_ : Bool) = true; kernel_rfl) | decide | (repeat' (first | refine And.intro ?_ ?_ | exact trivial | exact rfl))) ?_ | refine bcs_dec (fun h => ?_) (fun h => ?_) | refine bcs_ndec (fun h => ?_) (fun h => ?_) | refine bcs_not ?_ | refine bcs_intro (fun h => ?_) (fun h => ?_) | refine And.intro ?_ ?_ | refine reg_tail (by kernel_rfl) ?_)
  refine ret_mem [.nil 1] rfl rfl ?_ ?_
  · repeat' (first | refine And.intro ?_ ?_ | exact trivial)
    all_goals exact rfl
  · repeat' (first | refine And.intro ?_ ?_ | exact trivial)
    all_goals exact rfl

set_option maxRecDepth 100000 in
set_option maxHeartbeats 4000000 in
theorem apply_ok {s : List Chg} {a b : List Int} (hs : s.length ≤ 9223372036854775807) (hv : validE s a.length b.length = 0) : Con Tryd.prog glob 31 [.s 0 0 s.length, .s 1 0 a.length, .s 2 0 b.length] [(0, chRo s), (1, inRo a), (2, inRo b)] 3
    (retM (.t [.o 3, .v .nilIface]) [(3, inOwn (applyF s a b 0))] 4) := by
  refine spec_intro (tab := tab) (N := 57) Tryd.func31 rfl rfl tab_ok mix rfl rfl _ rfl ?_
  intro B hG
  repeat' (first | refine And.intro (by first | omega | (dsimp only; omega) | (show (_ : Bool) = true; kernel_rfl) | decide | (repeat' (first | refine And.intro ?_ ?_ | exact trivial | exact rfl))) ?_ | refine bcs_dec (fun h => ?_) (fun h => ?_) | refine bcs_ndec (fun h => ?_) (fun h => ?_) | refine bcs_not ?_ | refine bcs_intro (fun h => ?_) (fun h => ?_) | refine And.intro ?_ ?_ | refine reg_tail (by kernel_rfl) ?_)
  refine call_rule [.at 0 0] (valid_ok hs hv) hG ?_ ?_
  · (refine ⟨?_, ?_, rfl, rfl, rfl⟩ <;> repeat' (first | refine And.intro ?_ ?_ | exact trivial | exact rfl | refine lt0 | refine lt1 ?_ | refine lt2 ?_ ?_ | refine lt3 ?_ ?_ ?_ | refine lt4 ?_ ?_ ?_ ?_ | exact veq_refl _ | decide | (intro i hi; repeat' (first | refine And.intro ?_ ?_ | exact trivial | exact rfl))))
    all_goals omega
  rintro _ _ _ ⟨rfl, rfl, rfl⟩
  repeat' (first | refine And.intro (by first | omega | (dsimp only; omega) | (show (_ : Bool) = true; kernel_rfl) | decide | (repeat' (first | refine And.intro ?_ ?_ | exact trivial | exact rfl))) ?_ | refine bcs_dec (fun h => ?_) (fun h => ?_) | refine bcs_ndec (fun h => ?_) (fun h => ?_) | refine bcs_not ?_ | refine bcs_intro (fun h => ?_) (fun h => ?_) | refine And.intro ?_ ?_ | refine reg_tail (by kernel_rfl) ?_)
  obtain ⟨r1, r2, r3, r4, r5⟩ := valid_range hv
  refine loop_rule (α := Nat × Int × Int × List Int) (fun (k, x, y, out) => ⟨[(1, .s 1 0 a.length), (2, .s 2 0 b.length), (22, .s 0 0 s.length), (23, .v (.int .i64 s.length)), (24, .v (.int .i64 k)), (10, .v (.int .i64 x)), (9, .o 3)], [(0, chRo s), (1, inRo a), (2, inRo b), (3, inOwn out)], 4⟩)
    (fun (k, x, y, out) => k ≤ s.length ∧ 0 ≤ x ∧ x ≤ a.length ∧ 0 ≤ y ∧ y ≤ b.length ∧ (out.length : Int) = y ∧ validF (s.drop k) x y a.length b.length = 0 ∧ out ++ applyF (s.drop k) a b x = applyF s a b 0)
    (fun (k, x, y, out) => s.length - k) (0, 0, 0, []) [.nil 1] ?_ ?_ ?_
  · refine ⟨by omega, by omega, by omega, by omega, by omega, by simp, r5, rfl⟩
  · (refine ⟨rfl, rfl, ?_, ?_⟩ <;> repeat' (first | refine And.intro ?_ ?_ | exact trivial | exact rfl | refine lt0 | refine lt1 ?_ | refine lt2 ?_ ?_ | refine lt3 ?_ ?_ ?_ | refine lt4 ?_ ?_ ?_ ?_ | exact veq_refl _ | decide | (intro i hi; repeat' (first | refine And.intro ?_ ?_ | exact trivial | exact rfl))))
    all_goals omega
  · rintro ⟨k, x, y, out⟩ ⟨h1, h2, h3, h4, h5, h6, h7, h8⟩
    have hb : k < s.length → ¬ bad (s.getD (0 + (k : Int).toNat) Chg.d) x y a.length b.length ∧ validF (s.drop (k + 1)) ((s.getD k Chg.d).A + (s.getD k Chg.d).N) ((s.getD k Chg.d).B + (s.getD k Chg.d).M) a.length b.length = 0 := fun h => by
      simpa using valid_at h7 h
    unfold bad at hb
    repeat' (first | refine And.intro (by first | omega | (dsimp only; omega) | (show (_ : Bool) = true; kernel_rfl) | decide | (repeat' (first | refine And.intro ?_ ?_ | exact trivial | exact rfl))) ?_ | refine bcs_dec (fun h => ?_) (fun h => ?_) | refine bcs_ndec (fun h => ?_) (fun h => ?_) | refine bcs_not ?_ | refine bcs_intro (fun h => ?_) (fun h => ?_) | refine And.intro ?_ ?_ | refine reg_tail (by kernel_rfl) ?_)
    · refine appS inEnc 0 out a rfl (by omega) ?_
      repeat' (first | refine And.intro (by first | omega | (dsimp only; omega) | (show (_ : Bool) = true; kernel_rfl) | decide | (repeat' (first | refine And.intro ?_ ?_ | exact trivial | exact rfl))) ?_ | refine bcs_dec (fun h => ?_) (fun h => ?_) | refine bcs_ndec (fun h => ?_) (fun h => ?_) | refine bcs_not ?_ | refine bcs_intro (fun h => ?_) (fun h => ?_) | refine And.intro ?_ ?_ | refine reg_tail (by kernel_rfl) ?_)
      have hl1 : ((a.drop (0 + x.toNat)).take ((s.getD (0 + (k : Int).toNat) Chg.d).A.toNat - x.toNat)).length = (s.getD (0 + (k : Int).toNat) Chg.d).A.toNat - x.toNat := seg_len (by omega)
      have hl2 : ((b.drop (0 + (s.getD (0 + (k : Int).toNat) Chg.d).B.toNat)).take (((s.getD (0 + (k : Int).toNat) Chg.d).B + (s.getD (0 + (k : Int).toNat) Chg.d).M).toNat - (s.getD (0 + (k : Int).toNat) Chg.d).B.toNat)).length = ((s.getD (0 + (k : Int).toNat) Chg.d).B + (s.getD (0 + (k : Int).toNat) Chg.d).M).toNat - (s.getD (0 + (k : Int).toNat) Chg.d).B.toNat := seg_len (by omega)
      refine appS inEnc 0 (out ++ (a.drop (0 + x.toNat)).take ((s.getD (0 + (k : Int).toNat) Chg.d).A.toNat - x.toNat)) b ?_ (by omega) ?_
      · rw [List.length_append, hl1]
      repeat' (first | refine And.intro (by first | omega | (dsimp only; omega) | (show (_ : Bool) = true; kernel_rfl) | decide | (repeat' (first | refine And.intro ?_ ?_ | exact trivial | exact rfl))) ?_ | refine bcs_dec (fun h => ?_) (fun h => ?_) | refine bcs_ndec (fun h => ?_) (fun h => ?_) | refine bcs_not ?_ | refine bcs_intro (fun h => ?_) (fun h => ?_) | refine And.intro ?_ ?_ | refine reg_tail (by kernel_rfl) ?_)
      refine ⟨(k + 1, (s.getD (0 + (k : Int).toNat) Chg.d).A + (s.getD (0 + (k : Int).toNat) Chg.d).N, (s.getD (0 + (k : Int).toNat) Chg.d).B + (s.getD (0 + (k : Int).toNat) Chg.d).M, (out ++ (a.drop (0 + x.toNat)).take ((s.getD (0 + (k : Int).toNat) Chg.d).A.toNat - x.toNat)) ++ (b.drop (0 + (s.getD (0 + (k : Int).toNat) Chg.d).B.toNat)).take (((s.getD (0 + (k : Int).toNat) Chg.d).B + (s.getD (0 + (k : Int).toNat) Chg.d).M).toNat - (s.getD (0 + (k : Int).toNat) Chg.d).B.toNat)), [.at 6 0], ?_, ?_, ?_⟩
      · simp only [nm] at *
        refine ⟨by omega, by omega, by omega, by omega, by omega, ?_, (hb (by omega)).2, ?_⟩
        · rw [List.length_append, List.length_append, hl1, hl2]; omega
        · rw [← h8, drop_get Chg.d s k (by omega)]
          conv => rhs; simp only [applyF]
          simp only [List.append_assoc]
      · show s.length - (k + 1) < s.length - k
        omega
      · (refine ⟨rfl, rfl, ?_, ?_⟩ <;> repeat' (first | refine And.intro ?_ ?_ | exact trivial | exact rfl | refine lt0 | refine lt1 ?_ | refine lt2 ?_ ?_ | refine lt3 ?_ ?_ ?_ | refine lt4 ?_ ?_ ?_ ?_ | exact veq_refl _ | decide | (intro i hi; repeat' (first | refine And.intro ?_ ?_ | exact trivial | exact rfl))))
        all_goals first | exact Nat.le_refl _ | (rw [List.length_append, List.length_append, hl1, hl2])
    · have hl1 : ((a.drop (0 + x.toNat)).take ((a.length : Int).toNat - x.toNat)).length = (a.length : Int).toNat - x.toNat := seg_len (by omega)
      have e8 : out ++ (a.drop (0 + x.toNat)).take ((a.length : Int).toNat - x.toNat) = applyF s a b 0 := by
        rw [← h8, show s.drop k = [] from List.drop_of_length_le (by omega)]
        simp only [applyF, Int.toNat_natCast, Nat.zero_add]
      refine appS inEnc 0 out a rfl (by omega) ?_
      rw [e8]
      refine ret_mem [.at 4 0] (by rfl) (by rfl) ?_ ?_
      · repeat' (first | refine And.intro ?_ ?_ | exact trivial)
        all_goals exact rfl
      · repeat' (first | refine And.intro ?_ ?_ | exact trivial)
        · rw [← e8, List.length_append, hl1]
        · intro i hi
          repeat' (first | refine And.intro ?_ ?_ | exact trivial)
          all_goals exact rfl
end Go.Proofs.YtiihmggoebohkaaDoor
