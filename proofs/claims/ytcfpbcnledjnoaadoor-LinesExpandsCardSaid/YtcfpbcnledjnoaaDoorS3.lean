/- Chapter 1: the lines of a text: both functions walked. -/
import Derived.Test.YtcfpbcnledjnoaaDoorS2
namespace Go.Proofs.YtcfpbcnledjnoaaDoor
open Go Go.RowKit Vc

theorem nil_of {r : Byt} (h : ((bs r).toList == (ByteArray.mk #[]).toList) = true) : r = [] := by
  have := (bs_eq r []).symm.trans h
  simpa using this
theorem cons_of {r : Byt} (h : ((bs r).toList == (ByteArray.mk #[]).toList) = false) : r ≠ [] := by
  have := (bs_eq r []).symm.trans h
  simpa using this
theorem seq (a : Byt) : ((bs a).toList == (bs a).toList) = true := by rw [bs_eq]; simp
theorem cut0 (r : Byt) (j : Nat) : (bs r).extract 0 j = bs (r.take j) := by rw [bs_cut]; simp
theorem cutE (r : Byt) (i : Nat) : (bs r).extract i (bs r).size = bs (r.drop i) := by
  rw [bs_cut, bs_size, List.take_of_length_le (by simp)]
theorem u8_iff {x y : UInt8} : (x.toNat : Int) = (y.toNat : Int) ↔ x = y := by
  constructor
  · intro h
    exact UInt8.toNat_inj.1 (by omega)
  · intro h; rw [h]
theorem bt10 (l : Byt) (i : Nat) : bt (bs l) (i : Int) = 10 ↔ l.getD i 0 = 10 := by
  rw [bs_bt]
  exact u8_iff (y := 10)
theorem enc_eq {x y : ByteArray} (h : x = y) : [SV.v (.string x)] = [SV.v (.string y)] := by rw [h]

set_option maxRecDepth 100000 in
set_option maxHeartbeats 4000000 in
theorem split_con (l : Byt) (hl : l.length ≤ 4194304) : Con Tryd.prog glob 14 [str l] [] 0 (retM (.o 0) [(0, stOwn (splitF l))] 1) := by
  refine spec_intro (tab := tab) (N := 24) Tryd.func14 rfl rfl tab_ok mix rfl rfl _ rfl ?_
  intro B hG
  repeat' (first | refine And.intro (by first | omega | (dsimp only; omega) | (show (_ : Bool) = true; kernel_rfl) | decide | (repeat' (first | refine And.intro ?_ ?_ | exact trivial | exact rfl))) ?_ | refine bcs_dec (fun h => ?_) (fun h => ?_) | refine bcs_ndec (fun h => ?_) (fun h => ?_) | refine bcs_not ?_ | refine bcs_intro (fun h => ?_) (fun h => ?_) | refine And.intro ?_ ?_ | refine reg_tail (by kernel_rfl) ?_)
  refine loop_rule (α := Byt × List Byt) (fun (r, out) => ⟨[(0, str r), (3, .o 0)], [(0, stOwn out)], 1⟩)
    (fun (r, out) => r.length ≤ 4194304 ∧ out.length + r.length ≤ 4194304 ∧ out ++ splitF r = splitF l) (fun (r, _) => r.length) (l, []) [.nil 1] ?_ ?_ ?_
  · exact ⟨hl, by simpa using hl, rfl⟩
  · (refine ⟨rfl, rfl, ?_, ?_⟩ <;> repeat' (first | refine And.intro ?_ ?_ | exact trivial | exact rfl | refine lt0 | refine lt1 ?_ | refine lt2 ?_ ?_ | refine lt3 ?_ ?_ ?_ | refine lt4 ?_ ?_ ?_ ?_ | exact veq_refl _ | decide | (intro i hi; repeat' (first | refine And.intro ?_ ?_ | exact trivial | exact rfl))))
  rintro ⟨r, out⟩ ⟨h1, h2, h3⟩
  have hi := idx_con r
  have hb : (bs r).size = r.length := bs_size r
  repeat' (first | refine And.intro (by first | omega | (dsimp only; omega) | (show (_ : Bool) = true; kernel_rfl) | decide | (repeat' (first | refine And.intro ?_ ?_ | exact trivial | exact rfl))) ?_ | refine bcs_dec (fun h => ?_) (fun h => ?_) | refine bcs_ndec (fun h => ?_) (fun h => ?_) | refine bcs_not ?_ | refine bcs_intro (fun h => ?_) (fun h => ?_) | refine And.intro ?_ ?_ | refine reg_tail (by kernel_rfl) ?_)
  · obtain rfl := nil_of h
    have e : out = splitF l := by rw [← h3]; simp [splitF, splitG]
    subst e
    refine ret_mem [.at 0 0] rfl rfl ?_ ?_
    · repeat' (first | refine And.intro ?_ ?_ | exact trivial)
      all_goals exact rfl
    · repeat' (first | refine And.intro ?_ ?_ | exact trivial)
      · exact rfl
      · intro i hi
        repeat' (first | refine And.intro ?_ ?_ | exact trivial)
        all_goals exact rfl
  · have hr := cons_of h
    rcases idx_cases r with ⟨k1, k2⟩ | ⟨k, k1, k2, k3, k4⟩
    · rw [k1] at hi
      refine call_rule [] (hi) hG ?_ ?_
      · (refine ⟨?_, ?_, rfl, rfl, rfl⟩ <;> repeat' (first | refine And.intro ?_ ?_ | exact trivial | exact rfl | refine lt0 | refine lt1 ?_ | refine lt2 ?_ ?_ | refine lt3 ?_ ?_ ?_ | refine lt4 ?_ ?_ ?_ ?_ | exact veq_refl _ | decide | (intro i hi; repeat' (first | refine And.intro ?_ ?_ | exact trivial | exact rfl))))
        all_goals first | exact Nat.le_refl _ | omega
      rintro _ _ _ ⟨rfl, rfl, rfl⟩
      repeat' (first | refine And.intro (by first | omega | (dsimp only; omega) | (show (_ : Bool) = true; kernel_rfl) | decide | (repeat' (first | refine And.intro ?_ ?_ | exact trivial | exact rfl))) ?_ | refine bcs_dec (fun h => ?_) (fun h => ?_) | refine bcs_ndec (fun h => ?_) (fun h => ?_) | refine bcs_not ?_ | refine bcs_intro (fun h => ?_) (fun h => ?_) | refine And.intro ?_ ?_ | refine reg_tail (by kernel_rfl) ?_)
      refine app1 stEnc [] out r rfl (enc_eq ((cut0 r _).trans (by rw [hb]; simp))) ?_
      repeat' (first | refine And.intro (by first | omega | (dsimp only; omega) | (show (_ : Bool) = true; kernel_rfl) | decide | (repeat' (first | refine And.intro ?_ ?_ | exact trivial | exact rfl))) ?_ | refine bcs_dec (fun h => ?_) (fun h => ?_) | refine bcs_ndec (fun h => ?_) (fun h => ?_) | refine bcs_not ?_ | refine bcs_intro (fun h => ?_) (fun h => ?_) | refine And.intro ?_ ?_ | refine reg_tail (by kernel_rfl) ?_)
      refine ⟨([], out ++ [r]), [.at 2 0], ?_, ?_, ?_⟩
      · refine ⟨by simp, by cases r with | nil => exact absurd rfl hr | cons c q => simp at h1 h2 ⊢; omega, ?_⟩
        rw [← h3]
        simp only [splitF, splitG_none [] k2, List.nil_append, splitG_end hr]
        simp [splitG]
      · show 0 < r.length
        cases r with
        | nil => exact absurd rfl hr
        | cons c q => simp
      · (refine ⟨rfl, rfl, ?_, ?_⟩ <;> repeat' (first | refine And.intro ?_ ?_ | exact trivial | exact rfl | refine lt0 | refine lt1 ?_ | refine lt2 ?_ ?_ | refine lt3 ?_ ?_ ?_ | refine lt4 ?_ ?_ ?_ ?_ | exact veq_refl _ | decide | (intro i hi; repeat' (first | refine And.intro ?_ ?_ | exact trivial | exact rfl))))
        · exact veq_of_eq (congrArg Value.string ((cutE r _).trans (by rw [hb]; simp)).symm)
        · simp
    · rw [k1] at hi
      refine call_rule [] (hi) hG ?_ ?_
      · (refine ⟨?_, ?_, rfl, rfl, rfl⟩ <;> repeat' (first | refine And.intro ?_ ?_ | exact trivial | exact rfl | refine lt0 | refine lt1 ?_ | refine lt2 ?_ ?_ | refine lt3 ?_ ?_ ?_ | refine lt4 ?_ ?_ ?_ ?_ | exact veq_refl _ | decide | (intro i hi; repeat' (first | refine And.intro ?_ ?_ | exact trivial | exact rfl))))
        all_goals first | exact Nat.le_refl _ | omega
      rintro _ _ _ ⟨rfl, rfl, rfl⟩
      repeat' (first | refine And.intro (by first | omega | (dsimp only; omega) | (show (_ : Bool) = true; kernel_rfl) | decide | (repeat' (first | refine And.intro ?_ ?_ | exact trivial | exact rfl))) ?_ | refine bcs_dec (fun h => ?_) (fun h => ?_) | refine bcs_ndec (fun h => ?_) (fun h => ?_) | refine bcs_not ?_ | refine bcs_intro (fun h => ?_) (fun h => ?_) | refine And.intro ?_ ?_ | refine reg_tail (by kernel_rfl) ?_)
      refine app1 stEnc [] out (r.take (k + 1)) rfl (enc_eq (cut0 r (k + 1))) ?_
      repeat' (first | refine And.intro (by first | omega | (dsimp only; omega) | (show (_ : Bool) = true; kernel_rfl) | decide | (repeat' (first | refine And.intro ?_ ?_ | exact trivial | exact rfl))) ?_ | refine bcs_dec (fun h => ?_) (fun h => ?_) | refine bcs_ndec (fun h => ?_) (fun h => ?_) | refine bcs_not ?_ | refine bcs_intro (fun h => ?_) (fun h => ?_) | refine And.intro ?_ ?_ | refine reg_tail (by kernel_rfl) ?_)
      refine ⟨(r.drop (k + 1), out ++ [r.take (k + 1)]), [.at 2 0], ?_, ?_, ?_⟩
      · refine ⟨by simp; omega, by simp; omega, ?_⟩
        rw [← h3]
        simp only [splitF, splitG_some [] k2 k3 k4, List.nil_append, List.append_assoc, List.cons_append]
      · show (r.drop (k + 1)).length < r.length
        simp; omega
      · (refine ⟨rfl, rfl, ?_, ?_⟩ <;> repeat' (first | refine And.intro ?_ ?_ | exact trivial | exact rfl | refine lt0 | refine lt1 ?_ | refine lt2 ?_ ?_ | refine lt3 ?_ ?_ ?_ | refine lt4 ?_ ?_ ?_ ?_ | exact veq_refl _ | decide | (intro i hi; repeat' (first | refine And.intro ?_ ?_ | exact trivial | exact rfl))))
        · exact veq_of_eq (congrArg Value.string (cutE r (k + 1)).symm)
        · simp

/-- The document's. -/
theorem split_step {l : Byt} {i a : Nat} (h : i < l.length) (ha : a ≤ i) : splitG (l.drop i) ((l.drop a).take (i - a)) =
    if l.getD i 0 = 10 then ((l.drop a).take (i + 1 - a)) :: splitG (l.drop (i + 1)) [] else splitG (l.drop (i + 1)) ((l.drop a).take (i + 1 - a)) := by
  rw [drop_get 0 l i h]
  have e : (l.drop a).take (i + 1 - a) = (l.drop a).take (i - a) ++ [l.getD i 0] := by
    rw [show i + 1 - a = (i - a) + 1 by omega, List.take_add_one, List.getElem?_drop, show a + (i - a) = i by omega]
    simp [h]
  rw [e]
  simp only [splitG]

end Go.Proofs.YtcfpbcnledjnoaaDoor
