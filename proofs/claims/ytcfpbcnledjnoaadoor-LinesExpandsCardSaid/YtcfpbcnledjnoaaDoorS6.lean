/- Chapter 1: the text of lines; the line and the place of an offset. -/
import Derived.Test.YtcfpbcnledjnoaaDoorS5
namespace Go.Proofs.YtcfpbcnledjnoaaDoor
open Go Go.RowKit Vc

theorem joinL_con (L : List Byt) (hn : L.length ≤ 140737488355328) (hl : L.flatten.length ≤ 140737488355328) : Con Tryd.prog glob 16 [.s 0 0 L.length] [(0, stRo L)] 1 (retV 1 (str L.flatten)) := by
  have h := join_con L hn hl
  refine spec_intro (tab := tab) (N := 5) Tryd.func16 rfl rfl tab_ok mix rfl rfl _ rfl ?_
  intro B hG
  repeat' (first | refine And.intro (by first | omega | (dsimp only; omega) | (show (_ : Bool) = true; kernel_rfl) | decide | (repeat' (first | refine And.intro ?_ ?_ | exact trivial | exact rfl))) ?_ | refine bcs_dec (fun h => ?_) (fun h => ?_) | refine bcs_ndec (fun h => ?_) (fun h => ?_) | refine bcs_not ?_ | refine bcs_intro (fun h => ?_) (fun h => ?_) | refine And.intro ?_ ?_ | refine reg_tail (by kernel_rfl) ?_)
  refine call_rule [.at 0 0] (h) hG ?_ ?_
  · (refine ⟨?_, ?_, rfl, rfl, rfl⟩ <;> repeat' (first | refine And.intro ?_ ?_ | exact trivial | exact rfl | refine lt0 | refine lt1 ?_ | refine lt2 ?_ ?_ | refine lt3 ?_ ?_ ?_ | refine lt4 ?_ ?_ ?_ ?_ | exact veq_refl _ | decide | (intro i hi; repeat' (first | refine And.intro ?_ ?_ | exact trivial | exact rfl))))
    all_goals first | exact Nat.le_refl _ | omega
  rintro _ _ _ ⟨rfl, rfl, rfl⟩
  repeat' (first | refine And.intro (by first | omega | (dsimp only; omega) | (show (_ : Bool) = true; kernel_rfl) | decide | (repeat' (first | refine And.intro ?_ ?_ | exact trivial | exact rfl))) ?_ | refine bcs_dec (fun h => ?_) (fun h => ?_) | refine bcs_ndec (fun h => ?_) (fun h => ?_) | refine bcs_not ?_ | refine bcs_intro (fun h => ?_) (fun h => ?_) | refine And.intro ?_ ?_ | refine reg_tail (by kernel_rfl) ?_)
  refine ret_plain ?_
  exact rfl

def placeF (l : Byt) (o : Int) : Int × Int × Bool := if o < 0 ∨ o ≥ l.length then (0, 0, false) else ((l.take o.toNat).count 10 + 1, o - Lib.lastIdx (bs l) 10 o.toNat, true)
theorem lix_congr (s t : ByteArray) (c : Int) : ∀ k, (∀ j, j < k → s.data[j]! = t.data[j]!) → Lib.lastIdx s c k = Lib.lastIdx t c k
  | 0, _ => rfl
  | k + 1, h => by
    simp only [Lib.lastIdx]
    rw [h k (by omega), lix_congr s t c k fun j hj => h j (by omega)]
theorem lix_take {l : Byt} {i : Nat} (h : i ≤ l.length) : Lib.lastIndexByte (bs (l.take i)) 10 = Lib.lastIdx (bs l) 10 i := by
  unfold Lib.lastIndexByte
  rw [bs_size, List.length_take, Nat.min_eq_left h]
  refine lix_congr _ _ _ _ fun j hj => ?_
  simp [bs, List.getElem?_take_of_lt hj]
theorem lix_range (s : ByteArray) (c : Int) (k : Nat) : -1 ≤ Lib.lastIdx s c k ∧ Lib.lastIdx s c k < k := by
  rcases Lib.lastIdx_spec s c k with ⟨h, _⟩ | ⟨i, h1, h2, _⟩ <;> omega
theorem lix_step {l : Byt} {i : Nat} (h : i < l.length) : Lib.lastIdx (bs l) 10 (i + 1) = if l.getD i 0 = 10 then (i : Int) else Lib.lastIdx (bs l) 10 i := by
  have e : (((bs l).data[i]!).toNat : Int) = 10 ↔ l.getD i 0 = 10 := by
    rw [← u8_iff (y := 10)]
    simp [bs, h]
  simp only [Lib.lastIdx]
  by_cases k : l.getD i 0 = 10
  · rw [if_pos k, if_pos (e.2 k)]
  · rw [if_neg k, if_neg fun x => k (e.1 x)]

set_option maxRecDepth 100000 in
set_option maxHeartbeats 4000000 in
theorem place_con (l : Byt) (o : Int) (hl : l.length ≤ 140737488355328) : Con Tryd.prog glob 15 [str l, .v (.int .i64 o)] [] 0 (retV 0 (.t [.v (.int .i64 (placeF l o).1), .v (.int .i64 (placeF l o).2.1), .v (.bool (placeF l o).2.2)])) := by
  have hb : (bs l).size = l.length := bs_size l
  have hx : (bs l).extract 0 o.toNat = bs (l.take o.toNat) := cut0 l o.toNat
  unfold placeF
  by_cases hout : o < 0 ∨ o ≥ l.length
  · rw [if_pos hout]
    refine spec_intro (tab := tab) (N := 26) Tryd.func15 rfl rfl tab_ok mix rfl rfl _ rfl ?_
    intro B hG
    repeat' (first | refine And.intro (by first | omega | (dsimp only; omega) | (show (_ : Bool) = true; kernel_rfl) | decide | (repeat' (first | refine And.intro ?_ ?_ | exact trivial | exact rfl))) ?_ | refine bcs_dec (fun h => ?_) (fun h => ?_) | refine bcs_ndec (fun h => ?_) (fun h => ?_) | refine bcs_not ?_ | refine bcs_intro (fun h => ?_) (fun h => ?_) | refine And.intro ?_ ?_ | refine reg_tail (by kernel_rfl) ?_)
    all_goals first
      | (exfalso; omega)
      | (refine ret_plain ?_
         repeat' (first | refine And.intro ?_ ?_ | exact trivial)
         all_goals exact rfl
         done)
  · rw [if_neg hout]
    have h1 := cnt_con (l.take o.toNat)
    have h2 := lix_con (l.take o.toNat) (by simp; omega)
    rw [lix_take (by omega)] at h2
    have hr := lix_range (bs l) 10 o.toNat
    have hc : (l.take o.toNat).count 10 ≤ (l.take o.toNat).length := List.count_le_length
    rw [List.length_take] at hc
    unfold str at h1 h2
    rw [← hx] at h1 h2
    refine spec_intro (tab := tab) (N := 26) Tryd.func15 rfl rfl tab_ok mix rfl rfl _ rfl ?_
    intro B hG
    repeat' (first | refine And.intro (by first | omega | (dsimp only; omega) | (show (_ : Bool) = true; kernel_rfl) | decide | (repeat' (first | refine And.intro ?_ ?_ | exact trivial | exact rfl))) ?_ | refine bcs_dec (fun h => ?_) (fun h => False.elim (by first | omega | exact h rfl)) | refine bcs_dec (fun h => False.elim (by omega)) (fun h => ?_) | refine bcs_dec (fun h => ?_) (fun h => ?_) | refine bcs_ndec (fun h => ?_) (fun h => ?_) | refine bcs_not ?_ | refine bcs_intro (fun h => ?_) (fun h => ?_) | refine And.intro ?_ ?_ | refine reg_tail (by kernel_rfl) ?_)
    refine call_rule [] (h1) hG ?_ ?_
    · (refine ⟨?_, ?_, rfl, rfl, rfl⟩ <;> repeat' (first | refine And.intro ?_ ?_ | exact trivial | exact rfl | refine lt0 | refine lt1 ?_ | refine lt2 ?_ ?_ | refine lt3 ?_ ?_ ?_ | refine lt4 ?_ ?_ ?_ ?_ | exact veq_refl _ | decide | (intro i hi; repeat' (first | refine And.intro ?_ ?_ | exact trivial | exact rfl))))
      all_goals first | exact Nat.le_refl _ | omega
    rintro _ _ _ ⟨rfl, rfl, rfl⟩
    repeat' (first | refine And.intro (by first | omega | (dsimp only; omega) | (show (_ : Bool) = true; kernel_rfl) | decide | (repeat' (first | refine And.intro ?_ ?_ | exact trivial | exact rfl))) ?_ | refine bcs_dec (fun h => ?_) (fun h => ?_) | refine bcs_ndec (fun h => ?_) (fun h => ?_) | refine bcs_not ?_ | refine bcs_intro (fun h => ?_) (fun h => ?_) | refine And.intro ?_ ?_ | refine reg_tail (by kernel_rfl) ?_)
    refine call_rule [] (h2) hG ?_ ?_
    · (refine ⟨?_, ?_, rfl, rfl, rfl⟩ <;> repeat' (first | refine And.intro ?_ ?_ | exact trivial | exact rfl | refine lt0 | refine lt1 ?_ | refine lt2 ?_ ?_ | refine lt3 ?_ ?_ ?_ | refine lt4 ?_ ?_ ?_ ?_ | exact veq_refl _ | decide | (intro i hi; repeat' (first | refine And.intro ?_ ?_ | exact trivial | exact rfl))))
      all_goals first | exact Nat.le_refl _ | omega
    rintro _ _ _ ⟨rfl, rfl, rfl⟩
    repeat' (first | refine And.intro (by first | omega | (dsimp only; omega) | (show (_ : Bool) = true; kernel_rfl) | decide | (repeat' (first | refine And.intro ?_ ?_ | exact trivial | exact rfl))) ?_ | refine bcs_dec (fun h => ?_) (fun h => ?_) | refine bcs_ndec (fun h => ?_) (fun h => ?_) | refine bcs_not ?_ | refine bcs_intro (fun h => ?_) (fun h => ?_) | refine And.intro ?_ ?_ | refine reg_tail (by kernel_rfl) ?_)
    refine ret_plain ?_
    repeat' (first | refine And.intro ?_ ?_ | exact trivial)
    all_goals exact rfl

end Go.Proofs.YtcfpbcnledjnoaaDoor
