/- Chapter 6: contracts: the script that lets lines stay. -/
import Derived.Test.YtiihmggoebohkaaDoorB20
namespace Go.Proofs.YtiihmggoebohkaaDoor
open Go Go.RowKit Vc

def gapF (a b i k : Int) (out : List Chg) : List Chg := if i > a ∨ k > b then out ++ [⟨a, i - a, b, k - b⟩] else out

set_option maxRecDepth 100000 in
set_option maxHeartbeats 4000000 in
theorem gap_con {a b i k : Int} {out : List Chg} (ha : 0 ≤ a ∧ a ≤ i) (hb : 0 ≤ b ∧ b ≤ k) (hi : i ≤ 4194304) (hk : k ≤ 4194304) (ho : out.length ≤ 4194304) :
    Con Tryd.prog glob 42 [.v (.int .i64 i), .v (.int .i64 k), .p 0 0 0, .p 1 0 0, .p 2 0 0] [(0, .box 3 [.v (.int .i64 a)]), (1, .box 3 [.v (.int .i64 b)]), (2, .box 22 [.o 3]), (3, chOwn out)] 4
    (retM (.t []) [(0, .box 3 [.v (.int .i64 (i + 1))]), (1, .box 3 [.v (.int .i64 (k + 1))]), (2, .box 22 [.o 4]), (4, chOwn (gapF a b i k out))] 5) := by
  refine spec_intro (tab := tab) (N := 31) Tryd.func42 rfl rfl tab_ok mix rfl rfl _ rfl ?_
  intro B hG
  repeat' (first | refine And.intro (by first | omega | (dsimp only; omega) | (show (_ : Bool) = true; kernel_rfl) | decide | (repeat' (first | refine And.intro ?_ ?_ | exact trivial | exact rfl))) ?_ | refine bcs_dec (fun h => ?_) (fun h => ?_) | refine bcs_ndec (fun h => ?_) (fun h => ?_) | refine bcs_not ?_ | refine bcs_intro (fun h => ?_) (fun h => ?_) | refine And.intro ?_ ?_ | refine reg_tail (by kernel_rfl) ?_)
  all_goals first
    | (refine app1 Chg.enc Chg.d out ⟨a, i - a, b, k - b⟩ rfl (by simp; rfl) ?_
       repeat' (first | refine And.intro (by first | omega | (dsimp only; omega) | (show (_ : Bool) = true; kernel_rfl) | decide | (repeat' (first | refine And.intro ?_ ?_ | exact trivial | exact rfl))) ?_ | refine bcs_dec (fun h => ?_) (fun h => ?_) | refine bcs_ndec (fun h => ?_) (fun h => ?_) | refine bcs_not ?_ | refine bcs_intro (fun h => ?_) (fun h => ?_) | refine And.intro ?_ ?_ | refine reg_tail (by kernel_rfl) ?_)
       rw [show gapF a b i k out = out ++ [⟨a, i - a, b, k - b⟩] from if_pos (by omega)]
       refine ret_mem [.at 5 0] rfl rfl ?_ ?_
       · repeat' (first | refine And.intro ?_ ?_ | exact trivial)
       · repeat' (first | refine And.intro ?_ ?_ | exact trivial)
         · exact rfl
         · exact rfl
         · simp
         · intro j hj
           repeat' (first | refine And.intro ?_ ?_ | exact trivial)
           all_goals exact rfl
       done)
    | (repeat' (first | refine And.intro (by first | omega | (dsimp only; omega) | (show (_ : Bool) = true; kernel_rfl) | decide | (repeat' (first | refine And.intro ?_ ?_ | exact trivial | exact rfl))) ?_ | refine bcs_dec (fun h => ?_) (fun h => ?_) | refine bcs_ndec (fun h => ?_) (fun h => ?_) | refine bcs_not ?_ | refine bcs_intro (fun h => ?_) (fun h => ?_) | refine And.intro ?_ ?_ | refine reg_tail (by kernel_rfl) ?_)
       rw [show gapF a b i k out = out from if_neg (by omega)]
       refine ret_mem [.at 3 0] rfl rfl ?_ ?_
       · repeat' (first | refine And.intro ?_ ?_ | exact trivial)
       · repeat' (first | refine And.intro ?_ ?_ | exact trivial)
         · exact rfl
         · exact rfl
         · exact rfl
         · intro j hj
           repeat' (first | refine And.intro ?_ ?_ | exact trivial)
           all_goals exact rfl
       done)
    | trace_state

set_option maxRecDepth 100000 in
set_option maxHeartbeats 4000000 in
theorem of_con {l : List (Int × Int)} {n m : Int} (hs : l.length ≤ 9223372036854775807 - 1) : Con Tryd.prog glob 20 [.s 0 0 l.length, .v (.int .i64 n), .v (.int .i64 m)] [(0, prRo l)] 1
    (retM (.t [.o 1, .v (errV (ofE l n m).2)]) [(1, chOwn (ofE l n m).1)] 2) := by
  refine spec_intro (tab := tab) (N := 71) Tryd.func20 rfl rfl tab_ok mix rfl rfl _ rfl ?_
  intro B hG
  repeat' (first | refine And.intro (by first | omega | (dsimp only; omega) | (show (_ : Bool) = true; kernel_rfl) | decide | (repeat' (first | refine And.intro ?_ ?_ | exact trivial | exact rfl))) ?_ | refine bcs_dec (fun h => ?_) (fun h => ?_) | refine bcs_ndec (fun h => ?_) (fun h => ?_) | refine bcs_not ?_ | refine bcs_intro (fun h => ?_) (fun h => ?_) | refine And.intro ?_ ?_ | refine reg_tail (by kernel_rfl) ?_)
  all_goals first
    | (have e : ofE l n m = ([], 1) := by unfold ofE; rw [if_pos (by omega)]
       rw [show (ofE l n m).1 = [] from by rw [e], show (ofE l n m).2 = 1 from by rw [e], errV_n (by decide)]
       refine ret_mem [.nil 4] rfl rfl ?_ ?_
       · repeat' (first | refine And.intro ?_ ?_ | exact trivial)
         all_goals exact rfl
       · repeat' (first | refine And.intro ?_ ?_ | exact trivial)
         all_goals exact rfl
       done)
    | skip
  have e0 : ofE l n m = ofF l 0 0 n m [] := by unfold ofE; rw [if_neg (by omega)]
  refine loop_rule (α := Nat × Int × Int × List Chg) (fun (k, a, b, out) => ⟨[(1, .v (.int .i64 n)), (2, .v (.int .i64 m)), (8, .p 1 0 0), (9, .p 2 0 0), (10, .p 3 0 0), (11, .f 42 [.p 2 0 0, .p 3 0 0, .p 1 0 0]), (30, .s 0 0 l.length), (31, .v (.int .i64 l.length)), (32, .v (.int .i64 k))], [(0, prRo l), (1, .box 22 [.o 4]), (2, .box 3 [.v (.int .i64 a)]), (3, .box 3 [.v (.int .i64 b)]), (4, chOwn out)], 5⟩)
    (fun (k, a, b, out) => 0 ≤ a ∧ 0 ≤ b ∧ (out.length : Int) ≤ a ∧ k ≤ l.length ∧ a ≤ n ∧ b ≤ m ∧ ofF (l.drop k) a b n m out = ofE l n m)
    (fun (k, a, b, out) => l.length - k) (0, 0, 0, []) [.at 1 0, .at 2 0, .at 3 0, .nil 4] ?_ ?_ ?_
  · exact ⟨by omega, by omega, by simp, by omega, by omega, by omega, e0.symm⟩
  · (refine ⟨rfl, rfl, ?_, ?_⟩ <;> repeat' (first | refine And.intro ?_ ?_ | exact trivial | exact rfl | refine lt0 | refine lt1 ?_ | refine lt2 ?_ ?_ | refine lt3 ?_ ?_ ?_ | refine lt4 ?_ ?_ ?_ ?_ | exact veq_refl _ | decide | (intro i hi; repeat' (first | refine And.intro ?_ ?_ | exact trivial | exact rfl))))
    all_goals omega
  · rintro ⟨k, a, b, out⟩ ⟨h1, h2, h3, h4, h5, h6, h7⟩
    have ek : 0 + (k : Int).toNat = k := by simp
    have hst : k < l.length → (if (l.getD (0 + (k : Int).toNat) (0, 0)).1 < a ∨ (l.getD (0 + (k : Int).toNat) (0, 0)).2 < b ∨ (l.getD (0 + (k : Int).toNat) (0, 0)).1 ≥ n ∨ (l.getD (0 + (k : Int).toNat) (0, 0)).2 ≥ m then ([], 60) else ofF (l.drop (k + 1)) ((l.getD (0 + (k : Int).toNat) (0, 0)).1 + 1) ((l.getD (0 + (k : Int).toNat) (0, 0)).2 + 1) n m (gapF a b (l.getD (0 + (k : Int).toNat) (0, 0)).1 (l.getD (0 + (k : Int).toNat) (0, 0)).2 out)) = ofE l n m := fun h => by
      rw [drop_get (0, 0) l k h, ofF_cons] at h7
      rw [ek]; exact h7
    repeat' (first | refine And.intro (by first | omega | (dsimp only; omega) | (show (_ : Bool) = true; kernel_rfl) | decide | (repeat' (first | refine And.intro ?_ ?_ | exact trivial | exact rfl))) ?_ | refine bcs_dec (fun h => ?_) (fun h => ?_) | refine bcs_ndec (fun h => ?_) (fun h => ?_) | refine bcs_not ?_ | refine bcs_intro (fun h => ?_) (fun h => ?_) | refine And.intro ?_ ?_ | refine reg_tail (by kernel_rfl) ?_)
    all_goals first
      | (have e : ofE l n m = ([], 60) := by rw [← hst (by omega), if_pos (by omega)]
         rw [show (ofE l n m).1 = [] from by rw [e], show (ofE l n m).2 = 60 from by rw [e], errV_n (by decide)]
         refine ret_mem [.nil 4] rfl rfl ?_ ?_
         · repeat' (first | refine And.intro ?_ ?_ | exact trivial)
           all_goals exact rfl
         · repeat' (first | refine And.intro ?_ ?_ | exact trivial)
           all_goals exact rfl
         done)
      | (refine call_rule [.at 2 0, .at 3 0, .at 1 0, .at 4 0] (gap_con (a := a) (b := b) (i := (l.getD (0 + (k : Int).toNat) (0, 0)).1) (k := (l.getD (0 + (k : Int).toNat) (0, 0)).2) (out := out) ⟨by omega, by omega⟩ ⟨by omega, by omega⟩ (by omega) (by omega) (by omega)) hG ?_ ?_
         · (refine ⟨?_, ?_, rfl, rfl, rfl⟩ <;> repeat' (first | refine And.intro ?_ ?_ | exact trivial | exact rfl | refine lt0 | refine lt1 ?_ | refine lt2 ?_ ?_ | refine lt3 ?_ ?_ ?_ | refine lt4 ?_ ?_ ?_ ?_ | exact veq_refl _ | decide | (intro i hi; repeat' (first | refine And.intro ?_ ?_ | exact trivial | exact rfl))))
           all_goals first | exact Nat.le_refl _ | skip
         rintro _ _ _ ⟨rfl, rfl, rfl⟩
         repeat' (first | refine And.intro (by first | omega | (dsimp only; omega) | (show (_ : Bool) = true; kernel_rfl) | decide | (repeat' (first | refine And.intro ?_ ?_ | exact trivial | exact rfl))) ?_ | refine bcs_dec (fun h => ?_) (fun h => ?_) | refine bcs_ndec (fun h => ?_) (fun h => ?_) | refine bcs_not ?_ | refine bcs_intro (fun h => ?_) (fun h => ?_) | refine And.intro ?_ ?_ | refine reg_tail (by kernel_rfl) ?_)
         refine ⟨(k + 1, (l.getD (0 + (k : Int).toNat) (0, 0)).1 + 1, (l.getD (0 + (k : Int).toNat) (0, 0)).2 + 1, gapF a b (l.getD (0 + (k : Int).toNat) (0, 0)).1 (l.getD (0 + (k : Int).toNat) (0, 0)).2 out), [.at 1 0, .at 2 0, .at 3 0, .at 6 0], ?_, ?_, ?_⟩
         · refine ⟨by omega, by omega, ?_, by omega, by omega, by omega, ?_⟩
           · unfold gapF
             split
             · rw [List.length_append]; simp only [List.length_singleton]; omega
             · omega
           · rw [← hst (by omega), if_neg (by omega)]
         · show l.length - (k + 1) < l.length - k
           omega
         · (refine ⟨rfl, rfl, ?_, ?_⟩ <;> repeat' (first | refine And.intro ?_ ?_ | exact trivial | exact rfl | refine lt0 | refine lt1 ?_ | refine lt2 ?_ ?_ | refine lt3 ?_ ?_ ?_ | refine lt4 ?_ ?_ ?_ ?_ | exact veq_refl _ | decide | (intro i hi; repeat' (first | refine And.intro ?_ ?_ | exact trivial | exact rfl))))
           all_goals first | omega | (simp; done)
         done)
      | skip
    have h8 : ofE l n m = (gapF a b n m out, 0) := by
      rw [← h7, show l.drop k = [] from List.drop_of_length_le (by omega)]
      rfl
    repeat' (first | refine And.intro (by first | omega | (dsimp only; omega) | (show (_ : Bool) = true; kernel_rfl) | decide | (repeat' (first | refine And.intro ?_ ?_ | exact trivial | exact rfl))) ?_ | refine bcs_dec (fun h => ?_) (fun h => ?_) | refine bcs_ndec (fun h => ?_) (fun h => ?_) | refine bcs_not ?_ | refine bcs_intro (fun h => ?_) (fun h => ?_) | refine And.intro ?_ ?_ | refine reg_tail (by kernel_rfl) ?_)
    refine call_rule [.at 2 0, .at 3 0, .at 1 0, .at 4 0] (gap_con (a := a) (b := b) (i := n) (k := m) (out := out) ⟨by omega, by omega⟩ ⟨by omega, by omega⟩ (by omega) (by omega) (by omega)) hG ?_ ?_
    · (refine ⟨?_, ?_, rfl, rfl, rfl⟩ <;> repeat' (first | refine And.intro ?_ ?_ | exact trivial | exact rfl | refine lt0 | refine lt1 ?_ | refine lt2 ?_ ?_ | refine lt3 ?_ ?_ ?_ | refine lt4 ?_ ?_ ?_ ?_ | exact veq_refl _ | decide | (intro i hi; repeat' (first | refine And.intro ?_ ?_ | exact trivial | exact rfl))))
      all_goals exact Nat.le_refl _
    rintro _ _ _ ⟨rfl, rfl, rfl⟩
    repeat' (first | refine And.intro (by first | omega | (dsimp only; omega) | (show (_ : Bool) = true; kernel_rfl) | decide | (repeat' (first | refine And.intro ?_ ?_ | exact trivial | exact rfl))) ?_ | refine bcs_dec (fun h => ?_) (fun h => ?_) | refine bcs_ndec (fun h => ?_) (fun h => ?_) | refine bcs_not ?_ | refine bcs_intro (fun h => ?_) (fun h => ?_) | refine And.intro ?_ ?_ | refine reg_tail (by kernel_rfl) ?_)
    rw [show (ofE l n m).1 = gapF a b n m out from by rw [h8], show (ofE l n m).2 = 0 from by rw [h8], errV_0 rfl]
    refine ret_mem [.at 5 0] rfl rfl ?_ ?_
    · repeat' (first | refine And.intro ?_ ?_ | exact trivial)
      all_goals exact rfl
    · repeat' (first | refine And.intro ?_ ?_ | exact trivial)
      · exact rfl
      · intro i hi
        repeat' (first | refine And.intro ?_ ?_ | exact trivial)
        all_goals exact rfl

/-- What the two say of the same pairs. -/
def OfC (l : List (Int × Int)) (n m : Int) (E : Value) (v : Int) : Prop :=
  Con Tryd.prog glob 20 [.s 0 0 l.length, .v (.int .i64 n), .v (.int .i64 m)] [(0, prRo l)] 1 (retM (.t [.o 1, .v E]) [(1, chOwn (ofE l n m).1)] 2) ∧
  Con Tryd.prog glob 21 [.s 0 0 l.length, .v (.int .i64 n), .v (.int .i64 m)] [(0, prRo l)] 1 (retM (.t [.o 1, .v (.int .i64 v)]) [(1, chOwn (ofE l n m).1)] 2) ∧
  Con Tryd.prog glob 16 [.v E] [] 0 (retV 0 (.v (.int .i64 v))) ∧ (ofE l n m).2 = v
theorem ofC (l : List (Int × Int)) (n m : Int) (hs : l.length ≤ 9223372036854775807 - 1) : OfC l n m .nilIface 0 ∨ ((ofE l n m).2 ≠ 0 ∧ OfC l n m (.iface 84 (.int .i64 (ofE l n m).2)) (ofE l n m).2) := by
  unfold OfC
  have h1 := of_con (l := l) (n := n) (m := m) hs
  have h2 := ofR_con (l := l) (n := n) (m := m) hs
  by_cases hv : (ofE l n m).2 = 0
  · rw [hv, errV_0 rfl] at h1
    rw [hv] at h2
    exact .inl ⟨h1, h2, num_nil_con, hv⟩
  · rw [errV_n hv] at h1
    exact .inr ⟨hv, h1, h2, num_err_con _, rfl⟩
end Go.Proofs.YtiihmggoebohkaaDoor
