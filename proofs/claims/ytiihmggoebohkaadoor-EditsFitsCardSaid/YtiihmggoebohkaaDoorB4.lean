/- Chapter 6: contracts: copies, comparisons, the script the other way round. -/
import Derived.Test.YtiihmggoebohkaaDoorB3
namespace Go.Proofs.YtiihmggoebohkaaDoor
open Go Go.RowKit Vc
abbrev chOwn (l : List Chg) : Ch := .own 48 4 l.length (chRow l)
abbrev inRow (l : List Int) : Nat → List SV := fun i => [.v (.int .i64 (l.getD i 0))]
abbrev inRo (l : List Int) : Ch := .ro 1 l.length (inRow l)
abbrev inOwn (l : List Int) : Ch := .own 3 1 l.length (inRow l)
abbrev prEnc (p : Int × Int) : List SV := [.v (.int .i64 p.1), .v (.int .i64 p.2)]
abbrev prRow (l : List (Int × Int)) : Nat → List SV := fun i => prEnc (l.getD i (0, 0))
abbrev prRo (l : List (Int × Int)) : Ch := .ro 2 l.length (prRow l)
abbrev prOwn (l : List (Int × Int)) : Ch := .own 49 2 l.length (prRow l)

set_option maxRecDepth 100000 in
set_option maxHeartbeats 4000000 in
theorem twin_con (s : List Chg) (hs : s.length * 32 ≤ 140737488355328) : Con Tryd.prog glob 24 [.s 0 0 s.length] [(0, chRo s)] 1 (retM (.o 1) [(1, chOwn s)] 2) := by
  refine spec_intro (tab := tab) (N := 7) Tryd.func24 rfl rfl tab_ok mix rfl rfl _ rfl ?_
  intro B hG
  repeat' (first | refine And.intro (by first | omega | (dsimp only; omega) | (show (_ : Bool) = true; kernel_rfl) | decide | (repeat' (first | refine And.intro ?_ ?_ | exact trivial | exact rfl))) ?_ | refine bcs_dec (fun h => ?_) (fun h => ?_) | refine bcs_ndec (fun h => ?_) (fun h => ?_) | refine bcs_not ?_ | refine bcs_intro (fun h => ?_) (fun h => ?_) | refine And.intro ?_ ?_ | refine reg_tail (by kernel_rfl) ?_)
  refine app0 Chg.enc Chg.d s rfl (fun j _ => by rw [Nat.zero_add]) ?_
  refine ret_mem [.at 1 0] rfl rfl ?_ ?_
  · exact trivial
  · repeat' (first | refine And.intro ?_ ?_ | exact trivial)
    · omega
    · intro i hi
      repeat' (first | refine And.intro ?_ ?_ | exact trivial)
      all_goals rfl
theorem Chg.same {a b : Chg} (h : a.A = b.A ∧ a.N = b.N ∧ a.B = b.B ∧ a.M = b.M) : a = b := by
  cases a; cases b; simp at h ⊢; exact h

set_option maxRecDepth 100000 in
set_option maxHeartbeats 4000000 in
theorem sameInts_con (a b : List Int) (ha : a.length ≤ 9223372036854775807) (hb : b.length ≤ 9223372036854775807) : Con Tryd.prog glob 35 [.s 0 0 a.length, .s 1 0 b.length] [(0, inRo a), (1, inRo b)] 2 (fun x m n => ∃ r : Bool, x = .v (.bool r) ∧ m = [] ∧ n = 2 ∧ (r = true ↔ a = b)) := by
  refine spec_intro (tab := tab) (N := 26) Tryd.func35 rfl rfl tab_ok mix rfl rfl _ rfl ?_
  intro B hG
  repeat' (first | refine And.intro (by first | omega | (dsimp only; omega) | (show (_ : Bool) = true; kernel_rfl) | decide | (repeat' (first | refine And.intro ?_ ?_ | exact trivial | exact rfl))) ?_ | refine bcs_dec (fun h => ?_) (fun h => ?_) | refine bcs_ndec (fun h => ?_) (fun h => ?_) | refine bcs_not ?_ | refine bcs_intro (fun h => ?_) (fun h => ?_) | refine And.intro ?_ ?_ | refine reg_tail (by kernel_rfl) ?_)
  · refine ret_bool false ?_
    exact ⟨fun h => (by cases h), fun e => (by subst e; exact absurd rfl h)⟩
  have hl : a.length = b.length := by omega
  refine loop_rule (α := Nat) (fun k => ⟨[(0, .s 0 0 a.length), (1, .s 1 0 b.length), (5, .v (.int .i64 k))], [(0, inRo a), (1, inRo b)], 2⟩)
    (fun k => k ≤ a.length ∧ a.take k = b.take k) (fun k => a.length - k) 0 [] ?_ ?_ ?_
  · simp
  · (refine ⟨rfl, rfl, ?_, ?_⟩ <;> repeat' (first | refine And.intro ?_ ?_ | exact trivial | exact rfl | refine lt0 | refine lt1 ?_ | refine lt2 ?_ ?_ | refine lt3 ?_ ?_ ?_ | refine lt4 ?_ ?_ ?_ ?_ | exact veq_refl _ | decide | (intro i hi; repeat' (first | refine And.intro ?_ ?_ | exact trivial | exact rfl))))
    all_goals exact Nat.le_refl _
  · rintro k ⟨h1, h2⟩
    repeat' (first | refine And.intro (by first | omega | (dsimp only; omega) | (show (_ : Bool) = true; kernel_rfl) | decide | (repeat' (first | refine And.intro ?_ ?_ | exact trivial | exact rfl))) ?_ | refine bcs_dec (fun h => ?_) (fun h => ?_) | refine bcs_ndec (fun h => ?_) (fun h => ?_) | refine bcs_not ?_ | refine bcs_intro (fun h => ?_) (fun h => ?_) | refine And.intro ?_ ?_ | refine reg_tail (by kernel_rfl) ?_)
    · refine ret_bool false ?_
      refine ⟨fun h => (by cases h), fun e => False.elim ?_⟩
      exact h (by rw [e])
    · refine ⟨k + 1, [], ?_, ?_, ?_⟩
      · simp only [nm] at *
        exact ⟨by omega, take_next 0 h2 h (by omega) (by omega)⟩
      · omega
      · (refine ⟨rfl, rfl, ?_, ?_⟩ <;> repeat' (first | refine And.intro ?_ ?_ | exact trivial | exact rfl | refine lt0 | refine lt1 ?_ | refine lt2 ?_ ?_ | refine lt3 ?_ ?_ ?_ | refine lt4 ?_ ?_ ?_ ?_ | exact veq_refl _ | decide | (intro i hi; repeat' (first | refine And.intro ?_ ?_ | exact trivial | exact rfl))))
        all_goals exact Nat.le_refl _
    · refine ret_bool true ?_
      exact ⟨fun _ => take_all h2 (by omega) (by omega), fun _ => rfl⟩

set_option maxRecDepth 100000 in
set_option maxHeartbeats 4000000 in
theorem sameChanges_con (a b : List Chg) (ha : a.length ≤ 9223372036854775807) (hb : b.length ≤ 9223372036854775807) : Con Tryd.prog glob 22 [.s 0 0 a.length, .s 1 0 b.length] [(0, chRo a), (1, chRo b)] 2 (fun x m n => ∃ r : Bool, x = .v (.bool r) ∧ m = [] ∧ n = 2 ∧ (r = true ↔ a = b)) := by
  refine spec_intro (tab := tab) (N := 26) Tryd.func22 rfl rfl tab_ok mix rfl rfl _ rfl ?_
  intro B hG
  repeat' (first | refine And.intro (by first | omega | (dsimp only; omega) | (show (_ : Bool) = true; kernel_rfl) | decide | (repeat' (first | refine And.intro ?_ ?_ | exact trivial | exact rfl))) ?_ | refine bcs_dec (fun h => ?_) (fun h => ?_) | refine bcs_ndec (fun h => ?_) (fun h => ?_) | refine bcs_not ?_ | refine bcs_intro (fun h => ?_) (fun h => ?_) | refine And.intro ?_ ?_ | refine reg_tail (by kernel_rfl) ?_)
  · refine ret_bool false ?_
    exact ⟨fun h => (by cases h), fun e => (by subst e; exact absurd rfl h)⟩
  have hl : a.length = b.length := by omega
  refine loop_rule (α := Nat) (fun k => ⟨[(0, .s 0 0 a.length), (1, .s 1 0 b.length), (5, .v (.int .i64 k))], [(0, chRo a), (1, chRo b)], 2⟩)
    (fun k => k ≤ a.length ∧ a.take k = b.take k) (fun k => a.length - k) 0 [] ?_ ?_ ?_
  · simp
  · (refine ⟨rfl, rfl, ?_, ?_⟩ <;> repeat' (first | refine And.intro ?_ ?_ | exact trivial | exact rfl | refine lt0 | refine lt1 ?_ | refine lt2 ?_ ?_ | refine lt3 ?_ ?_ ?_ | refine lt4 ?_ ?_ ?_ ?_ | exact veq_refl _ | decide | (intro i hi; repeat' (first | refine And.intro ?_ ?_ | exact trivial | exact rfl))))
    all_goals exact Nat.le_refl _
  · rintro k ⟨h1, h2⟩
    repeat' (first | refine ext48n rfl rfl ?_ | refine ext49n rfl rfl ?_ | refine ext48 rfl rfl ?_ | refine ext49 rfl rfl ?_ | refine And.intro (by first | omega | (dsimp only; omega) | (show (_ : Bool) = true; kernel_rfl) | decide | (repeat' (first | refine And.intro ?_ ?_ | exact trivial | exact rfl))) ?_ | refine bcs_dec (fun h => ?_) (fun h => ?_) | refine bcs_ndec (fun h => ?_) (fun h => ?_) | refine bcs_not ?_ | refine bcs_intro (fun h => ?_) (fun h => ?_) | refine And.intro ?_ ?_ | refine reg_tail (by kernel_rfl) ?_)
    · refine ret_bool false ?_
      refine ⟨fun h => (by cases h), fun e => False.elim ?_⟩
      exact h (by rw [e]; exact ⟨rfl, rfl, rfl, rfl⟩)
    · refine ⟨k + 1, [], ?_, ?_, ?_⟩
      · simp only [nm] at *
        exact ⟨by omega, take_next Chg.d h2 (Chg.same h) (by omega) (by omega)⟩
      · omega
      · (refine ⟨rfl, rfl, ?_, ?_⟩ <;> repeat' (first | refine And.intro ?_ ?_ | exact trivial | exact rfl | refine lt0 | refine lt1 ?_ | refine lt2 ?_ ?_ | refine lt3 ?_ ?_ ?_ | refine lt4 ?_ ?_ ?_ ?_ | exact veq_refl _ | decide | (intro i hi; repeat' (first | refine And.intro ?_ ?_ | exact trivial | exact rfl))))
        all_goals exact Nat.le_refl _
    · refine ret_bool true ?_
      exact ⟨fun _ => take_all h2 (by omega) (by omega), fun _ => rfl⟩

set_option maxRecDepth 100000 in
set_option maxHeartbeats 4000000 in
theorem samePairs_con (a b : List (Int × Int)) (ha : a.length ≤ 9223372036854775807) (hb : b.length ≤ 9223372036854775807) : Con Tryd.prog glob 23 [.s 0 0 a.length, .s 1 0 b.length] [(0, prRo a), (1, prRo b)] 2 (fun x m n => ∃ r : Bool, x = .v (.bool r) ∧ m = [] ∧ n = 2 ∧ (r = true ↔ a = b)) := by
  refine spec_intro (tab := tab) (N := 26) Tryd.func23 rfl rfl tab_ok mix rfl rfl _ rfl ?_
  intro B hG
  repeat' (first | refine And.intro (by first | omega | (dsimp only; omega) | (show (_ : Bool) = true; kernel_rfl) | decide | (repeat' (first | refine And.intro ?_ ?_ | exact trivial | exact rfl))) ?_ | refine bcs_dec (fun h => ?_) (fun h => ?_) | refine bcs_ndec (fun h => ?_) (fun h => ?_) | refine bcs_not ?_ | refine bcs_intro (fun h => ?_) (fun h => ?_) | refine And.intro ?_ ?_ | refine reg_tail (by kernel_rfl) ?_)
  · refine ret_bool false ?_
    exact ⟨fun h => (by cases h), fun e => (by subst e; exact absurd rfl h)⟩
  have hl : a.length = b.length := by omega
  refine loop_rule (α := Nat) (fun k => ⟨[(0, .s 0 0 a.length), (1, .s 1 0 b.length), (5, .v (.int .i64 k))], [(0, prRo a), (1, prRo b)], 2⟩)
    (fun k => k ≤ a.length ∧ a.take k = b.take k) (fun k => a.length - k) 0 [] ?_ ?_ ?_
  · simp
  · (refine ⟨rfl, rfl, ?_, ?_⟩ <;> repeat' (first | refine And.intro ?_ ?_ | exact trivial | exact rfl | refine lt0 | refine lt1 ?_ | refine lt2 ?_ ?_ | refine lt3 ?_ ?_ ?_ | refine lt4 ?_ ?_ ?_ ?_ | exact veq_refl _ | decide | (intro i hi; repeat' (first | refine And.intro ?_ ?_ | exact trivial | exact rfl))))
    all_goals exact Nat.le_refl _
  · rintro k ⟨h1, h2⟩
    repeat' (first | refine ext48n rfl rfl ?_ | refine ext49n rfl rfl ?_ | refine ext48 rfl rfl ?_ | refine ext49 rfl rfl ?_ | refine And.intro (by first | omega | (dsimp only; omega) | (show (_ : Bool) = true; kernel_rfl) | decide | (repeat' (first | refine And.intro ?_ ?_ | exact trivial | exact rfl))) ?_ | refine bcs_dec (fun h => ?_) (fun h => ?_) | refine bcs_ndec (fun h => ?_) (fun h => ?_) | refine bcs_not ?_ | refine bcs_intro (fun h => ?_) (fun h => ?_) | refine And.intro ?_ ?_ | refine reg_tail (by kernel_rfl) ?_)
    · refine ret_bool false ?_
      refine ⟨fun h => (by cases h), fun e => False.elim ?_⟩
      exact h (by rw [e]; exact ⟨rfl, rfl⟩)
    · refine ⟨k + 1, [], ?_, ?_, ?_⟩
      · simp only [nm] at *
        exact ⟨by omega, take_next (0, 0) h2 (Prod.ext h.1 h.2) (by omega) (by omega)⟩
      · omega
      · (refine ⟨rfl, rfl, ?_, ?_⟩ <;> repeat' (first | refine And.intro ?_ ?_ | exact trivial | exact rfl | refine lt0 | refine lt1 ?_ | refine lt2 ?_ ?_ | refine lt3 ?_ ?_ ?_ | refine lt4 ?_ ?_ ?_ ?_ | exact veq_refl _ | decide | (intro i hi; repeat' (first | refine And.intro ?_ ?_ | exact trivial | exact rfl))))
        all_goals exact Nat.le_refl _
    · refine ret_bool true ?_
      exact ⟨fun _ => take_all h2 (by omega) (by omega), fun _ => rfl⟩
end Go.Proofs.YtiihmggoebohkaaDoor
