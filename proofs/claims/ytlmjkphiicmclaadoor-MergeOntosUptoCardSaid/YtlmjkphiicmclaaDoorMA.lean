/- Chapter 18: folded together: parts M1, M2, M3, M4, M5. -/
import Derived.Test.YtlmjkphiicmclaaDoorBA
namespace Go.Proofs.YtlmjkphiicmclaaDoor
open Go Go.RowKit Vc

/-- A side: the script from its change i on, how much longer its text has become. -/
abbrev sdB (i n : Nat) (m : Int) : Ch := .box 89 [.s 1 i n, .v (.int .i64 m)]
def nextF (P : List Chg) (i : Nat) (e : Int) : Int := if i < P.length then (P.getD i Chg.d).A else e
set_option maxRecDepth 100000 in
set_option maxHeartbeats 4000000 in
theorem next_con (P : List Chg) (i : Nat) (m e : Int) (hi : i ≤ P.length) :
    Con Tryd.prog glob 50 [.p 0 0 0, .v (.int .i64 e)] [(0, sdB i (P.length - i) m), (1, chRo P)] 2 (retM (.v (.int .i64 (nextF P i e))) [(0, sdB i (P.length - i) m)] 2) := by
  by_cases hl : i < P.length
  · rw [show nextF P i e = (P.getD i Chg.d).A from if_pos hl]
    refine spec_intro (tab := tab) (N := 19) Tryd.func50 rfl rfl tab_ok mix rfl rfl _ rfl ?_
    intro B hG
    repeat' (first | refine And.intro (by first | omega | (dsimp only; omega) | (show (_ : Bool) = true; kernel_rfl) | decide | (repeat' (first | refine And.intro ?_ ?_ | exact trivial | exact rfl))) ?_ | refine bcs_dec (fun h => ?_) (fun h => False.elim (by first | omega | exact h rfl)) | refine bcs_dec (fun h => False.elim (by omega)) (fun h => ?_) | refine bcs_dec (fun h => ?_) (fun h => ?_) | refine bcs_ndec (fun h => ?_) (fun h => ?_) | refine bcs_not ?_ | refine bcs_intro (fun h => ?_) (fun h => ?_) | refine And.intro ?_ ?_ | refine reg_tail (by kernel_rfl) ?_)
    refine ret_mem [] rfl rfl ?_ ?_
    · exact rfl
    · repeat' (first | refine And.intro ?_ ?_ | exact trivial)
      all_goals first | exact rfl | exact veq_refl _ | omega
  · rw [show nextF P i e = e from if_neg hl]
    refine spec_intro (tab := tab) (N := 19) Tryd.func50 rfl rfl tab_ok mix rfl rfl _ rfl ?_
    intro B hG
    repeat' (first | refine And.intro (by first | omega | (dsimp only; omega) | (show (_ : Bool) = true; kernel_rfl) | decide | (repeat' (first | refine And.intro ?_ ?_ | exact trivial | exact rfl))) ?_ | refine bcs_dec (fun h => ?_) (fun h => False.elim (by first | omega | exact h rfl)) | refine bcs_dec (fun h => False.elim (by omega)) (fun h => ?_) | refine bcs_dec (fun h => ?_) (fun h => ?_) | refine bcs_ndec (fun h => ?_) (fun h => ?_) | refine bcs_not ?_ | refine bcs_intro (fun h => ?_) (fun h => ?_) | refine And.intro ?_ ?_ | refine reg_tail (by kernel_rfl) ?_)
    refine ret_mem [] rfl rfl ?_ ?_
    · exact rfl
    · repeat' (first | refine And.intro ?_ ?_ | exact trivial)
      all_goals first | exact rfl | exact veq_refl _ | omega
set_option maxRecDepth 100000 in
set_option maxHeartbeats 4000000 in
theorem equal_con (a b : List Byt) (ha : a.length ≤ 4194304) : Con Tryd.prog glob 53 [.s 0 0 a.length, .s 1 0 b.length] [(0, stRo a), (1, stRo b)] 2 (retV 2 (.v (.bool (decide (a = b))))) := by
  refine spec_intro (tab := tab) (N := 26) Tryd.func53 rfl rfl tab_ok mix rfl rfl _ rfl ?_
  intro B hG
  by_cases hl : a.length = b.length
  · repeat' (first | refine And.intro (by first | omega | (dsimp only; omega) | (show (_ : Bool) = true; kernel_rfl) | decide | (repeat' (first | refine And.intro ?_ ?_ | exact trivial | exact rfl))) ?_ | refine bcs_dec (fun h => ?_) (fun h => False.elim (by first | omega | exact h rfl)) | refine bcs_dec (fun h => False.elim (by omega)) (fun h => ?_) | refine bcs_dec (fun h => ?_) (fun h => ?_) | refine bcs_ndec (fun h => ?_) (fun h => ?_) | refine bcs_not ?_ | refine bcs_intro (fun h => ?_) (fun h => ?_) | refine And.intro ?_ ?_ | refine reg_tail (by kernel_rfl) ?_)
    · omega
    refine loop_rule (α := Nat) (fun i => ⟨[(0, .s 0 0 a.length), (1, .s 1 0 b.length), (12, .v (.int .i64 a.length)), (13, .v (.int .i64 i))], [(0, stRo a), (1, stRo b)], 2⟩)
      (fun i => i ≤ a.length ∧ ∀ j, j < i → a.getD j [] = b.getD j []) (fun i => a.length - i) 0 [] ?_ ?_ ?_
    · exact ⟨Nat.zero_le _, fun j hj => absurd hj (by omega)⟩
    · (refine ⟨rfl, rfl, ?_, ?_⟩ <;> repeat' (first | refine And.intro ?_ ?_ | exact trivial | exact rfl | refine lt0 | refine lt1 ?_ | refine lt2 ?_ ?_ | refine lt3 ?_ ?_ ?_ | refine lt4 ?_ ?_ ?_ ?_ | exact veq_refl _ | decide | (intro i hi; repeat' (first | refine And.intro ?_ ?_ | exact trivial | exact rfl))))
      all_goals first | exact Nat.le_refl _ | omega
    rintro i ⟨h1, h2⟩
    by_cases hi : i < a.length
    · by_cases he : a.getD (0 + (i : Int).toNat) [] = b.getD (0 + (i : Int).toNat) []
      · repeat' (first | refine And.intro (by first | omega | (dsimp only; omega) | (show (_ : Bool) = true; kernel_rfl) | (simp; done) | decide | (repeat' (first | refine And.intro ?_ ?_ | exact trivial | exact rfl | (simp; done)))) ?_ | refine bcs_dec (fun h => ?_) (fun h => False.elim (by first | omega | exact h rfl)) | refine bcs_dec (fun h => False.elim (by omega)) (fun h => ?_) | refine bcs_dec (fun h => ?_) (fun h => ?_) | refine bcs_ndec (fun h => ?_) (fun h => ?_) | refine bcs_not ?_ | refine And.intro ?_ ?_ | refine reg_tail (by kernel_rfl) ?_)
        refine bcs_t (by rw [bs_eq]; simpa using he) ?_
        repeat' (first | refine And.intro (by first | omega | (dsimp only; omega) | (show (_ : Bool) = true; kernel_rfl) | (simp; done) | decide | (repeat' (first | refine And.intro ?_ ?_ | exact trivial | exact rfl | (simp; done)))) ?_ | refine bcs_dec (fun h => ?_) (fun h => False.elim (by first | omega | exact h rfl)) | refine bcs_dec (fun h => False.elim (by omega)) (fun h => ?_) | refine bcs_dec (fun h => ?_) (fun h => ?_) | refine bcs_ndec (fun h => ?_) (fun h => ?_) | refine bcs_not ?_ | refine And.intro ?_ ?_ | refine reg_tail (by kernel_rfl) ?_)
        refine ⟨i + 1, [], ?_, ?_, ?_⟩
        · refine ⟨hi, fun j hj => ?_⟩
          rcases Nat.lt_succ_iff_lt_or_eq.1 hj with hj | rfl
          · exact h2 j hj
          · rw [Nat.zero_add, Int.toNat_natCast] at he; exact he
        · show a.length - (i + 1) < a.length - i
          omega
        · (refine ⟨rfl, rfl, ?_, ?_⟩ <;> repeat' (first | refine And.intro ?_ ?_ | exact trivial | exact rfl | refine lt0 | refine lt1 ?_ | refine lt2 ?_ ?_ | refine lt3 ?_ ?_ ?_ | refine lt4 ?_ ?_ ?_ ?_ | exact veq_refl _ | decide | (intro i hi; repeat' (first | refine And.intro ?_ ?_ | exact trivial | exact rfl))))
          all_goals first | exact Nat.le_refl _ | omega
      · have hne : ¬ a = b := fun e => he (by rw [e])
        repeat' (first | refine And.intro (by first | omega | (dsimp only; omega) | (show (_ : Bool) = true; kernel_rfl) | (simp; done) | decide | (repeat' (first | refine And.intro ?_ ?_ | exact trivial | exact rfl | (simp; done)))) ?_ | refine bcs_dec (fun h => ?_) (fun h => False.elim (by first | omega | exact h rfl)) | refine bcs_dec (fun h => False.elim (by omega)) (fun h => ?_) | refine bcs_dec (fun h => ?_) (fun h => ?_) | refine bcs_ndec (fun h => ?_) (fun h => ?_) | refine bcs_not ?_ | refine And.intro ?_ ?_ | refine reg_tail (by kernel_rfl) ?_)
        refine bcs_f (by rw [bs_eq]; simpa using he) ?_
        repeat' (first | refine And.intro (by first | omega | (dsimp only; omega) | (show (_ : Bool) = true; kernel_rfl) | (simp; done) | decide | (repeat' (first | refine And.intro ?_ ?_ | exact trivial | exact rfl | (simp; done)))) ?_ | refine bcs_dec (fun h => ?_) (fun h => False.elim (by first | omega | exact h rfl)) | refine bcs_dec (fun h => False.elim (by omega)) (fun h => ?_) | refine bcs_dec (fun h => ?_) (fun h => ?_) | refine bcs_ndec (fun h => ?_) (fun h => ?_) | refine bcs_not ?_ | refine And.intro ?_ ?_ | refine reg_tail (by kernel_rfl) ?_)
        rw [decide_eq_false hne]
        refine ret_plain ?_
        exact rfl
    · have heq : a = b := by
        refine List.ext_getElem hl fun j hj hk => ?_
        have := h2 j (by omega)
        simpa [List.getD_eq_getElem?_getD, hj, hk] using this
      repeat' (first | refine And.intro (by first | omega | (dsimp only; omega) | (show (_ : Bool) = true; kernel_rfl) | decide | (repeat' (first | refine And.intro ?_ ?_ | exact trivial | exact rfl))) ?_ | refine bcs_dec (fun h => ?_) (fun h => False.elim (by first | omega | exact h rfl)) | refine bcs_dec (fun h => False.elim (by omega)) (fun h => ?_) | refine bcs_dec (fun h => ?_) (fun h => ?_) | refine bcs_ndec (fun h => ?_) (fun h => ?_) | refine bcs_not ?_ | refine bcs_intro (fun h => ?_) (fun h => ?_) | refine And.intro ?_ ?_ | refine reg_tail (by kernel_rfl) ?_)
      rw [decide_eq_true heq]
      refine ret_plain ?_
      exact rfl
  · have hne : ¬ a = b := fun e => hl (by rw [e])
    repeat' (first | refine And.intro (by first | omega | (dsimp only; omega) | (show (_ : Bool) = true; kernel_rfl) | decide | (repeat' (first | refine And.intro ?_ ?_ | exact trivial | exact rfl))) ?_ | refine bcs_dec (fun h => ?_) (fun h => False.elim (by first | omega | exact h rfl)) | refine bcs_dec (fun h => False.elim (by omega)) (fun h => ?_) | refine bcs_dec (fun h => ?_) (fun h => ?_) | refine bcs_ndec (fun h => ?_) (fun h => ?_) | refine bcs_not ?_ | refine bcs_intro (fun h => ?_) (fun h => ?_) | refine And.intro ?_ ?_ | refine reg_tail (by kernel_rfl) ?_)
    · rw [decide_eq_false hne]
      refine ret_plain ?_
      exact rfl
    · omega
end Go.Proofs.YtlmjkphiicmclaaDoor

namespace Go.Proofs.YtlmjkphiicmclaaDoor
open Go Go.RowKit Vc

theorem drop_hd (P : List Chg) (i : Nat) (t : Int) : hd (P.drop i) t = decide (i < P.length ∧ (P.getD i Chg.d).A ≤ t) := by
  by_cases h : i < P.length
  · rw [drop_get Chg.d P i h]
    simp [hd, h]
  · rw [List.drop_of_length_le (by omega)]
    simp [hd, h]
set_option maxRecDepth 100000 in
set_option maxHeartbeats 4000000 in
theorem meets_con (P : List Chg) (i : Nat) (m f t : Int) (hi : i ≤ P.length) (hf : i < P.length → f ≤ (P.getD i Chg.d).A ∧ 0 ≤ (P.getD i Chg.d).N ∧ (P.getD i Chg.d).A + (P.getD i Chg.d).N ≤ 4194304 ∧ 0 ≤ (P.getD i Chg.d).A) :
    Con Tryd.prog glob 51 [.p 0 0 0, .v (.int .i64 f), .v (.int .i64 t)] [(0, sdB i (P.length - i) m), (1, chRo P)] 2 (retM (.v (.bool (hd (P.drop i) t))) [(0, sdB i (P.length - i) m)] 2) := by
  rw [drop_hd]
  by_cases hl : i < P.length
  · have hf := hf hl
    have hf2 : f ≤ (P.getD (i + Int.toNat 0) Chg.d).A ∧ 0 ≤ (P.getD (i + Int.toNat 0) Chg.d).N ∧ (P.getD (i + Int.toNat 0) Chg.d).A + (P.getD (i + Int.toNat 0) Chg.d).N ≤ 4194304 ∧ 0 ≤ (P.getD (i + Int.toNat 0) Chg.d).A := hf
    by_cases ht : (P.getD i Chg.d).A ≤ t
    · rw [decide_eq_true (show i < P.length ∧ (P.getD i Chg.d).A ≤ t from ⟨hl, ht⟩)]
      have ht2 : (P.getD (i + Int.toNat 0) Chg.d).A ≤ t := ht
      refine spec_intro (tab := tab) (N := 43) Tryd.func51 rfl rfl tab_ok mix rfl rfl _ rfl ?_
      intro B hG
      repeat' (first | refine And.intro (by first | omega | (dsimp only; omega) | (show (_ : Bool) = true; kernel_rfl) | decide | (repeat' (first | refine And.intro ?_ ?_ | exact trivial | exact rfl))) ?_ | refine bcs_dec (fun h => ?_) (fun h => False.elim (by first | omega | exact h rfl)) | refine bcs_dec (fun h => False.elim (by omega)) (fun h => ?_) | refine bcs_dec (fun h => ?_) (fun h => ?_) | refine bcs_ndec (fun h => ?_) (fun h => ?_) | refine bcs_not ?_ | refine bcs_intro (fun h => ?_) (fun h => ?_) | refine And.intro ?_ ?_ | refine reg_tail (by kernel_rfl) ?_)
      all_goals first
        | omega
        | (refine ret_mem [] rfl rfl ?_ ?_
           · first | exact rfl | (refine veq_of_eq (congrArg Value.bool ?_); symm; exact decide_eq_true (by omega))
           · repeat' (first | refine And.intro ?_ ?_ | exact trivial)
             all_goals first | exact rfl | exact veq_refl _ | omega)
    · rw [decide_eq_false (show ¬ (i < P.length ∧ (P.getD i Chg.d).A ≤ t) from fun h => ht h.2)]
      have ht2 : ¬ (P.getD (i + Int.toNat 0) Chg.d).A ≤ t := ht
      refine spec_intro (tab := tab) (N := 43) Tryd.func51 rfl rfl tab_ok mix rfl rfl _ rfl ?_
      intro B hG
      repeat' (first | refine And.intro (by first | omega | (dsimp only; omega) | (show (_ : Bool) = true; kernel_rfl) | decide | (repeat' (first | refine And.intro ?_ ?_ | exact trivial | exact rfl))) ?_ | refine bcs_dec (fun h => ?_) (fun h => False.elim (by first | omega | exact h rfl)) | refine bcs_dec (fun h => False.elim (by omega)) (fun h => ?_) | refine bcs_dec (fun h => ?_) (fun h => ?_) | refine bcs_ndec (fun h => ?_) (fun h => ?_) | refine bcs_not ?_ | refine bcs_intro (fun h => ?_) (fun h => ?_) | refine And.intro ?_ ?_ | refine reg_tail (by kernel_rfl) ?_)
      all_goals first
        | omega
        | (refine ret_mem [] rfl rfl ?_ ?_
           · exact rfl
           · repeat' (first | refine And.intro ?_ ?_ | exact trivial)
             all_goals first | exact rfl | exact veq_refl _ | omega)
  · rw [decide_eq_false (show ¬ (i < P.length ∧ (P.getD i Chg.d).A ≤ t) from fun h => hl h.1)]
    refine spec_intro (tab := tab) (N := 43) Tryd.func51 rfl rfl tab_ok mix rfl rfl _ rfl ?_
    intro B hG
    repeat' (first | refine And.intro (by first | omega | (dsimp only; omega) | (show (_ : Bool) = true; kernel_rfl) | decide | (repeat' (first | refine And.intro ?_ ?_ | exact trivial | exact rfl))) ?_ | refine bcs_dec (fun h => ?_) (fun h => False.elim (by first | omega | exact h rfl)) | refine bcs_dec (fun h => False.elim (by omega)) (fun h => ?_) | refine bcs_dec (fun h => ?_) (fun h => ?_) | refine bcs_ndec (fun h => ?_) (fun h => ?_) | refine bcs_not ?_ | refine bcs_intro (fun h => ?_) (fun h => ?_) | refine And.intro ?_ ?_ | refine reg_tail (by kernel_rfl) ?_)
    refine ret_mem [] rfl rfl ?_ ?_
    · exact rfl
    · repeat' (first | refine And.intro ?_ ?_ | exact trivial)
      all_goals first | exact rfl | exact veq_refl _ | omega
set_option maxRecDepth 100000 in
set_option maxHeartbeats 4000000 in
theorem take_con (P : List Chg) (i : Nat) (m : Int) (hi : i < P.length) (hA : 0 ≤ (P.getD i Chg.d).A ∧ 0 ≤ (P.getD i Chg.d).N ∧ 0 ≤ (P.getD i Chg.d).M ∧ (P.getD i Chg.d).A + (P.getD i Chg.d).N ≤ 4194304 ∧ (P.getD i Chg.d).M ≤ 4194304) (hm : -1000000000000 ≤ m ∧ m ≤ 1000000000000) :
    Con Tryd.prog glob 52 [.p 0 0 0] [(0, sdB i (P.length - i) m), (1, chRo P)] 2
      (retM (.v (.int .i64 ((P.getD i Chg.d).A + (P.getD i Chg.d).N))) [(0, sdB (i + 1) (P.length - (i + 1)) (m + ((P.getD i Chg.d).M - (P.getD i Chg.d).N)))] 2) := by
  have hA2 : 0 ≤ (P.getD (i + Int.toNat 0) Chg.d).A ∧ 0 ≤ (P.getD (i + Int.toNat 0) Chg.d).N ∧ 0 ≤ (P.getD (i + Int.toNat 0) Chg.d).M ∧ (P.getD (i + Int.toNat 0) Chg.d).A + (P.getD (i + Int.toNat 0) Chg.d).N ≤ 4194304 ∧ (P.getD (i + Int.toNat 0) Chg.d).M ≤ 4194304 := hA
  refine spec_intro (tab := tab) (N := 35) Tryd.func52 rfl rfl tab_ok mix rfl rfl _ rfl ?_
  intro B hG
  repeat' (first | refine And.intro (by first | omega | (dsimp only; omega) | (show (_ : Bool) = true; kernel_rfl) | decide | (repeat' (first | refine And.intro ?_ ?_ | exact trivial | exact rfl))) ?_ | refine bcs_dec (fun h => ?_) (fun h => False.elim (by first | omega | exact h rfl)) | refine bcs_dec (fun h => False.elim (by omega)) (fun h => ?_) | refine bcs_dec (fun h => ?_) (fun h => ?_) | refine bcs_ndec (fun h => ?_) (fun h => ?_) | refine bcs_not ?_ | refine bcs_intro (fun h => ?_) (fun h => ?_) | refine And.intro ?_ ?_ | refine reg_tail (by kernel_rfl) ?_)
  refine ret_mem [] rfl rfl ?_ ?_
  · exact rfl
  · repeat' (first | refine And.intro ?_ ?_ | exact trivial)
    all_goals first | exact rfl | exact veq_refl _ | omega | skip
end Go.Proofs.YtlmjkphiicmclaaDoor

namespace Go.Proofs.YtlmjkphiicmclaaDoor
open Go Go.RowKit Vc

/-- Is a pair of places one of the same lines? -/
def sameP (a b : List Byt) (p : Int × Int) : Prop := a.getD (0 + p.1.toNat) [] = b.getD (0 + p.2.toNat) []
instance (a b : List Byt) (p : Int × Int) : Decidable (sameP a b p) := by unfold sameP; infer_instance
def idxF (a b : List Byt) : List (Int × Int) → Nat → Int
  | [], _ => -1
  | p :: r, k => if sameP a b p then idxF a b r (k + 1) else (k : Int)
def inP (a b : List Byt) (p : Int × Int) : Prop := 0 ≤ p.1 ∧ p.1 < a.length ∧ 0 ≤ p.2 ∧ p.2 < b.length
def staysF (a b : List Byt) (l : List (Int × Int)) : Bool := decide (∀ p ∈ l, sameP a b p)
theorem idx_stays (a b : List Byt) : ∀ (l : List (Int × Int)) (k : Nat), decide (idxF a b l k ≥ 0) = !staysF a b l
  | [], k => rfl
  | p :: r, k => by
    unfold idxF staysF
    by_cases h : sameP a b p
    · rw [if_pos h, idx_stays a b r (k + 1)]
      unfold staysF
      simp [h]
    · rw [if_neg h]
      simp [h]
set_option maxRecDepth 100000 in
set_option maxHeartbeats 4000000 in
theorem pair_con (a b : List Byt) (p : Int × Int) (hp : inP a b p) :
    Con Tryd.prog glob 70 [.a [.v (.int .i64 p.1), .v (.int .i64 p.2)], .p 0 0 0, .p 1 0 0] [(0, .box 23 [.s 2 0 a.length]), (1, .box 23 [.s 3 0 b.length]), (2, stRo a), (3, stRo b)] 4 (retM (.v (.bool (!decide (sameP a b p)))) [(0, .box 23 [.s 2 0 a.length]), (1, .box 23 [.s 3 0 b.length])] 4) := by
  obtain ⟨h1, h2, h3, h4⟩ := hp
  refine spec_intro (tab := tab) (N := 16) Tryd.func70 rfl rfl tab_ok mix rfl rfl _ rfl ?_
  intro B hG
  repeat' (first | refine And.intro (by first | omega | (dsimp only; omega) | (show (_ : Bool) = true; kernel_rfl) | (simp; done) | decide | (repeat' (first | refine And.intro ?_ ?_ | exact trivial | exact rfl | (simp; done)))) ?_ | refine bcs_dec (fun h => ?_) (fun h => False.elim (by first | omega | exact h rfl)) | refine bcs_dec (fun h => False.elim (by omega)) (fun h => ?_) | refine bcs_dec (fun h => ?_) (fun h => ?_) | refine bcs_ndec (fun h => ?_) (fun h => ?_) | refine bcs_not ?_ | refine And.intro ?_ ?_ | refine reg_tail (by kernel_rfl) ?_)
  refine ret_mem [] rfl rfl ?_ ?_
  · refine veq_of_eq (congrArg Value.bool ?_)
    rw [bs_eq]
    rfl
  · repeat' (first | refine And.intro ?_ ?_ | exact trivial)
    all_goals first | exact rfl | exact veq_refl _ | omega
set_option maxRecDepth 100000 in
set_option maxHeartbeats 4000000 in
theorem index_con (a b : List Byt) (l : List (Int × Int)) (hl : l.length ≤ 4194304) (hp : ∀ p ∈ l, inP a b p) :
    Con Tryd.prog glob 83 [.s 0 0 l.length, .f 70 [.p 1 0 0, .p 2 0 0]] [(0, prRo l), (1, .box 23 [.s 3 0 a.length]), (2, .box 23 [.s 4 0 b.length]), (3, stRo a), (4, stRo b)] 5
      (retM (.v (.int .i64 (idxF a b l 0))) [(1, .box 23 [.s 3 0 a.length]), (2, .box 23 [.s 4 0 b.length])] 5) := by
  obtain ⟨T, hT⟩ : ∃ T, T = idxF a b l 0 := ⟨_, rfl⟩
  rw [← hT]
  refine spec_intro (tab := tab) (N := 19) Tryd.func83 rfl rfl tab_ok mix rfl rfl _ rfl ?_
  intro B hG
  repeat' (first | refine And.intro (by first | omega | (dsimp only; omega) | (show (_ : Bool) = true; kernel_rfl) | decide | (repeat' (first | refine And.intro ?_ ?_ | exact trivial | exact rfl))) ?_ | refine bcs_dec (fun h => ?_) (fun h => False.elim (by first | omega | exact h rfl)) | refine bcs_dec (fun h => False.elim (by omega)) (fun h => ?_) | refine bcs_dec (fun h => ?_) (fun h => ?_) | refine bcs_ndec (fun h => ?_) (fun h => ?_) | refine bcs_not ?_ | refine bcs_intro (fun h => ?_) (fun h => ?_) | refine And.intro ?_ ?_ | refine reg_tail (by kernel_rfl) ?_)
  refine loop_rule (α := Nat) (fun i => ⟨[(0, .s 0 0 l.length), (1, .f 70 [.p 1 0 0, .p 2 0 0]), (7, .v (.int .i64 l.length)), (8, .v (.int .i64 i))], [(0, prRo l), (1, .box 23 [.s 3 0 a.length]), (2, .box 23 [.s 4 0 b.length]), (3, stRo a), (4, stRo b)], 5⟩)
    (fun i => i ≤ l.length ∧ idxF a b (l.drop i) i = T) (fun i => l.length - i) 0 [] ?_ ?_ ?_
  · exact ⟨Nat.zero_le _, hT.symm⟩
  · (refine ⟨rfl, rfl, ?_, ?_⟩ <;> repeat' (first | refine And.intro ?_ ?_ | exact trivial | exact rfl | refine lt0 | refine lt1 ?_ | refine lt2 ?_ ?_ | refine lt3 ?_ ?_ ?_ | refine lt4 ?_ ?_ ?_ ?_ | exact veq_refl _ | decide | (intro i hi; repeat' (first | refine And.intro ?_ ?_ | exact trivial | exact rfl))))
    all_goals first | exact Nat.le_refl _ | omega
  rintro i ⟨h1, h2⟩
  by_cases hi : i < l.length
  · rw [drop_get (0, 0) l i hi] at h2
    simp only [idxF] at h2
    have eC : l.getD i (0, 0) = l.getD (0 + (i : Int).toNat) (0, 0) := by rw [Nat.zero_add]; rfl
    rw [eC] at h2
    have hm : l.getD (0 + (i : Int).toNat) (0, 0) ∈ l := by
      rw [Nat.zero_add, Int.toNat_natCast, List.getD_eq_getElem?_getD, List.getElem?_eq_getElem hi]
      exact List.getElem_mem hi
    have cP := pair_con a b _ (hp _ hm)
    by_cases hs : sameP a b (l.getD (0 + (i : Int).toNat) (0, 0))
    · rw [if_pos hs] at h2
      rw [decide_eq_true hs] at cP
      repeat' (first | refine And.intro (by first | omega | (dsimp only; omega) | (show (_ : Bool) = true; kernel_rfl) | decide | (repeat' (first | refine And.intro ?_ ?_ | exact trivial | exact rfl))) ?_ | refine bcs_dec (fun h => ?_) (fun h => False.elim (by first | omega | exact h rfl)) | refine bcs_dec (fun h => False.elim (by omega)) (fun h => ?_) | refine bcs_dec (fun h => ?_) (fun h => ?_) | refine bcs_ndec (fun h => ?_) (fun h => ?_) | refine bcs_not ?_ | refine bcs_intro (fun h => ?_) (fun h => ?_) | refine And.intro ?_ ?_ | refine reg_tail (by kernel_rfl) ?_)
      refine call_rule [.at 1 0, .at 2 0, .at 3 0, .at 4 0] (cP) hG ?_ ?_
      · (refine ⟨?_, ?_, rfl, rfl, rfl⟩ <;> repeat' (first | refine And.intro ?_ ?_ | exact trivial | exact rfl | refine lt0 | refine lt1 ?_ | refine lt2 ?_ ?_ | refine lt3 ?_ ?_ ?_ | refine lt4 ?_ ?_ ?_ ?_ | exact veq_refl _ | decide | (intro i hi; repeat' (first | refine And.intro ?_ ?_ | exact trivial | exact rfl))))
        all_goals first | exact Nat.le_refl _ | omega
      rintro _ _ _ ⟨rfl, rfl, rfl⟩
      repeat' (first | refine And.intro (by first | omega | (dsimp only; omega) | (show (_ : Bool) = true; kernel_rfl) | decide | (repeat' (first | refine And.intro ?_ ?_ | exact trivial | exact rfl))) ?_ | refine bcs_dec (fun h => ?_) (fun h => False.elim (by first | omega | exact h rfl)) | refine bcs_dec (fun h => False.elim (by omega)) (fun h => ?_) | refine bcs_dec (fun h => ?_) (fun h => ?_) | refine bcs_ndec (fun h => ?_) (fun h => ?_) | refine bcs_not ?_ | refine bcs_intro (fun h => ?_) (fun h => ?_) | refine And.intro ?_ ?_ | refine reg_tail (by kernel_rfl) ?_)
      refine ⟨i + 1, [], ?_, ?_, ?_⟩
      · exact ⟨hi, h2⟩
      · show l.length - (i + 1) < l.length - i
        omega
      · (refine ⟨rfl, rfl, ?_, ?_⟩ <;> repeat' (first | refine And.intro ?_ ?_ | exact trivial | exact rfl | refine lt0 | refine lt1 ?_ | refine lt2 ?_ ?_ | refine lt3 ?_ ?_ ?_ | refine lt4 ?_ ?_ ?_ ?_ | exact veq_refl _ | decide | (intro i hi; repeat' (first | refine And.intro ?_ ?_ | exact trivial | exact rfl))))
        all_goals first | exact Nat.le_refl _ | omega
    · rw [if_neg hs] at h2
      rw [decide_eq_false hs] at cP
      repeat' (first | refine And.intro (by first | omega | (dsimp only; omega) | (show (_ : Bool) = true; kernel_rfl) | decide | (repeat' (first | refine And.intro ?_ ?_ | exact trivial | exact rfl))) ?_ | refine bcs_dec (fun h => ?_) (fun h => False.elim (by first | omega | exact h rfl)) | refine bcs_dec (fun h => False.elim (by omega)) (fun h => ?_) | refine bcs_dec (fun h => ?_) (fun h => ?_) | refine bcs_ndec (fun h => ?_) (fun h => ?_) | refine bcs_not ?_ | refine bcs_intro (fun h => ?_) (fun h => ?_) | refine And.intro ?_ ?_ | refine reg_tail (by kernel_rfl) ?_)
      refine call_rule [.at 1 0, .at 2 0, .at 3 0, .at 4 0] (cP) hG ?_ ?_
      · (refine ⟨?_, ?_, rfl, rfl, rfl⟩ <;> repeat' (first | refine And.intro ?_ ?_ | exact trivial | exact rfl | refine lt0 | refine lt1 ?_ | refine lt2 ?_ ?_ | refine lt3 ?_ ?_ ?_ | refine lt4 ?_ ?_ ?_ ?_ | exact veq_refl _ | decide | (intro i hi; repeat' (first | refine And.intro ?_ ?_ | exact trivial | exact rfl))))
        all_goals first | exact Nat.le_refl _ | omega
      rintro _ _ _ ⟨rfl, rfl, rfl⟩
      repeat' (first | refine And.intro (by first | omega | (dsimp only; omega) | (show (_ : Bool) = true; kernel_rfl) | decide | (repeat' (first | refine And.intro ?_ ?_ | exact trivial | exact rfl))) ?_ | refine bcs_dec (fun h => ?_) (fun h => False.elim (by first | omega | exact h rfl)) | refine bcs_dec (fun h => False.elim (by omega)) (fun h => ?_) | refine bcs_dec (fun h => ?_) (fun h => ?_) | refine bcs_ndec (fun h => ?_) (fun h => ?_) | refine bcs_not ?_ | refine bcs_intro (fun h => ?_) (fun h => ?_) | refine And.intro ?_ ?_ | refine reg_tail (by kernel_rfl) ?_)
      rw [← h2]
      refine ret_mem [] rfl rfl ?_ ?_
      · exact rfl
      · repeat' (first | refine And.intro ?_ ?_ | exact trivial)
        all_goals first | exact rfl | exact veq_refl _ | omega
  · rw [List.drop_of_length_le (by omega)] at h2
    simp only [idxF] at h2
    subst h2
    repeat' (first | refine And.intro (by first | omega | (dsimp only; omega) | (show (_ : Bool) = true; kernel_rfl) | decide | (repeat' (first | refine And.intro ?_ ?_ | exact trivial | exact rfl))) ?_ | refine bcs_dec (fun h => ?_) (fun h => False.elim (by first | omega | exact h rfl)) | refine bcs_dec (fun h => False.elim (by omega)) (fun h => ?_) | refine bcs_dec (fun h => ?_) (fun h => ?_) | refine bcs_ndec (fun h => ?_) (fun h => ?_) | refine bcs_not ?_ | refine bcs_intro (fun h => ?_) (fun h => ?_) | refine And.intro ?_ ?_ | refine reg_tail (by kernel_rfl) ?_)
    refine ret_mem [] rfl rfl ?_ ?_
    · exact rfl
    · repeat' (first | refine And.intro ?_ ?_ | exact trivial)
      all_goals first | exact rfl | exact veq_refl _ | omega
end Go.Proofs.YtlmjkphiicmclaaDoor

namespace Go.Proofs.YtlmjkphiicmclaaDoor
open Go Go.RowKit Vc

theorem diag_in : ∀ (c : Nat) (a b : Int), ∀ p ∈ diag a b c, a ≤ p.1 ∧ p.1 < a + c ∧ b ≤ p.2 ∧ p.2 < b + c
  | 0, _, _ => by intro p hp; cases hp
  | c + 1, a, b => by
    intro p hp
    rw [diag] at hp
    rcases List.mem_cons.1 hp with rfl | hp
    · exact ⟨Int.le_refl _, by show a < a + ((c + 1 : Nat) : Int); omega, Int.le_refl _, by show b < b + ((c + 1 : Nat) : Int); omega⟩
    · have := diag_in c (a + 1) (b + 1) p hp
      omega
theorem pairs_in {n m : Int} : ∀ (s : List Chg) (a b : Int), validF s a b n m = 0 → ∀ p ∈ pairsF s a b n, a ≤ p.1 ∧ p.1 < n ∧ b ≤ p.2 ∧ p.2 < m
  | [], a, b, hv => by
    intro p hp
    have h1 := valid_nil hv
    have := diag_in _ _ _ p hp
    omega
  | c :: r, a, b, hv => by
    intro p hp
    obtain ⟨k1, k2⟩ := valid_cons hv
    unfold bad at k1
    simp only [pairsF] at hp
    rcases List.mem_append.1 hp with hp | hp
    · have := diag_in _ _ _ p hp
      omega
    · have := pairs_in r _ _ k2 p hp
      omega
set_option maxRecDepth 100000 in
set_option maxHeartbeats 4000000 in
theorem contains_con (a b : List Byt) (l : List (Int × Int)) (hl : l.length ≤ 4194304) (hp : ∀ p ∈ l, inP a b p) :
    Con Tryd.prog glob 69 [.s 0 0 l.length, .f 70 [.p 1 0 0, .p 2 0 0]] [(0, prRo l), (1, .box 23 [.s 3 0 a.length]), (2, .box 23 [.s 4 0 b.length]), (3, stRo a), (4, stRo b)] 5
      (retM (.v (.bool (!staysF a b l))) [(1, .box 23 [.s 3 0 a.length]), (2, .box 23 [.s 4 0 b.length])] 5) := by
  rw [← idx_stays a b l 0]
  refine spec_intro (tab := tab) (N := 9) Tryd.func69 rfl rfl tab_ok mix rfl rfl _ rfl ?_
  intro B hG
  repeat' (first | refine And.intro (by first | omega | (dsimp only; omega) | (show (_ : Bool) = true; kernel_rfl) | decide | (repeat' (first | refine And.intro ?_ ?_ | exact trivial | exact rfl))) ?_ | refine bcs_dec (fun h => ?_) (fun h => False.elim (by first | omega | exact h rfl)) | refine bcs_dec (fun h => False.elim (by omega)) (fun h => ?_) | refine bcs_dec (fun h => ?_) (fun h => ?_) | refine bcs_ndec (fun h => ?_) (fun h => ?_) | refine bcs_not ?_ | refine bcs_intro (fun h => ?_) (fun h => ?_) | refine And.intro ?_ ?_ | refine reg_tail (by kernel_rfl) ?_)
  refine call_rule [.at 0 0, .at 1 0, .at 2 0, .at 3 0, .at 4 0] (index_con a b l hl hp) hG ?_ ?_
  · (refine ⟨?_, ?_, rfl, rfl, rfl⟩ <;> repeat' (first | refine And.intro ?_ ?_ | exact trivial | exact rfl | refine lt0 | refine lt1 ?_ | refine lt2 ?_ ?_ | refine lt3 ?_ ?_ ?_ | refine lt4 ?_ ?_ ?_ ?_ | exact veq_refl _ | decide | (intro i hi; repeat' (first | refine And.intro ?_ ?_ | exact trivial | exact rfl))))
    all_goals first | exact Nat.le_refl _ | omega
  rintro _ _ _ ⟨rfl, rfl, rfl⟩
  repeat' (first | refine And.intro (by first | omega | (dsimp only; omega) | (show (_ : Bool) = true; kernel_rfl) | (simp; done) | decide | (repeat' (first | refine And.intro ?_ ?_ | exact trivial | exact rfl | (simp; done)))) ?_ | refine bcs_dec (fun h => ?_) (fun h => False.elim (by first | omega | exact h rfl)) | refine bcs_dec (fun h => False.elim (by omega)) (fun h => ?_) | refine bcs_dec (fun h => ?_) (fun h => ?_) | refine bcs_ndec (fun h => ?_) (fun h => ?_) | refine bcs_not ?_ | refine And.intro ?_ ?_ | refine reg_tail (by kernel_rfl) ?_)
  refine ret_mem [] rfl rfl ?_ ?_
  · exact rfl
  · repeat' (first | refine And.intro ?_ ?_ | exact trivial)
    all_goals first | exact rfl | exact veq_refl _ | omega
set_option maxRecDepth 100000 in
set_option maxHeartbeats 4000000 in
theorem stays_con (P : List Chg) (a b : List Byt) (hP : P.length ≤ 9223372036854775807 - 1) (hv : validE P a.length b.length = 0) :
    Con Tryd.prog glob 48 [.s 0 0 P.length, .s 1 0 a.length, .s 2 0 b.length] [(0, chRo P), (1, stRo a), (2, stRo b)] 3 (retV 3 (.v (.bool (staysF a b (pairsF P 0 0 a.length))))) := by
  obtain ⟨r1, r2, r3, r4, r5⟩ := valid_range hv
  have hin := pairs_in P 0 0 r5
  have hpl := pairsF_len P 0 0 a.length b.length r5 (by omega) (by omega)
  have cP := pairs_ok (n := a.length) (m := b.length) hP hv
  obtain ⟨l, hl⟩ : ∃ l, l = pairsF P 0 0 (a.length : Int) := ⟨_, rfl⟩
  rw [← hl] at hin hpl cP ⊢
  have cC := contains_con a b l (by omega) fun p hp => by
    have := hin p hp
    exact ⟨by omega, by omega, by omega, by omega⟩
  refine spec_intro (tab := tab) (N := 22) Tryd.func48 rfl rfl tab_ok mix rfl rfl _ rfl ?_
  intro B hG
  repeat' (first | refine And.intro (by first | omega | (dsimp only; omega) | (show (_ : Bool) = true; kernel_rfl) | decide | (repeat' (first | refine And.intro ?_ ?_ | exact trivial | exact rfl))) ?_ | refine bcs_dec (fun h => ?_) (fun h => False.elim (by first | omega | exact h rfl)) | refine bcs_dec (fun h => False.elim (by omega)) (fun h => ?_) | refine bcs_dec (fun h => ?_) (fun h => ?_) | refine bcs_ndec (fun h => ?_) (fun h => ?_) | refine bcs_not ?_ | refine bcs_intro (fun h => ?_) (fun h => ?_) | refine And.intro ?_ ?_ | refine reg_tail (by kernel_rfl) ?_)
  refine call_rule [.at 0 0] (cP) hG ?_ ?_
  · (refine ⟨?_, ?_, rfl, rfl, rfl⟩ <;> repeat' (first | refine And.intro ?_ ?_ | exact trivial | exact rfl | refine lt0 | refine lt1 ?_ | refine lt2 ?_ ?_ | refine lt3 ?_ ?_ ?_ | refine lt4 ?_ ?_ ?_ ?_ | exact veq_refl _ | decide | (intro i hi; repeat' (first | refine And.intro ?_ ?_ | exact trivial | exact rfl))))
    all_goals first | exact Nat.le_refl _ | omega
  rintro _ _ _ ⟨rfl, rfl, rfl⟩
  repeat' (first | refine And.intro (by first | omega | (dsimp only; omega) | (show (_ : Bool) = true; kernel_rfl) | decide | (repeat' (first | refine And.intro ?_ ?_ | exact trivial | exact rfl))) ?_ | refine bcs_dec (fun h => ?_) (fun h => False.elim (by first | omega | exact h rfl)) | refine bcs_dec (fun h => False.elim (by omega)) (fun h => ?_) | refine bcs_dec (fun h => ?_) (fun h => ?_) | refine bcs_ndec (fun h => ?_) (fun h => ?_) | refine bcs_not ?_ | refine bcs_intro (fun h => ?_) (fun h => ?_) | refine And.intro ?_ ?_ | refine reg_tail (by kernel_rfl) ?_)
  refine call_rule [.at 5 0, .at 3 0, .at 4 0, .at 1 0, .at 2 0] (cC) hG ?_ ?_
  · (refine ⟨?_, ?_, rfl, rfl, rfl⟩ <;> repeat' (first | refine And.intro ?_ ?_ | exact trivial | exact rfl | refine lt0 | refine lt1 ?_ | refine lt2 ?_ ?_ | refine lt3 ?_ ?_ ?_ | refine lt4 ?_ ?_ ?_ ?_ | exact veq_refl _ | decide | (intro i hi; repeat' (first | refine And.intro ?_ ?_ | exact trivial | exact rfl))))
    all_goals first | exact Nat.le_refl _ | omega
  rintro _ _ _ ⟨rfl, rfl, rfl⟩
  repeat' (first | refine And.intro (by first | omega | (dsimp only; omega) | (show (_ : Bool) = true; kernel_rfl) | (simp; done) | decide | (repeat' (first | refine And.intro ?_ ?_ | exact trivial | exact rfl | (simp; done)))) ?_ | refine bcs_dec (fun h => ?_) (fun h => False.elim (by first | omega | exact h rfl)) | refine bcs_dec (fun h => False.elim (by omega)) (fun h => ?_) | refine bcs_dec (fun h => ?_) (fun h => ?_) | refine bcs_ndec (fun h => ?_) (fun h => ?_) | refine bcs_not ?_ | refine And.intro ?_ ?_ | refine reg_tail (by kernel_rfl) ?_)
  refine ret_plain ?_
  exact veq_of_eq (congrArg Value.bool (Bool.not_not _).symm)
set_option maxRecDepth 100000 in
set_option maxHeartbeats 4000000 in
theorem rSame_con (a b : List Byt) (ha : a.length ≤ 4194304) : Con Tryd.prog glob 32 [.s 0 0 a.length, .s 1 0 b.length] [(0, stRo a), (1, stRo b)] 2 (retV 2 (.v (.bool (decide (a = b))))) := by
  refine spec_intro (tab := tab) (N := 26) Tryd.func32 rfl rfl tab_ok mix rfl rfl _ rfl ?_
  intro B hG
  by_cases hl : a.length = b.length
  · repeat' (first | refine And.intro (by first | omega | (dsimp only; omega) | (show (_ : Bool) = true; kernel_rfl) | decide | (repeat' (first | refine And.intro ?_ ?_ | exact trivial | exact rfl))) ?_ | refine bcs_dec (fun h => ?_) (fun h => False.elim (by first | omega | exact h rfl)) | refine bcs_dec (fun h => False.elim (by omega)) (fun h => ?_) | refine bcs_dec (fun h => ?_) (fun h => ?_) | refine bcs_ndec (fun h => ?_) (fun h => ?_) | refine bcs_not ?_ | refine bcs_intro (fun h => ?_) (fun h => ?_) | refine And.intro ?_ ?_ | refine reg_tail (by kernel_rfl) ?_)
    · omega
    refine loop_rule (α := Nat) (fun i => ⟨[(0, .s 0 0 a.length), (1, .s 1 0 b.length), (5, .v (.int .i64 i))], [(0, stRo a), (1, stRo b)], 2⟩)
      (fun i => i ≤ a.length ∧ ∀ j, j < i → a.getD j [] = b.getD j []) (fun i => a.length - i) 0 [] ?_ ?_ ?_
    · exact ⟨Nat.zero_le _, fun j hj => absurd hj (by omega)⟩
    · (refine ⟨rfl, rfl, ?_, ?_⟩ <;> repeat' (first | refine And.intro ?_ ?_ | exact trivial | exact rfl | refine lt0 | refine lt1 ?_ | refine lt2 ?_ ?_ | refine lt3 ?_ ?_ ?_ | refine lt4 ?_ ?_ ?_ ?_ | exact veq_refl _ | decide | (intro i hi; repeat' (first | refine And.intro ?_ ?_ | exact trivial | exact rfl))))
      all_goals first | exact Nat.le_refl _ | omega
    rintro i ⟨h1, h2⟩
    by_cases hi : i < a.length
    · by_cases he : a.getD (0 + (i : Int).toNat) [] = b.getD (0 + (i : Int).toNat) []
      · repeat' (first | refine And.intro (by first | omega | (dsimp only; omega) | (show (_ : Bool) = true; kernel_rfl) | (simp; done) | decide | (repeat' (first | refine And.intro ?_ ?_ | exact trivial | exact rfl | (simp; done)))) ?_ | refine bcs_dec (fun h => ?_) (fun h => False.elim (by first | omega | exact h rfl)) | refine bcs_dec (fun h => False.elim (by omega)) (fun h => ?_) | refine bcs_dec (fun h => ?_) (fun h => ?_) | refine bcs_ndec (fun h => ?_) (fun h => ?_) | refine bcs_not ?_ | refine And.intro ?_ ?_ | refine reg_tail (by kernel_rfl) ?_)
        refine bcs_t (by rw [bs_eq]; simpa using he) ?_
        repeat' (first | refine And.intro (by first | omega | (dsimp only; omega) | (show (_ : Bool) = true; kernel_rfl) | (simp; done) | decide | (repeat' (first | refine And.intro ?_ ?_ | exact trivial | exact rfl | (simp; done)))) ?_ | refine bcs_dec (fun h => ?_) (fun h => False.elim (by first | omega | exact h rfl)) | refine bcs_dec (fun h => False.elim (by omega)) (fun h => ?_) | refine bcs_dec (fun h => ?_) (fun h => ?_) | refine bcs_ndec (fun h => ?_) (fun h => ?_) | refine bcs_not ?_ | refine And.intro ?_ ?_ | refine reg_tail (by kernel_rfl) ?_)
        refine ⟨i + 1, [], ?_, ?_, ?_⟩
        · refine ⟨hi, fun j hj => ?_⟩
          rcases Nat.lt_succ_iff_lt_or_eq.1 hj with hj | rfl
          · exact h2 j hj
          · rw [Nat.zero_add, Int.toNat_natCast] at he; exact he
        · show a.length - (i + 1) < a.length - i
          omega
        · (refine ⟨rfl, rfl, ?_, ?_⟩ <;> repeat' (first | refine And.intro ?_ ?_ | exact trivial | exact rfl | refine lt0 | refine lt1 ?_ | refine lt2 ?_ ?_ | refine lt3 ?_ ?_ ?_ | refine lt4 ?_ ?_ ?_ ?_ | exact veq_refl _ | decide | (intro i hi; repeat' (first | refine And.intro ?_ ?_ | exact trivial | exact rfl))))
          all_goals first | exact Nat.le_refl _ | omega
      · have hne : ¬ a = b := fun e => he (by rw [e])
        repeat' (first | refine And.intro (by first | omega | (dsimp only; omega) | (show (_ : Bool) = true; kernel_rfl) | (simp; done) | decide | (repeat' (first | refine And.intro ?_ ?_ | exact trivial | exact rfl | (simp; done)))) ?_ | refine bcs_dec (fun h => ?_) (fun h => False.elim (by first | omega | exact h rfl)) | refine bcs_dec (fun h => False.elim (by omega)) (fun h => ?_) | refine bcs_dec (fun h => ?_) (fun h => ?_) | refine bcs_ndec (fun h => ?_) (fun h => ?_) | refine bcs_not ?_ | refine And.intro ?_ ?_ | refine reg_tail (by kernel_rfl) ?_)
        refine bcs_f (by rw [bs_eq]; simpa using he) ?_
        repeat' (first | refine And.intro (by first | omega | (dsimp only; omega) | (show (_ : Bool) = true; kernel_rfl) | (simp; done) | decide | (repeat' (first | refine And.intro ?_ ?_ | exact trivial | exact rfl | (simp; done)))) ?_ | refine bcs_dec (fun h => ?_) (fun h => False.elim (by first | omega | exact h rfl)) | refine bcs_dec (fun h => False.elim (by omega)) (fun h => ?_) | refine bcs_dec (fun h => ?_) (fun h => ?_) | refine bcs_ndec (fun h => ?_) (fun h => ?_) | refine bcs_not ?_ | refine And.intro ?_ ?_ | refine reg_tail (by kernel_rfl) ?_)
        rw [decide_eq_false hne]
        refine ret_plain ?_
        exact rfl
    · have heq : a = b := by
        refine List.ext_getElem hl fun j hj hk => ?_
        have := h2 j (by omega)
        simpa [List.getD_eq_getElem?_getD, hj, hk] using this
      repeat' (first | refine And.intro (by first | omega | (dsimp only; omega) | (show (_ : Bool) = true; kernel_rfl) | decide | (repeat' (first | refine And.intro ?_ ?_ | exact trivial | exact rfl))) ?_ | refine bcs_dec (fun h => ?_) (fun h => False.elim (by first | omega | exact h rfl)) | refine bcs_dec (fun h => False.elim (by omega)) (fun h => ?_) | refine bcs_dec (fun h => ?_) (fun h => ?_) | refine bcs_ndec (fun h => ?_) (fun h => ?_) | refine bcs_not ?_ | refine bcs_intro (fun h => ?_) (fun h => ?_) | refine And.intro ?_ ?_ | refine reg_tail (by kernel_rfl) ?_)
      rw [decide_eq_true heq]
      refine ret_plain ?_
      exact rfl
  · have hne : ¬ a = b := fun e => hl (by rw [e])
    repeat' (first | refine And.intro (by first | omega | (dsimp only; omega) | (show (_ : Bool) = true; kernel_rfl) | decide | (repeat' (first | refine And.intro ?_ ?_ | exact trivial | exact rfl))) ?_ | refine bcs_dec (fun h => ?_) (fun h => False.elim (by first | omega | exact h rfl)) | refine bcs_dec (fun h => False.elim (by omega)) (fun h => ?_) | refine bcs_dec (fun h => ?_) (fun h => ?_) | refine bcs_ndec (fun h => ?_) (fun h => ?_) | refine bcs_not ?_ | refine bcs_intro (fun h => ?_) (fun h => ?_) | refine And.intro ?_ ?_ | refine reg_tail (by kernel_rfl) ?_)
    · rw [decide_eq_false hne]
      refine ret_plain ?_
      exact rfl
    · omega
/-- How much longer the text is behind so many changes. -/
def shiftF (P : List Chg) : Nat → Int
  | 0 => 0
  | k + 1 => shiftF P k + ((P.getD k Chg.d).M - (P.getD k Chg.d).N)
set_option maxRecDepth 100000 in
set_option maxHeartbeats 4000000 in
theorem shift_con (P : List Chg) (k : Nat) (hk : k ≤ P.length) (hP : P.length ≤ 4194304) (hr : ∀ c ∈ P, 0 ≤ c.N ∧ c.N ≤ 4194304 ∧ 0 ≤ c.M ∧ c.M ≤ 4194304) : Con Tryd.prog glob 31 [.s 0 0 P.length, .v (.int .i64 k)] [(0, chRo P)] 1 (retV 1 (.v (.int .i64 (shiftF P k)))) := by
  refine spec_intro (tab := tab) (N := 26) Tryd.func31 rfl rfl tab_ok mix rfl rfl _ rfl ?_
  intro B hG
  repeat' (first | refine And.intro (by first | omega | (dsimp only; omega) | (show (_ : Bool) = true; kernel_rfl) | decide | (repeat' (first | refine And.intro ?_ ?_ | exact trivial | exact rfl))) ?_ | refine bcs_dec (fun h => ?_) (fun h => False.elim (by first | omega | exact h rfl)) | refine bcs_dec (fun h => False.elim (by omega)) (fun h => ?_) | refine bcs_dec (fun h => ?_) (fun h => ?_) | refine bcs_ndec (fun h => ?_) (fun h => ?_) | refine bcs_not ?_ | refine bcs_intro (fun h => ?_) (fun h => ?_) | refine And.intro ?_ ?_ | refine reg_tail (by kernel_rfl) ?_)
  refine loop_rule (α := Nat) (fun i => ⟨[(0, .s 0 0 P.length), (1, .v (.int .i64 k)), (5, .v (.int .i64 (shiftF P i))), (6, .v (.int .i64 i))], [(0, chRo P)], 1⟩)
    (fun i => i ≤ k ∧ -4194304 * (i : Int) ≤ shiftF P i ∧ shiftF P i ≤ 4194304 * (i : Int)) (fun i => k - i) 0 [] ?_ ?_ ?_
  · exact ⟨Nat.zero_le _, by simp [shiftF], by simp [shiftF]⟩
  · (refine ⟨rfl, rfl, ?_, ?_⟩ <;> repeat' (first | refine And.intro ?_ ?_ | exact trivial | exact rfl | refine lt0 | refine lt1 ?_ | refine lt2 ?_ ?_ | refine lt3 ?_ ?_ ?_ | refine lt4 ?_ ?_ ?_ ?_ | exact veq_refl _ | decide | (intro i hi; repeat' (first | refine And.intro ?_ ?_ | exact trivial | exact rfl))))
    all_goals first | exact Nat.le_refl _ | omega
  rintro i ⟨h1, h2, h3⟩
  by_cases hi : i < k
  · have hm : P.getD (0 + (i : Int).toNat) Chg.d ∈ P := by
      rw [Nat.zero_add, Int.toNat_natCast, List.getD_eq_getElem?_getD, List.getElem?_eq_getElem (by omega)]
      exact List.getElem_mem _
    have hc := hr _ hm
    have es : shiftF P (i + 1) = shiftF P i + ((P.getD (0 + (i : Int).toNat) Chg.d).M - (P.getD (0 + (i : Int).toNat) Chg.d).N) := by rw [Nat.zero_add]; rfl
    repeat' (first | refine And.intro (by first | omega | (dsimp only; omega) | (show (_ : Bool) = true; kernel_rfl) | decide | (repeat' (first | refine And.intro ?_ ?_ | exact trivial | exact rfl))) ?_ | refine bcs_dec (fun h => ?_) (fun h => False.elim (by first | omega | exact h rfl)) | refine bcs_dec (fun h => False.elim (by omega)) (fun h => ?_) | refine bcs_dec (fun h => ?_) (fun h => ?_) | refine bcs_ndec (fun h => ?_) (fun h => ?_) | refine bcs_not ?_ | refine bcs_intro (fun h => ?_) (fun h => ?_) | refine And.intro ?_ ?_ | refine reg_tail (by kernel_rfl) ?_)
    refine ⟨i + 1, [], ?_, ?_, ?_⟩
    · exact ⟨hi, by omega, by omega⟩
    · show k - (i + 1) < k - i
      omega
    · (refine ⟨rfl, rfl, ?_, ?_⟩ <;> repeat' (first | refine And.intro ?_ ?_ | exact trivial | exact rfl | refine lt0 | refine lt1 ?_ | refine lt2 ?_ ?_ | refine lt3 ?_ ?_ ?_ | refine lt4 ?_ ?_ ?_ ?_ | exact veq_refl _ | decide | (intro i hi; repeat' (first | refine And.intro ?_ ?_ | exact trivial | exact rfl))))
      all_goals first | exact Nat.le_refl _ | omega | (refine veq_of_eq (congrArg (Value.int .i64) ?_); omega)
  · obtain rfl : i = k := by omega
    repeat' (first | refine And.intro (by first | omega | (dsimp only; omega) | (show (_ : Bool) = true; kernel_rfl) | decide | (repeat' (first | refine And.intro ?_ ?_ | exact trivial | exact rfl))) ?_ | refine bcs_dec (fun h => ?_) (fun h => False.elim (by first | omega | exact h rfl)) | refine bcs_dec (fun h => False.elim (by omega)) (fun h => ?_) | refine bcs_dec (fun h => ?_) (fun h => ?_) | refine bcs_ndec (fun h => ?_) (fun h => ?_) | refine bcs_not ?_ | refine bcs_intro (fun h => ?_) (fun h => ?_) | refine And.intro ?_ ?_ | refine reg_tail (by kernel_rfl) ?_)
    refine ret_plain ?_
    exact rfl
end Go.Proofs.YtlmjkphiicmclaaDoor

namespace Go.Proofs.YtlmjkphiicmclaaDoor
open Go Go.RowKit Vc

set_option maxRecDepth 100000 in
set_option maxHeartbeats 4000000 in
theorem rPairs_no {s : List Chg} {n m : Int} (hs : s.length ≤ 9223372036854775807 - 1) (hv : validE s n m ≠ 0) : Con Tryd.prog glob 25 [.s 0 0 s.length, .v (.int .i64 n), .v (.int .i64 m)] [(0, chRo s)] 1
    (retM (.t [.o 1, .v (.int .i64 (validE s n m))]) [(1, prOwn [])] 2) := by
  refine spec_intro (tab := tab) (N := 19) Tryd.func25 rfl rfl tab_ok mix rfl rfl _ rfl ?_
  intro B hG
  repeat' (first | refine And.intro (by first | omega | (dsimp only; omega) | (show (_ : Bool) = true; kernel_rfl) | decide | (repeat' (first | refine And.intro ?_ ?_ | exact trivial | exact rfl))) ?_ | refine bcs_dec (fun h => ?_) (fun h => ?_) | refine bcs_ndec (fun h => ?_) (fun h => ?_) | refine bcs_not ?_ | refine bcs_intro (fun h => ?_) (fun h => ?_) | refine And.intro ?_ ?_ | refine reg_tail (by kernel_rfl) ?_)
  refine call_rule [.at 0 0] (validR_con s n m (by omega)) hG ?_ ?_
  · (refine ⟨?_, ?_, rfl, rfl, rfl⟩ <;> repeat' (first | refine And.intro ?_ ?_ | exact trivial | exact rfl | refine lt0 | refine lt1 ?_ | refine lt2 ?_ ?_ | refine lt3 ?_ ?_ ?_ | refine lt4 ?_ ?_ ?_ ?_ | exact veq_refl _ | decide | (intro i hi; repeat' (first | refine And.intro ?_ ?_ | exact trivial | exact rfl))))
    all_goals exact Nat.le_refl _
  rintro _ _ _ ⟨rfl, rfl, rfl⟩
  repeat' (first | refine And.intro (by first | omega | (dsimp only; omega) | (show (_ : Bool) = true; kernel_rfl) | decide | (repeat' (first | refine And.intro ?_ ?_ | exact trivial | exact rfl))) ?_ | refine bcs_dec (fun h => ?_) (fun h => ?_) | refine bcs_ndec (fun h => ?_) (fun h => ?_) | refine bcs_not ?_ | refine bcs_intro (fun h => ?_) (fun h => ?_) | refine And.intro ?_ ?_ | refine reg_tail (by kernel_rfl) ?_)
  · refine ret_mem [.nil 2] rfl rfl ?_ ?_
    · repeat' (first | refine And.intro ?_ ?_ | exact trivial)
      all_goals exact rfl
    · repeat' (first | refine And.intro ?_ ?_ | exact trivial)
      all_goals exact rfl
  · omega

set_option maxRecDepth 100000 in
set_option maxHeartbeats 4000000 in
theorem rPairs_ok {s : List Chg} {n m : Int} (hs : s.length ≤ 9223372036854775807 - 1) (hv : validE s n m = 0) : Con Tryd.prog glob 25 [.s 0 0 s.length, .v (.int .i64 n), .v (.int .i64 m)] [(0, chRo s)] 1
    (retM (.t [.o 1, .v (.int .i64 0)]) [(1, prOwn (pairsF s 0 0 n))] 2) := by
  refine spec_intro (tab := tab) (N := 19) Tryd.func25 rfl rfl tab_ok mix rfl rfl _ rfl ?_
  intro B hG
  repeat' (first | refine And.intro (by first | omega | (dsimp only; omega) | (show (_ : Bool) = true; kernel_rfl) | decide | (repeat' (first | refine And.intro ?_ ?_ | exact trivial | exact rfl))) ?_ | refine bcs_dec (fun h => ?_) (fun h => ?_) | refine bcs_ndec (fun h => ?_) (fun h => ?_) | refine bcs_not ?_ | refine bcs_intro (fun h => ?_) (fun h => ?_) | refine And.intro ?_ ?_ | refine reg_tail (by kernel_rfl) ?_)
  refine call_rule [.at 0 0] (validR_con s n m (by omega)) hG ?_ ?_
  · (refine ⟨?_, ?_, rfl, rfl, rfl⟩ <;> repeat' (first | refine And.intro ?_ ?_ | exact trivial | exact rfl | refine lt0 | refine lt1 ?_ | refine lt2 ?_ ?_ | refine lt3 ?_ ?_ ?_ | refine lt4 ?_ ?_ ?_ ?_ | exact veq_refl _ | decide | (intro i hi; repeat' (first | refine And.intro ?_ ?_ | exact trivial | exact rfl))))
    all_goals exact Nat.le_refl _
  rintro _ _ _ ⟨rfl, rfl, rfl⟩
  repeat' (first | refine And.intro (by first | omega | (dsimp only; omega) | (show (_ : Bool) = true; kernel_rfl) | decide | (repeat' (first | refine And.intro ?_ ?_ | exact trivial | exact rfl))) ?_ | refine bcs_dec (fun h => ?_) (fun h => ?_) | refine bcs_ndec (fun h => ?_) (fun h => ?_) | refine bcs_not ?_ | refine bcs_intro (fun h => ?_) (fun h => ?_) | refine And.intro ?_ ?_ | refine reg_tail (by kernel_rfl) ?_)
  · omega
  refine call_rule [.at 0 0] (pairsR_con hs hv) hG ?_ ?_
  · (refine ⟨?_, ?_, rfl, rfl, rfl⟩ <;> repeat' (first | refine And.intro ?_ ?_ | exact trivial | exact rfl | refine lt0 | refine lt1 ?_ | refine lt2 ?_ ?_ | refine lt3 ?_ ?_ ?_ | refine lt4 ?_ ?_ ?_ ?_ | exact veq_refl _ | decide | (intro i hi; repeat' (first | refine And.intro ?_ ?_ | exact trivial | exact rfl))))
    all_goals exact Nat.le_refl _
  rintro _ _ _ ⟨rfl, rfl, rfl⟩
  repeat' (first | refine And.intro (by first | omega | (dsimp only; omega) | (show (_ : Bool) = true; kernel_rfl) | decide | (repeat' (first | refine And.intro ?_ ?_ | exact trivial | exact rfl))) ?_ | refine bcs_dec (fun h => ?_) (fun h => ?_) | refine bcs_ndec (fun h => ?_) (fun h => ?_) | refine bcs_not ?_ | refine bcs_intro (fun h => ?_) (fun h => ?_) | refine And.intro ?_ ?_ | refine reg_tail (by kernel_rfl) ?_)
  refine ret_mem [.at 1 0] rfl rfl ?_ ?_
  · repeat' (first | refine And.intro ?_ ?_ | exact trivial)
    all_goals exact rfl
  · repeat' (first | refine And.intro ?_ ?_ | exact trivial)
    · exact rfl
    · intro i hi
      repeat' (first | refine And.intro ?_ ?_ | exact trivial)
      all_goals exact rfl

theorem stays_cons (a b : List Byt) (p : Int × Int) (r : List (Int × Int)) : staysF a b (p :: r) = (decide (sameP a b p) && staysF a b r) := by
  unfold staysF
  rw [← Bool.decide_and]
  exact decide_eq_decide.2 List.forall_mem_cons
set_option maxRecDepth 100000 in
set_option maxHeartbeats 4000000 in
theorem rStays_con (P : List Chg) (a b : List Byt) (hP : P.length ≤ 9223372036854775807 - 1) (hv : validE P a.length b.length = 0) :
    Con Tryd.prog glob 30 [.s 0 0 P.length, .s 1 0 a.length, .s 2 0 b.length] [(0, chRo P), (1, stRo a), (2, stRo b)] 3 (retV 3 (.v (.bool (staysF a b (pairsF P 0 0 a.length))))) := by
  obtain ⟨r1, r2, r3, r4, r5⟩ := valid_range hv
  have hin := pairs_in P 0 0 r5
  have hpl := pairsF_len P 0 0 a.length b.length r5 (by omega) (by omega)
  have cP := rPairs_ok (n := a.length) (m := b.length) hP hv
  obtain ⟨l, hl⟩ : ∃ l, l = pairsF P 0 0 (a.length : Int) := ⟨_, rfl⟩
  rw [← hl] at hin hpl cP ⊢
  refine spec_intro (tab := tab) (N := 42) Tryd.func30 rfl rfl tab_ok mix rfl rfl _ rfl ?_
  intro B hG
  repeat' (first | refine And.intro (by first | omega | (dsimp only; omega) | (show (_ : Bool) = true; kernel_rfl) | decide | (repeat' (first | refine And.intro ?_ ?_ | exact trivial | exact rfl))) ?_ | refine bcs_dec (fun h => ?_) (fun h => False.elim (by first | omega | exact h rfl)) | refine bcs_dec (fun h => False.elim (by omega)) (fun h => ?_) | refine bcs_dec (fun h => ?_) (fun h => ?_) | refine bcs_ndec (fun h => ?_) (fun h => ?_) | refine bcs_not ?_ | refine bcs_intro (fun h => ?_) (fun h => ?_) | refine And.intro ?_ ?_ | refine reg_tail (by kernel_rfl) ?_)
  refine call_rule [.at 0 0] (cP) hG ?_ ?_
  · (refine ⟨?_, ?_, rfl, rfl, rfl⟩ <;> repeat' (first | refine And.intro ?_ ?_ | exact trivial | exact rfl | refine lt0 | refine lt1 ?_ | refine lt2 ?_ ?_ | refine lt3 ?_ ?_ ?_ | refine lt4 ?_ ?_ ?_ ?_ | exact veq_refl _ | decide | (intro i hi; repeat' (first | refine And.intro ?_ ?_ | exact trivial | exact rfl))))
    all_goals first | exact Nat.le_refl _ | omega
  rintro _ _ _ ⟨rfl, rfl, rfl⟩
  repeat' (first | refine And.intro (by first | omega | (dsimp only; omega) | (show (_ : Bool) = true; kernel_rfl) | decide | (repeat' (first | refine And.intro ?_ ?_ | exact trivial | exact rfl))) ?_ | refine bcs_dec (fun h => ?_) (fun h => False.elim (by first | omega | exact h rfl)) | refine bcs_dec (fun h => False.elim (by omega)) (fun h => ?_) | refine bcs_dec (fun h => ?_) (fun h => ?_) | refine bcs_ndec (fun h => ?_) (fun h => ?_) | refine bcs_not ?_ | refine bcs_intro (fun h => ?_) (fun h => ?_) | refine And.intro ?_ ?_ | refine reg_tail (by kernel_rfl) ?_)
  refine loop_rule (α := Nat) (fun i => ⟨[(1, .s 1 0 a.length), (2, .s 2 0 b.length), (7, .s 3 0 l.length), (9, .v (.int .i64 i))], [(1, stRo a), (2, stRo b), (3, prRo l)], 4⟩)
    (fun i => i ≤ l.length ∧ staysF a b (l.drop i) = staysF a b l) (fun i => l.length - i) 0 [.at 3 0] ?_ ?_ ?_
  · exact ⟨Nat.zero_le _, rfl⟩
  · (refine ⟨rfl, rfl, ?_, ?_⟩ <;> repeat' (first | refine And.intro ?_ ?_ | exact trivial | exact rfl | refine lt0 | refine lt1 ?_ | refine lt2 ?_ ?_ | refine lt3 ?_ ?_ ?_ | refine lt4 ?_ ?_ ?_ ?_ | exact veq_refl _ | decide | (intro i hi; repeat' (first | refine And.intro ?_ ?_ | exact trivial | exact rfl))))
    all_goals first | exact Nat.le_refl _ | omega
  rintro i ⟨h1, h2⟩
  by_cases hi : i < l.length
  · rw [drop_get (0, 0) l i hi] at h2
    have eC : l.getD i (0, 0) = l.getD (0 + (i : Int).toNat) (0, 0) := by rw [Nat.zero_add]; rfl
    rw [eC] at h2
    have hm : l.getD (0 + (i : Int).toNat) (0, 0) ∈ l := by
      rw [Nat.zero_add, Int.toNat_natCast, List.getD_eq_getElem?_getD, List.getElem?_eq_getElem hi]
      exact List.getElem_mem hi
    have hq := hin _ hm
    by_cases hs : sameP a b (l.getD (0 + (i : Int).toNat) (0, 0))
    · have h3 : staysF a b (l.drop (i + 1)) = staysF a b l := by
        rw [← h2, stays_cons, decide_eq_true hs, Bool.true_and]
      repeat' (first | refine And.intro (by first | omega | (dsimp only; omega) | (show (_ : Bool) = true; kernel_rfl) | (simp; done) | decide | (repeat' (first | refine And.intro ?_ ?_ | exact trivial | exact rfl | (simp; done)))) ?_ | refine bcs_dec (fun h => ?_) (fun h => False.elim (by first | omega | exact h rfl)) | refine bcs_dec (fun h => False.elim (by omega)) (fun h => ?_) | refine bcs_dec (fun h => ?_) (fun h => ?_) | refine bcs_ndec (fun h => ?_) (fun h => ?_) | refine bcs_not ?_ | refine And.intro ?_ ?_ | refine reg_tail (by kernel_rfl) ?_)
      refine bcs_t (by rw [bs_eq]; exact decide_eq_true hs) ?_
      repeat' (first | refine And.intro (by first | omega | (dsimp only; omega) | (show (_ : Bool) = true; kernel_rfl) | (simp; done) | decide | (repeat' (first | refine And.intro ?_ ?_ | exact trivial | exact rfl | (simp; done)))) ?_ | refine bcs_dec (fun h => ?_) (fun h => False.elim (by first | omega | exact h rfl)) | refine bcs_dec (fun h => False.elim (by omega)) (fun h => ?_) | refine bcs_dec (fun h => ?_) (fun h => ?_) | refine bcs_ndec (fun h => ?_) (fun h => ?_) | refine bcs_not ?_ | refine And.intro ?_ ?_ | refine reg_tail (by kernel_rfl) ?_)
      refine ⟨i + 1, [.at 3 0], ?_, ?_, ?_⟩
      · exact ⟨hi, h3⟩
      · show l.length - (i + 1) < l.length - i
        omega
      · (refine ⟨rfl, rfl, ?_, ?_⟩ <;> repeat' (first | refine And.intro ?_ ?_ | exact trivial | exact rfl | refine lt0 | refine lt1 ?_ | refine lt2 ?_ ?_ | refine lt3 ?_ ?_ ?_ | refine lt4 ?_ ?_ ?_ ?_ | exact veq_refl _ | decide | (intro i hi; repeat' (first | refine And.intro ?_ ?_ | exact trivial | exact rfl))))
        all_goals first | exact Nat.le_refl _ | omega
    · have h3 : staysF a b l = false := by
        rw [← h2, stays_cons, decide_eq_false hs, Bool.false_and]
      rw [h3]
      repeat' (first | refine And.intro (by first | omega | (dsimp only; omega) | (show (_ : Bool) = true; kernel_rfl) | (simp; done) | decide | (repeat' (first | refine And.intro ?_ ?_ | exact trivial | exact rfl | (simp; done)))) ?_ | refine bcs_dec (fun h => ?_) (fun h => False.elim (by first | omega | exact h rfl)) | refine bcs_dec (fun h => False.elim (by omega)) (fun h => ?_) | refine bcs_dec (fun h => ?_) (fun h => ?_) | refine bcs_ndec (fun h => ?_) (fun h => ?_) | refine bcs_not ?_ | refine And.intro ?_ ?_ | refine reg_tail (by kernel_rfl) ?_)
      refine bcs_f (by rw [bs_eq]; exact decide_eq_false hs) ?_
      repeat' (first | refine And.intro (by first | omega | (dsimp only; omega) | (show (_ : Bool) = true; kernel_rfl) | (simp; done) | decide | (repeat' (first | refine And.intro ?_ ?_ | exact trivial | exact rfl | (simp; done)))) ?_ | refine bcs_dec (fun h => ?_) (fun h => False.elim (by first | omega | exact h rfl)) | refine bcs_dec (fun h => False.elim (by omega)) (fun h => ?_) | refine bcs_dec (fun h => ?_) (fun h => ?_) | refine bcs_ndec (fun h => ?_) (fun h => ?_) | refine bcs_not ?_ | refine And.intro ?_ ?_ | refine reg_tail (by kernel_rfl) ?_)
      refine ret_plain ?_
      exact rfl
  · rw [List.drop_of_length_le (by omega)] at h2
    have h3 : staysF a b l = true := by rw [← h2]; rfl
    rw [h3]
    repeat' (first | refine And.intro (by first | omega | (dsimp only; omega) | (show (_ : Bool) = true; kernel_rfl) | decide | (repeat' (first | refine And.intro ?_ ?_ | exact trivial | exact rfl))) ?_ | refine bcs_dec (fun h => ?_) (fun h => False.elim (by first | omega | exact h rfl)) | refine bcs_dec (fun h => False.elim (by omega)) (fun h => ?_) | refine bcs_dec (fun h => ?_) (fun h => ?_) | refine bcs_ndec (fun h => ?_) (fun h => ?_) | refine bcs_not ?_ | refine bcs_intro (fun h => ?_) (fun h => ?_) | refine And.intro ?_ ?_ | refine reg_tail (by kernel_rfl) ?_)
    refine ret_plain ?_
    exact rfl
theorem valid_congr {X Y : List Chg} {n m : Int} (h : ∀ a b, validF X a b n m = 0 → validF Y a b n m = 0) : ∀ (o : List Chg) (a b : Int), validF (o ++ X) a b n m = 0 → validF (o ++ Y) a b n m = 0
  | [], a, b, k => h a b k
  | c :: r, a, b, k => by
    obtain ⟨k1, k2⟩ := valid_cons k
    have := valid_congr h r _ _ k2
    show (if bad c a b n m then 60 else validF (r ++ Y) (c.A + c.N) (c.B + c.M) n m) = 0
    rw [if_neg k1]; exact this
theorem merge_valid {n m : Int} : ∀ (s out : List Chg), validF (out ++ s) 0 0 n m = 0 → validF (mergeF out s) 0 0 n m = 0
  | [], out, h => by rw [List.append_nil] at h; exact h
  | c :: r, out, h => by
    simp only [mergeF]
    split
    · rename_i hc
      obtain ⟨o, l, rfl⟩ : ∃ o l, out = o ++ [l] := ⟨out.dropLast, out.getLast hc.1, (List.dropLast_concat_getLast hc.1).symm⟩
      have hl := hc.2
      rw [last_app] at hl
      rw [set_last, last_app]
      refine merge_valid r _ ?_
      rw [List.append_assoc] at h ⊢
      refine valid_congr (fun a b k => ?_) o 0 0 h
      obtain ⟨k1, k2⟩ := valid_cons k
      obtain ⟨k3, k4⟩ := valid_cons k2
      unfold bad at k1 k3
      have nb : ¬ bad (l.plus c) a b n m := by unfold bad; dsimp only; omega
      show (if bad (l.plus c) a b n m then 60 else validF r (l.A + (l.N + c.N)) (l.B + (l.M + c.M)) n m) = 0
      rw [if_neg nb, show l.A + (l.N + c.N) = c.A + c.N by omega, show l.B + (l.M + c.M) = c.B + c.M by omega]
      exact k4
    · refine merge_valid r _ ?_
      rw [List.append_assoc]; exact h
theorem norm_valid {s : List Chg} {n m : Int} (h : validF s 0 0 n m = 0) : validF (normF s) 0 0 n m = 0 := merge_valid s [] h
theorem mergeF_len : ∀ (s out : List Chg), (mergeF out s).length ≤ out.length + s.length
  | [], out => by simp [mergeF]
  | c :: r, out => by
    simp only [mergeF]
    split
    · have := mergeF_len r (out.set (out.length - 1) ((lastC out).plus c))
      simp at this ⊢; omega
    · have := mergeF_len r (out ++ [c])
      simp at this ⊢; omega
theorem rNormal_good {s : List Chg} {n m : Int} (hs : s.length ≤ 9223372036854775807 - 1) (hv : validE s n m = 0) : Con Tryd.prog glob 20 [.s 0 0 s.length, .v (.int .i64 n), .v (.int .i64 m)] [(0, chRo s)] 1
    (retM (.t [.o 1, .v (.int .i64 0)]) [(1, chOwn (normF s))] 2) := by
  have h := rNormal_ok hs hv
  rwa [of_pairs hv] at h
theorem getD_flat (a : List Byt) (i : Nat) : (a.getD i []).length ≤ a.flatten.length := by
  by_cases h : i < a.length
  · rw [List.getD_eq_getElem?_getD, List.getElem?_eq_getElem h]
    have hm : a[i] ∈ a := List.getElem_mem h
    obtain ⟨x, y, e⟩ := List.append_of_mem hm
    have := congrArg (fun z => z.flatten.length) e
    simp only [List.flatten_append, List.flatten_cons, List.length_append] at this
    simp only [Option.getD_some]
    omega
  · rw [List.getD_eq_getElem?_getD, List.getElem?_eq_none (by omega)]; simp
end Go.Proofs.YtlmjkphiicmclaaDoor
