/- Chapter 18: whether labels may be: walked. -/
import Derived.Test.YtlmjkphiicmclaaDoorW2
import Derived.Test.YtlmjkphiicmclaaDoorBA
namespace Go.Proofs.YtlmjkphiicmclaaDoor
open Go Go.RowKit Vc

/-- A label that may not be. -/
def badL (s : Byt) : Prop := 0 ≤ Lib.indexByte s 10 ∨ 4096 < s.length
instance (s : Byt) : Decidable (badL s) := by unfold badL; infer_instance
def labE (lab : List Byt) : Int := if lab.length ≠ 3 then 222 else if ∃ x ∈ lab, badL x then 30 else 0
theorem lab_len {lab : List Byt} (h : labE lab = 0) : lab.length = 3 ∧ ∀ i, (lab.getD i []).length ≤ 4096 := by
  unfold labE at h
  by_cases h1 : lab.length = 3
  · rw [if_neg (fun k => k h1)] at h
    by_cases h2 : ∃ x ∈ lab, badL x
    · rw [if_pos h2] at h; exact absurd h (by decide)
    · refine ⟨h1, getD_le fun x hx => ?_⟩
      have : ¬ badL x := fun k => h2 ⟨x, hx, k⟩
      unfold badL at this
      omega
  · rw [if_pos h1] at h; exact absurd h (by decide)
theorem has_con (l : Byt) : Con Tryd.prog glob 74 [str l, .v (.string ⟨#[10]⟩)] [] 0 (retV 0 (.v (.bool (decide (0 ≤ Lib.indexByte l 10))))) :=
  con_plain ⟨_, Tryd.func74, rfl, rfl⟩ (args := [.string (bs l), .string ⟨#[10]⟩]) fun w _ => (Tryd.strings_Contains_one (bs l) 10 w).mono fun e w' ⟨h1, h2⟩ => ⟨by rw [h1, bs_data], below_same h2⟩
set_option maxRecDepth 100000 in
set_option maxHeartbeats 4000000 in
theorem labelled_con (lab : List Byt) : Con Tryd.prog glob 58 [.s 0 0 lab.length] [(0, stRo lab)] 1 (retV 1 (.v (errV (labE lab)))) := by
  obtain ⟨E, hE⟩ : ∃ E, E = labE lab := ⟨_, rfl⟩
  rw [← hE]
  unfold labE at hE
  refine spec_intro (tab := tab) (N := 24) Tryd.func58 rfl rfl tab_ok mix rfl rfl _ rfl ?_
  intro B hG
  by_cases h3 : lab.length = 3
  · rw [if_neg (fun k => k h3)] at hE
    repeat' (first | refine And.intro (by first | (show (_ : Bool) = true; kernel_rfl) | omega | (dsimp only; omega) | decide | (repeat' (first | refine And.intro ?_ ?_ | exact trivial | exact rfl))) ?_ | refine bcs_dec (fun h => ?_) (fun h => False.elim (by first | omega | exact h rfl)) | refine bcs_dec (fun h => False.elim (by omega)) (fun h => ?_) | refine bcs_dec (fun h => ?_) (fun h => ?_) | refine bcs_ndec (fun h => ?_) (fun h => ?_) | refine bcs_not ?_ | refine bcs_intro (fun h => ?_) (fun h => ?_) | refine And.intro ?_ ?_ | refine reg_tail (by kernel_rfl) ?_)
    all_goals first
      | omega
      | skip
    refine loop_rule (α := Nat) (fun i => ⟨[(0, .s 0 0 lab.length), (9, .s 0 0 lab.length), (10, .v (.int .i64 lab.length)), (11, .v (.int .i64 i))], [(0, stRo lab)], 1⟩)
      (fun i => i ≤ lab.length ∧ ∀ j, j < i → ¬ badL (lab.getD j [])) (fun i => lab.length - i) 0 [] ?_ ?_ ?_
    · exact ⟨Nat.zero_le _, fun j hj => absurd hj (by omega)⟩
    · (refine ⟨rfl, rfl, ?_, ?_⟩ <;> repeat' (first | refine And.intro ?_ ?_ | exact trivial | exact rfl | refine lt0 | refine lt1 ?_ | refine lt2 ?_ ?_ | refine lt3 ?_ ?_ ?_ | refine lt4 ?_ ?_ ?_ ?_ | exact veq_refl _ | decide | (intro i hi; repeat' (first | refine And.intro ?_ ?_ | exact trivial | exact rfl))))
      all_goals first | exact Nat.le_refl _ | omega
    rintro i ⟨h1, h2⟩
    by_cases hi : i < lab.length
    · have hm : lab.getD i [] ∈ lab := by
        rw [List.getD_eq_getElem?_getD, List.getElem?_eq_getElem hi]
        exact List.getElem_mem hi
      have e0 : lab.getD (0 + (i : Int).toNat) [] = lab.getD i [] := by rw [Nat.zero_add]; rfl
      have cH := has_con (lab.getD (0 + (i : Int).toNat) [])
      have hb : (bs (lab.getD (0 + (i : Int).toNat) [])).size = (lab.getD (0 + (i : Int).toNat) []).length := bs_size _
      by_cases hx : 0 ≤ Lib.indexByte (lab.getD (0 + (i : Int).toNat) []) 10
      · rw [decide_eq_true hx] at cH
        rw [if_pos ⟨_, hm, Or.inl (by rw [← e0]; exact hx)⟩] at hE
        subst hE
        rw [errV_n (by decide)]
        repeat' (first | refine And.intro (by first | (show (_ : Bool) = true; kernel_rfl) | omega | (dsimp only; omega) | decide | (repeat' (first | refine And.intro ?_ ?_ | exact trivial | exact rfl))) ?_ | refine bcs_dec (fun h => ?_) (fun h => False.elim (by first | omega | exact h rfl)) | refine bcs_dec (fun h => False.elim (by omega)) (fun h => ?_) | refine bcs_dec (fun h => ?_) (fun h => ?_) | refine bcs_ndec (fun h => ?_) (fun h => ?_) | refine bcs_not ?_ | refine bcs_intro (fun h => ?_) (fun h => ?_) | refine And.intro ?_ ?_ | refine reg_tail (by kernel_rfl) ?_)
        all_goals first
          | omega
          | skip
        refine call_rule [] (cH) hG ?_ ?_
        · (refine ⟨?_, ?_, rfl, rfl, rfl⟩ <;> repeat' (first | refine And.intro ?_ ?_ | exact trivial | exact rfl | refine lt0 | refine lt1 ?_ | refine lt2 ?_ ?_ | refine lt3 ?_ ?_ ?_ | refine lt4 ?_ ?_ ?_ ?_ | exact veq_refl _ | decide | (intro i hi; repeat' (first | refine And.intro ?_ ?_ | exact trivial | exact rfl))))
          all_goals first | exact Nat.le_refl _ | omega
        rintro _ _ _ ⟨rfl, rfl, rfl⟩
        repeat' (first | refine And.intro (by first | (show (_ : Bool) = true; kernel_rfl) | omega | (dsimp only; omega) | decide | (repeat' (first | refine And.intro ?_ ?_ | exact trivial | exact rfl))) ?_ | refine bcs_dec (fun h => ?_) (fun h => False.elim (by first | omega | exact h rfl)) | refine bcs_dec (fun h => False.elim (by omega)) (fun h => ?_) | refine bcs_dec (fun h => ?_) (fun h => ?_) | refine bcs_ndec (fun h => ?_) (fun h => ?_) | refine bcs_not ?_ | refine bcs_intro (fun h => ?_) (fun h => ?_) | refine And.intro ?_ ?_ | refine reg_tail (by kernel_rfl) ?_)
        refine ret_plain ?_
        repeat' (first | refine And.intro ?_ ?_ | exact trivial)
        all_goals exact rfl
      · rw [decide_eq_false hx] at cH
        by_cases hz : 4096 < (lab.getD (0 + (i : Int).toNat) []).length
        · rw [if_pos ⟨_, hm, Or.inr (by rw [← e0]; exact hz)⟩] at hE
          subst hE
          rw [errV_n (by decide)]
          repeat' (first | refine And.intro (by first | (show (_ : Bool) = true; kernel_rfl) | omega | (dsimp only; omega) | decide | (repeat' (first | refine And.intro ?_ ?_ | exact trivial | exact rfl))) ?_ | refine bcs_dec (fun h => ?_) (fun h => False.elim (by first | omega | exact h rfl)) | refine bcs_dec (fun h => False.elim (by omega)) (fun h => ?_) | refine bcs_dec (fun h => ?_) (fun h => ?_) | refine bcs_ndec (fun h => ?_) (fun h => ?_) | refine bcs_not ?_ | refine bcs_intro (fun h => ?_) (fun h => ?_) | refine And.intro ?_ ?_ | refine reg_tail (by kernel_rfl) ?_)
          all_goals first
            | omega
            | skip
          refine call_rule [] (cH) hG ?_ ?_
          · (refine ⟨?_, ?_, rfl, rfl, rfl⟩ <;> repeat' (first | refine And.intro ?_ ?_ | exact trivial | exact rfl | refine lt0 | refine lt1 ?_ | refine lt2 ?_ ?_ | refine lt3 ?_ ?_ ?_ | refine lt4 ?_ ?_ ?_ ?_ | exact veq_refl _ | decide | (intro i hi; repeat' (first | refine And.intro ?_ ?_ | exact trivial | exact rfl))))
            all_goals first | exact Nat.le_refl _ | omega
          rintro _ _ _ ⟨rfl, rfl, rfl⟩
          repeat' (first | refine And.intro (by first | (show (_ : Bool) = true; kernel_rfl) | omega | (dsimp only; omega) | decide | (repeat' (first | refine And.intro ?_ ?_ | exact trivial | exact rfl))) ?_ | refine bcs_dec (fun h => ?_) (fun h => False.elim (by first | omega | exact h rfl)) | refine bcs_dec (fun h => False.elim (by omega)) (fun h => ?_) | refine bcs_dec (fun h => ?_) (fun h => ?_) | refine bcs_ndec (fun h => ?_) (fun h => ?_) | refine bcs_not ?_ | refine bcs_intro (fun h => ?_) (fun h => ?_) | refine And.intro ?_ ?_ | refine reg_tail (by kernel_rfl) ?_)
          all_goals first
            | omega
            | skip
          refine ret_plain ?_
          repeat' (first | refine And.intro ?_ ?_ | exact trivial)
          all_goals exact rfl
        · repeat' (first | refine And.intro (by first | (show (_ : Bool) = true; kernel_rfl) | omega | (dsimp only; omega) | decide | (repeat' (first | refine And.intro ?_ ?_ | exact trivial | exact rfl))) ?_ | refine bcs_dec (fun h => ?_) (fun h => False.elim (by first | omega | exact h rfl)) | refine bcs_dec (fun h => False.elim (by omega)) (fun h => ?_) | refine bcs_dec (fun h => ?_) (fun h => ?_) | refine bcs_ndec (fun h => ?_) (fun h => ?_) | refine bcs_not ?_ | refine bcs_intro (fun h => ?_) (fun h => ?_) | refine And.intro ?_ ?_ | refine reg_tail (by kernel_rfl) ?_)
          all_goals first
            | omega
            | skip
          refine call_rule [] (cH) hG ?_ ?_
          · (refine ⟨?_, ?_, rfl, rfl, rfl⟩ <;> repeat' (first | refine And.intro ?_ ?_ | exact trivial | exact rfl | refine lt0 | refine lt1 ?_ | refine lt2 ?_ ?_ | refine lt3 ?_ ?_ ?_ | refine lt4 ?_ ?_ ?_ ?_ | exact veq_refl _ | decide | (intro i hi; repeat' (first | refine And.intro ?_ ?_ | exact trivial | exact rfl))))
            all_goals first | exact Nat.le_refl _ | omega
          rintro _ _ _ ⟨rfl, rfl, rfl⟩
          repeat' (first | refine And.intro (by first | (show (_ : Bool) = true; kernel_rfl) | omega | (dsimp only; omega) | decide | (repeat' (first | refine And.intro ?_ ?_ | exact trivial | exact rfl))) ?_ | refine bcs_dec (fun h => ?_) (fun h => False.elim (by first | omega | exact h rfl)) | refine bcs_dec (fun h => False.elim (by omega)) (fun h => ?_) | refine bcs_dec (fun h => ?_) (fun h => ?_) | refine bcs_ndec (fun h => ?_) (fun h => ?_) | refine bcs_not ?_ | refine bcs_intro (fun h => ?_) (fun h => ?_) | refine And.intro ?_ ?_ | refine reg_tail (by kernel_rfl) ?_)
          all_goals first
            | omega
            | skip
          refine ⟨i + 1, [], ?_, ?_, ?_⟩
          · refine ⟨hi, fun j hj => ?_⟩
            rcases Nat.lt_succ_iff_lt_or_eq.1 hj with hj | rfl
            · exact h2 j hj
            · unfold badL
              rw [← e0]
              omega
          · show lab.length - (i + 1) < lab.length - i
            omega
          · (refine ⟨rfl, rfl, ?_, ?_⟩ <;> repeat' (first | refine And.intro ?_ ?_ | exact trivial | exact rfl | refine lt0 | refine lt1 ?_ | refine lt2 ?_ ?_ | refine lt3 ?_ ?_ ?_ | refine lt4 ?_ ?_ ?_ ?_ | exact veq_refl _ | decide | (intro i hi; repeat' (first | refine And.intro ?_ ?_ | exact trivial | exact rfl))))
            all_goals first | exact Nat.le_refl _ | omega
    · have hn : ¬ ∃ x ∈ lab, badL x := fun ⟨x, hx, hb⟩ => by
        obtain ⟨j, hj, rfl⟩ := List.getElem_of_mem hx
        refine h2 j (by omega) ?_
        rw [List.getD_eq_getElem?_getD, List.getElem?_eq_getElem hj]
        exact hb
      rw [if_neg hn] at hE
      subst hE
      repeat' (first | refine And.intro (by first | (show (_ : Bool) = true; kernel_rfl) | omega | (dsimp only; omega) | decide | (repeat' (first | refine And.intro ?_ ?_ | exact trivial | exact rfl))) ?_ | refine bcs_dec (fun h => ?_) (fun h => False.elim (by first | omega | exact h rfl)) | refine bcs_dec (fun h => False.elim (by omega)) (fun h => ?_) | refine bcs_dec (fun h => ?_) (fun h => ?_) | refine bcs_ndec (fun h => ?_) (fun h => ?_) | refine bcs_not ?_ | refine bcs_intro (fun h => ?_) (fun h => ?_) | refine And.intro ?_ ?_ | refine reg_tail (by kernel_rfl) ?_)
      refine ret_plain ?_
      repeat' (first | refine And.intro ?_ ?_ | exact trivial)
      all_goals exact rfl
  · rw [if_pos h3] at hE
    subst hE
    rw [errV_n (by decide)]
    repeat' (first | refine And.intro (by first | (show (_ : Bool) = true; kernel_rfl) | omega | (dsimp only; omega) | decide | (repeat' (first | refine And.intro ?_ ?_ | exact trivial | exact rfl))) ?_ | refine bcs_dec (fun h => ?_) (fun h => False.elim (by first | omega | exact h rfl)) | refine bcs_dec (fun h => False.elim (by omega)) (fun h => ?_) | refine bcs_dec (fun h => ?_) (fun h => ?_) | refine bcs_ndec (fun h => ?_) (fun h => ?_) | refine bcs_not ?_ | refine bcs_intro (fun h => ?_) (fun h => ?_) | refine And.intro ?_ ?_ | refine reg_tail (by kernel_rfl) ?_)
    all_goals first
      | omega
      | skip
    refine ret_plain ?_
    repeat' (first | refine And.intro ?_ ?_ | exact trivial)
    all_goals exact rfl
end Go.Proofs.YtlmjkphiicmclaaDoor
