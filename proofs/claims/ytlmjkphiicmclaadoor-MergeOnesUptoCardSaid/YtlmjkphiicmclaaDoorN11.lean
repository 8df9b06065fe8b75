/- Chapter 18: merged with no change a text is itself; the same change twice is one: the statement walked. -/
import Derived.Test.YtlmjkphiicmclaaDoorN3
import Derived.Test.YtlmjkphiicmclaaDoorN4
import Derived.Test.YtlmjkphiicmclaaDoorWB
import Derived.Test.YtlmjkphiicmclaaDoorT3
namespace Go.Proofs.YtlmjkphiicmclaaDoor
open Go Go.RowKit Vc

/-- What the statement's bound gives. -/
structure OneSm (s : List Chg) (b m : List Byt) : Prop where
  hs : s.length ≤ 1048576
  hb : b.flatten.length ≤ 1048576
  hm : m.flatten.length ≤ 1048576
  hbl : b.length ≤ 1048576
  hml : m.length ≤ 1048576
set_option maxRecDepth 100000 in
set_option maxHeartbeats 64000000 in
theorem ones_con (s : List Chg) (b m : List Byt) (H : OneSm s b m) :
    Con Tryd.prog glob 6 [.s 0 0 s.length, .s 1 0 b.length, .s 2 0 m.length] [(0, chRo s), (1, stRo b), (2, stRo m)] 3 (retV 3 (.v (.bool true))) := by
  have H1 : JobSm s [] b m b wkL := ⟨H.hs, by decide, H.hb, H.hm, H.hb, H.hbl, H.hml, H.hbl, by decide, by decide⟩
  have H2 : JobSm [] s b b m wkL := ⟨by decide, H.hs, H.hb, H.hb, H.hm, H.hbl, H.hbl, H.hml, by decide, by decide⟩
  have H3 : JobSm s s b m m wkL := ⟨H.hs, H.hs, H.hb, H.hm, H.hm, H.hbl, H.hml, H.hml, by decide, by decide⟩
  have c1 := merged_con s [] b m b wkL 1 H1
  have c2 := merged_con [] s b b m wkL 2 H2
  have c3 := merged_con s s b m m wkL 1 H3
  have cJ := rJoin_con m (fun k => m.getD k []) (by have := H.hml; omega) (by have := H.hm; omega) (fun _ _ => rfl)
  have hl : labE wkL = 0 := by decide +kernel
  clear H1 H2 H3 H
  by_cases he : mgErr s [] b m b wkL 1 = 0
  · obtain ⟨⟨a1, a2⟩, ⟨a3, a4, a5⟩, a6, a7, a8⟩ := mg_ones hl he
    rw [he, errV_0 rfl, a1, a2] at c1
    rw [a3, errV_0 rfl, a4, a5] at c2
    rw [a6, errV_0 rfl, a7, a8] at c3
    obtain ⟨u, hu⟩ : ∃ u, u = m.flatten := ⟨_, rfl⟩
    rw [← hu] at c1 c2 c3 cJ
    clear hu he a1 a2 a3 a4 a5 a6 a7 a8 hl
    refine spec_intro (tab := tab) (N := 99) Tryd.func6 rfl rfl tab_ok mix rfl rfl _ rfl ?_
    intro B hG
    repeat' (first | refine Both.mk ?_ ?_ | refine And.intro (by first | (show (_ : Bool) = true; kernel_rfl) | omega | (dsimp only; omega) | decide | (repeat' (first | refine And.intro ?_ ?_ | exact trivial | exact rfl))) ?_ | refine bcs_dec (fun h => ?_) (fun h => False.elim (by first | omega | exact h rfl)) | refine bcs_dec (fun h => False.elim (by omega)) (fun h => ?_) | refine bcs_dec (fun h => ?_) (fun h => ?_) | refine bcs_ndec (fun h => ?_) (fun h => ?_) | refine bcs_not ?_ | refine And.intro ?_ ?_)
    refine call_rule [.at 0 0, .nil 4, .at 1 0, .at 2 0, .at 1 0, .at 3 0] c1 hG ?_ ?_
    · (refine ⟨?_, ?_, rfl, rfl, rfl⟩ <;> repeat' (first | refine And.intro ?_ ?_ | exact trivial | exact rfl | refine lt0 | refine lt1 ?_ | refine lt2 ?_ ?_ | refine lt3 ?_ ?_ ?_ | refine lt4 ?_ ?_ ?_ ?_ | exact veq_refl _ | decide))
      all_goals first | exact Nat.le_refl _ | omega | (first | exact rfl | exact veq_refl _ | (intro i hi; first | (obtain rfl : i = 0 := (by omega); exact rfl) | (rcases (show i = 0 ∨ i = 1 ∨ i = 2 by omega) with rfl | rfl | rfl <;> exact rfl) | (repeat' (first | refine And.intro ?_ ?_ | exact trivial | exact rfl))) | skip)
    rintro _ _ _ ⟨rfl, rfl, rfl⟩
    repeat' (first | refine Both.mk ?_ ?_ | refine And.intro (by first | (show (_ : Bool) = true; kernel_rfl) | omega | (dsimp only; omega) | decide | (repeat' (first | refine And.intro ?_ ?_ | exact trivial | exact rfl))) ?_ | refine bcs_dec (fun h => ?_) (fun h => False.elim (by first | omega | exact h rfl)) | refine bcs_dec (fun h => False.elim (by omega)) (fun h => ?_) | refine bcs_dec (fun h => ?_) (fun h => ?_) | refine bcs_ndec (fun h => ?_) (fun h => ?_) | refine bcs_not ?_ | refine And.intro ?_ ?_)
    refine call_rule [.nil 4, .at 0 0, .at 1 0, .at 1 0, .at 2 0, .at 3 0] c2 hG ?_ ?_
    · (refine ⟨?_, ?_, rfl, rfl, rfl⟩ <;> repeat' (first | refine And.intro ?_ ?_ | exact trivial | exact rfl | refine lt0 | refine lt1 ?_ | refine lt2 ?_ ?_ | refine lt3 ?_ ?_ ?_ | refine lt4 ?_ ?_ ?_ ?_ | exact veq_refl _ | decide))
      all_goals first | exact Nat.le_refl _ | omega | (first | exact rfl | exact veq_refl _ | (intro i hi; first | (obtain rfl : i = 0 := (by omega); exact rfl) | (rcases (show i = 0 ∨ i = 1 ∨ i = 2 by omega) with rfl | rfl | rfl <;> exact rfl) | (repeat' (first | refine And.intro ?_ ?_ | exact trivial | exact rfl))) | skip)
    rintro _ _ _ ⟨rfl, rfl, rfl⟩
    repeat' (first | refine Both.mk ?_ ?_ | refine And.intro (by first | (show (_ : Bool) = true; kernel_rfl) | omega | (dsimp only; omega) | decide | (repeat' (first | refine And.intro ?_ ?_ | exact trivial | exact rfl))) ?_ | refine bcs_dec (fun h => ?_) (fun h => False.elim (by first | omega | exact h rfl)) | refine bcs_dec (fun h => False.elim (by omega)) (fun h => ?_) | refine bcs_dec (fun h => ?_) (fun h => ?_) | refine bcs_ndec (fun h => ?_) (fun h => ?_) | refine bcs_not ?_ | refine And.intro ?_ ?_)
    refine call_rule [.at 0 0, .at 0 0, .at 1 0, .at 2 0, .at 2 0, .at 3 0] c3 hG ?_ ?_
    · (refine ⟨?_, ?_, rfl, rfl, rfl⟩ <;> repeat' (first | refine And.intro ?_ ?_ | exact trivial | exact rfl | refine lt0 | refine lt1 ?_ | refine lt2 ?_ ?_ | refine lt3 ?_ ?_ ?_ | refine lt4 ?_ ?_ ?_ ?_ | exact veq_refl _ | decide))
      all_goals first | exact Nat.le_refl _ | omega | (first | exact rfl | exact veq_refl _ | (intro i hi; first | (obtain rfl : i = 0 := (by omega); exact rfl) | (rcases (show i = 0 ∨ i = 1 ∨ i = 2 by omega) with rfl | rfl | rfl <;> exact rfl) | (repeat' (first | refine And.intro ?_ ?_ | exact trivial | exact rfl))) | skip)
    rintro _ _ _ ⟨rfl, rfl, rfl⟩
    repeat' (first | refine Both.mk ?_ ?_ | refine And.intro (by first | (show (_ : Bool) = true; kernel_rfl) | omega | (dsimp only; omega) | decide | (repeat' (first | refine And.intro ?_ ?_ | exact trivial | exact rfl))) ?_ | refine bcs_dec (fun h => ?_) (fun h => False.elim (by first | omega | exact h rfl)) | refine bcs_dec (fun h => False.elim (by omega)) (fun h => ?_) | refine bcs_dec (fun h => ?_) (fun h => ?_) | refine bcs_ndec (fun h => ?_) (fun h => ?_) | refine bcs_not ?_ | refine And.intro ?_ ?_)
    refine call_rule [.at 2 0] (cJ) hG ?_ ?_
    · (refine ⟨?_, ?_, rfl, rfl, rfl⟩ <;> repeat' (first | refine And.intro ?_ ?_ | exact trivial | exact rfl | refine lt0 | refine lt1 ?_ | refine lt2 ?_ ?_ | refine lt3 ?_ ?_ ?_ | refine lt4 ?_ ?_ ?_ ?_ | exact veq_refl _ | decide | (intro i hi; repeat' (first | refine And.intro ?_ ?_ | exact trivial | exact rfl))))
      all_goals first | exact Nat.le_refl _ | omega
    rintro _ _ _ ⟨rfl, rfl, rfl⟩
    repeat' (first | refine Both.mk ?_ ?_ | refine And.intro (by first | (show (_ : Bool) = true; kernel_rfl) | omega | (dsimp only; omega) | decide | (repeat' (first | refine And.intro ?_ ?_ | exact trivial | exact rfl))) ?_ | refine bcs_dec (fun h => ?_) (fun h => False.elim (by first | omega | exact h rfl)) | refine bcs_dec (fun h => False.elim (by omega)) (fun h => ?_) | refine bcs_dec (fun h => ?_) (fun h => ?_) | refine bcs_ndec (fun h => ?_) (fun h => ?_) | refine bcs_not ?_ | refine And.intro ?_ ?_)
    refine bcs_t (seq _) ?_
    repeat' (first | refine Both.mk ?_ ?_ | refine And.intro (by first | (show (_ : Bool) = true; kernel_rfl) | omega | (dsimp only; omega) | decide | (repeat' (first | refine And.intro ?_ ?_ | exact trivial | exact rfl))) ?_ | refine bcs_dec (fun h => ?_) (fun h => False.elim (by first | omega | exact h rfl)) | refine bcs_dec (fun h => False.elim (by omega)) (fun h => ?_) | refine bcs_dec (fun h => ?_) (fun h => ?_) | refine bcs_ndec (fun h => ?_) (fun h => ?_) | refine bcs_not ?_ | refine And.intro ?_ ?_)
    refine bcs_t (seq _) ?_
    repeat' (first | refine Both.mk ?_ ?_ | refine And.intro (by first | (show (_ : Bool) = true; kernel_rfl) | omega | (dsimp only; omega) | decide | (repeat' (first | refine And.intro ?_ ?_ | exact trivial | exact rfl))) ?_ | refine bcs_dec (fun h => ?_) (fun h => False.elim (by first | omega | exact h rfl)) | refine bcs_dec (fun h => False.elim (by omega)) (fun h => ?_) | refine bcs_dec (fun h => ?_) (fun h => ?_) | refine bcs_ndec (fun h => ?_) (fun h => ?_) | refine bcs_not ?_ | refine And.intro ?_ ?_)
    refine bcs_t (seq _) ?_
    repeat' (first | refine Both.mk ?_ ?_ | refine And.intro (by first | (show (_ : Bool) = true; kernel_rfl) | omega | (dsimp only; omega) | decide | (repeat' (first | refine And.intro ?_ ?_ | exact trivial | exact rfl))) ?_ | refine bcs_dec (fun h => ?_) (fun h => False.elim (by first | omega | exact h rfl)) | refine bcs_dec (fun h => False.elim (by omega)) (fun h => ?_) | refine bcs_dec (fun h => ?_) (fun h => ?_) | refine bcs_ndec (fun h => ?_) (fun h => ?_) | refine bcs_not ?_ | refine And.intro ?_ ?_)
    all_goals first
      | omega
      | skip
    refine call_rule [] (works_con) hG ?_ ?_
    · (refine ⟨?_, ?_, rfl, rfl, rfl⟩ <;> repeat' (first | refine And.intro ?_ ?_ | exact trivial | exact rfl | refine lt0 | refine lt1 ?_ | refine lt2 ?_ ?_ | refine lt3 ?_ ?_ ?_ | refine lt4 ?_ ?_ ?_ ?_ | exact veq_refl _ | decide | (intro i hi; repeat' (first | refine And.intro ?_ ?_ | exact trivial | exact rfl))))
      all_goals first | exact Nat.le_refl _ | omega
    rintro _ _ _ ⟨rfl, rfl, rfl⟩
    repeat' (first | refine Both.mk ?_ ?_ | refine And.intro (by first | (show (_ : Bool) = true; kernel_rfl) | omega | (dsimp only; omega) | decide | (repeat' (first | refine And.intro ?_ ?_ | exact trivial | exact rfl))) ?_ | refine bcs_dec (fun h => ?_) (fun h => False.elim (by first | omega | exact h rfl)) | refine bcs_dec (fun h => False.elim (by omega)) (fun h => ?_) | refine bcs_dec (fun h => ?_) (fun h => ?_) | refine bcs_ndec (fun h => ?_) (fun h => ?_) | refine bcs_not ?_ | refine And.intro ?_ ?_)
    refine ret_plain ?_
    exact rfl
  · obtain ⟨a1, a2⟩ := mgTxt_bad he
    rw [errV_n he, a2] at c1
    obtain ⟨u, hu⟩ : ∃ u, u = mgTxt s [] b m b wkL 1 := ⟨_, rfl⟩
    rw [← hu] at c1 a1
    clear hu he a2 hl c2 c3 cJ
    refine spec_intro (tab := tab) (N := 99) Tryd.func6 rfl rfl tab_ok mix rfl rfl _ rfl ?_
    intro B hG
    repeat' (first | refine Both.mk ?_ ?_ | refine And.intro (by first | (show (_ : Bool) = true; kernel_rfl) | omega | (dsimp only; omega) | decide | (repeat' (first | refine And.intro ?_ ?_ | exact trivial | exact rfl))) ?_ | refine bcs_dec (fun h => ?_) (fun h => False.elim (by first | omega | exact h rfl)) | refine bcs_dec (fun h => False.elim (by omega)) (fun h => ?_) | refine bcs_dec (fun h => ?_) (fun h => ?_) | refine bcs_ndec (fun h => ?_) (fun h => ?_) | refine bcs_not ?_ | refine And.intro ?_ ?_)
    refine call_rule [.at 0 0, .nil 4, .at 1 0, .at 2 0, .at 1 0, .at 3 0] c1 hG ?_ ?_
    · (refine ⟨?_, ?_, rfl, rfl, rfl⟩ <;> repeat' (first | refine And.intro ?_ ?_ | exact trivial | exact rfl | refine lt0 | refine lt1 ?_ | refine lt2 ?_ ?_ | refine lt3 ?_ ?_ ?_ | refine lt4 ?_ ?_ ?_ ?_ | exact veq_refl _ | decide))
      all_goals first | exact Nat.le_refl _ | omega | (first | exact rfl | exact veq_refl _ | (intro i hi; first | (obtain rfl : i = 0 := (by omega); exact rfl) | (rcases (show i = 0 ∨ i = 1 ∨ i = 2 by omega) with rfl | rfl | rfl <;> exact rfl) | (repeat' (first | refine And.intro ?_ ?_ | exact trivial | exact rfl))) | skip)
    rintro _ _ _ ⟨rfl, rfl, rfl⟩
    repeat' (first | refine Both.mk ?_ ?_ | refine And.intro (by first | (show (_ : Bool) = true; kernel_rfl) | omega | (dsimp only; omega) | decide | (repeat' (first | refine And.intro ?_ ?_ | exact trivial | exact rfl))) ?_ | refine bcs_dec (fun h => ?_) (fun h => False.elim (by first | omega | exact h rfl)) | refine bcs_dec (fun h => False.elim (by omega)) (fun h => ?_) | refine bcs_dec (fun h => ?_) (fun h => ?_) | refine bcs_ndec (fun h => ?_) (fun h => ?_) | refine bcs_not ?_ | refine And.intro ?_ ?_)
    all_goals first
      | omega
      | skip
    refine bcs_t (one_of a1 rfl) ?_
    repeat' (first | refine Both.mk ?_ ?_ | refine And.intro (by first | (show (_ : Bool) = true; kernel_rfl) | omega | (dsimp only; omega) | decide | (repeat' (first | refine And.intro ?_ ?_ | exact trivial | exact rfl))) ?_ | refine bcs_dec (fun h => ?_) (fun h => False.elim (by first | omega | exact h rfl)) | refine bcs_dec (fun h => False.elim (by omega)) (fun h => ?_) | refine bcs_dec (fun h => ?_) (fun h => ?_) | refine bcs_ndec (fun h => ?_) (fun h => ?_) | refine bcs_not ?_ | refine And.intro ?_ ?_)
    refine call_rule [] (works_con) hG ?_ ?_
    · (refine ⟨?_, ?_, rfl, rfl, rfl⟩ <;> repeat' (first | refine And.intro ?_ ?_ | exact trivial | exact rfl | refine lt0 | refine lt1 ?_ | refine lt2 ?_ ?_ | refine lt3 ?_ ?_ ?_ | refine lt4 ?_ ?_ ?_ ?_ | exact veq_refl _ | decide | (intro i hi; repeat' (first | refine And.intro ?_ ?_ | exact trivial | exact rfl))))
      all_goals first | exact Nat.le_refl _ | omega
    rintro _ _ _ ⟨rfl, rfl, rfl⟩
    repeat' (first | refine Both.mk ?_ ?_ | refine And.intro (by first | (show (_ : Bool) = true; kernel_rfl) | omega | (dsimp only; omega) | decide | (repeat' (first | refine And.intro ?_ ?_ | exact trivial | exact rfl))) ?_ | refine bcs_dec (fun h => ?_) (fun h => False.elim (by first | omega | exact h rfl)) | refine bcs_dec (fun h => False.elim (by omega)) (fun h => ?_) | refine bcs_dec (fun h => ?_) (fun h => ?_) | refine bcs_ndec (fun h => ?_) (fun h => ?_) | refine bcs_not ?_ | refine And.intro ?_ ?_)
    refine ret_plain ?_
    exact rfl
end Go.Proofs.YtlmjkphiicmclaaDoor
