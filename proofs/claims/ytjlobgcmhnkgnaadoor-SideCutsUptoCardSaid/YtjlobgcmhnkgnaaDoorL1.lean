/- Chapter 15: what must come whatever the input is, walked. -/
import Derived.Test.YtjlobgcmhnkgnaaDoorI2
import Derived.Test.YtjlobgcmhnkgnaaDoorW4
namespace Go.Proofs.YtjlobgcmhnkgnaaDoor
open Go Go.RowKit Vc

abbrev M7 : List Byt := [[97, 49], [32], [61], [32], [98], [59], [10]]
set_option maxRecDepth 100000 in
set_option maxHeartbeats 8000000 in
theorem wordy_con : Con Tryd.prog glob 11 [] [] 0 (retV 0 (.v (.bool true))) := by
  obtain ⟨T, hT⟩ : ∃ T : Byt, T = [97, 91, 45, 120, 45, 93, 123, 43, 121, 43, 125, 98] := ⟨_, rfl⟩
  have c1 : Con Tryd.prog glob 30 [str [97, 49, 32, 61, 32, 98, 59, 10]] [] 0 (retM (.o 0) [(0, stOwn M7)] 1) := by
    have h := words_con [97, 49, 32, 61, 32, 98, 59, 10] (by decide)
    rw [show wordsF [97, 49, 32, 61, 32, 98, 59, 10] = M7 by decide] at h
    exact h
  have c2 : Con Tryd.prog glob 8 [.s 0 0 1, .s 1 0 3, .s 2 0 3] [(0, chRo [⟨1, 1, 1, 1⟩]), (1, stRo [[97], [120], [98]]), (2, stRo [[97], [121], [98]])] 3 (retV 3 (.t [str T, .v .nilIface])) := by
    have h := inline_ok [⟨1, 1, 1, 1⟩] [⟨1, 1, 1, 1⟩] [[97], [120], [98]] [[97], [121], [98]] (by decide) (by decide)
      (normal_ok (s := [⟨1, 1, 1, 1⟩]) (n := 3) (m := 3) (by decide) (by decide)) (by decide) (by decide) (by decide)
    rw [show inlF [[97], [120], [98]] [[97], [121], [98]] [⟨1, 1, 1, 1⟩] 0 = T by rw [hT]; decide] at h
    exact h
  have c3 : Con Tryd.prog glob 31 [.s 0 0 7, .s 1 0 7] [(0, stRo M7), (1, stRo M7)] 2 (retV 2 (.v (.bool true))) := same_con (L := M7) (by decide)
  refine spec_intro (tab := tab) (N := 24) Tryd.func11 rfl rfl tab_ok mix rfl rfl _ rfl ?_
  intro B hG
  repeat' (first | refine And.intro (by first | omega | (dsimp only; omega) | (show (_ : Bool) = true; kernel_rfl) | (simp; done) | decide | (repeat' (first | refine And.intro ?_ ?_ | exact trivial | exact rfl | (simp; done)))) ?_ | refine bcs_dec (fun h => ?_) (fun h => False.elim (by first | omega | exact h rfl)) | refine bcs_dec (fun h => False.elim (by omega)) (fun h => ?_) | refine bcs_dec (fun h => ?_) (fun h => ?_) | refine bcs_ndec (fun h => ?_) (fun h => ?_) | refine bcs_not ?_ | refine And.intro ?_ ?_ | refine reg_tail (by kernel_rfl) ?_)
  refine call_rule [] (c1) hG ?_ ?_
  · (refine ⟨?_, ?_, rfl, rfl, rfl⟩ <;> repeat' (first | refine And.intro ?_ ?_ | exact trivial | exact rfl | refine lt0 | refine lt1 ?_ | refine lt2 ?_ ?_ | refine lt3 ?_ ?_ ?_ | refine lt4 ?_ ?_ ?_ ?_ | exact veq_refl _ | decide | (intro i hi; repeat' (first | refine And.intro ?_ ?_ | exact trivial | exact rfl))))
    all_goals first | exact Nat.le_refl _ | omega
  rintro _ _ _ ⟨rfl, rfl, rfl⟩
  repeat' (first | refine And.intro (by first | omega | (dsimp only; omega) | (show (_ : Bool) = true; kernel_rfl) | (simp; done) | decide | (repeat' (first | refine And.intro ?_ ?_ | exact trivial | exact rfl | (simp; done)))) ?_ | refine bcs_dec (fun h => ?_) (fun h => False.elim (by first | omega | exact h rfl)) | refine bcs_dec (fun h => False.elim (by omega)) (fun h => ?_) | refine bcs_dec (fun h => ?_) (fun h => ?_) | refine bcs_ndec (fun h => ?_) (fun h => ?_) | refine bcs_not ?_ | refine And.intro ?_ ?_ | refine reg_tail (by kernel_rfl) ?_)
  refine call_rule [.at 1 0, .at 2 0, .at 3 0] c2 hG ?_ ?_
  · (refine ⟨?_, ?_, rfl, rfl, rfl⟩ <;> repeat' (first | refine And.intro ?_ ?_ | exact trivial | exact rfl | refine lt0 | refine lt1 ?_ | refine lt2 ?_ ?_ | refine lt3 ?_ ?_ ?_ | refine lt4 ?_ ?_ ?_ ?_ | exact veq_refl _ | decide | (intro i hi; repeat' (first | refine And.intro ?_ ?_ | exact trivial | exact rfl))))
    all_goals first | exact Nat.le_refl _ | omega
    all_goals first
      | (rcases i with _ | i
         · repeat' (first | refine And.intro ?_ ?_ | exact trivial)
           all_goals exact rfl
         · exact absurd hi (by simp))
      | (rcases i with _ | _ | _ | i
         · repeat' (first | refine And.intro ?_ ?_ | exact trivial)
           all_goals exact rfl
         · repeat' (first | refine And.intro ?_ ?_ | exact trivial)
           all_goals exact rfl
         · repeat' (first | refine And.intro ?_ ?_ | exact trivial)
           all_goals exact rfl
         · have hi : i + 3 < 3 := hi
           omega)
  rintro _ _ _ ⟨rfl, rfl, rfl⟩
  repeat' (first | refine And.intro (by first | omega | (dsimp only; omega) | (show (_ : Bool) = true; kernel_rfl) | (simp; done) | decide | (repeat' (first | refine And.intro ?_ ?_ | exact trivial | exact rfl | (simp; done)))) ?_ | refine bcs_dec (fun h => ?_) (fun h => False.elim (by first | omega | exact h rfl)) | refine bcs_dec (fun h => False.elim (by omega)) (fun h => ?_) | refine bcs_dec (fun h => ?_) (fun h => ?_) | refine bcs_ndec (fun h => ?_) (fun h => ?_) | refine bcs_not ?_ | refine And.intro ?_ ?_ | refine reg_tail (by kernel_rfl) ?_)
  refine call_rule [.at 0 0, .at 4 0] c3 hG ?_ ?_
  · (refine ⟨?_, ?_, rfl, rfl, rfl⟩ <;> repeat' (first | refine And.intro ?_ ?_ | exact trivial | exact rfl | refine lt0 | refine lt1 ?_ | refine lt2 ?_ ?_ | refine lt3 ?_ ?_ ?_ | refine lt4 ?_ ?_ ?_ ?_ | exact veq_refl _ | decide | (intro i hi; repeat' (first | refine And.intro ?_ ?_ | exact trivial | exact rfl))))
    all_goals first | exact Nat.le_refl _ | omega | skip
    rcases i with _ | _ | _ | _ | _ | _ | _ | i
    all_goals first
      | (have hi : i + 7 < 7 := hi
         omega)
      | (repeat' (first | refine And.intro ?_ ?_ | exact trivial)
         all_goals exact rfl)
  rintro _ _ _ ⟨rfl, rfl, rfl⟩
  repeat' (first | refine And.intro (by first | omega | (dsimp only; omega) | (show (_ : Bool) = true; kernel_rfl) | (simp; done) | decide | (repeat' (first | refine And.intro ?_ ?_ | exact trivial | exact rfl | (simp; done)))) ?_ | refine bcs_dec (fun h => ?_) (fun h => False.elim (by first | omega | exact h rfl)) | refine bcs_dec (fun h => False.elim (by omega)) (fun h => ?_) | refine bcs_dec (fun h => ?_) (fun h => ?_) | refine bcs_ndec (fun h => ?_) (fun h => ?_) | refine bcs_not ?_ | refine And.intro ?_ ?_ | refine reg_tail (by kernel_rfl) ?_)
  refine bcs_t (one_of hT rfl) ?_
  repeat' (first | refine And.intro (by first | omega | (dsimp only; omega) | (show (_ : Bool) = true; kernel_rfl) | (simp; done) | decide | (repeat' (first | refine And.intro ?_ ?_ | exact trivial | exact rfl | (simp; done)))) ?_ | refine bcs_dec (fun h => ?_) (fun h => False.elim (by first | omega | exact h rfl)) | refine bcs_dec (fun h => False.elim (by omega)) (fun h => ?_) | refine bcs_dec (fun h => ?_) (fun h => ?_) | refine bcs_ndec (fun h => ?_) (fun h => ?_) | refine bcs_not ?_ | refine And.intro ?_ ?_ | refine reg_tail (by kernel_rfl) ?_)
  refine ret_plain ?_
  exact rfl
end Go.Proofs.YtjlobgcmhnkgnaaDoor
