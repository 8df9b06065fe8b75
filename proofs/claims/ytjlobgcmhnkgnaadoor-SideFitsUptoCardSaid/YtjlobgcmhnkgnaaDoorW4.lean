/- Chapter 15: two lists of strings held against each other. -/
import Derived.Test.YtjlobgcmhnkgnaaDoorW3
namespace Go.Proofs.YtjlobgcmhnkgnaaDoor
open Go Go.RowKit Vc

set_option maxRecDepth 100000 in
set_option maxHeartbeats 4000000 in
theorem same_con {L : List Byt} (hL : L.length ≤ 9223372036854775807) : Con Tryd.prog glob 31 [.s 0 0 L.length, .s 1 0 L.length] [(0, stRo L), (1, stRo L)] 2 (retV 2 (.v (.bool true))) := by
  refine spec_intro (tab := tab) (N := 26) Tryd.func31 rfl rfl tab_ok mix rfl rfl _ rfl ?_
  intro B hG
  repeat' (first | refine And.intro (by first | omega | (dsimp only; omega) | (show (_ : Bool) = true; kernel_rfl) | decide | (repeat' (first | refine And.intro ?_ ?_ | exact trivial | exact rfl))) ?_ | refine bcs_dec (fun h => ?_) (fun h => ?_) | refine bcs_ndec (fun h => ?_) (fun h => ?_) | refine bcs_not ?_ | refine bcs_intro (fun h => ?_) (fun h => ?_) | refine And.intro ?_ ?_ | refine reg_tail (by kernel_rfl) ?_)
  · exact absurd rfl h
  refine loop_rule (α := Nat) (fun k => ⟨[(0, .s 0 0 L.length), (1, .s 1 0 L.length), (5, .v (.int .i64 k))], [(0, stRo L), (1, stRo L)], 2⟩)
    (fun k => k ≤ L.length) (fun k => L.length - k) 0 [] ?_ ?_ ?_
  · simp
  · (refine ⟨rfl, rfl, ?_, ?_⟩ <;> repeat' (first | refine And.intro ?_ ?_ | exact trivial | exact rfl | refine lt0 | refine lt1 ?_ | refine lt2 ?_ ?_ | refine lt3 ?_ ?_ ?_ | refine lt4 ?_ ?_ ?_ ?_ | exact veq_refl _ | decide | (intro i hi; repeat' (first | refine And.intro ?_ ?_ | exact trivial | exact rfl))))
    all_goals exact Nat.le_refl _
  rintro k h1
  repeat' (first | refine And.intro (by first | omega | (dsimp only; omega) | (show (_ : Bool) = true; kernel_rfl) | decide | (repeat' (first | refine And.intro ?_ ?_ | exact trivial | exact rfl))) ?_ | refine bcs_dec (fun h => ?_) (fun h => ?_) | refine bcs_ndec (fun h => ?_) (fun h => ?_) | refine bcs_not ?_ | refine bcs_intro (fun h => ?_) (fun h => ?_) | refine And.intro ?_ ?_ | refine reg_tail (by kernel_rfl) ?_)
  · refine ⟨k + 1, [], ?_, ?_, ?_⟩
    · show k + 1 ≤ L.length
      omega
    · show L.length - (k + 1) < L.length - k
      omega
    · (refine ⟨rfl, rfl, ?_, ?_⟩ <;> repeat' (first | refine And.intro ?_ ?_ | exact trivial | exact rfl | refine lt0 | refine lt1 ?_ | refine lt2 ?_ ?_ | refine lt3 ?_ ?_ ?_ | refine lt4 ?_ ?_ ?_ ?_ | exact veq_refl _ | decide | (intro i hi; repeat' (first | refine And.intro ?_ ?_ | exact trivial | exact rfl))))
      all_goals exact Nat.le_refl _
  · exfalso
    rw [bs_eq] at h
    simp at h
  · refine ret_plain ?_
    exact rfl

theorem bcs_t {b : Bool} {p q : Prop} (h : b = true) (k : p) : bcs b p q := by subst h; exact k
theorem one_of {x u : Byt} {w : ByteArray} (hu : u = x) (hv : w = bs x) : ((bs u).toList == w.toList) = true := by subst hu hv; exact seq u
end Go.Proofs.YtjlobgcmhnkgnaaDoor
