/- Chapter 18: changes that do not meet never conflict: the statement walked. Printed by gen_n12.py. -/
import Derived.Test.YtlmjkphiicmclaaDoorN3
import Derived.Test.YtlmjkphiicmclaaDoorN4
import Derived.Test.YtlmjkphiicmclaaDoorTA
import Derived.Test.YtlmjkphiicmclaaDoorWB
import Derived.Test.YtlmjkphiicmclaaDoorM9
namespace Go.Proofs.YtlmjkphiicmclaaDoor
open Go Go.RowKit Vc

/-- An append of a piece of a list. -/
theorem appL {α : Type} (enc : α → List SV) (d : α) (out l : List α) {r L : List α} {n m i : Nat} {K : (Nat → List SV) → Prop} (hn : n = out.length) (hL : L = out ++ r) (hr : ∀ j, j < m → r.getD j d = l.getD (i + j) d) (hk : K fun j => enc (L.getD j d)) :
    ∃ f' : Nat → List SV, (∀ j, j < n → f' j = enc (out.getD j d)) ∧ (∀ j, j < m → f' (n + j) = enc (l.getD (i + j) d)) ∧ K f' := by
  subst hn hL
  exact ⟨_, fun j hj => by rw [getD_app1 hj], fun j hj => by rw [getD_app2, hr j hj], hk⟩
theorem seg_rowL (L : List Byt) {i j : Int} (h1 : 0 ≤ i) : ∀ k, k < j.toNat - i.toNat → (segL L i j).getD k [] = L.getD (0 + i.toNat + k) [] := fun k hk => by
  rw [seg_get L h1 (by omega)]
  congr 1
  omega
theorem ap_gx {b m y : List Byt} {p q : List Chg} {i k : Nat} {z : Int} {out : List Byt} (h : apI b m y p q i k z out) (hi : i < p.length) : i + 1 < p.length → (p.getD i Chg.d).A + (p.getD i Chg.d).N < (p.getD (i + 1) Chg.d).A := fun h1 => by
  obtain ⟨mx, my, K, _, _, _, _, _, g, _⟩ := h
  rw [drop_get Chg.d p i hi, drop_get Chg.d p (i + 1) h1] at g
  exact g.1
theorem ap_gy {b m y : List Byt} {p q : List Chg} {i k : Nat} {z : Int} {out : List Byt} (h : apI b m y p q i k z out) (hk : k < q.length) : k + 1 < q.length → (q.getD k Chg.d).A + (q.getD k Chg.d).N < (q.getD (k + 1) Chg.d).A := fun h1 => by
  obtain ⟨mx, my, K, _, _, _, _, _, _, g, _⟩ := h
  rw [drop_get Chg.d q k hk, drop_get Chg.d q (k + 1) h1] at g
  exact g.1
def rnF (s : List Chg) (n m : Int) : List Chg := if validE s n m = 0 then normF s else []
theorem rNorm_con (s : List Chg) (n m : Int) (hs : s.length ≤ 9223372036854775807 - 1) : Con Tryd.prog glob 20 [.s 0 0 s.length, .v (.int .i64 n), .v (.int .i64 m)] [(0, chRo s)] 1
    (retM (.t [.o 1, .v (.int .i64 (validE s n m))]) [(1, chOwn (rnF s n m))] 2) := by
  unfold rnF
  by_cases h : validE s n m = 0
  · rw [if_pos h]
    rw [h]
    exact rNormal_good hs h
  · rw [if_neg h]
    exact rNormal_no hs h
set_option maxRecDepth 100000 in
set_option maxHeartbeats 16000000 in
theorem apart_bad (s t : List Chg) (b m y lab : List Byt) (fmt : Int) (H : JobSm s t b m y lab) (hc : validE s b.length m.length ≠ 0 ∨ validE t b.length y.length ≠ 0 ∨ mgErr s t b m y lab fmt ≠ 0) :
    Con Tryd.prog glob 9 [.a [.s 0 0 s.length, .s 1 0 t.length, .s 2 0 b.length, .s 3 0 m.length, .s 4 0 y.length, .s 5 0 lab.length, .v (.int .i64 fmt)]] [(0, chRo s), (1, chRo t), (2, stRo b), (3, stRo m), (4, stRo y), (5, stRo lab)] 6 (retV 6 (.v (.bool true))) := by
  have cM := merged_con s t b m y lab fmt H
  have cS := rNorm_con s b.length m.length (by have := H.ok.hs; omega)
  have cT := rNorm_con t b.length y.length (by have := H.ok.ht; omega)
  obtain ⟨u, hu⟩ : ∃ u, u = mgTxt s t b m y lab fmt := ⟨_, rfl⟩
  obtain ⟨n, hn⟩ : ∃ k, k = mgCl s t b m y lab fmt := ⟨_, rfl⟩
  obtain ⟨e, he⟩ : ∃ k, k = mgErr s t b m y lab fmt := ⟨_, rfl⟩
  obtain ⟨es, hes⟩ : ∃ k, k = validE s b.length m.length := ⟨_, rfl⟩
  obtain ⟨et, het⟩ : ∃ k, k = validE t b.length y.length := ⟨_, rfl⟩
  obtain ⟨p, hp⟩ : ∃ p, p = rnF s b.length m.length := ⟨_, rfl⟩
  obtain ⟨q, hq⟩ : ∃ q, q = rnF t b.length y.length := ⟨_, rfl⟩
  rw [← hu, ← hn, ← he] at cM
  rw [← hes, ← hp] at cS
  rw [← het, ← hq] at cT
  rw [← hes, ← het, ← he] at hc
  clear hu hn he hes het hp hq H
  by_cases h0 : e = 0
  · rw [errV_0 h0] at cM
    refine spec_intro (tab := tab) (N := 199) Tryd.func9 rfl rfl tab_ok mix rfl rfl _ rfl ?_
    intro B hG
    repeat' (first | refine And.intro (by first | (show (_ : Bool) = true; kernel_rfl) | omega | (dsimp only; omega) | decide | (repeat' (first | refine And.intro ?_ ?_ | exact trivial | exact rfl))) ?_ | refine bcs_dec (fun h => ?_) (fun h => False.elim (by first | omega | exact h rfl)) | refine bcs_dec (fun h => False.elim (by omega)) (fun h => ?_) | refine bcs_dec (fun h => ?_) (fun h => ?_) | refine bcs_ndec (fun h => ?_) (fun h => ?_) | refine bcs_not ?_ | refine bcs_intro (fun h => ?_) (fun h => ?_) | refine And.intro ?_ ?_ | refine reg_tail (by kernel_rfl) ?_)
    refine call_rule [.at 0 0] (cS) hG ?_ ?_
    · (refine ⟨?_, ?_, rfl, rfl, rfl⟩ <;> repeat' (first | refine And.intro ?_ ?_ | exact trivial | exact rfl | refine lt0 | refine lt1 ?_ | refine lt2 ?_ ?_ | refine lt3 ?_ ?_ ?_ | refine lt4 ?_ ?_ ?_ ?_ | exact veq_refl _ | decide | (intro i hi; repeat' (first | refine And.intro ?_ ?_ | exact trivial | exact rfl))))
      all_goals first | exact Nat.le_refl _ | omega
    rintro _ _ _ ⟨rfl, rfl, rfl⟩
    repeat' (first | refine And.intro (by first | (show (_ : Bool) = true; kernel_rfl) | omega | (dsimp only; omega) | decide | (repeat' (first | refine And.intro ?_ ?_ | exact trivial | exact rfl))) ?_ | refine bcs_dec (fun h => ?_) (fun h => False.elim (by first | omega | exact h rfl)) | refine bcs_dec (fun h => False.elim (by omega)) (fun h => ?_) | refine bcs_dec (fun h => ?_) (fun h => ?_) | refine bcs_ndec (fun h => ?_) (fun h => ?_) | refine bcs_not ?_ | refine bcs_intro (fun h => ?_) (fun h => ?_) | refine And.intro ?_ ?_ | refine reg_tail (by kernel_rfl) ?_)
    refine call_rule [.at 1 0] (cT) hG ?_ ?_
    · (refine ⟨?_, ?_, rfl, rfl, rfl⟩ <;> repeat' (first | refine And.intro ?_ ?_ | exact trivial | exact rfl | refine lt0 | refine lt1 ?_ | refine lt2 ?_ ?_ | refine lt3 ?_ ?_ ?_ | refine lt4 ?_ ?_ ?_ ?_ | exact veq_refl _ | decide | (intro i hi; repeat' (first | refine And.intro ?_ ?_ | exact trivial | exact rfl))))
      all_goals first | exact Nat.le_refl _ | omega
    rintro _ _ _ ⟨rfl, rfl, rfl⟩
    repeat' (first | refine And.intro (by first | (show (_ : Bool) = true; kernel_rfl) | omega | (dsimp only; omega) | decide | (repeat' (first | refine And.intro ?_ ?_ | exact trivial | exact rfl))) ?_ | refine bcs_dec (fun h => ?_) (fun h => False.elim (by first | omega | exact h rfl)) | refine bcs_dec (fun h => False.elim (by omega)) (fun h => ?_) | refine bcs_dec (fun h => ?_) (fun h => ?_) | refine bcs_ndec (fun h => ?_) (fun h => ?_) | refine bcs_not ?_ | refine bcs_intro (fun h => ?_) (fun h => ?_) | refine And.intro ?_ ?_ | refine reg_tail (by kernel_rfl) ?_)
    refine call_rule [.at 0 0, .at 1 0, .at 2 0, .at 3 0, .at 4 0, .at 5 0] (cM) hG ?_ ?_
    · (refine ⟨?_, ?_, rfl, rfl, rfl⟩ <;> repeat' (first | refine And.intro ?_ ?_ | exact trivial | exact rfl | refine lt0 | refine lt1 ?_ | refine lt2 ?_ ?_ | refine lt3 ?_ ?_ ?_ | refine lt4 ?_ ?_ ?_ ?_ | exact veq_refl _ | decide | (intro i hi; repeat' (first | refine And.intro ?_ ?_ | exact trivial | exact rfl))))
      all_goals first | exact Nat.le_refl _ | omega
    rintro _ _ _ ⟨rfl, rfl, rfl⟩
    repeat' (first | refine And.intro (by first | (show (_ : Bool) = true; kernel_rfl) | omega | (dsimp only; omega) | decide | (repeat' (first | refine And.intro ?_ ?_ | exact trivial | exact rfl))) ?_ | refine bcs_dec (fun h => ?_) (fun h => False.elim (by first | omega | exact h rfl)) | refine bcs_dec (fun h => False.elim (by omega)) (fun h => ?_) | refine bcs_dec (fun h => ?_) (fun h => ?_) | refine bcs_ndec (fun h => ?_) (fun h => ?_) | refine bcs_not ?_ | refine bcs_intro (fun h => ?_) (fun h => ?_) | refine And.intro ?_ ?_ | refine reg_tail (by kernel_rfl) ?_)
    all_goals first
      | omega
      | (skip
         refine call_rule [] (works_con) hG ?_ ?_
         · (refine ⟨?_, ?_, rfl, rfl, rfl⟩ <;> repeat' (first | refine And.intro ?_ ?_ | exact trivial | exact rfl | refine lt0 | refine lt1 ?_ | refine lt2 ?_ ?_ | refine lt3 ?_ ?_ ?_ | refine lt4 ?_ ?_ ?_ ?_ | exact veq_refl _ | decide | (intro i hi; repeat' (first | refine And.intro ?_ ?_ | exact trivial | exact rfl))))
           all_goals first | exact Nat.le_refl _ | omega
         rintro _ _ _ ⟨rfl, rfl, rfl⟩
         repeat' (first | refine And.intro (by first | (show (_ : Bool) = true; kernel_rfl) | omega | (dsimp only; omega) | decide | (repeat' (first | refine And.intro ?_ ?_ | exact trivial | exact rfl))) ?_ | refine bcs_dec (fun h => ?_) (fun h => False.elim (by first | omega | exact h rfl)) | refine bcs_dec (fun h => False.elim (by omega)) (fun h => ?_) | refine bcs_dec (fun h => ?_) (fun h => ?_) | refine bcs_ndec (fun h => ?_) (fun h => ?_) | refine bcs_not ?_ | refine bcs_intro (fun h => ?_) (fun h => ?_) | refine And.intro ?_ ?_ | refine reg_tail (by kernel_rfl) ?_)
         refine ret_plain ?_
         exact rfl)
  · rw [errV_n h0] at cM
    refine spec_intro (tab := tab) (N := 199) Tryd.func9 rfl rfl tab_ok mix rfl rfl _ rfl ?_
    intro B hG
    repeat' (first | refine And.intro (by first | (show (_ : Bool) = true; kernel_rfl) | omega | (dsimp only; omega) | decide | (repeat' (first | refine And.intro ?_ ?_ | exact trivial | exact rfl))) ?_ | refine bcs_dec (fun h => ?_) (fun h => False.elim (by first | omega | exact h rfl)) | refine bcs_dec (fun h => False.elim (by omega)) (fun h => ?_) | refine bcs_dec (fun h => ?_) (fun h => ?_) | refine bcs_ndec (fun h => ?_) (fun h => ?_) | refine bcs_not ?_ | refine bcs_intro (fun h => ?_) (fun h => ?_) | refine And.intro ?_ ?_ | refine reg_tail (by kernel_rfl) ?_)
    refine call_rule [.at 0 0] (cS) hG ?_ ?_
    · (refine ⟨?_, ?_, rfl, rfl, rfl⟩ <;> repeat' (first | refine And.intro ?_ ?_ | exact trivial | exact rfl | refine lt0 | refine lt1 ?_ | refine lt2 ?_ ?_ | refine lt3 ?_ ?_ ?_ | refine lt4 ?_ ?_ ?_ ?_ | exact veq_refl _ | decide | (intro i hi; repeat' (first | refine And.intro ?_ ?_ | exact trivial | exact rfl))))
      all_goals first | exact Nat.le_refl _ | omega
    rintro _ _ _ ⟨rfl, rfl, rfl⟩
    repeat' (first | refine And.intro (by first | (show (_ : Bool) = true; kernel_rfl) | omega | (dsimp only; omega) | decide | (repeat' (first | refine And.intro ?_ ?_ | exact trivial | exact rfl))) ?_ | refine bcs_dec (fun h => ?_) (fun h => False.elim (by first | omega | exact h rfl)) | refine bcs_dec (fun h => False.elim (by omega)) (fun h => ?_) | refine bcs_dec (fun h => ?_) (fun h => ?_) | refine bcs_ndec (fun h => ?_) (fun h => ?_) | refine bcs_not ?_ | refine bcs_intro (fun h => ?_) (fun h => ?_) | refine And.intro ?_ ?_ | refine reg_tail (by kernel_rfl) ?_)
    refine call_rule [.at 1 0] (cT) hG ?_ ?_
    · (refine ⟨?_, ?_, rfl, rfl, rfl⟩ <;> repeat' (first | refine And.intro ?_ ?_ | exact trivial | exact rfl | refine lt0 | refine lt1 ?_ | refine lt2 ?_ ?_ | refine lt3 ?_ ?_ ?_ | refine lt4 ?_ ?_ ?_ ?_ | exact veq_refl _ | decide | (intro i hi; repeat' (first | refine And.intro ?_ ?_ | exact trivial | exact rfl))))
      all_goals first | exact Nat.le_refl _ | omega
    rintro _ _ _ ⟨rfl, rfl, rfl⟩
    repeat' (first | refine And.intro (by first | (show (_ : Bool) = true; kernel_rfl) | omega | (dsimp only; omega) | decide | (repeat' (first | refine And.intro ?_ ?_ | exact trivial | exact rfl))) ?_ | refine bcs_dec (fun h => ?_) (fun h => False.elim (by first | omega | exact h rfl)) | refine bcs_dec (fun h => False.elim (by omega)) (fun h => ?_) | refine bcs_dec (fun h => ?_) (fun h => ?_) | refine bcs_ndec (fun h => ?_) (fun h => ?_) | refine bcs_not ?_ | refine bcs_intro (fun h => ?_) (fun h => ?_) | refine And.intro ?_ ?_ | refine reg_tail (by kernel_rfl) ?_)
    refine call_rule [.at 0 0, .at 1 0, .at 2 0, .at 3 0, .at 4 0, .at 5 0] (cM) hG ?_ ?_
    · (refine ⟨?_, ?_, rfl, rfl, rfl⟩ <;> repeat' (first | refine And.intro ?_ ?_ | exact trivial | exact rfl | refine lt0 | refine lt1 ?_ | refine lt2 ?_ ?_ | refine lt3 ?_ ?_ ?_ | refine lt4 ?_ ?_ ?_ ?_ | exact veq_refl _ | decide | (intro i hi; repeat' (first | refine And.intro ?_ ?_ | exact trivial | exact rfl))))
      all_goals first | exact Nat.le_refl _ | omega
    rintro _ _ _ ⟨rfl, rfl, rfl⟩
    repeat' (first | refine And.intro (by first | (show (_ : Bool) = true; kernel_rfl) | omega | (dsimp only; omega) | decide | (repeat' (first | refine And.intro ?_ ?_ | exact trivial | exact rfl))) ?_ | refine bcs_dec (fun h => ?_) (fun h => False.elim (by first | omega | exact h rfl)) | refine bcs_dec (fun h => False.elim (by omega)) (fun h => ?_) | refine bcs_dec (fun h => ?_) (fun h => ?_) | refine bcs_ndec (fun h => ?_) (fun h => ?_) | refine bcs_not ?_ | refine bcs_intro (fun h => ?_) (fun h => ?_) | refine And.intro ?_ ?_ | refine reg_tail (by kernel_rfl) ?_)
    all_goals first
      | omega
      | (skip
         refine call_rule [] (works_con) hG ?_ ?_
         · (refine ⟨?_, ?_, rfl, rfl, rfl⟩ <;> repeat' (first | refine And.intro ?_ ?_ | exact trivial | exact rfl | refine lt0 | refine lt1 ?_ | refine lt2 ?_ ?_ | refine lt3 ?_ ?_ ?_ | refine lt4 ?_ ?_ ?_ ?_ | exact veq_refl _ | decide | (intro i hi; repeat' (first | refine And.intro ?_ ?_ | exact trivial | exact rfl))))
           all_goals first | exact Nat.le_refl _ | omega
         rintro _ _ _ ⟨rfl, rfl, rfl⟩
         repeat' (first | refine And.intro (by first | (show (_ : Bool) = true; kernel_rfl) | omega | (dsimp only; omega) | decide | (repeat' (first | refine And.intro ?_ ?_ | exact trivial | exact rfl))) ?_ | refine bcs_dec (fun h => ?_) (fun h => False.elim (by first | omega | exact h rfl)) | refine bcs_dec (fun h => False.elim (by omega)) (fun h => ?_) | refine bcs_dec (fun h => ?_) (fun h => ?_) | refine bcs_ndec (fun h => ?_) (fun h => ?_) | refine bcs_not ?_ | refine bcs_intro (fun h => ?_) (fun h => ?_) | refine And.intro ?_ ?_ | refine reg_tail (by kernel_rfl) ?_)
         refine ret_plain ?_
         exact rfl)
/-- Where the statement stands ahead of each change. -/
def apSt (s t p q : List Chg) (b m y lab : List Byt) (fmt n : Int) (u : Byt) : Nat × Nat × Int × List Byt → St := fun (i, k, z, out) => ⟨[(1, .p 6 0 0), (3, .s 7 0 p.length), (5, .s 8 0 q.length), (7, str u), (8, .v (.int .i64 n)), (10, .o 9), (11, .v (.int .i64 z)), (12, .v (.int .i64 i)), (13, .v (.int .i64 k))], [(0, chRo s), (1, chRo t), (2, stRo b), (3, stRo m), (4, stRo y), (5, stRo lab), (6, .box 25 [.s 0 0 s.length, .s 1 0 t.length, .s 2 0 b.length, .s 3 0 m.length, .s 4 0 y.length, .s 5 0 lab.length, .v (.int .i64 fmt)]), (7, chRo p), (8, chRo q), (9, stOwn out)], 10⟩
end Go.Proofs.YtlmjkphiicmclaaDoor
