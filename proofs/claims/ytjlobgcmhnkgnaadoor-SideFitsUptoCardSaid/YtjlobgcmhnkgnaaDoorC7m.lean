/- Chapter 15: both columns: the program's walked, whole. Printed by gen_c7m.py. -/
import Derived.Test.YtjlobgcmhnkgnaaDoorC7
namespace Go.Proofs.YtjlobgcmhnkgnaaDoor
open Go Go.RowKit Vc
set_option maxRecDepth 100000 in
set_option maxHeartbeats 64000000 in
theorem print_ok (s L : List Chg) (a b : List Byt) (w hf d : Int) (hw1 : 7 ≤ w) (hw2 : w ≤ 4096) (hh : hf = (w - 3) / 2) (hd : d = (w - 3) / 2 + 3) (ha : a.flatten.length ≤ 4194304) (hb : b.flatten.length ≤ 4194304) (hal : a.length ≤ 4194304) (hbl : b.length ≤ 4194304)
    (cN : Con Tryd.prog glob 24 [.s 0 0 s.length, .v (.int .i64 a.length), .v (.int .i64 b.length)] [(0, chRo s)] 1 (retM (.t [.o 1, .v .nilIface]) [(1, chOwn L)] 2)) (hL : L.length ≤ 9223372036854775807)
    (hv : validF L 0 0 a.length b.length = 0) (va : validB a = true) (vb : validB b = true) :
    Con Tryd.prog glob 15 [.s 0 0 s.length, .s 1 0 a.length, .s 2 0 b.length, .v (.int .i64 w)] [(0, chRo s), (1, stRo a), (2, stRo b)] 3 (retV 3 (.t [str (prF a b hf d L 0 0), .v .nilIface])) := by
  have cC := columns_ok w hw1 hw2
  rw [← hd, ← hh] at cC
  have hax : ∀ x ∈ a, x.length ≤ 140737488355328 := fun x hx => by
    obtain ⟨i, hi, rfl⟩ := List.getElem_of_mem hx
    have := getD_flat a i
    rw [List.getD_eq_getElem?_getD, List.getElem?_eq_getElem hi] at this
    simp only [Option.getD_some] at this
    omega
  have hbx : ∀ x ∈ b, x.length ≤ 140737488355328 := fun x hx => by
    obtain ⟨i, hi, rfl⟩ := List.getElem_of_mem hx
    have := getD_flat b i
    rw [List.getD_eq_getElem?_getD, List.getElem?_eq_getElem hi] at this
    simp only [Option.getD_some] at this
    omega
  have cVa := lvalid_con a (by omega) hax
  have cVb := lvalid_con b (by omega) hbx
  rw [va] at cVa
  rw [vb] at cVb
  have hh1 : 2 ≤ hf := by omega
  have hh2 : hf ≤ 4096 := by omega
  have hd1 : 0 ≤ d := by omega
  have hd2 : d ≤ 8192 := by omega
  clear hax hbx hh hd
  obtain ⟨T, hT⟩ : ∃ T, T = prF a b hf d L 0 0 := ⟨_, rfl⟩
  rw [← hT]
  refine spec_intro (tab := tab) (N := 145) Tryd.func15 rfl rfl tab_ok mix rfl rfl _ rfl ?_
  intro B hG
  repeat' (first | refine And.intro (by first | omega | (dsimp only; omega) | (show (_ : Bool) = true; kernel_rfl) | decide | (repeat' (first | refine And.intro ?_ ?_ | exact trivial | exact rfl))) ?_ | refine bcs_dec (fun h => ?_) (fun h => False.elim (by first | omega | exact h rfl)) | refine bcs_dec (fun h => False.elim (by omega)) (fun h => ?_) | refine bcs_dec (fun h => ?_) (fun h => ?_) | refine bcs_ndec (fun h => ?_) (fun h => ?_) | refine bcs_not ?_ | refine bcs_intro (fun h => ?_) (fun h => ?_) | refine And.intro ?_ ?_ | refine reg_tail (by kernel_rfl) ?_)
  refine call_rule [] (cC) hG ?_ ?_
  · (refine ⟨?_, ?_, rfl, rfl, rfl⟩ <;> repeat' (first | refine And.intro ?_ ?_ | exact trivial | exact rfl | refine lt0 | refine lt1 ?_ | refine lt2 ?_ ?_ | refine lt3 ?_ ?_ ?_ | refine lt4 ?_ ?_ ?_ ?_ | exact veq_refl _ | decide | (intro i hi; repeat' (first | refine And.intro ?_ ?_ | exact trivial | exact rfl))))
    all_goals first | exact Nat.le_refl _ | omega
  rintro _ _ _ ⟨rfl, rfl, rfl⟩
  repeat' (first | refine And.intro (by first | omega | (dsimp only; omega) | (show (_ : Bool) = true; kernel_rfl) | decide | (repeat' (first | refine And.intro ?_ ?_ | exact trivial | exact rfl))) ?_ | refine bcs_dec (fun h => ?_) (fun h => False.elim (by first | omega | exact h rfl)) | refine bcs_dec (fun h => False.elim (by omega)) (fun h => ?_) | refine bcs_dec (fun h => ?_) (fun h => ?_) | refine bcs_ndec (fun h => ?_) (fun h => ?_) | refine bcs_not ?_ | refine bcs_intro (fun h => ?_) (fun h => ?_) | refine And.intro ?_ ?_ | refine reg_tail (by kernel_rfl) ?_)
  refine call_rule [.at 0 0] (cN) hG ?_ ?_
  · (refine ⟨?_, ?_, rfl, rfl, rfl⟩ <;> repeat' (first | refine And.intro ?_ ?_ | exact trivial | exact rfl | refine lt0 | refine lt1 ?_ | refine lt2 ?_ ?_ | refine lt3 ?_ ?_ ?_ | refine lt4 ?_ ?_ ?_ ?_ | exact veq_refl _ | decide | (intro i hi; repeat' (first | refine And.intro ?_ ?_ | exact trivial | exact rfl))))
    all_goals first | exact Nat.le_refl _ | omega
  rintro _ _ _ ⟨rfl, rfl, rfl⟩
  repeat' (first | refine And.intro (by first | omega | (dsimp only; omega) | (show (_ : Bool) = true; kernel_rfl) | decide | (repeat' (first | refine And.intro ?_ ?_ | exact trivial | exact rfl))) ?_ | refine bcs_dec (fun h => ?_) (fun h => False.elim (by first | omega | exact h rfl)) | refine bcs_dec (fun h => False.elim (by omega)) (fun h => ?_) | refine bcs_dec (fun h => ?_) (fun h => ?_) | refine bcs_ndec (fun h => ?_) (fun h => ?_) | refine bcs_not ?_ | refine bcs_intro (fun h => ?_) (fun h => ?_) | refine And.intro ?_ ?_ | refine reg_tail (by kernel_rfl) ?_)
  refine call_rule [.at 1 0] (cVa) hG ?_ ?_
  · (refine ⟨?_, ?_, rfl, rfl, rfl⟩ <;> repeat' (first | refine And.intro ?_ ?_ | exact trivial | exact rfl | refine lt0 | refine lt1 ?_ | refine lt2 ?_ ?_ | refine lt3 ?_ ?_ ?_ | refine lt4 ?_ ?_ ?_ ?_ | exact veq_refl _ | decide | (intro i hi; repeat' (first | refine And.intro ?_ ?_ | exact trivial | exact rfl))))
    all_goals first | exact Nat.le_refl _ | omega
  rintro _ _ _ ⟨rfl, rfl, rfl⟩
  repeat' (first | refine And.intro (by first | omega | (dsimp only; omega) | (show (_ : Bool) = true; kernel_rfl) | decide | (repeat' (first | refine And.intro ?_ ?_ | exact trivial | exact rfl))) ?_ | refine bcs_dec (fun h => ?_) (fun h => False.elim (by first | omega | exact h rfl)) | refine bcs_dec (fun h => False.elim (by omega)) (fun h => ?_) | refine bcs_dec (fun h => ?_) (fun h => ?_) | refine bcs_ndec (fun h => ?_) (fun h => ?_) | refine bcs_not ?_ | refine bcs_intro (fun h => ?_) (fun h => ?_) | refine And.intro ?_ ?_ | refine reg_tail (by kernel_rfl) ?_)
  refine call_rule [.at 2 0] (cVb) hG ?_ ?_
  · (refine ⟨?_, ?_, rfl, rfl, rfl⟩ <;> repeat' (first | refine And.intro ?_ ?_ | exact trivial | exact rfl | refine lt0 | refine lt1 ?_ | refine lt2 ?_ ?_ | refine lt3 ?_ ?_ ?_ | refine lt4 ?_ ?_ ?_ ?_ | exact veq_refl _ | decide | (intro i hi; repeat' (first | refine And.intro ?_ ?_ | exact trivial | exact rfl))))
    all_goals first | exact Nat.le_refl _ | omega
  rintro _ _ _ ⟨rfl, rfl, rfl⟩
  repeat' (first | refine And.intro (by first | omega | (dsimp only; omega) | (show (_ : Bool) = true; kernel_rfl) | decide | (repeat' (first | refine And.intro ?_ ?_ | exact trivial | exact rfl))) ?_ | refine bcs_dec (fun h => ?_) (fun h => False.elim (by first | omega | exact h rfl)) | refine bcs_dec (fun h => False.elim (by omega)) (fun h => ?_) | refine bcs_dec (fun h => ?_) (fun h => ?_) | refine bcs_ndec (fun h => ?_) (fun h => ?_) | refine bcs_not ?_ | refine bcs_intro (fun h => ?_) (fun h => ?_) | refine And.intro ?_ ?_ | refine reg_tail (by kernel_rfl) ?_)
  refine loop_rule (α := Nat × Int × Int × Option Byt) (fun (k, x, y, o) => oSt s L a b hf d k x y o)
    (fun (k, x, y, o) => k ≤ L.length ∧ 0 ≤ x ∧ 0 ≤ y ∧ x ≤ a.length ∧ y ≤ b.length ∧ validF (L.drop k) x y a.length b.length = 0 ∧ (o ≠ some []) ∧
      ((pOut o).length : Int) + 8200 * ((a.length - x) + (b.length - y)) ≤ 100000000000 ∧ pOut o ++ prF a b hf d (L.drop k) x y = T) (fun (k, _) => L.length - k) (0, 0, 0, none) [.at 3 0, .at 4 0, .at 5 0, .at 6 0, .at 7 0, .at 8 0, .at 9 0] ?_ ?_ ?_
  · exact ⟨by omega, by omega, by omega, by omega, by omega, hv, (fun e => nomatch e), by show ((0 : Nat) : Int) + _ ≤ _; omega, hT.symm⟩
  · (refine ⟨rfl, rfl, ?_, ?_⟩ <;> repeat' (first | refine And.intro ?_ ?_ | exact trivial | exact rfl | refine lt0 | refine lt1 ?_ | refine lt2 ?_ ?_ | refine lt3 ?_ ?_ ?_ | refine lt4 ?_ ?_ ?_ ?_ | exact veq_refl _ | decide | (intro i hi; repeat' (first | refine And.intro ?_ ?_ | exact trivial | exact rfl))))
    all_goals first | exact Nat.le_refl _ | omega | exact veq_refl _ | skip
  rintro ⟨k, x, y, o⟩ ⟨g1, g2, g3, g4, g5, g6, gn, g7, g8⟩
  by_cases hk : k < L.length
  · rw [drop_get Chg.d L k hk] at g6 g8
    obtain ⟨hbad, hr⟩ := valid_cons g6
    have hCC : L.getD k Chg.d = (L.getD (0 + (k : Int).toNat) Chg.d) := by rw [Nat.zero_add]; rfl
    rw [hCC] at hbad hr g8
    obtain ⟨c, hc⟩ : ∃ c, c = (L.getD (0 + (k : Int).toNat) Chg.d) := ⟨_, rfl⟩
    rw [← hc] at hbad hr g8
    unfold bad at hbad
    simp only [prF] at g8
    have lal := alk_len a b (s := d) hh1 hh2 (c.A - x).toNat x y
    obtain ⟨mx, hmx⟩ : ∃ mx, mx = max c.N c.M := ⟨_, rfl⟩
    rw [← hmx] at g8
    cases o with
    | none =>
      simp only [pOut, List.nil_append, List.length_nil] at g7 g8
      by_cases hg : x < c.A
      · have cK := alkF1_con a b hf d c.A x y ha hb hal hbl hh1 hh2 hd1 hd2 g2 g3 hg (by omega) (by omega)
        have hA : alkF a b hf d (c.A - x).toNat x y ≠ [] := by
          rw [show (c.A - x).toNat = (c.A - x - 1).toNat + 1 by omega]
          simp only [alkF]
          exact fun e => row_ne _ _ _ _ _ (List.append_eq_nil_iff.1 e).1
        rw [show y + (c.A - x) = c.B by omega] at cK
        obtain ⟨K, hK⟩ : ∃ K, K = alkF a b hf d (c.A - x).toNat x y := ⟨_, rfl⟩
        rw [← hK] at cK g8 lal hA
        rw [hc] at cK
        repeat' (first | refine And.intro (by first | omega | (dsimp only; omega) | (show (_ : Bool) = true; kernel_rfl) | decide | (repeat' (first | refine And.intro ?_ ?_ | exact trivial | exact rfl))) ?_ | refine bcs_dec (fun h => ?_) (fun h => False.elim (by first | omega | exact h rfl)) | refine bcs_dec (fun h => False.elim (by omega)) (fun h => ?_) | refine bcs_dec (fun h => ?_) (fun h => ?_) | refine bcs_ndec (fun h => ?_) (fun h => ?_) | refine bcs_not ?_ | refine bcs_intro (fun h => ?_) (fun h => ?_) | refine And.intro ?_ ?_ | refine reg_tail (by kernel_rfl) ?_)
        refine call_rule [.at 8 0, .at 9 0, .at 7 0, .at 3 0, .at 4 0, .at 6 0, .at 1 0, .at 2 0] (cK) hG ?_ ?_
        · (refine ⟨?_, ?_, rfl, rfl, rfl⟩ <;> repeat' (first | refine And.intro ?_ ?_ | exact trivial | exact rfl | refine lt0 | refine lt1 ?_ | refine lt2 ?_ ?_ | refine lt3 ?_ ?_ ?_ | refine lt4 ?_ ?_ ?_ ?_ | exact veq_refl _ | decide | (intro i hi; repeat' (first | refine And.intro ?_ ?_ | exact trivial | exact rfl))))
          all_goals first | exact Nat.le_refl _ | omega
        rintro _ _ _ ⟨rfl, rfl, rfl⟩
        repeat' (first | refine And.intro (by first | omega | (dsimp only; omega) | (show (_ : Bool) = true; kernel_rfl) | decide | (repeat' (first | refine And.intro ?_ ?_ | exact trivial | exact rfl))) ?_ | refine bcs_dec (fun h => ?_) (fun h => False.elim (by first | omega | exact h rfl)) | refine bcs_dec (fun h => False.elim (by omega)) (fun h => ?_) | refine bcs_dec (fun h => ?_) (fun h => ?_) | refine bcs_ndec (fun h => ?_) (fun h => ?_) | refine bcs_not ?_ | refine bcs_intro (fun h => ?_) (fun h => ?_) | refine And.intro ?_ ?_ | refine reg_tail (by kernel_rfl) ?_)
        rw [← hc]
        refine inner_loop s L a b hf d k c mx T B hG ha hb hal hbl hh1 hh2 hd1 hd2 hmx (by omega) (by omega) (by omega) (by omega) (by omega) (by omega) _ _ _ _ (some K) [.at 3 0, .at 4 0, .at 5 0, .at 6 0, .at 7 0, .at 8 0, .at 9 0, .at 10 0, .at 11 0] ?_ ?_ ?_
        · exact ⟨fun e => hA (Option.some.inj e), by show (K.length : Int) + _ ≤ _; omega, g8⟩
        · (refine ⟨rfl, rfl, ?_, ?_⟩ <;> repeat' (first | refine And.intro ?_ ?_ | exact trivial | exact rfl | refine lt0 | refine lt1 ?_ | refine lt2 ?_ ?_ | refine lt3 ?_ ?_ ?_ | refine lt4 ?_ ?_ ?_ ?_ | exact veq_refl _ | decide | (intro i hi; repeat' (first | refine And.intro ?_ ?_ | exact trivial | exact rfl))))
          all_goals first | exact Nat.le_refl _ | omega | exact veq_refl _ | (simp; done) | (refine veq_of_eq (congrArg (Value.int .i64) ?_); omega) | skip
        intro o j3 j4 j5
        cases o with
        | none =>
          simp only [pOut, List.nil_append, List.length_nil] at j4 j5
          repeat' (first | refine Both.mk ?_ ?_ | refine And.intro (by first | omega | (dsimp only; omega) | (show (_ : Bool) = true; kernel_rfl) | decide | (repeat' (first | refine And.intro ?_ ?_ | exact trivial | exact rfl))) ?_ | refine bcs_dec (fun h => ?_) (fun h => False.elim (by first | omega | exact h rfl)) | refine bcs_dec (fun h => False.elim (by omega)) (fun h => ?_) | refine bcs_dec (fun h => ?_) (fun h => ?_) | refine bcs_ndec (fun h => ?_) (fun h => ?_) | refine bcs_not ?_ | refine And.intro ?_ ?_)
          refine reg_ord [10] (.early 1 (.early 2 (.early 5 (.early 6 (.fork 0 (.early 3 (.fork 4 (.early 7 (.late 8 (.late 9 .nil))) 8 (.late 4 (.late 7 (.late 9 .nil))))) 4 (.early 7 (.late 0 (.late 3 (.late 8 (.late 9 .nil)))))))))) (by decide +kernel) rfl ?_
          intro B' hB'
          repeat' (first | refine Both.mk ?_ ?_ | refine And.intro (by first | omega | (dsimp only; omega) | (show (_ : Bool) = true; kernel_rfl) | decide | (repeat' (first | refine And.intro ?_ ?_ | exact trivial | exact rfl))) ?_ | refine bcs_dec (fun h => ?_) (fun h => False.elim (by first | omega | exact h rfl)) | refine bcs_dec (fun h => False.elim (by omega)) (fun h => ?_) | refine bcs_dec (fun h => ?_) (fun h => ?_) | refine bcs_ndec (fun h => ?_) (fun h => ?_) | refine bcs_not ?_ | refine And.intro ?_ ?_)
          all_goals
            refine ⟨(k + 1, c.A + c.N, c.B + c.M, none), [.at 3 0, .at 4 0, .at 5 0, .at 6 0, .at 7 0, .at 8 0, .at 9 0], ?_, ?_, ?_⟩
            · exact ⟨hk, by omega, by omega, by omega, by omega, hr, j3, by show (((0 : Nat) : Int)) + _ ≤ _; omega, j5⟩
            · show L.length - (k + 1) < L.length - k
              omega
            · (refine ⟨rfl, rfl, ?_, ?_⟩ <;> repeat' (first | refine And.intro ?_ ?_ | exact trivial | exact rfl | refine lt0 | refine lt1 ?_ | refine lt2 ?_ ?_ | refine lt3 ?_ ?_ ?_ | refine lt4 ?_ ?_ ?_ ?_ | exact veq_refl _ | decide | (intro i hi; repeat' (first | refine And.intro ?_ ?_ | exact trivial | exact rfl))))
              all_goals first | exact Nat.le_refl _ | omega | exact veq_refl _ | (simp; done) | (refine veq_of_eq (congrArg (Value.int .i64) ?_); omega) | skip
        | some q =>
          simp only [pOut] at j4 j5
          repeat' (first | refine Both.mk ?_ ?_ | refine And.intro (by first | omega | (dsimp only; omega) | (show (_ : Bool) = true; kernel_rfl) | decide | (repeat' (first | refine And.intro ?_ ?_ | exact trivial | exact rfl))) ?_ | refine bcs_dec (fun h => ?_) (fun h => False.elim (by first | omega | exact h rfl)) | refine bcs_dec (fun h => False.elim (by omega)) (fun h => ?_) | refine bcs_dec (fun h => ?_) (fun h => ?_) | refine bcs_ndec (fun h => ?_) (fun h => ?_) | refine bcs_not ?_ | refine And.intro ?_ ?_)
          refine reg_ord [10] (.early 1 (.early 2 (.early 5 (.early 6 (.fork 0 (.early 3 (.fork 4 (.early 7 (.late 8 (.late 9 .nil))) 8 (.late 4 (.late 7 (.late 9 .nil))))) 4 (.early 7 (.late 0 (.late 3 (.late 8 (.late 9 .nil)))))))))) (by decide +kernel) rfl ?_
          intro B' hB'
          repeat' (first | refine Both.mk ?_ ?_ | refine And.intro (by first | omega | (dsimp only; omega) | (show (_ : Bool) = true; kernel_rfl) | decide | (repeat' (first | refine And.intro ?_ ?_ | exact trivial | exact rfl))) ?_ | refine bcs_dec (fun h => ?_) (fun h => False.elim (by first | omega | exact h rfl)) | refine bcs_dec (fun h => False.elim (by omega)) (fun h => ?_) | refine bcs_dec (fun h => ?_) (fun h => ?_) | refine bcs_ndec (fun h => ?_) (fun h => ?_) | refine bcs_not ?_ | refine And.intro ?_ ?_)
          all_goals
            refine ⟨(k + 1, c.A + c.N, c.B + c.M, some q), [.at 3 0, .at 4 0, .at 5 0, .at 6 0, .at 7 0, .at 8 0, .at 9 0, .at 11 0], ?_, ?_, ?_⟩
            · exact ⟨hk, by omega, by omega, by omega, by omega, hr, j3, by show ((q.length : Int)) + _ ≤ _; omega, j5⟩
            · show L.length - (k + 1) < L.length - k
              omega
            · (refine ⟨rfl, rfl, ?_, ?_⟩ <;> repeat' (first | refine And.intro ?_ ?_ | exact trivial | exact rfl | refine lt0 | refine lt1 ?_ | refine lt2 ?_ ?_ | refine lt3 ?_ ?_ ?_ | refine lt4 ?_ ?_ ?_ ?_ | exact veq_refl _ | decide | (intro i hi; repeat' (first | refine And.intro ?_ ?_ | exact trivial | exact rfl))))
              all_goals first | exact Nat.le_refl _ | omega | exact veq_refl _ | (simp; done) | (refine veq_of_eq (congrArg (Value.int .i64) ?_); omega) | skip

      · have hxA : x = c.A := by omega
        have hyB : y = c.B := by omega
        rw [show (c.A - x).toNat = 0 by omega] at g8
        simp only [alkF, List.nil_append] at g8
        have cK := alkF0_con a b hf d c.A x y (by omega)
        rw [hc] at cK
        repeat' (first | refine And.intro (by first | omega | (dsimp only; omega) | (show (_ : Bool) = true; kernel_rfl) | decide | (repeat' (first | refine And.intro ?_ ?_ | exact trivial | exact rfl))) ?_ | refine bcs_dec (fun h => ?_) (fun h => False.elim (by first | omega | exact h rfl)) | refine bcs_dec (fun h => False.elim (by omega)) (fun h => ?_) | refine bcs_dec (fun h => ?_) (fun h => ?_) | refine bcs_ndec (fun h => ?_) (fun h => ?_) | refine bcs_not ?_ | refine bcs_intro (fun h => ?_) (fun h => ?_) | refine And.intro ?_ ?_ | refine reg_tail (by kernel_rfl) ?_)
        refine call_rule [.at 8 0, .at 9 0, .at 7 0, .at 3 0, .at 4 0, .at 6 0, .at 1 0, .at 2 0] (cK) hG ?_ ?_
        · (refine ⟨?_, ?_, rfl, rfl, rfl⟩ <;> repeat' (first | refine And.intro ?_ ?_ | exact trivial | exact rfl | refine lt0 | refine lt1 ?_ | refine lt2 ?_ ?_ | refine lt3 ?_ ?_ ?_ | refine lt4 ?_ ?_ ?_ ?_ | exact veq_refl _ | decide | (intro i hi; repeat' (first | refine And.intro ?_ ?_ | exact trivial | exact rfl))))
          all_goals first | exact Nat.le_refl _ | omega
        rintro _ _ _ ⟨rfl, rfl, rfl⟩
        repeat' (first | refine And.intro (by first | omega | (dsimp only; omega) | (show (_ : Bool) = true; kernel_rfl) | decide | (repeat' (first | refine And.intro ?_ ?_ | exact trivial | exact rfl))) ?_ | refine bcs_dec (fun h => ?_) (fun h => False.elim (by first | omega | exact h rfl)) | refine bcs_dec (fun h => False.elim (by omega)) (fun h => ?_) | refine bcs_dec (fun h => ?_) (fun h => ?_) | refine bcs_ndec (fun h => ?_) (fun h => ?_) | refine bcs_not ?_ | refine bcs_intro (fun h => ?_) (fun h => ?_) | refine And.intro ?_ ?_ | refine reg_tail (by kernel_rfl) ?_)
        rw [← hc]
        refine inner_loop s L a b hf d k c mx T B hG ha hb hal hbl hh1 hh2 hd1 hd2 hmx (by omega) (by omega) (by omega) (by omega) (by omega) (by omega) _ _ _ _ (none) [.at 3 0, .at 4 0, .at 5 0, .at 6 0, .at 7 0, .at 8 0, .at 9 0, .at 10 0] ?_ ?_ ?_
        · exact ⟨gn, by show ((0 : Nat) : Int) + _ ≤ _; omega, g8⟩
        · (refine ⟨rfl, rfl, ?_, ?_⟩ <;> repeat' (first | refine And.intro ?_ ?_ | exact trivial | exact rfl | refine lt0 | refine lt1 ?_ | refine lt2 ?_ ?_ | refine lt3 ?_ ?_ ?_ | refine lt4 ?_ ?_ ?_ ?_ | exact veq_refl _ | decide | (intro i hi; repeat' (first | refine And.intro ?_ ?_ | exact trivial | exact rfl))))
          all_goals first | exact Nat.le_refl _ | omega | exact veq_refl _ | (simp; done) | (refine veq_of_eq (congrArg (Value.int .i64) ?_); omega) | skip
        intro o j3 j4 j5
        cases o with
        | none =>
          simp only [pOut, List.nil_append, List.length_nil] at j4 j5
          repeat' (first | refine Both.mk ?_ ?_ | refine And.intro (by first | omega | (dsimp only; omega) | (show (_ : Bool) = true; kernel_rfl) | decide | (repeat' (first | refine And.intro ?_ ?_ | exact trivial | exact rfl))) ?_ | refine bcs_dec (fun h => ?_) (fun h => False.elim (by first | omega | exact h rfl)) | refine bcs_dec (fun h => False.elim (by omega)) (fun h => ?_) | refine bcs_dec (fun h => ?_) (fun h => ?_) | refine bcs_ndec (fun h => ?_) (fun h => ?_) | refine bcs_not ?_ | refine And.intro ?_ ?_)
          refine reg_ord [10] (.early 1 (.early 2 (.early 5 (.early 6 (.fork 0 (.early 3 (.fork 4 (.early 7 (.late 8 (.late 9 .nil))) 8 (.late 4 (.late 7 (.late 9 .nil))))) 4 (.early 7 (.late 0 (.late 3 (.late 8 (.late 9 .nil)))))))))) (by decide +kernel) rfl ?_
          intro B' hB'
          repeat' (first | refine Both.mk ?_ ?_ | refine And.intro (by first | omega | (dsimp only; omega) | (show (_ : Bool) = true; kernel_rfl) | decide | (repeat' (first | refine And.intro ?_ ?_ | exact trivial | exact rfl))) ?_ | refine bcs_dec (fun h => ?_) (fun h => False.elim (by first | omega | exact h rfl)) | refine bcs_dec (fun h => False.elim (by omega)) (fun h => ?_) | refine bcs_dec (fun h => ?_) (fun h => ?_) | refine bcs_ndec (fun h => ?_) (fun h => ?_) | refine bcs_not ?_ | refine And.intro ?_ ?_)
          all_goals
            refine ⟨(k + 1, c.A + c.N, c.B + c.M, none), [.at 3 0, .at 4 0, .at 5 0, .at 6 0, .at 7 0, .at 8 0, .at 9 0], ?_, ?_, ?_⟩
            · exact ⟨hk, by omega, by omega, by omega, by omega, hr, j3, by show (((0 : Nat) : Int)) + _ ≤ _; omega, j5⟩
            · show L.length - (k + 1) < L.length - k
              omega
            · (refine ⟨rfl, rfl, ?_, ?_⟩ <;> repeat' (first | refine And.intro ?_ ?_ | exact trivial | exact rfl | refine lt0 | refine lt1 ?_ | refine lt2 ?_ ?_ | refine lt3 ?_ ?_ ?_ | refine lt4 ?_ ?_ ?_ ?_ | exact veq_refl _ | decide | (intro i hi; repeat' (first | refine And.intro ?_ ?_ | exact trivial | exact rfl))))
              all_goals first | exact Nat.le_refl _ | omega | exact veq_refl _ | (simp; done) | (refine veq_of_eq (congrArg (Value.int .i64) ?_); omega) | skip
        | some q =>
          simp only [pOut] at j4 j5
          repeat' (first | refine Both.mk ?_ ?_ | refine And.intro (by first | omega | (dsimp only; omega) | (show (_ : Bool) = true; kernel_rfl) | decide | (repeat' (first | refine And.intro ?_ ?_ | exact trivial | exact rfl))) ?_ | refine bcs_dec (fun h => ?_) (fun h => False.elim (by first | omega | exact h rfl)) | refine bcs_dec (fun h => False.elim (by omega)) (fun h => ?_) | refine bcs_dec (fun h => ?_) (fun h => ?_) | refine bcs_ndec (fun h => ?_) (fun h => ?_) | refine bcs_not ?_ | refine And.intro ?_ ?_)
          refine reg_ord [10] (.early 1 (.early 2 (.early 5 (.early 6 (.fork 0 (.early 3 (.fork 4 (.early 7 (.late 8 (.late 9 .nil))) 8 (.late 4 (.late 7 (.late 9 .nil))))) 4 (.early 7 (.late 0 (.late 3 (.late 8 (.late 9 .nil)))))))))) (by decide +kernel) rfl ?_
          intro B' hB'
          repeat' (first | refine Both.mk ?_ ?_ | refine And.intro (by first | omega | (dsimp only; omega) | (show (_ : Bool) = true; kernel_rfl) | decide | (repeat' (first | refine And.intro ?_ ?_ | exact trivial | exact rfl))) ?_ | refine bcs_dec (fun h => ?_) (fun h => False.elim (by first | omega | exact h rfl)) | refine bcs_dec (fun h => False.elim (by omega)) (fun h => ?_) | refine bcs_dec (fun h => ?_) (fun h => ?_) | refine bcs_ndec (fun h => ?_) (fun h => ?_) | refine bcs_not ?_ | refine And.intro ?_ ?_)
          all_goals
            refine ⟨(k + 1, c.A + c.N, c.B + c.M, some q), [.at 3 0, .at 4 0, .at 5 0, .at 6 0, .at 7 0, .at 8 0, .at 9 0, .at 11 0], ?_, ?_, ?_⟩
            · exact ⟨hk, by omega, by omega, by omega, by omega, hr, j3, by show ((q.length : Int)) + _ ≤ _; omega, j5⟩
            · show L.length - (k + 1) < L.length - k
              omega
            · (refine ⟨rfl, rfl, ?_, ?_⟩ <;> repeat' (first | refine And.intro ?_ ?_ | exact trivial | exact rfl | refine lt0 | refine lt1 ?_ | refine lt2 ?_ ?_ | refine lt3 ?_ ?_ ?_ | refine lt4 ?_ ?_ ?_ ?_ | exact veq_refl _ | decide | (intro i hi; repeat' (first | refine And.intro ?_ ?_ | exact trivial | exact rfl))))
              all_goals first | exact Nat.le_refl _ | omega | exact veq_refl _ | (simp; done) | (refine veq_of_eq (congrArg (Value.int .i64) ?_); omega) | skip

    | some out =>
      simp only [pOut] at g7 g8
      have cK := alkU_con a b hf d c.A x y out ha hb hal hbl hh1 hh2 hd1 hd2 g2 g3 (by omega) (by omega) (by omega) (by omega)
      rw [show y + (c.A - x) = c.B by omega] at cK
      obtain ⟨K, hK⟩ : ∃ K, K = out ++ alkF a b hf d (c.A - x).toNat x y := ⟨_, rfl⟩
      rw [← List.append_assoc, ← hK] at g8
      have hKl : K.length = out.length + (alkF a b hf d (c.A - x).toNat x y).length := by rw [hK, List.length_append]
      have hKn : K ≠ [] := by rw [hK]; exact fun e => gn (by rw [(List.append_eq_nil_iff.1 e).1])
      rw [← hK] at cK
      rw [hc] at cK
      repeat' (first | refine And.intro (by first | omega | (dsimp only; omega) | (show (_ : Bool) = true; kernel_rfl) | decide | (repeat' (first | refine And.intro ?_ ?_ | exact trivial | exact rfl))) ?_ | refine bcs_dec (fun h => ?_) (fun h => False.elim (by first | omega | exact h rfl)) | refine bcs_dec (fun h => False.elim (by omega)) (fun h => ?_) | refine bcs_dec (fun h => ?_) (fun h => ?_) | refine bcs_ndec (fun h => ?_) (fun h => ?_) | refine bcs_not ?_ | refine bcs_intro (fun h => ?_) (fun h => ?_) | refine And.intro ?_ ?_ | refine reg_tail (by kernel_rfl) ?_)
      refine call_rule [.at 8 0, .at 9 0, .at 7 0, .at 3 0, .at 4 0, .at 6 0, .at 1 0, .at 2 0, .at 10 0] (cK) hG ?_ ?_
      · (refine ⟨?_, ?_, rfl, rfl, rfl⟩ <;> repeat' (first | refine And.intro ?_ ?_ | exact trivial | exact rfl | refine lt0 | refine lt1 ?_ | refine lt2 ?_ ?_ | refine lt3 ?_ ?_ ?_ | refine lt4 ?_ ?_ ?_ ?_ | exact veq_refl _ | decide | (intro i hi; repeat' (first | refine And.intro ?_ ?_ | exact trivial | exact rfl))))
        all_goals first | exact Nat.le_refl _ | omega
      rintro _ _ _ ⟨rfl, rfl, rfl⟩
      repeat' (first | refine And.intro (by first | omega | (dsimp only; omega) | (show (_ : Bool) = true; kernel_rfl) | decide | (repeat' (first | refine And.intro ?_ ?_ | exact trivial | exact rfl))) ?_ | refine bcs_dec (fun h => ?_) (fun h => False.elim (by first | omega | exact h rfl)) | refine bcs_dec (fun h => False.elim (by omega)) (fun h => ?_) | refine bcs_dec (fun h => ?_) (fun h => ?_) | refine bcs_ndec (fun h => ?_) (fun h => ?_) | refine bcs_not ?_ | refine bcs_intro (fun h => ?_) (fun h => ?_) | refine And.intro ?_ ?_ | refine reg_tail (by kernel_rfl) ?_)
      rw [← hc]
      refine inner_loop s L a b hf d k c mx T B hG ha hb hal hbl hh1 hh2 hd1 hd2 hmx (by omega) (by omega) (by omega) (by omega) (by omega) (by omega) _ _ _ _ (some K) [.at 3 0, .at 4 0, .at 5 0, .at 6 0, .at 7 0, .at 8 0, .at 9 0, .at 11 0, .at 12 0] ?_ ?_ ?_
      · exact ⟨fun e => hKn (Option.some.inj e), by show (K.length : Int) + _ ≤ _; omega, g8⟩
      · (refine ⟨rfl, rfl, ?_, ?_⟩ <;> repeat' (first | refine And.intro ?_ ?_ | exact trivial | exact rfl | refine lt0 | refine lt1 ?_ | refine lt2 ?_ ?_ | refine lt3 ?_ ?_ ?_ | refine lt4 ?_ ?_ ?_ ?_ | exact veq_refl _ | decide | (intro i hi; repeat' (first | refine And.intro ?_ ?_ | exact trivial | exact rfl))))
        all_goals first | exact Nat.le_refl _ | omega | exact veq_refl _ | (simp; done) | (refine veq_of_eq (congrArg (Value.int .i64) ?_); omega) | skip
      intro o j3 j4 j5
      cases o with
      | none =>
        simp only [pOut, List.nil_append, List.length_nil] at j4 j5
        repeat' (first | refine Both.mk ?_ ?_ | refine And.intro (by first | omega | (dsimp only; omega) | (show (_ : Bool) = true; kernel_rfl) | decide | (repeat' (first | refine And.intro ?_ ?_ | exact trivial | exact rfl))) ?_ | refine bcs_dec (fun h => ?_) (fun h => False.elim (by first | omega | exact h rfl)) | refine bcs_dec (fun h => False.elim (by omega)) (fun h => ?_) | refine bcs_dec (fun h => ?_) (fun h => ?_) | refine bcs_ndec (fun h => ?_) (fun h => ?_) | refine bcs_not ?_ | refine And.intro ?_ ?_)
        refine reg_ord [10] (.early 1 (.early 2 (.early 5 (.early 6 (.fork 0 (.early 3 (.fork 4 (.early 7 (.late 8 (.late 9 .nil))) 8 (.late 4 (.late 7 (.late 9 .nil))))) 4 (.early 7 (.late 0 (.late 3 (.late 8 (.late 9 .nil)))))))))) (by decide +kernel) rfl ?_
        intro B' hB'
        repeat' (first | refine Both.mk ?_ ?_ | refine And.intro (by first | omega | (dsimp only; omega) | (show (_ : Bool) = true; kernel_rfl) | decide | (repeat' (first | refine And.intro ?_ ?_ | exact trivial | exact rfl))) ?_ | refine bcs_dec (fun h => ?_) (fun h => False.elim (by first | omega | exact h rfl)) | refine bcs_dec (fun h => False.elim (by omega)) (fun h => ?_) | refine bcs_dec (fun h => ?_) (fun h => ?_) | refine bcs_ndec (fun h => ?_) (fun h => ?_) | refine bcs_not ?_ | refine And.intro ?_ ?_)
        all_goals
          refine ⟨(k + 1, c.A + c.N, c.B + c.M, none), [.at 3 0, .at 4 0, .at 5 0, .at 6 0, .at 7 0, .at 8 0, .at 9 0], ?_, ?_, ?_⟩
          · exact ⟨hk, by omega, by omega, by omega, by omega, hr, j3, by show (((0 : Nat) : Int)) + _ ≤ _; omega, j5⟩
          · show L.length - (k + 1) < L.length - k
            omega
          · (refine ⟨rfl, rfl, ?_, ?_⟩ <;> repeat' (first | refine And.intro ?_ ?_ | exact trivial | exact rfl | refine lt0 | refine lt1 ?_ | refine lt2 ?_ ?_ | refine lt3 ?_ ?_ ?_ | refine lt4 ?_ ?_ ?_ ?_ | exact veq_refl _ | decide | (intro i hi; repeat' (first | refine And.intro ?_ ?_ | exact trivial | exact rfl))))
            all_goals first | exact Nat.le_refl _ | omega | exact veq_refl _ | (simp; done) | (refine veq_of_eq (congrArg (Value.int .i64) ?_); omega) | skip
      | some q =>
        simp only [pOut] at j4 j5
        repeat' (first | refine Both.mk ?_ ?_ | refine And.intro (by first | omega | (dsimp only; omega) | (show (_ : Bool) = true; kernel_rfl) | decide | (repeat' (first | refine And.intro ?_ ?_ | exact trivial | exact rfl))) ?_ | refine bcs_dec (fun h => ?_) (fun h => False.elim (by first | omega | exact h rfl)) | refine bcs_dec (fun h => False.elim (by omega)) (fun h => ?_) | refine bcs_dec (fun h => ?_) (fun h => ?_) | refine bcs_ndec (fun h => ?_) (fun h => ?_) | refine bcs_not ?_ | refine And.intro ?_ ?_)
        refine reg_ord [10] (.early 1 (.early 2 (.early 5 (.early 6 (.fork 0 (.early 3 (.fork 4 (.early 7 (.late 8 (.late 9 .nil))) 8 (.late 4 (.late 7 (.late 9 .nil))))) 4 (.early 7 (.late 0 (.late 3 (.late 8 (.late 9 .nil)))))))))) (by decide +kernel) rfl ?_
        intro B' hB'
        repeat' (first | refine Both.mk ?_ ?_ | refine And.intro (by first | omega | (dsimp only; omega) | (show (_ : Bool) = true; kernel_rfl) | decide | (repeat' (first | refine And.intro ?_ ?_ | exact trivial | exact rfl))) ?_ | refine bcs_dec (fun h => ?_) (fun h => False.elim (by first | omega | exact h rfl)) | refine bcs_dec (fun h => False.elim (by omega)) (fun h => ?_) | refine bcs_dec (fun h => ?_) (fun h => ?_) | refine bcs_ndec (fun h => ?_) (fun h => ?_) | refine bcs_not ?_ | refine And.intro ?_ ?_)
        all_goals
          refine ⟨(k + 1, c.A + c.N, c.B + c.M, some q), [.at 3 0, .at 4 0, .at 5 0, .at 6 0, .at 7 0, .at 8 0, .at 9 0, .at 11 0], ?_, ?_, ?_⟩
          · exact ⟨hk, by omega, by omega, by omega, by omega, hr, j3, by show ((q.length : Int)) + _ ≤ _; omega, j5⟩
          · show L.length - (k + 1) < L.length - k
            omega
          · (refine ⟨rfl, rfl, ?_, ?_⟩ <;> repeat' (first | refine And.intro ?_ ?_ | exact trivial | exact rfl | refine lt0 | refine lt1 ?_ | refine lt2 ?_ ?_ | refine lt3 ?_ ?_ ?_ | refine lt4 ?_ ?_ ?_ ?_ | exact veq_refl _ | decide | (intro i hi; repeat' (first | refine And.intro ?_ ?_ | exact trivial | exact rfl))))
            all_goals first | exact Nat.le_refl _ | omega | exact veq_refl _ | (simp; done) | (refine veq_of_eq (congrArg (Value.int .i64) ?_); omega) | skip
  · rw [List.drop_of_length_le (by omega)] at g6 g8
    simp only [prF] at g8
    have i7 := valid_nil g6
    have lal := alk_len a b (s := d) hh1 hh2 ((a.length : Int) - x).toNat x y
    cases o with
    | none =>
      simp only [pOut, List.nil_append, List.length_nil] at g7 g8
      by_cases hg : x < a.length
      · have cK := alkF1_con a b hf d a.length x y ha hb hal hbl hh1 hh2 hd1 hd2 g2 g3 hg (by omega) (by omega)
        have hA : alkF a b hf d ((a.length : Int) - x).toNat x y ≠ [] := by
          rw [show ((a.length : Int) - x).toNat = ((a.length : Int) - x - 1).toNat + 1 by omega]
          simp only [alkF]
          exact fun e => row_ne _ _ _ _ _ (List.append_eq_nil_iff.1 e).1
        rw [g8] at cK hA
        repeat' (first | refine And.intro (by first | omega | (dsimp only; omega) | (show (_ : Bool) = true; kernel_rfl) | decide | (repeat' (first | refine And.intro ?_ ?_ | exact trivial | exact rfl))) ?_ | refine bcs_dec (fun h => ?_) (fun h => False.elim (by first | omega | exact h rfl)) | refine bcs_dec (fun h => False.elim (by omega)) (fun h => ?_) | refine bcs_dec (fun h => ?_) (fun h => ?_) | refine bcs_ndec (fun h => ?_) (fun h => ?_) | refine bcs_not ?_ | refine bcs_intro (fun h => ?_) (fun h => ?_) | refine And.intro ?_ ?_ | refine reg_tail (by kernel_rfl) ?_)
        refine call_rule [.at 8 0, .at 9 0, .at 7 0, .at 3 0, .at 4 0, .at 6 0, .at 1 0, .at 2 0] (cK) hG ?_ ?_
        · (refine ⟨?_, ?_, rfl, rfl, rfl⟩ <;> repeat' (first | refine And.intro ?_ ?_ | exact trivial | exact rfl | refine lt0 | refine lt1 ?_ | refine lt2 ?_ ?_ | refine lt3 ?_ ?_ ?_ | refine lt4 ?_ ?_ ?_ ?_ | exact veq_refl _ | decide | (intro i hi; repeat' (first | refine And.intro ?_ ?_ | exact trivial | exact rfl))))
          all_goals first | exact Nat.le_refl _ | omega
        rintro _ _ _ ⟨rfl, rfl, rfl⟩
        repeat' (first | refine And.intro (by first | omega | (dsimp only; omega) | (show (_ : Bool) = true; kernel_rfl) | decide | (repeat' (first | refine And.intro ?_ ?_ | exact trivial | exact rfl))) ?_ | refine bcs_dec (fun h => ?_) (fun h => False.elim (by first | omega | exact h rfl)) | refine bcs_dec (fun h => False.elim (by omega)) (fun h => ?_) | refine bcs_dec (fun h => ?_) (fun h => ?_) | refine bcs_ndec (fun h => ?_) (fun h => ?_) | refine bcs_not ?_ | refine bcs_intro (fun h => ?_) (fun h => ?_) | refine And.intro ?_ ?_ | refine reg_tail (by kernel_rfl) ?_)
        refine call_rule [.at 6 0, .at 10 0] (strPU_con hf d T hA) hG ?_ ?_
        · (refine ⟨?_, ?_, rfl, rfl, rfl⟩ <;> repeat' (first | refine And.intro ?_ ?_ | exact trivial | exact rfl | refine lt0 | refine lt1 ?_ | refine lt2 ?_ ?_ | refine lt3 ?_ ?_ ?_ | refine lt4 ?_ ?_ ?_ ?_ | exact veq_refl _ | decide | (intro i hi; repeat' (first | refine And.intro ?_ ?_ | exact trivial | exact rfl))))
          all_goals first | exact Nat.le_refl _ | omega
        rintro _ _ _ ⟨rfl, rfl, rfl⟩
        repeat' (first | refine And.intro (by first | omega | (dsimp only; omega) | (show (_ : Bool) = true; kernel_rfl) | decide | (repeat' (first | refine And.intro ?_ ?_ | exact trivial | exact rfl))) ?_ | refine bcs_dec (fun h => ?_) (fun h => False.elim (by first | omega | exact h rfl)) | refine bcs_dec (fun h => False.elim (by omega)) (fun h => ?_) | refine bcs_dec (fun h => ?_) (fun h => ?_) | refine bcs_ndec (fun h => ?_) (fun h => ?_) | refine bcs_not ?_ | refine bcs_intro (fun h => ?_) (fun h => ?_) | refine And.intro ?_ ?_ | refine reg_tail (by kernel_rfl) ?_)
        refine ret_plain ?_
        repeat' (first | refine And.intro ?_ ?_ | exact trivial)
        all_goals exact rfl
      · obtain rfl : x = a.length := by omega
        rw [show ((a.length : Int) - a.length).toNat = 0 by omega] at g8
        simp only [alkF] at g8
        subst g8
        have cK := alkF0_con a b hf d a.length a.length y (by omega)
        repeat' (first | refine And.intro (by first | omega | (dsimp only; omega) | (show (_ : Bool) = true; kernel_rfl) | decide | (repeat' (first | refine And.intro ?_ ?_ | exact trivial | exact rfl))) ?_ | refine bcs_dec (fun h => ?_) (fun h => False.elim (by first | omega | exact h rfl)) | refine bcs_dec (fun h => False.elim (by omega)) (fun h => ?_) | refine bcs_dec (fun h => ?_) (fun h => ?_) | refine bcs_ndec (fun h => ?_) (fun h => ?_) | refine bcs_not ?_ | refine bcs_intro (fun h => ?_) (fun h => ?_) | refine And.intro ?_ ?_ | refine reg_tail (by kernel_rfl) ?_)
        refine call_rule [.at 8 0, .at 9 0, .at 7 0, .at 3 0, .at 4 0, .at 6 0, .at 1 0, .at 2 0] (cK) hG ?_ ?_
        · (refine ⟨?_, ?_, rfl, rfl, rfl⟩ <;> repeat' (first | refine And.intro ?_ ?_ | exact trivial | exact rfl | refine lt0 | refine lt1 ?_ | refine lt2 ?_ ?_ | refine lt3 ?_ ?_ ?_ | refine lt4 ?_ ?_ ?_ ?_ | exact veq_refl _ | decide | (intro i hi; repeat' (first | refine And.intro ?_ ?_ | exact trivial | exact rfl))))
          all_goals first | exact Nat.le_refl _ | omega
        rintro _ _ _ ⟨rfl, rfl, rfl⟩
        repeat' (first | refine And.intro (by first | omega | (dsimp only; omega) | (show (_ : Bool) = true; kernel_rfl) | decide | (repeat' (first | refine And.intro ?_ ?_ | exact trivial | exact rfl))) ?_ | refine bcs_dec (fun h => ?_) (fun h => False.elim (by first | omega | exact h rfl)) | refine bcs_dec (fun h => False.elim (by omega)) (fun h => ?_) | refine bcs_dec (fun h => ?_) (fun h => ?_) | refine bcs_ndec (fun h => ?_) (fun h => ?_) | refine bcs_not ?_ | refine bcs_intro (fun h => ?_) (fun h => ?_) | refine And.intro ?_ ?_ | refine reg_tail (by kernel_rfl) ?_)
        refine call_rule [.at 6 0] (strPF_con hf d) hG ?_ ?_
        · (refine ⟨?_, ?_, rfl, rfl, rfl⟩ <;> repeat' (first | refine And.intro ?_ ?_ | exact trivial | exact rfl | refine lt0 | refine lt1 ?_ | refine lt2 ?_ ?_ | refine lt3 ?_ ?_ ?_ | refine lt4 ?_ ?_ ?_ ?_ | exact veq_refl _ | decide | (intro i hi; repeat' (first | refine And.intro ?_ ?_ | exact trivial | exact rfl))))
          all_goals first | exact Nat.le_refl _ | omega
        rintro _ _ _ ⟨rfl, rfl, rfl⟩
        repeat' (first | refine And.intro (by first | omega | (dsimp only; omega) | (show (_ : Bool) = true; kernel_rfl) | decide | (repeat' (first | refine And.intro ?_ ?_ | exact trivial | exact rfl))) ?_ | refine bcs_dec (fun h => ?_) (fun h => False.elim (by first | omega | exact h rfl)) | refine bcs_dec (fun h => False.elim (by omega)) (fun h => ?_) | refine bcs_dec (fun h => ?_) (fun h => ?_) | refine bcs_ndec (fun h => ?_) (fun h => ?_) | refine bcs_not ?_ | refine bcs_intro (fun h => ?_) (fun h => ?_) | refine And.intro ?_ ?_ | refine reg_tail (by kernel_rfl) ?_)
        refine ret_plain ?_
        repeat' (first | refine And.intro ?_ ?_ | exact trivial)
        all_goals exact rfl
    | some out =>
      simp only [pOut] at g7 g8
      have cK := alkU_con a b hf d a.length x y out ha hb hal hbl hh1 hh2 hd1 hd2 g2 g3 (by omega) (by omega) (by omega) (by omega)
      have hTn : T ≠ [] := by rw [← g8]; exact fun e => gn (by rw [(List.append_eq_nil_iff.1 e).1])
      rw [g8] at cK
      repeat' (first | refine And.intro (by first | omega | (dsimp only; omega) | (show (_ : Bool) = true; kernel_rfl) | decide | (repeat' (first | refine And.intro ?_ ?_ | exact trivial | exact rfl))) ?_ | refine bcs_dec (fun h => ?_) (fun h => False.elim (by first | omega | exact h rfl)) | refine bcs_dec (fun h => False.elim (by omega)) (fun h => ?_) | refine bcs_dec (fun h => ?_) (fun h => ?_) | refine bcs_ndec (fun h => ?_) (fun h => ?_) | refine bcs_not ?_ | refine bcs_intro (fun h => ?_) (fun h => ?_) | refine And.intro ?_ ?_ | refine reg_tail (by kernel_rfl) ?_)
      refine call_rule [.at 8 0, .at 9 0, .at 7 0, .at 3 0, .at 4 0, .at 6 0, .at 1 0, .at 2 0, .at 10 0] (cK) hG ?_ ?_
      · (refine ⟨?_, ?_, rfl, rfl, rfl⟩ <;> repeat' (first | refine And.intro ?_ ?_ | exact trivial | exact rfl | refine lt0 | refine lt1 ?_ | refine lt2 ?_ ?_ | refine lt3 ?_ ?_ ?_ | refine lt4 ?_ ?_ ?_ ?_ | exact veq_refl _ | decide | (intro i hi; repeat' (first | refine And.intro ?_ ?_ | exact trivial | exact rfl))))
        all_goals first | exact Nat.le_refl _ | omega
      rintro _ _ _ ⟨rfl, rfl, rfl⟩
      repeat' (first | refine And.intro (by first | omega | (dsimp only; omega) | (show (_ : Bool) = true; kernel_rfl) | decide | (repeat' (first | refine And.intro ?_ ?_ | exact trivial | exact rfl))) ?_ | refine bcs_dec (fun h => ?_) (fun h => False.elim (by first | omega | exact h rfl)) | refine bcs_dec (fun h => False.elim (by omega)) (fun h => ?_) | refine bcs_dec (fun h => ?_) (fun h => ?_) | refine bcs_ndec (fun h => ?_) (fun h => ?_) | refine bcs_not ?_ | refine bcs_intro (fun h => ?_) (fun h => ?_) | refine And.intro ?_ ?_ | refine reg_tail (by kernel_rfl) ?_)
      refine call_rule [.at 6 0, .at 11 0] (strPU_con hf d T hTn) hG ?_ ?_
      · (refine ⟨?_, ?_, rfl, rfl, rfl⟩ <;> repeat' (first | refine And.intro ?_ ?_ | exact trivial | exact rfl | refine lt0 | refine lt1 ?_ | refine lt2 ?_ ?_ | refine lt3 ?_ ?_ ?_ | refine lt4 ?_ ?_ ?_ ?_ | exact veq_refl _ | decide | (intro i hi; repeat' (first | refine And.intro ?_ ?_ | exact trivial | exact rfl))))
        all_goals first | exact Nat.le_refl _ | omega
      rintro _ _ _ ⟨rfl, rfl, rfl⟩
      repeat' (first | refine And.intro (by first | omega | (dsimp only; omega) | (show (_ : Bool) = true; kernel_rfl) | decide | (repeat' (first | refine And.intro ?_ ?_ | exact trivial | exact rfl))) ?_ | refine bcs_dec (fun h => ?_) (fun h => False.elim (by first | omega | exact h rfl)) | refine bcs_dec (fun h => False.elim (by omega)) (fun h => ?_) | refine bcs_dec (fun h => ?_) (fun h => ?_) | refine bcs_ndec (fun h => ?_) (fun h => ?_) | refine bcs_not ?_ | refine bcs_intro (fun h => ?_) (fun h => ?_) | refine And.intro ?_ ?_ | refine reg_tail (by kernel_rfl) ?_)
      refine ret_plain ?_
      repeat' (first | refine And.intro ?_ ?_ | exact trivial)
      all_goals exact rfl
end Go.Proofs.YtjlobgcmhnkgnaaDoor
