/- Chapter 15: both columns: the document's walked. Printed by gen_c8.py. -/
import Derived.Test.YtjlobgcmhnkgnaaDoorC5
import Derived.Test.YtjlobgcmhnkgnaaDoorC6
namespace Go.Proofs.YtjlobgcmhnkgnaaDoor
open Go Go.RowKit Vc

/-- The same with the end as a change. -/
def prR (a b : List Byt) (hf s : Int) : List Chg → Int → Int → Byt
  | [], _, _ => []
  | c :: r, x, y => alkF a b hf s (c.A - x).toNat x y ++ (blkF a b hf s c (max c.N c.M).toNat 0 ++ prR a b hf s r (c.A + c.N) (c.B + c.M))
def okP (n m : Int) : List Chg → Int → Int → Prop
  | [], _, _ => True
  | c :: r, x, y => (x ≤ c.A ∧ c.A - x = c.B - y ∧ 0 ≤ c.N ∧ 0 ≤ c.M ∧ c.A + c.N ≤ n ∧ c.B + c.M ≤ m) ∧ okP n m r (c.A + c.N) (c.B + c.M)
theorem prR_end (a b : List Byt) (hf s : Int) : ∀ (L : List Chg) (x y : Int), prR a b hf s (L ++ [⟨a.length, 0, b.length, 0⟩]) x y = prF a b hf s L x y
  | [], x, y => by
    show alkF a b hf s ((a.length : Int) - x).toNat x y ++ (blkF a b hf s _ (max (0 : Int) 0).toNat 0 ++ []) = _
    simp [prF, blkF]
  | c :: r, x, y => by
    show alkF a b hf s (c.A - x).toNat x y ++ (blkF a b hf s c (max c.N c.M).toNat 0 ++ prR a b hf s (r ++ [⟨a.length, 0, b.length, 0⟩]) (c.A + c.N) (c.B + c.M)) = _
    rw [prR_end a b hf s r]
    rfl
theorem okP_end {n m : Int} : ∀ (L : List Chg) (x p : Int), validF L x p n m = 0 → x ≤ n → okP n m (L ++ [⟨n, 0, m, 0⟩]) x p
  | [], x, p, hv, hx => by
    have := valid_nil hv
    exact ⟨⟨hx, by show n - x = m - p; omega, Int.le_refl _, Int.le_refl _, by show n + 0 ≤ n; omega, by show m + 0 ≤ m; omega⟩, trivial⟩
  | c :: r, x, p, hv, hx => by
    obtain ⟨k1, k2⟩ := valid_cons hv
    unfold bad at k1
    exact ⟨⟨by omega, by omega, by omega, by omega, by omega, by omega⟩, okP_end r _ _ k2 (by omega)⟩

set_option maxRecDepth 100000 in
set_option maxHeartbeats 64000000 in
theorem rPrint_ok (s L : List Chg) (a b : List Byt) (w hf d : Int) (hw1 : 7 ≤ w) (hw2 : w ≤ 4096) (hh : hf = (w - 3) / 2) (hd : d = (w - 3) / 2 + 3) (ha : a.flatten.length ≤ 4194304) (hb : b.flatten.length ≤ 4194304) (hal : a.length ≤ 4194304) (hbl : b.length ≤ 4194304)
    (cN : Con Tryd.prog glob 13 [.s 0 0 s.length, .v (.int .i64 a.length), .v (.int .i64 b.length)] [(0, chRo s)] 1 (retM (.t [.o 1, .v (.int .i64 0)]) [(1, chOwn L)] 2)) (hL : L.length ≤ 4194304)
    (hv : validF L 0 0 a.length b.length = 0) (va : validB a = true) (vb : validB b = true) :
    Con Tryd.prog glob 16 [.s 0 0 s.length, .s 1 0 a.length, .s 2 0 b.length, .v (.int .i64 w)] [(0, chRo s), (1, stRo a), (2, stRo b)] 3 (retV 3 (.t [str (prF a b hf d L 0 0), .v (.int .i64 0)])) := by
  have cC := rColumns_ok w hw1 hw2
  rw [← hd, ← hh] at cC
  have hax : ∀ x ∈ a, x.length ≤ 140737488355328 := fun x hx => by
    obtain ⟨i, hi, rfl⟩ := List.getElem_of_mem hx
    have := getD_flat a i
    rw [List.getD_eq_getElem?_getD, List.getElem?_eq_getElem hi] at this
    simp only [Option.getD_some] at this
    omega
  have hbx : ∀ x ∈ b, x.length ≤ 140737488355328 := fun x hx => by
    obtain ⟨i, hi, rfl⟩ := List.getElem_of_mem hx
    have := getD_flat b i
    rw [List.getD_eq_getElem?_getD, List.getElem?_eq_getElem hi] at this
    simp only [Option.getD_some] at this
    omega
  have cVa := lrValid_con a (by omega) hax
  have cVb := lrValid_con b (by omega) hbx
  rw [va] at cVa
  rw [vb] at cVb
  have hh1 : 2 ≤ hf := by omega
  have hh2 : hf ≤ 4096 := by omega
  have hd1 : 0 ≤ d := by omega
  have hd2 : d ≤ 8192 := by omega
  clear hax hbx hh hd
  obtain ⟨T, hT⟩ : ∃ T, T = prF a b hf d L 0 0 := ⟨_, rfl⟩
  rw [← hT]
  rw [← prR_end] at hT
  have hok := okP_end L 0 0 hv (by omega)
  obtain ⟨R, hR⟩ : ∃ R, R = L ++ [⟨(a.length : Int), 0, (b.length : Int), 0⟩] := ⟨_, rfl⟩
  have hRl : R.length = L.length + 1 := by rw [hR]; simp
  refine spec_intro (tab := tab) (N := 194) Tryd.func16 rfl rfl tab_ok mix rfl rfl _ rfl ?_
  intro B hG
  repeat' (first | refine And.intro (by first | omega | (dsimp only; omega) | (show (_ : Bool) = true; kernel_rfl) | decide | (repeat' (first | refine And.intro ?_ ?_ | exact trivial | exact rfl))) ?_ | refine bcs_dec (fun h => ?_) (fun h => False.elim (by first | omega | exact h rfl)) | refine bcs_dec (fun h => False.elim (by omega)) (fun h => ?_) | refine bcs_dec (fun h => ?_) (fun h => ?_) | refine bcs_ndec (fun h => ?_) (fun h => ?_) | refine bcs_not ?_ | refine bcs_intro (fun h => ?_) (fun h => ?_) | refine And.intro ?_ ?_ | refine reg_tail (by kernel_rfl) ?_)
  refine call_rule [] (cC) hG ?_ ?_
  · (refine ⟨?_, ?_, rfl, rfl, rfl⟩ <;> repeat' (first | refine And.intro ?_ ?_ | exact trivial | exact rfl | refine lt0 | refine lt1 ?_ | refine lt2 ?_ ?_ | refine lt3 ?_ ?_ ?_ | refine lt4 ?_ ?_ ?_ ?_ | exact veq_refl _ | decide | (intro i hi; repeat' (first | refine And.intro ?_ ?_ | exact trivial | exact rfl))))
    all_goals first | exact Nat.le_refl _ | omega
  rintro _ _ _ ⟨rfl, rfl, rfl⟩
  repeat' (first | refine And.intro (by first | omega | (dsimp only; omega) | (show (_ : Bool) = true; kernel_rfl) | decide | (repeat' (first | refine And.intro ?_ ?_ | exact trivial | exact rfl))) ?_ | refine bcs_dec (fun h => ?_) (fun h => False.elim (by first | omega | exact h rfl)) | refine bcs_dec (fun h => False.elim (by omega)) (fun h => ?_) | refine bcs_dec (fun h => ?_) (fun h => ?_) | refine bcs_ndec (fun h => ?_) (fun h => ?_) | refine bcs_not ?_ | refine bcs_intro (fun h => ?_) (fun h => ?_) | refine And.intro ?_ ?_ | refine reg_tail (by kernel_rfl) ?_)
  refine call_rule [.at 0 0] (cN) hG ?_ ?_
  · (refine ⟨?_, ?_, rfl, rfl, rfl⟩ <;> repeat' (first | refine And.intro ?_ ?_ | exact trivial | exact rfl | refine lt0 | refine lt1 ?_ | refine lt2 ?_ ?_ | refine lt3 ?_ ?_ ?_ | refine lt4 ?_ ?_ ?_ ?_ | exact veq_refl _ | decide | (intro i hi; repeat' (first | refine And.intro ?_ ?_ | exact trivial | exact rfl))))
    all_goals first | exact Nat.le_refl _ | omega
  rintro _ _ _ ⟨rfl, rfl, rfl⟩
  repeat' (first | refine And.intro (by first | omega | (dsimp only; omega) | (show (_ : Bool) = true; kernel_rfl) | decide | (repeat' (first | refine And.intro ?_ ?_ | exact trivial | exact rfl))) ?_ | refine bcs_dec (fun h => ?_) (fun h => False.elim (by first | omega | exact h rfl)) | refine bcs_dec (fun h => False.elim (by omega)) (fun h => ?_) | refine bcs_dec (fun h => ?_) (fun h => ?_) | refine bcs_ndec (fun h => ?_) (fun h => ?_) | refine bcs_not ?_ | refine bcs_intro (fun h => ?_) (fun h => ?_) | refine And.intro ?_ ?_ | refine reg_tail (by kernel_rfl) ?_)
  refine call_rule [.at 1 0] (cVa) hG ?_ ?_
  · (refine ⟨?_, ?_, rfl, rfl, rfl⟩ <;> repeat' (first | refine And.intro ?_ ?_ | exact trivial | exact rfl | refine lt0 | refine lt1 ?_ | refine lt2 ?_ ?_ | refine lt3 ?_ ?_ ?_ | refine lt4 ?_ ?_ ?_ ?_ | exact veq_refl _ | decide | (intro i hi; repeat' (first | refine And.intro ?_ ?_ | exact trivial | exact rfl))))
    all_goals first | exact Nat.le_refl _ | omega
  rintro _ _ _ ⟨rfl, rfl, rfl⟩
  repeat' (first | refine And.intro (by first | omega | (dsimp only; omega) | (show (_ : Bool) = true; kernel_rfl) | decide | (repeat' (first | refine And.intro ?_ ?_ | exact trivial | exact rfl))) ?_ | refine bcs_dec (fun h => ?_) (fun h => False.elim (by first | omega | exact h rfl)) | refine bcs_dec (fun h => False.elim (by omega)) (fun h => ?_) | refine bcs_dec (fun h => ?_) (fun h => ?_) | refine bcs_ndec (fun h => ?_) (fun h => ?_) | refine bcs_not ?_ | refine bcs_intro (fun h => ?_) (fun h => ?_) | refine And.intro ?_ ?_ | refine reg_tail (by kernel_rfl) ?_)
  refine call_rule [.at 2 0] (cVb) hG ?_ ?_
  · (refine ⟨?_, ?_, rfl, rfl, rfl⟩ <;> repeat' (first | refine And.intro ?_ ?_ | exact trivial | exact rfl | refine lt0 | refine lt1 ?_ | refine lt2 ?_ ?_ | refine lt3 ?_ ?_ ?_ | refine lt4 ?_ ?_ ?_ ?_ | exact veq_refl _ | decide | (intro i hi; repeat' (first | refine And.intro ?_ ?_ | exact trivial | exact rfl))))
    all_goals first | exact Nat.le_refl _ | omega
  rintro _ _ _ ⟨rfl, rfl, rfl⟩
  repeat' (first | refine And.intro (by first | omega | (dsimp only; omega) | (show (_ : Bool) = true; kernel_rfl) | decide | (repeat' (first | refine And.intro ?_ ?_ | exact trivial | exact rfl))) ?_ | refine bcs_dec (fun h => ?_) (fun h => False.elim (by first | omega | exact h rfl)) | refine bcs_dec (fun h => False.elim (by omega)) (fun h => ?_) | refine bcs_dec (fun h => ?_) (fun h => ?_) | refine bcs_ndec (fun h => ?_) (fun h => ?_) | refine bcs_not ?_ | refine bcs_intro (fun h => ?_) (fun h => ?_) | refine And.intro ?_ ?_ | refine reg_tail (by kernel_rfl) ?_)
  refine app1 Chg.enc Chg.d L ⟨a.length, 0, b.length, 0⟩ rfl rfl ?_
  rw [← hR] at hok hT ⊢
  repeat' (first | refine And.intro (by first | omega | (dsimp only; omega) | (show (_ : Bool) = true; kernel_rfl) | decide | (repeat' (first | refine And.intro ?_ ?_ | exact trivial | exact rfl))) ?_ | refine bcs_dec (fun h => ?_) (fun h => False.elim (by first | omega | exact h rfl)) | refine bcs_dec (fun h => False.elim (by omega)) (fun h => ?_) | refine bcs_dec (fun h => ?_) (fun h => ?_) | refine bcs_ndec (fun h => ?_) (fun h => ?_) | refine bcs_not ?_ | refine bcs_intro (fun h => ?_) (fun h => ?_) | refine And.intro ?_ ?_ | refine reg_tail (by kernel_rfl) ?_)
  refine loop_rule (α := Nat × Int × Int × Byt) (fun (k, x, y, o) => ⟨[(1, .s 1 0 a.length), (2, .s 2 0 b.length), (10, .v (.int .i64 hf)), (11, .v (.int .i64 d)), (13, .s 3 0 R.length), (14, .o 4), (15, .v (.int .i64 x)), (16, .v (.int .i64 y)), (17, .v (.int .i64 k))], [(1, stRo a), (2, stRo b), (3, chRo R), (4, byOwn o)], 5⟩)
    (fun (k, x, y, o) => k ≤ R.length ∧ 0 ≤ x ∧ 0 ≤ y ∧ x ≤ a.length ∧ y ≤ b.length ∧ okP a.length b.length (R.drop k) x y ∧
      (o.length : Int) + 8200 * ((a.length - x) + (b.length - y)) ≤ 100000000000 ∧ o ++ prR a b hf d (R.drop k) x y = T) (fun (k, _) => R.length - k) (0, 0, 0, []) [.at 5 0, .nil 1] ?_ ?_ ?_
  · exact ⟨by omega, by omega, by omega, by omega, by omega, hok, by show ((0 : Nat) : Int) + _ ≤ _; omega, hT.symm⟩
  · (refine ⟨rfl, rfl, ?_, ?_⟩ <;> repeat' (first | refine And.intro ?_ ?_ | exact trivial | exact rfl | refine lt0 | refine lt1 ?_ | refine lt2 ?_ ?_ | refine lt3 ?_ ?_ ?_ | refine lt4 ?_ ?_ ?_ ?_ | exact veq_refl _ | decide | (intro i hi; repeat' (first | refine And.intro ?_ ?_ | exact trivial | exact rfl))))
    all_goals first | omega | exact Nat.le_refl _ | skip
  rintro ⟨k, x, y, o⟩ ⟨g1, g2, g3, g4, g5, g6, g7, g8⟩
  by_cases hk : k < R.length
  · rw [drop_get Chg.d R k hk] at g6 g8
    have hCC : R.getD k Chg.d = (R.getD (0 + (k : Int).toNat) Chg.d) := by rw [Nat.zero_add]; rfl
    rw [hCC] at g6 g8
    obtain ⟨⟨hb1, hb2, hb3, hb4, hb5, hb6⟩, hr⟩ := g6
    simp only [prR] at g8
    repeat' (first | refine And.intro (by first | omega | (dsimp only; omega) | (show (_ : Bool) = true; kernel_rfl) | decide | (repeat' (first | refine And.intro ?_ ?_ | exact trivial | exact rfl))) ?_ | refine bcs_dec (fun h => ?_) (fun h => False.elim (by first | omega | exact h rfl)) | refine bcs_dec (fun h => False.elim (by omega)) (fun h => ?_) | refine bcs_dec (fun h => ?_) (fun h => ?_) | refine bcs_ndec (fun h => ?_) (fun h => ?_) | refine bcs_not ?_ | refine bcs_intro (fun h => ?_) (fun h => ?_) | refine And.intro ?_ ?_ | refine reg_tail (by kernel_rfl) ?_)
    refine loop_rule (α := Int × Int × Byt) (fun (u, v, o) => ⟨[(1, .s 1 0 a.length), (2, .s 2 0 b.length), (10, .v (.int .i64 hf)), (11, .v (.int .i64 d)), (13, .s 3 0 R.length), (14, .o 4), (15, .v (.int .i64 u)), (16, .v (.int .i64 v)), (17, .v (.int .i64 k))], [(1, stRo a), (2, stRo b), (3, chRo R), (4, byOwn o)], 5⟩)
      (fun (u, v, o) => x ≤ u ∧ u ≤ (R.getD (0 + (k : Int).toNat) Chg.d).A ∧ v - y = u - x ∧ (o.length : Int) + 8200 * ((a.length - u) + (b.length - v)) ≤ 100000000000 ∧
        o ++ (alkF a b hf d ((R.getD (0 + (k : Int).toNat) Chg.d).A - u).toNat u v ++ (blkF a b hf d (R.getD (0 + (k : Int).toNat) Chg.d) (max (R.getD (0 + (k : Int).toNat) Chg.d).N (R.getD (0 + (k : Int).toNat) Chg.d).M).toNat 0 ++ prR a b hf d (R.drop (k + 1)) ((R.getD (0 + (k : Int).toNat) Chg.d).A + (R.getD (0 + (k : Int).toNat) Chg.d).N) ((R.getD (0 + (k : Int).toNat) Chg.d).B + (R.getD (0 + (k : Int).toNat) Chg.d).M))) = T)
      (fun (u, _) => ((R.getD (0 + (k : Int).toNat) Chg.d).A - u).toNat) (x, y, o) [.at 3 0, .at 4 0] ?_ ?_ ?_
    · exact ⟨by omega, by omega, by omega, g7, g8⟩
    · (refine ⟨rfl, rfl, ?_, ?_⟩ <;> repeat' (first | refine And.intro ?_ ?_ | exact trivial | exact rfl | refine lt0 | refine lt1 ?_ | refine lt2 ?_ ?_ | refine lt3 ?_ ?_ ?_ | refine lt4 ?_ ?_ ?_ ?_ | exact veq_refl _ | decide | (intro i hi; repeat' (first | refine And.intro ?_ ?_ | exact trivial | exact rfl))))
      all_goals first | omega | exact Nat.le_refl _ | skip
    clear g7 g8
    rintro ⟨u, v, o⟩ ⟨j1, j2, j3, j4, j5⟩
    by_cases hu : u < (R.getD (0 + (k : Int).toNat) Chg.d).A
    · have hst : ((R.getD (0 + (k : Int).toNat) Chg.d).A - u).toNat = ((R.getD (0 + (k : Int).toNat) Chg.d).A - (u + 1)).toNat + 1 := by omega
      rw [hst] at j5
      simp only [alkF] at j5
      rw [show a.getD u.toNat [] = (a.getD (0 + u.toNat) []) by rw [Nat.zero_add], show b.getD v.toNat [] = (b.getD (0 + v.toNat) []) by rw [Nat.zero_add]] at j5
      have la := getD_flat a (0 + u.toNat)
      have lb := getD_flat b (0 + v.toNat)
      have cb := mark_con (a.getD (0 + u.toNat) []) (b.getD (0 + v.toNat) []) (by omega) (by omega)
      have cr := rRow_con (a.getD (0 + u.toNat) []) (b.getD (0 + v.toNat) []) (besideF (a.getD (0 + u.toNat) []) (b.getD (0 + v.toNat) [])) hf d (by omega) (by omega) hh1 hh2 hd1 hd2
      have lr := row_len (a.getD (0 + u.toNat) []) (besideF (a.getD (0 + u.toNat) []) (b.getD (0 + v.toNat) [])) (b.getD (0 + v.toNat) []) (s := d) hh1 hh2
      obtain ⟨X, hX⟩ : ∃ X, X = rowF (a.getD (0 + u.toNat) []) (besideF (a.getD (0 + u.toNat) []) (b.getD (0 + v.toNat) [])) (b.getD (0 + v.toNat) []) hf d := ⟨_, rfl⟩
      have zX : (bs X).size = X.length := bs_size X
      rw [← hX] at j5 lr cr
      repeat' (first | refine Both.mk ?_ ?_ | refine And.intro (by first | omega | (dsimp only; omega) | (show (_ : Bool) = true; kernel_rfl) | decide | (repeat' (first | refine And.intro ?_ ?_ | exact trivial | exact rfl))) ?_ | refine bcs_dec (fun h => ?_) (fun h => False.elim (by first | omega | exact h rfl)) | refine bcs_dec (fun h => False.elim (by omega)) (fun h => ?_) | refine bcs_dec (fun h => ?_) (fun h => ?_) | refine bcs_ndec (fun h => ?_) (fun h => ?_) | refine bcs_not ?_ | refine And.intro ?_ ?_)
      refine reg_ord [] (.early 0 (.early 1 (.early 2 (.early 3 (.early 4 (.early 5 (.early 6 (.early 7 (.early 8 (.early 9 (.early 10 (.early 11 (.early 12 (.early 14 (.early 15 (.early 16 (.early 17 (.early 18 (.early 19 (.late 13 (.late 20 (.late 21 (.late 22 .nil))))))))))))))))))))))) (by decide +kernel) rfl ?_
      intro B' hB'
      have hG' := hG
      have hG := hB'.trans hG
      repeat' (first | refine Both.mk ?_ ?_ | refine And.intro (by first | omega | (dsimp only; omega) | (show (_ : Bool) = true; kernel_rfl) | decide | (repeat' (first | refine And.intro ?_ ?_ | exact trivial | exact rfl))) ?_ | refine bcs_dec (fun h => ?_) (fun h => False.elim (by first | omega | exact h rfl)) | refine bcs_dec (fun h => False.elim (by omega)) (fun h => ?_) | refine bcs_dec (fun h => ?_) (fun h => ?_) | refine bcs_ndec (fun h => ?_) (fun h => ?_) | refine bcs_not ?_ | refine And.intro ?_ ?_)
      refine call_rule [] (cb) hG ?_ ?_
      · (refine ⟨?_, ?_, rfl, rfl, rfl⟩ <;> repeat' (first | refine And.intro ?_ ?_ | exact trivial | exact rfl | refine lt0 | refine lt1 ?_ | refine lt2 ?_ ?_ | refine lt3 ?_ ?_ ?_ | refine lt4 ?_ ?_ ?_ ?_ | exact veq_refl _ | decide | (intro i hi; repeat' (first | refine And.intro ?_ ?_ | exact trivial | exact rfl))))
        all_goals first | exact Nat.le_refl _ | omega
      rintro _ _ _ ⟨rfl, rfl, rfl⟩
      repeat' (first | refine Both.mk ?_ ?_ | refine And.intro (by first | omega | (dsimp only; omega) | (show (_ : Bool) = true; kernel_rfl) | decide | (repeat' (first | refine And.intro ?_ ?_ | exact trivial | exact rfl))) ?_ | refine bcs_dec (fun h => ?_) (fun h => False.elim (by first | omega | exact h rfl)) | refine bcs_dec (fun h => False.elim (by omega)) (fun h => ?_) | refine bcs_dec (fun h => ?_) (fun h => ?_) | refine bcs_ndec (fun h => ?_) (fun h => ?_) | refine bcs_not ?_ | refine And.intro ?_ ?_)
      refine call_rule [] (cr) hG ?_ ?_
      · (refine ⟨?_, ?_, rfl, rfl, rfl⟩ <;> repeat' (first | refine And.intro ?_ ?_ | exact trivial | exact rfl | refine lt0 | refine lt1 ?_ | refine lt2 ?_ ?_ | refine lt3 ?_ ?_ ?_ | refine lt4 ?_ ?_ ?_ ?_ | exact veq_refl _ | decide | (intro i hi; repeat' (first | refine And.intro ?_ ?_ | exact trivial | exact rfl))))
        all_goals first | exact Nat.le_refl _ | omega
      rintro _ _ _ ⟨rfl, rfl, rfl⟩
      repeat' (first | refine Both.mk ?_ ?_ | refine And.intro (by first | omega | (dsimp only; omega) | (show (_ : Bool) = true; kernel_rfl) | decide | (repeat' (first | refine And.intro ?_ ?_ | exact trivial | exact rfl))) ?_ | refine bcs_dec (fun h => ?_) (fun h => False.elim (by first | omega | exact h rfl)) | refine bcs_dec (fun h => False.elim (by omega)) (fun h => ?_) | refine bcs_dec (fun h => ?_) (fun h => ?_) | refine bcs_ndec (fun h => ?_) (fun h => ?_) | refine bcs_not ?_ | refine And.intro ?_ ?_)
      refine ext_apps Tryd.underlying55 Tryd.underlying9 (te := Tryd.t5) (by kernel_rfl) rfl rfl rfl rfl ?_
      repeat' (first | refine And.intro (by first | omega | (dsimp only; omega) | (show (_ : Bool) = true; kernel_rfl) | decide | (repeat' (first | refine And.intro ?_ ?_ | exact trivial | exact rfl))) ?_ | refine bcs_dec (fun h => ?_) (fun h => ?_) | refine bcs_ndec (fun h => ?_) (fun h => ?_) | refine bcs_not ?_ | refine bcs_intro (fun h => ?_) (fun h => ?_) | refine And.intro ?_ ?_)
      refine appB rfl ?_
      repeat' (first | refine And.intro (by first | omega | (dsimp only; omega) | (show (_ : Bool) = true; kernel_rfl) | decide | (repeat' (first | refine And.intro ?_ ?_ | exact trivial | exact rfl))) ?_ | refine bcs_dec (fun h => ?_) (fun h => False.elim (by first | omega | exact h rfl)) | refine bcs_dec (fun h => False.elim (by omega)) (fun h => ?_) | refine bcs_dec (fun h => ?_) (fun h => ?_) | refine bcs_ndec (fun h => ?_) (fun h => ?_) | refine bcs_not ?_ | refine bcs_intro (fun h => ?_) (fun h => ?_) | refine And.intro ?_ ?_ | refine reg_tail (by kernel_rfl) ?_)
      refine ⟨(u + 1, v + 1, o ++ X), [.at 3 0, .at 5 0], ?_, ?_, ?_⟩
      · refine ⟨by omega, by omega, by omega, ?_, ?_⟩
        · rw [List.length_append]; omega
        · rw [← j5]; simp only [List.append_assoc]
      · show ((R.getD (0 + (k : Int).toNat) Chg.d).A - (u + 1)).toNat < ((R.getD (0 + (k : Int).toNat) Chg.d).A - u).toNat
        omega
      · (refine ⟨rfl, rfl, ?_, ?_⟩ <;> repeat' (first | refine And.intro ?_ ?_ | exact trivial | exact rfl | refine lt0 | refine lt1 ?_ | refine lt2 ?_ ?_ | refine lt3 ?_ ?_ ?_ | refine lt4 ?_ ?_ ?_ ?_ | exact veq_refl _ | decide | (intro i hi; repeat' (first | refine And.intro ?_ ?_ | exact trivial | exact rfl))))
        all_goals first | omega | exact Nat.le_refl _ | (rw [List.length_append, bs_size]; done) | skip
    obtain rfl : u = (R.getD (0 + (k : Int).toNat) Chg.d).A := by omega
    obtain rfl : v = (R.getD (0 + (k : Int).toNat) Chg.d).B := by omega
    rw [show ((R.getD (0 + (k : Int).toNat) Chg.d).A - (R.getD (0 + (k : Int).toNat) Chg.d).A).toNat = 0 by omega] at j5
    simp only [alkF, List.nil_append] at j5
    repeat' (first | refine And.intro (by first | omega | (dsimp only; omega) | (show (_ : Bool) = true; kernel_rfl) | decide | (repeat' (first | refine And.intro ?_ ?_ | exact trivial | exact rfl))) ?_ | refine bcs_dec (fun h => ?_) (fun h => False.elim (by first | omega | exact h rfl)) | refine bcs_dec (fun h => False.elim (by omega)) (fun h => ?_) | refine bcs_dec (fun h => ?_) (fun h => ?_) | refine bcs_ndec (fun h => ?_) (fun h => ?_) | refine bcs_not ?_ | refine bcs_intro (fun h => ?_) (fun h => ?_) | refine And.intro ?_ ?_ | refine reg_tail (by kernel_rfl) ?_)
    refine loop_rule (α := Int × Byt) (fun (i, o) => ⟨[(1, .s 1 0 a.length), (2, .s 2 0 b.length), (10, .v (.int .i64 hf)), (11, .v (.int .i64 d)), (13, .s 3 0 R.length), (14, .o 4), (15, .v (.int .i64 (R.getD (0 + (k : Int).toNat) Chg.d).A)), (16, .v (.int .i64 (R.getD (0 + (k : Int).toNat) Chg.d).B)), (17, .v (.int .i64 k)), (18, .v (.int .i64 i))], [(1, stRo a), (2, stRo b), (3, chRo R), (4, byOwn o)], 5⟩)
      (fun (i, o) => 0 ≤ i ∧ i ≤ max (R.getD (0 + (k : Int).toNat) Chg.d).N (R.getD (0 + (k : Int).toNat) Chg.d).M ∧ (o.length : Int) + 8200 * ((max (R.getD (0 + (k : Int).toNat) Chg.d).N (R.getD (0 + (k : Int).toNat) Chg.d).M - i) + ((a.length - ((R.getD (0 + (k : Int).toNat) Chg.d).A + (R.getD (0 + (k : Int).toNat) Chg.d).N)) + (b.length - ((R.getD (0 + (k : Int).toNat) Chg.d).B + (R.getD (0 + (k : Int).toNat) Chg.d).M)))) ≤ 100000000000 ∧
        o ++ (blkF a b hf d (R.getD (0 + (k : Int).toNat) Chg.d) (max (R.getD (0 + (k : Int).toNat) Chg.d).N (R.getD (0 + (k : Int).toNat) Chg.d).M - i).toNat i ++ prR a b hf d (R.drop (k + 1)) ((R.getD (0 + (k : Int).toNat) Chg.d).A + (R.getD (0 + (k : Int).toNat) Chg.d).N) ((R.getD (0 + (k : Int).toNat) Chg.d).B + (R.getD (0 + (k : Int).toNat) Chg.d).M)) = T)
      (fun (i, _) => (max (R.getD (0 + (k : Int).toNat) Chg.d).N (R.getD (0 + (k : Int).toNat) Chg.d).M - i).toNat) (0, o) [.at 3 0, .at 4 0] ?_ ?_ ?_
    · exact ⟨by omega, by omega, by omega, by rw [Int.sub_zero]; exact j5⟩
    · (refine ⟨rfl, rfl, ?_, ?_⟩ <;> repeat' (first | refine And.intro ?_ ?_ | exact trivial | exact rfl | refine lt0 | refine lt1 ?_ | refine lt2 ?_ ?_ | refine lt3 ?_ ?_ ?_ | refine lt4 ?_ ?_ ?_ ?_ | exact veq_refl _ | decide | (intro i hi; repeat' (first | refine And.intro ?_ ?_ | exact trivial | exact rfl))))
      all_goals first | omega | exact Nat.le_refl _ | skip
    clear j4 j5
    rintro ⟨i, o⟩ ⟨q1, q2, q3, q4⟩
    by_cases hi : i < max (R.getD (0 + (k : Int).toNat) Chg.d).N (R.getD (0 + (k : Int).toNat) Chg.d).M
    · have hst : (max (R.getD (0 + (k : Int).toNat) Chg.d).N (R.getD (0 + (k : Int).toNat) Chg.d).M - i).toNat = (max (R.getD (0 + (k : Int).toNat) Chg.d).N (R.getD (0 + (k : Int).toNat) Chg.d).M - (i + 1)).toNat + 1 := by omega
      rw [hst] at q4
      simp only [blkF] at q4
      rw [show a.getD ((R.getD (0 + (k : Int).toNat) Chg.d).A + i).toNat [] = (a.getD (0 + ((R.getD (0 + (k : Int).toNat) Chg.d).A + i).toNat) []) from congrArg (fun z => a.getD z []) (Nat.zero_add _).symm, show b.getD ((R.getD (0 + (k : Int).toNat) Chg.d).B + i).toNat [] = (b.getD (0 + ((R.getD (0 + (k : Int).toNat) Chg.d).B + i).toNat) []) from congrArg (fun z => b.getD z []) (Nat.zero_add _).symm] at q4
      have la := getD_flat a (0 + ((R.getD (0 + (k : Int).toNat) Chg.d).A + i).toNat)
      have lb := getD_flat b (0 + ((R.getD (0 + (k : Int).toNat) Chg.d).B + i).toNat)
      by_cases e1 : i ≥ (R.getD (0 + (k : Int).toNat) Chg.d).M
      · rw [if_pos e1, List.append_assoc] at q4
        have lr := row_len (a.getD (0 + ((R.getD (0 + (k : Int).toNat) Chg.d).A + i).toNat) []) 60 [] (s := d) hh1 hh2
        have cr := rRow_con (a.getD (0 + ((R.getD (0 + (k : Int).toNat) Chg.d).A + i).toNat) []) [] 60 hf d (by omega) (by simp) hh1 hh2 hd1 hd2
        obtain ⟨X, hX⟩ : ∃ X, X = rowF (a.getD (0 + ((R.getD (0 + (k : Int).toNat) Chg.d).A + i).toNat) []) 60 [] hf d := ⟨_, rfl⟩
        have zX : (bs X).size = X.length := bs_size X
        rw [← hX] at q4 lr cr
        repeat' (first | refine And.intro (by first | omega | (dsimp only; omega) | (show (_ : Bool) = true; kernel_rfl) | decide | (repeat' (first | refine And.intro ?_ ?_ | exact trivial | exact rfl))) ?_ | refine bcs_dec (fun h => ?_) (fun h => False.elim (by first | omega | exact h rfl)) | refine bcs_dec (fun h => False.elim (by omega)) (fun h => ?_) | refine bcs_dec (fun h => ?_) (fun h => ?_) | refine bcs_ndec (fun h => ?_) (fun h => ?_) | refine bcs_not ?_ | refine bcs_intro (fun h => ?_) (fun h => ?_) | refine And.intro ?_ ?_ | refine reg_tail (by kernel_rfl) ?_)
        refine call_rule [] (cr) hG ?_ ?_
        · (refine ⟨?_, ?_, rfl, rfl, rfl⟩ <;> repeat' (first | refine And.intro ?_ ?_ | exact trivial | exact rfl | refine lt0 | refine lt1 ?_ | refine lt2 ?_ ?_ | refine lt3 ?_ ?_ ?_ | refine lt4 ?_ ?_ ?_ ?_ | exact veq_refl _ | decide | (intro i hi; repeat' (first | refine And.intro ?_ ?_ | exact trivial | exact rfl))))
          all_goals first | exact Nat.le_refl _ | omega
        rintro _ _ _ ⟨rfl, rfl, rfl⟩
        repeat' (first | refine And.intro (by first | omega | (dsimp only; omega) | (show (_ : Bool) = true; kernel_rfl) | decide | (repeat' (first | refine And.intro ?_ ?_ | exact trivial | exact rfl))) ?_ | refine bcs_dec (fun h => ?_) (fun h => False.elim (by first | omega | exact h rfl)) | refine bcs_dec (fun h => False.elim (by omega)) (fun h => ?_) | refine bcs_dec (fun h => ?_) (fun h => ?_) | refine bcs_ndec (fun h => ?_) (fun h => ?_) | refine bcs_not ?_ | refine bcs_intro (fun h => ?_) (fun h => ?_) | refine And.intro ?_ ?_ | refine reg_tail (by kernel_rfl) ?_)
        refine ext_apps Tryd.underlying55 Tryd.underlying9 (te := Tryd.t5) (by kernel_rfl) rfl rfl rfl rfl ?_
        repeat' (first | refine And.intro (by first | omega | (dsimp only; omega) | (show (_ : Bool) = true; kernel_rfl) | decide | (repeat' (first | refine And.intro ?_ ?_ | exact trivial | exact rfl))) ?_ | refine bcs_dec (fun h => ?_) (fun h => ?_) | refine bcs_ndec (fun h => ?_) (fun h => ?_) | refine bcs_not ?_ | refine bcs_intro (fun h => ?_) (fun h => ?_) | refine And.intro ?_ ?_)
        refine appB rfl ?_
        repeat' (first | refine And.intro (by first | omega | (dsimp only; omega) | (show (_ : Bool) = true; kernel_rfl) | decide | (repeat' (first | refine And.intro ?_ ?_ | exact trivial | exact rfl))) ?_ | refine bcs_dec (fun h => ?_) (fun h => False.elim (by first | omega | exact h rfl)) | refine bcs_dec (fun h => False.elim (by omega)) (fun h => ?_) | refine bcs_dec (fun h => ?_) (fun h => ?_) | refine bcs_ndec (fun h => ?_) (fun h => ?_) | refine bcs_not ?_ | refine bcs_intro (fun h => ?_) (fun h => ?_) | refine And.intro ?_ ?_ | refine reg_tail (by kernel_rfl) ?_)
        refine ⟨(i + 1, o ++ X), [.at 3 0, .at 5 0], ?_, ?_, ?_⟩
        · refine ⟨by omega, by omega, ?_, ?_⟩
          · rw [List.length_append]; omega
          · rw [← q4]; simp only [List.append_assoc]
        · show (max (R.getD (0 + (k : Int).toNat) Chg.d).N (R.getD (0 + (k : Int).toNat) Chg.d).M - (i + 1)).toNat < (max (R.getD (0 + (k : Int).toNat) Chg.d).N (R.getD (0 + (k : Int).toNat) Chg.d).M - i).toNat
          omega
        · (refine ⟨rfl, rfl, ?_, ?_⟩ <;> repeat' (first | refine And.intro ?_ ?_ | exact trivial | exact rfl | refine lt0 | refine lt1 ?_ | refine lt2 ?_ ?_ | refine lt3 ?_ ?_ ?_ | refine lt4 ?_ ?_ ?_ ?_ | exact veq_refl _ | decide | (intro i hi; repeat' (first | refine And.intro ?_ ?_ | exact trivial | exact rfl))))
          all_goals first | omega | exact Nat.le_refl _ | (rw [List.length_append, bs_size]; done) | skip
      · rw [if_neg e1] at q4
        by_cases e2 : i ≥ (R.getD (0 + (k : Int).toNat) Chg.d).N
        · rw [if_pos e2, List.append_assoc] at q4
          have lr := row_len [] 62 (b.getD (0 + ((R.getD (0 + (k : Int).toNat) Chg.d).B + i).toNat) []) (s := d) hh1 hh2
          have cr := rRow_con [] (b.getD (0 + ((R.getD (0 + (k : Int).toNat) Chg.d).B + i).toNat) []) 62 hf d (by simp) (by omega) hh1 hh2 hd1 hd2
          obtain ⟨X, hX⟩ : ∃ X, X = rowF [] 62 (b.getD (0 + ((R.getD (0 + (k : Int).toNat) Chg.d).B + i).toNat) []) hf d := ⟨_, rfl⟩
          have zX : (bs X).size = X.length := bs_size X
          rw [← hX] at q4 lr cr
          repeat' (first | refine And.intro (by first | omega | (dsimp only; omega) | (show (_ : Bool) = true; kernel_rfl) | decide | (repeat' (first | refine And.intro ?_ ?_ | exact trivial | exact rfl))) ?_ | refine bcs_dec (fun h => ?_) (fun h => False.elim (by first | omega | exact h rfl)) | refine bcs_dec (fun h => False.elim (by omega)) (fun h => ?_) | refine bcs_dec (fun h => ?_) (fun h => ?_) | refine bcs_ndec (fun h => ?_) (fun h => ?_) | refine bcs_not ?_ | refine bcs_intro (fun h => ?_) (fun h => ?_) | refine And.intro ?_ ?_ | refine reg_tail (by kernel_rfl) ?_)
          refine call_rule [] (cr) hG ?_ ?_
          · (refine ⟨?_, ?_, rfl, rfl, rfl⟩ <;> repeat' (first | refine And.intro ?_ ?_ | exact trivial | exact rfl | refine lt0 | refine lt1 ?_ | refine lt2 ?_ ?_ | refine lt3 ?_ ?_ ?_ | refine lt4 ?_ ?_ ?_ ?_ | exact veq_refl _ | decide | (intro i hi; repeat' (first | refine And.intro ?_ ?_ | exact trivial | exact rfl))))
            all_goals first | exact Nat.le_refl _ | omega
          rintro _ _ _ ⟨rfl, rfl, rfl⟩
          repeat' (first | refine And.intro (by first | omega | (dsimp only; omega) | (show (_ : Bool) = true; kernel_rfl) | decide | (repeat' (first | refine And.intro ?_ ?_ | exact trivial | exact rfl))) ?_ | refine bcs_dec (fun h => ?_) (fun h => False.elim (by first | omega | exact h rfl)) | refine bcs_dec (fun h => False.elim (by omega)) (fun h => ?_) | refine bcs_dec (fun h => ?_) (fun h => ?_) | refine bcs_ndec (fun h => ?_) (fun h => ?_) | refine bcs_not ?_ | refine bcs_intro (fun h => ?_) (fun h => ?_) | refine And.intro ?_ ?_ | refine reg_tail (by kernel_rfl) ?_)
          refine ext_apps Tryd.underlying55 Tryd.underlying9 (te := Tryd.t5) (by kernel_rfl) rfl rfl rfl rfl ?_
          repeat' (first | refine And.intro (by first | omega | (dsimp only; omega) | (show (_ : Bool) = true; kernel_rfl) | decide | (repeat' (first | refine And.intro ?_ ?_ | exact trivial | exact rfl))) ?_ | refine bcs_dec (fun h => ?_) (fun h => ?_) | refine bcs_ndec (fun h => ?_) (fun h => ?_) | refine bcs_not ?_ | refine bcs_intro (fun h => ?_) (fun h => ?_) | refine And.intro ?_ ?_)
          refine appB rfl ?_
          repeat' (first | refine And.intro (by first | omega | (dsimp only; omega) | (show (_ : Bool) = true; kernel_rfl) | decide | (repeat' (first | refine And.intro ?_ ?_ | exact trivial | exact rfl))) ?_ | refine bcs_dec (fun h => ?_) (fun h => False.elim (by first | omega | exact h rfl)) | refine bcs_dec (fun h => False.elim (by omega)) (fun h => ?_) | refine bcs_dec (fun h => ?_) (fun h => ?_) | refine bcs_ndec (fun h => ?_) (fun h => ?_) | refine bcs_not ?_ | refine bcs_intro (fun h => ?_) (fun h => ?_) | refine And.intro ?_ ?_ | refine reg_tail (by kernel_rfl) ?_)
          refine ⟨(i + 1, o ++ X), [.at 3 0, .at 5 0], ?_, ?_, ?_⟩
          · refine ⟨by omega, by omega, ?_, ?_⟩
            · rw [List.length_append]; omega
            · rw [← q4]; simp only [List.append_assoc]
          · show (max (R.getD (0 + (k : Int).toNat) Chg.d).N (R.getD (0 + (k : Int).toNat) Chg.d).M - (i + 1)).toNat < (max (R.getD (0 + (k : Int).toNat) Chg.d).N (R.getD (0 + (k : Int).toNat) Chg.d).M - i).toNat
            omega
          · (refine ⟨rfl, rfl, ?_, ?_⟩ <;> repeat' (first | refine And.intro ?_ ?_ | exact trivial | exact rfl | refine lt0 | refine lt1 ?_ | refine lt2 ?_ ?_ | refine lt3 ?_ ?_ ?_ | refine lt4 ?_ ?_ ?_ ?_ | exact veq_refl _ | decide | (intro i hi; repeat' (first | refine And.intro ?_ ?_ | exact trivial | exact rfl))))
            all_goals first | omega | exact Nat.le_refl _ | (rw [List.length_append, bs_size]; done) | skip
        · rw [if_neg e2, List.append_assoc] at q4
          have cb := mark_con (a.getD (0 + ((R.getD (0 + (k : Int).toNat) Chg.d).A + i).toNat) []) (b.getD (0 + ((R.getD (0 + (k : Int).toNat) Chg.d).B + i).toNat) []) (by omega) (by omega)
          have cr := rRow_con (a.getD (0 + ((R.getD (0 + (k : Int).toNat) Chg.d).A + i).toNat) []) (b.getD (0 + ((R.getD (0 + (k : Int).toNat) Chg.d).B + i).toNat) []) (besideF (a.getD (0 + ((R.getD (0 + (k : Int).toNat) Chg.d).A + i).toNat) []) (b.getD (0 + ((R.getD (0 + (k : Int).toNat) Chg.d).B + i).toNat) [])) hf d (by omega) (by omega) hh1 hh2 hd1 hd2
          have lr := row_len (a.getD (0 + ((R.getD (0 + (k : Int).toNat) Chg.d).A + i).toNat) []) (besideF (a.getD (0 + ((R.getD (0 + (k : Int).toNat) Chg.d).A + i).toNat) []) (b.getD (0 + ((R.getD (0 + (k : Int).toNat) Chg.d).B + i).toNat) [])) (b.getD (0 + ((R.getD (0 + (k : Int).toNat) Chg.d).B + i).toNat) []) (s := d) hh1 hh2
          obtain ⟨X, hX⟩ : ∃ X, X = rowF (a.getD (0 + ((R.getD (0 + (k : Int).toNat) Chg.d).A + i).toNat) []) (besideF (a.getD (0 + ((R.getD (0 + (k : Int).toNat) Chg.d).A + i).toNat) []) (b.getD (0 + ((R.getD (0 + (k : Int).toNat) Chg.d).B + i).toNat) [])) (b.getD (0 + ((R.getD (0 + (k : Int).toNat) Chg.d).B + i).toNat) []) hf d := ⟨_, rfl⟩
          have zX : (bs X).size = X.length := bs_size X
          rw [← hX] at q4 lr cr
          repeat' (first | refine Both.mk ?_ ?_ | refine And.intro (by first | omega | (dsimp only; omega) | (show (_ : Bool) = true; kernel_rfl) | decide | (repeat' (first | refine And.intro ?_ ?_ | exact trivial | exact rfl))) ?_ | refine bcs_dec (fun h => ?_) (fun h => False.elim (by first | omega | exact h rfl)) | refine bcs_dec (fun h => False.elim (by omega)) (fun h => ?_) | refine bcs_dec (fun h => ?_) (fun h => ?_) | refine bcs_ndec (fun h => ?_) (fun h => ?_) | refine bcs_not ?_ | refine And.intro ?_ ?_)
          refine reg_ord [] (.early 0 (.early 1 (.early 2 (.early 3 (.early 4 (.early 5 (.early 6 (.early 7 (.early 8 (.early 9 (.early 10 (.early 11 (.early 12 (.early 13 (.early 14 (.early 15 (.early 16 (.early 17 (.early 18 (.early 20 (.early 21 (.early 22 (.early 23 (.early 24 (.early 25 (.early 26 (.early 27 (.late 19 (.late 28 (.late 29 (.late 30 .nil))))))))))))))))))))))))))))))) (by decide +kernel) rfl ?_
          intro B' hB'
          have hG' := hG
          have hG := hB'.trans hG
          repeat' (first | refine Both.mk ?_ ?_ | refine And.intro (by first | omega | (dsimp only; omega) | (show (_ : Bool) = true; kernel_rfl) | decide | (repeat' (first | refine And.intro ?_ ?_ | exact trivial | exact rfl))) ?_ | refine bcs_dec (fun h => ?_) (fun h => False.elim (by first | omega | exact h rfl)) | refine bcs_dec (fun h => False.elim (by omega)) (fun h => ?_) | refine bcs_dec (fun h => ?_) (fun h => ?_) | refine bcs_ndec (fun h => ?_) (fun h => ?_) | refine bcs_not ?_ | refine And.intro ?_ ?_)
          refine call_rule [] (cb) hG ?_ ?_
          · (refine ⟨?_, ?_, rfl, rfl, rfl⟩ <;> repeat' (first | refine And.intro ?_ ?_ | exact trivial | exact rfl | refine lt0 | refine lt1 ?_ | refine lt2 ?_ ?_ | refine lt3 ?_ ?_ ?_ | refine lt4 ?_ ?_ ?_ ?_ | exact veq_refl _ | decide | (intro i hi; repeat' (first | refine And.intro ?_ ?_ | exact trivial | exact rfl))))
            all_goals first | exact Nat.le_refl _ | omega
          rintro _ _ _ ⟨rfl, rfl, rfl⟩
          repeat' (first | refine Both.mk ?_ ?_ | refine And.intro (by first | omega | (dsimp only; omega) | (show (_ : Bool) = true; kernel_rfl) | decide | (repeat' (first | refine And.intro ?_ ?_ | exact trivial | exact rfl))) ?_ | refine bcs_dec (fun h => ?_) (fun h => False.elim (by first | omega | exact h rfl)) | refine bcs_dec (fun h => False.elim (by omega)) (fun h => ?_) | refine bcs_dec (fun h => ?_) (fun h => ?_) | refine bcs_ndec (fun h => ?_) (fun h => ?_) | refine bcs_not ?_ | refine And.intro ?_ ?_)
          refine call_rule [] (cr) hG ?_ ?_
          · (refine ⟨?_, ?_, rfl, rfl, rfl⟩ <;> repeat' (first | refine And.intro ?_ ?_ | exact trivial | exact rfl | refine lt0 | refine lt1 ?_ | refine lt2 ?_ ?_ | refine lt3 ?_ ?_ ?_ | refine lt4 ?_ ?_ ?_ ?_ | exact veq_refl _ | decide | (intro i hi; repeat' (first | refine And.intro ?_ ?_ | exact trivial | exact rfl))))
            all_goals first | exact Nat.le_refl _ | omega
          rintro _ _ _ ⟨rfl, rfl, rfl⟩
          repeat' (first | refine Both.mk ?_ ?_ | refine And.intro (by first | omega | (dsimp only; omega) | (show (_ : Bool) = true; kernel_rfl) | decide | (repeat' (first | refine And.intro ?_ ?_ | exact trivial | exact rfl))) ?_ | refine bcs_dec (fun h => ?_) (fun h => False.elim (by first | omega | exact h rfl)) | refine bcs_dec (fun h => False.elim (by omega)) (fun h => ?_) | refine bcs_dec (fun h => ?_) (fun h => ?_) | refine bcs_ndec (fun h => ?_) (fun h => ?_) | refine bcs_not ?_ | refine And.intro ?_ ?_)
          refine ext_apps Tryd.underlying55 Tryd.underlying9 (te := Tryd.t5) (by kernel_rfl) rfl rfl rfl rfl ?_
          repeat' (first | refine And.intro (by first | omega | (dsimp only; omega) | (show (_ : Bool) = true; kernel_rfl) | decide | (repeat' (first | refine And.intro ?_ ?_ | exact trivial | exact rfl))) ?_ | refine bcs_dec (fun h => ?_) (fun h => ?_) | refine bcs_ndec (fun h => ?_) (fun h => ?_) | refine bcs_not ?_ | refine bcs_intro (fun h => ?_) (fun h => ?_) | refine And.intro ?_ ?_)
          refine appB rfl ?_
          repeat' (first | refine And.intro (by first | omega | (dsimp only; omega) | (show (_ : Bool) = true; kernel_rfl) | decide | (repeat' (first | refine And.intro ?_ ?_ | exact trivial | exact rfl))) ?_ | refine bcs_dec (fun h => ?_) (fun h => False.elim (by first | omega | exact h rfl)) | refine bcs_dec (fun h => False.elim (by omega)) (fun h => ?_) | refine bcs_dec (fun h => ?_) (fun h => ?_) | refine bcs_ndec (fun h => ?_) (fun h => ?_) | refine bcs_not ?_ | refine bcs_intro (fun h => ?_) (fun h => ?_) | refine And.intro ?_ ?_ | refine reg_tail (by kernel_rfl) ?_)
          refine ⟨(i + 1, o ++ X), [.at 3 0, .at 5 0], ?_, ?_, ?_⟩
          · refine ⟨by omega, by omega, ?_, ?_⟩
            · rw [List.length_append]; omega
            · rw [← q4]; simp only [List.append_assoc]
          · show (max (R.getD (0 + (k : Int).toNat) Chg.d).N (R.getD (0 + (k : Int).toNat) Chg.d).M - (i + 1)).toNat < (max (R.getD (0 + (k : Int).toNat) Chg.d).N (R.getD (0 + (k : Int).toNat) Chg.d).M - i).toNat
            omega
          · (refine ⟨rfl, rfl, ?_, ?_⟩ <;> repeat' (first | refine And.intro ?_ ?_ | exact trivial | exact rfl | refine lt0 | refine lt1 ?_ | refine lt2 ?_ ?_ | refine lt3 ?_ ?_ ?_ | refine lt4 ?_ ?_ ?_ ?_ | exact veq_refl _ | decide | (intro i hi; repeat' (first | refine And.intro ?_ ?_ | exact trivial | exact rfl))))
            all_goals first | omega | exact Nat.le_refl _ | (rw [List.length_append, bs_size]; done) | skip
    · have hmx : i = max (R.getD (0 + (k : Int).toNat) Chg.d).N (R.getD (0 + (k : Int).toNat) Chg.d).M := by omega
      rw [show (max (R.getD (0 + (k : Int).toNat) Chg.d).N (R.getD (0 + (k : Int).toNat) Chg.d).M - i).toNat = 0 by omega] at q4
      simp only [blkF, List.nil_append] at q4
      repeat' (first | refine And.intro (by first | omega | (dsimp only; omega) | (show (_ : Bool) = true; kernel_rfl) | decide | (repeat' (first | refine And.intro ?_ ?_ | exact trivial | exact rfl))) ?_ | refine bcs_dec (fun h => ?_) (fun h => False.elim (by first | omega | exact h rfl)) | refine bcs_dec (fun h => False.elim (by omega)) (fun h => ?_) | refine bcs_dec (fun h => ?_) (fun h => ?_) | refine bcs_ndec (fun h => ?_) (fun h => ?_) | refine bcs_not ?_ | refine bcs_intro (fun h => ?_) (fun h => ?_) | refine And.intro ?_ ?_ | refine reg_tail (by kernel_rfl) ?_)
      refine ⟨(k + 1, (R.getD (0 + (k : Int).toNat) Chg.d).A + (R.getD (0 + (k : Int).toNat) Chg.d).N, (R.getD (0 + (k : Int).toNat) Chg.d).B + (R.getD (0 + (k : Int).toNat) Chg.d).M, o), [.at 3 0, .at 4 0], ?_, ?_, ?_⟩
      · exact ⟨hk, by omega, by omega, by omega, by omega, hr, by omega, q4⟩
      · show R.length - (k + 1) < R.length - k
        omega
      · (refine ⟨rfl, rfl, ?_, ?_⟩ <;> repeat' (first | refine And.intro ?_ ?_ | exact trivial | exact rfl | refine lt0 | refine lt1 ?_ | refine lt2 ?_ ?_ | refine lt3 ?_ ?_ ?_ | refine lt4 ?_ ?_ ?_ ?_ | exact veq_refl _ | decide | (intro i hi; repeat' (first | refine And.intro ?_ ?_ | exact trivial | exact rfl))))
        all_goals first | omega | exact Nat.le_refl _ | skip
  · rw [List.drop_of_length_le (by omega)] at g8
    simp only [prR, List.append_nil] at g8
    subst g8
    repeat' (first | refine And.intro (by first | omega | (dsimp only; omega) | (show (_ : Bool) = true; kernel_rfl) | decide | (repeat' (first | refine And.intro ?_ ?_ | exact trivial | exact rfl))) ?_ | refine bcs_dec (fun h => ?_) (fun h => False.elim (by first | omega | exact h rfl)) | refine bcs_dec (fun h => False.elim (by omega)) (fun h => ?_) | refine bcs_dec (fun h => ?_) (fun h => ?_) | refine bcs_ndec (fun h => ?_) (fun h => ?_) | refine bcs_not ?_ | refine bcs_intro (fun h => ?_) (fun h => ?_) | refine And.intro ?_ ?_ | refine reg_tail (by kernel_rfl) ?_)
    refine ext_b2s Tryd.underlying55 Tryd.underlying5 Tryd.underlying9 ?_
    refine ⟨_, rfl, fun j hj => by rw [Nat.zero_add], ?_⟩
    repeat' (first | refine And.intro (by first | omega | (dsimp only; omega) | (show (_ : Bool) = true; kernel_rfl) | decide | (repeat' (first | refine And.intro ?_ ?_ | exact trivial | exact rfl))) ?_ | refine bcs_dec (fun h => ?_) (fun h => False.elim (by first | omega | exact h rfl)) | refine bcs_dec (fun h => False.elim (by omega)) (fun h => ?_) | refine bcs_dec (fun h => ?_) (fun h => ?_) | refine bcs_ndec (fun h => ?_) (fun h => ?_) | refine bcs_not ?_ | refine bcs_intro (fun h => ?_) (fun h => ?_) | refine And.intro ?_ ?_ | refine reg_tail (by kernel_rfl) ?_)
    refine ret_plain ?_
    repeat' (first | refine And.intro ?_ ?_ | exact trivial)
    all_goals exact rfl
end Go.Proofs.YtjlobgcmhnkgnaaDoor
