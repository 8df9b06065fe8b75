/- Chapter 15: both columns: the program's walked. Printed by gen_c7.py. -/
import Derived.Test.YtjlobgcmhnkgnaaDoorC6
namespace Go.Proofs.YtjlobgcmhnkgnaaDoor
open Go Go.RowKit Vc

/-- Where the changes stand while they are told. -/
def oSt (s L : List Chg) (a b : List Byt) (hf d : Int) (k : Nat) (x y : Int) : Option Byt → St
  | none => ⟨[(5, .p 3 0 0), (6, .p 4 0 0), (14, .p 7 0 0), (15, .p 8 0 0), (16, .p 9 0 0), (17, .f 36 [.p 8 0 0, .p 9 0 0, .p 7 0 0, .p 3 0 0, .p 4 0 0]), (56, .s 5 0 L.length), (57, .v (.int .i64 L.length)), (58, .v (.int .i64 k))], [(0, chRo s), (1, stRo a), (2, stRo b), (3, .box 23 [.s 1 0 a.length]), (4, .box 23 [.s 2 0 b.length]), (5, chRo L), (6, .box 74 [.v (.pointer none), .v (.slice none 0 0), .v (.int .i64 hf), .v (.int .i64 d)]), (7, .box 72 [.p 6 0 0]), (8, .box 3 [.v (.int .i64 x)]), (9, .box 3 [.v (.int .i64 y)])], 10⟩
  | some out => ⟨[(5, .p 3 0 0), (6, .p 4 0 0), (14, .p 7 0 0), (15, .p 8 0 0), (16, .p 9 0 0), (17, .f 36 [.p 8 0 0, .p 9 0 0, .p 7 0 0, .p 3 0 0, .p 4 0 0]), (56, .s 5 0 L.length), (57, .v (.int .i64 L.length)), (58, .v (.int .i64 k))], [(0, chRo s), (1, stRo a), (2, stRo b), (3, .box 23 [.s 1 0 a.length]), (4, .box 23 [.s 2 0 b.length]), (5, chRo L), (6, .box 74 [.p 6 0 0, .o 10, .v (.int .i64 hf), .v (.int .i64 d)]), (7, .box 72 [.p 6 0 0]), (8, .box 3 [.v (.int .i64 x)]), (9, .box 3 [.v (.int .i64 y)]), (10, byOwn out)], 11⟩
/-- .. one change's lines. -/
def iStP (s L : List Chg) (a b : List Byt) (hf d : Int) (k : Nat) (x y : Int) (c : Chg) (mx i : Int) : Option Byt → St
  | none => ⟨[(5, .p 3 0 0), (6, .p 4 0 0), (14, .p 7 0 0), (15, .p 8 0 0), (16, .p 9 0 0), (17, .f 36 [.p 8 0 0, .p 9 0 0, .p 7 0 0, .p 3 0 0, .p 4 0 0]), (56, .s 5 0 L.length), (57, .v (.int .i64 L.length)), (58, .v (.int .i64 k)), (19, .p 10 0 0), (70, .v (.int .i64 mx)), (71, .v (.int .i64 i))], [(0, chRo s), (1, stRo a), (2, stRo b), (3, .box 23 [.s 1 0 a.length]), (4, .box 23 [.s 2 0 b.length]), (5, chRo L), (6, .box 74 [.v (.pointer none), .v (.slice none 0 0), .v (.int .i64 hf), .v (.int .i64 d)]), (7, .box 72 [.p 6 0 0]), (8, .box 3 [.v (.int .i64 x)]), (9, .box 3 [.v (.int .i64 y)]), (10, .box 39 [.v (.int .i64 c.A), .v (.int .i64 c.N), .v (.int .i64 c.B), .v (.int .i64 c.M)])], 11⟩
  | some out => ⟨[(5, .p 3 0 0), (6, .p 4 0 0), (14, .p 7 0 0), (15, .p 8 0 0), (16, .p 9 0 0), (17, .f 36 [.p 8 0 0, .p 9 0 0, .p 7 0 0, .p 3 0 0, .p 4 0 0]), (56, .s 5 0 L.length), (57, .v (.int .i64 L.length)), (58, .v (.int .i64 k)), (19, .p 10 0 0), (70, .v (.int .i64 mx)), (71, .v (.int .i64 i))], [(0, chRo s), (1, stRo a), (2, stRo b), (3, .box 23 [.s 1 0 a.length]), (4, .box 23 [.s 2 0 b.length]), (5, chRo L), (6, .box 74 [.p 6 0 0, .o 11, .v (.int .i64 hf), .v (.int .i64 d)]), (7, .box 72 [.p 6 0 0]), (8, .box 3 [.v (.int .i64 x)]), (9, .box 3 [.v (.int .i64 y)]), (10, .box 39 [.v (.int .i64 c.A), .v (.int .i64 c.N), .v (.int .i64 c.B), .v (.int .i64 c.M)]), (11, byOwn out)], 12⟩
/-- What stands in a block that is a loop. -/
def blkOf (n : Nat) : Code → Option Code
  | .seq a b => match blkOf n a with | some c => some c | none => blkOf n b
  | .block m c => bif Nat.beq m n then some c else blkOf n c
  | .loop c => blkOf n c
  | .cond _ a b => match blkOf n a with | some c => some c | none => blkOf n b
  | _ => none
def loopOf (n : Nat) (f : Func) : Code := match f.body with
  | some b => (match blkOf n b with | some (.loop c) => c | _ => .skip)
  | none => .skip
set_option maxRecDepth 100000 in
set_option maxHeartbeats 64000000 in
theorem inner_loop (s L : List Chg) (a b : List Byt) (hf d : Int) (k : Nat) (c : Chg) (mx : Int) (T : Byt) (B : Bs) (hG : B.glob = glob) (ha : a.flatten.length ≤ 4194304) (hb : b.flatten.length ≤ 4194304) (hal : a.length ≤ 4194304) (hbl : b.length ≤ 4194304)
    (hh1 : 2 ≤ hf) (hh2 : hf ≤ 4096) (hd1 : 0 ≤ d) (hd2 : d ≤ 8192) (hmx : mx = max c.N c.M) (hA : 0 ≤ c.A) (hB : 0 ≤ c.B) (hN : 0 ≤ c.N) (hM : 0 ≤ c.M) (hAN : c.A + c.N ≤ a.length) (hBM : c.B + c.M ≤ b.length)
    (K : St → Prop) (E : Nat → St → Prop) (R : St → Prop) (s0 : St) (o0 : Option Byt) (new0 : List Kp)
    (h0 : (o0 ≠ some []) ∧ ((pOut o0).length : Int) + 8200 * (mx + ((a.length - (c.A + c.N)) + (b.length - (c.B + c.M)))) ≤ 100000000000 ∧ pOut o0 ++ (blkF a b hf d c mx.toNat 0 ++ prF a b hf d (L.drop (k + 1)) (c.A + c.N) (c.B + c.M)) = T)
    (hs : Sub 3 new0 s0 (iStP s L a b hf d k c.A c.B c mx 0 o0))
    (hK : ∀ o, (o ≠ some []) → ((pOut o).length : Int) + 8200 * ((a.length - (c.A + c.N)) + (b.length - (c.B + c.M))) ≤ 100000000000 → pOut o ++ prF a b hf d (L.drop (k + 1)) (c.A + c.N) (c.B + c.M) = T →
      K ⟨(72, .v (.bool false)) :: (72, .v (.bool (decide (mx < mx)))) :: (iStP s L a b hf d k c.A c.B c mx mx o).fr, (iStP s L a b hf d k c.A c.B c mx mx o).mem, (iStP s L a b hf d k c.A c.B c mx mx o).nx⟩) :
    LoopP ⟨Tryd.prog, tab, B, 145, 3⟩ (loopOf 2 Tryd.f15) s0 (fun i s => bif Nat.beq i 2 then K s else E i s) R := by
  refine loop_rule (α := Int × Option Byt) (fun (i, o) => iStP s L a b hf d k c.A c.B c mx i o)
    (fun (i, o) => 0 ≤ i ∧ i ≤ mx ∧ (o ≠ some []) ∧ ((pOut o).length : Int) + 8200 * ((mx - i) + ((a.length - (c.A + c.N)) + (b.length - (c.B + c.M)))) ≤ 100000000000 ∧ pOut o ++ (blkF a b hf d c (mx - i).toNat i ++ prF a b hf d (L.drop (k + 1)) (c.A + c.N) (c.B + c.M)) = T)
    (fun (i, _) => (mx - i).toNat) (0, o0) new0 ?_ hs ?_
  · exact ⟨by omega, by omega, h0.1, by rw [Int.sub_zero]; exact h0.2.1, by rw [Int.sub_zero]; exact h0.2.2⟩
  rintro ⟨i, o⟩ ⟨j1, j2, j3, j4, j5⟩
  cases o with
  | none =>
    simp only [pOut, List.nil_append, List.length_nil] at j4 j5
    by_cases hi : i < mx
    · skip
      have hst : (mx - i).toNat = (mx - (i + 1)).toNat + 1 := by omega
      rw [hst] at j5
      simp only [blkF] at j5
      rw [show a.getD (c.A + i).toNat [] = (a.getD (0 + (c.A + i).toNat) []) by rw [Nat.zero_add], show b.getD (c.B + i).toNat [] = (b.getD (0 + (c.B + i).toNat) []) by rw [Nat.zero_add]] at j5
      have la := getD_flat a (0 + (c.A + i).toNat)
      have lb := getD_flat b (0 + (c.B + i).toNat)
      by_cases e1 : i ≥ c.M
      · rw [if_pos e1, List.append_assoc] at j5
        have lr := row_len (a.getD (0 + (c.A + i).toNat) []) 60 [] (s := d) hh1 hh2
        have cr := rowPF_con (a.getD (0 + (c.A + i).toNat) []) [] 60 hf d (by omega) (by simp) hh1 hh2 hd1 hd2
        obtain ⟨X, hX⟩ : ∃ X, X = rowF (a.getD (0 + (c.A + i).toNat) []) 60 [] hf d := ⟨_, rfl⟩
        have hXn : X ≠ [] := by rw [hX]; exact row_ne _ _ _ _ _
        rw [← hX] at j5 lr cr
        repeat' (first | refine And.intro (by first | omega | (dsimp only; omega) | (show (_ : Bool) = true; kernel_rfl) | decide | (repeat' (first | refine And.intro ?_ ?_ | exact trivial | exact rfl))) ?_ | refine bcs_dec (fun h => ?_) (fun h => False.elim (by first | omega | exact h rfl)) | refine bcs_dec (fun h => False.elim (by omega)) (fun h => ?_) | refine bcs_dec (fun h => ?_) (fun h => ?_) | refine bcs_ndec (fun h => ?_) (fun h => ?_) | refine bcs_not ?_ | refine bcs_intro (fun h => ?_) (fun h => ?_) | refine And.intro ?_ ?_ | refine reg_tail (by kernel_rfl) ?_)
        refine call_rule [.at 6 0] (cr) hG ?_ ?_
        · (refine ⟨?_, ?_, rfl, rfl, rfl⟩ <;> repeat' (first | refine And.intro ?_ ?_ | exact trivial | exact rfl | refine lt0 | refine lt1 ?_ | refine lt2 ?_ ?_ | refine lt3 ?_ ?_ ?_ | refine lt4 ?_ ?_ ?_ ?_ | exact veq_refl _ | decide | (intro i hi; repeat' (first | refine And.intro ?_ ?_ | exact trivial | exact rfl))))
          all_goals first | exact Nat.le_refl _ | omega
        rintro _ _ _ ⟨rfl, rfl, rfl⟩
        repeat' (first | refine And.intro (by first | omega | (dsimp only; omega) | (show (_ : Bool) = true; kernel_rfl) | decide | (repeat' (first | refine And.intro ?_ ?_ | exact trivial | exact rfl))) ?_ | refine bcs_dec (fun h => ?_) (fun h => False.elim (by first | omega | exact h rfl)) | refine bcs_dec (fun h => False.elim (by omega)) (fun h => ?_) | refine bcs_dec (fun h => ?_) (fun h => ?_) | refine bcs_ndec (fun h => ?_) (fun h => ?_) | refine bcs_not ?_ | refine bcs_intro (fun h => ?_) (fun h => ?_) | refine And.intro ?_ ?_ | refine reg_tail (by kernel_rfl) ?_)
        refine ⟨(i + 1, some (X)), [.at 3 0, .at 4 0, .at 5 0, .at 6 0, .at 7 0, .at 8 0, .at 9 0, .at 10 0, .at 11 0], ?_, ?_, ?_⟩
        · refine ⟨by omega, by omega, ?_, ?_, ?_⟩
          · intro e
            simp only [Option.some.injEq] at e
            exact hXn e
          · show ((X).length : Int) + 8200 * ((mx - (i + 1)) + ((a.length - (c.A + c.N)) + (b.length - (c.B + c.M)))) ≤ 100000000000
            skip
            omega
          · show (X) ++ (blkF a b hf d c (mx - (i + 1)).toNat (i + 1) ++ prF a b hf d (L.drop (k + 1)) (c.A + c.N) (c.B + c.M)) = T
            rw [← j5]
        · show (mx - (i + 1)).toNat < (mx - i).toNat
          omega
        · (refine ⟨rfl, rfl, ?_, ?_⟩ <;> repeat' (first | refine And.intro ?_ ?_ | exact trivial | exact rfl | refine lt0 | refine lt1 ?_ | refine lt2 ?_ ?_ | refine lt3 ?_ ?_ ?_ | refine lt4 ?_ ?_ ?_ ?_ | exact veq_refl _ | decide | (intro i hi; repeat' (first | refine And.intro ?_ ?_ | exact trivial | exact rfl))))
          all_goals first | exact Nat.le_refl _ | omega | exact veq_refl _ | (simp; done) | skip
      · rw [if_neg e1] at j5
        by_cases e2 : i ≥ c.N
        · rw [if_pos e2, List.append_assoc] at j5
          have lr := row_len [] 62 (b.getD (0 + (c.B + i).toNat) []) (s := d) hh1 hh2
          have cr := rowPF_con [] (b.getD (0 + (c.B + i).toNat) []) 62 hf d (by simp) (by omega) hh1 hh2 hd1 hd2
          obtain ⟨X, hX⟩ : ∃ X, X = rowF [] 62 (b.getD (0 + (c.B + i).toNat) []) hf d := ⟨_, rfl⟩
          have hXn : X ≠ [] := by rw [hX]; exact row_ne _ _ _ _ _
          rw [← hX] at j5 lr cr
          repeat' (first | refine And.intro (by first | omega | (dsimp only; omega) | (show (_ : Bool) = true; kernel_rfl) | decide | (repeat' (first | refine And.intro ?_ ?_ | exact trivial | exact rfl))) ?_ | refine bcs_dec (fun h => ?_) (fun h => False.elim (by first | omega | exact h rfl)) | refine bcs_dec (fun h => False.elim (by omega)) (fun h => ?_) | refine bcs_dec (fun h => ?_) (fun h => ?_) | refine bcs_ndec (fun h => ?_) (fun h => ?_) | refine bcs_not ?_ | refine bcs_intro (fun h => ?_) (fun h => ?_) | refine And.intro ?_ ?_ | refine reg_tail (by kernel_rfl) ?_)
          refine call_rule [.at 6 0] (cr) hG ?_ ?_
          · (refine ⟨?_, ?_, rfl, rfl, rfl⟩ <;> repeat' (first | refine And.intro ?_ ?_ | exact trivial | exact rfl | refine lt0 | refine lt1 ?_ | refine lt2 ?_ ?_ | refine lt3 ?_ ?_ ?_ | refine lt4 ?_ ?_ ?_ ?_ | exact veq_refl _ | decide | (intro i hi; repeat' (first | refine And.intro ?_ ?_ | exact trivial | exact rfl))))
            all_goals first | exact Nat.le_refl _ | omega
          rintro _ _ _ ⟨rfl, rfl, rfl⟩
          repeat' (first | refine And.intro (by first | omega | (dsimp only; omega) | (show (_ : Bool) = true; kernel_rfl) | decide | (repeat' (first | refine And.intro ?_ ?_ | exact trivial | exact rfl))) ?_ | refine bcs_dec (fun h => ?_) (fun h => False.elim (by first | omega | exact h rfl)) | refine bcs_dec (fun h => False.elim (by omega)) (fun h => ?_) | refine bcs_dec (fun h => ?_) (fun h => ?_) | refine bcs_ndec (fun h => ?_) (fun h => ?_) | refine bcs_not ?_ | refine bcs_intro (fun h => ?_) (fun h => ?_) | refine And.intro ?_ ?_ | refine reg_tail (by kernel_rfl) ?_)
          refine ⟨(i + 1, some (X)), [.at 3 0, .at 4 0, .at 5 0, .at 6 0, .at 7 0, .at 8 0, .at 9 0, .at 10 0, .at 11 0], ?_, ?_, ?_⟩
          · refine ⟨by omega, by omega, ?_, ?_, ?_⟩
            · intro e
              simp only [Option.some.injEq] at e
              exact hXn e
            · show ((X).length : Int) + 8200 * ((mx - (i + 1)) + ((a.length - (c.A + c.N)) + (b.length - (c.B + c.M)))) ≤ 100000000000
              skip
              omega
            · show (X) ++ (blkF a b hf d c (mx - (i + 1)).toNat (i + 1) ++ prF a b hf d (L.drop (k + 1)) (c.A + c.N) (c.B + c.M)) = T
              rw [← j5]
          · show (mx - (i + 1)).toNat < (mx - i).toNat
            omega
          · (refine ⟨rfl, rfl, ?_, ?_⟩ <;> repeat' (first | refine And.intro ?_ ?_ | exact trivial | exact rfl | refine lt0 | refine lt1 ?_ | refine lt2 ?_ ?_ | refine lt3 ?_ ?_ ?_ | refine lt4 ?_ ?_ ?_ ?_ | exact veq_refl _ | decide | (intro i hi; repeat' (first | refine And.intro ?_ ?_ | exact trivial | exact rfl))))
            all_goals first | exact Nat.le_refl _ | omega | exact veq_refl _ | (simp; done) | skip
        · rw [if_neg e2, List.append_assoc] at j5
          have cb := beside_con (a.getD (0 + (c.A + i).toNat) []) (b.getD (0 + (c.B + i).toNat) []) (by omega) (by omega)
          have lr := row_len (a.getD (0 + (c.A + i).toNat) []) (besideF (a.getD (0 + (c.A + i).toNat) []) (b.getD (0 + (c.B + i).toNat) [])) (b.getD (0 + (c.B + i).toNat) []) (s := d) hh1 hh2
          have cr := rowPF_con (a.getD (0 + (c.A + i).toNat) []) (b.getD (0 + (c.B + i).toNat) []) (besideF (a.getD (0 + (c.A + i).toNat) []) (b.getD (0 + (c.B + i).toNat) [])) hf d (by omega) (by omega) hh1 hh2 hd1 hd2
          obtain ⟨X, hX⟩ : ∃ X, X = rowF (a.getD (0 + (c.A + i).toNat) []) (besideF (a.getD (0 + (c.A + i).toNat) []) (b.getD (0 + (c.B + i).toNat) [])) (b.getD (0 + (c.B + i).toNat) []) hf d := ⟨_, rfl⟩
          have hXn : X ≠ [] := by rw [hX]; exact row_ne _ _ _ _ _
          rw [← hX] at j5 lr cr
          repeat' (first | refine Both.mk ?_ ?_ | refine And.intro (by first | omega | (dsimp only; omega) | (show (_ : Bool) = true; kernel_rfl) | decide | (repeat' (first | refine And.intro ?_ ?_ | exact trivial | exact rfl))) ?_ | refine bcs_dec (fun h => ?_) (fun h => False.elim (by first | omega | exact h rfl)) | refine bcs_dec (fun h => False.elim (by omega)) (fun h => ?_) | refine bcs_dec (fun h => ?_) (fun h => ?_) | refine bcs_ndec (fun h => ?_) (fun h => ?_) | refine bcs_not ?_ | refine And.intro ?_ ?_)
          refine reg_ord [3, 4, 7, 8, 9] (.early 0 (.early 1 (.early 2 (.early 3 (.early 4 (.early 5 (.early 6 (.early 7 (.early 8 (.early 9 (.early 10 (.early 11 (.early 12 (.early 13 (.early 14 (.early 15 (.early 16 (.early 17 (.early 18 (.early 20 (.early 21 (.early 22 (.early 23 (.early 24 (.early 25 (.late 19 (.late 26 .nil))))))))))))))))))))))))))) (by decide +kernel) rfl ?_
          intro B' hB'
          have hG' := hG
          have hG := hB'.trans hG
          repeat' (first | refine Both.mk ?_ ?_ | refine And.intro (by first | omega | (dsimp only; omega) | (show (_ : Bool) = true; kernel_rfl) | decide | (repeat' (first | refine And.intro ?_ ?_ | exact trivial | exact rfl))) ?_ | refine bcs_dec (fun h => ?_) (fun h => False.elim (by first | omega | exact h rfl)) | refine bcs_dec (fun h => False.elim (by omega)) (fun h => ?_) | refine bcs_dec (fun h => ?_) (fun h => ?_) | refine bcs_ndec (fun h => ?_) (fun h => ?_) | refine bcs_not ?_ | refine And.intro ?_ ?_)
          refine call_rule [] (cb) hG ?_ ?_
          · (refine ⟨?_, ?_, rfl, rfl, rfl⟩ <;> repeat' (first | refine And.intro ?_ ?_ | exact trivial | exact rfl | refine lt0 | refine lt1 ?_ | refine lt2 ?_ ?_ | refine lt3 ?_ ?_ ?_ | refine lt4 ?_ ?_ ?_ ?_ | exact veq_refl _ | decide | (intro i hi; repeat' (first | refine And.intro ?_ ?_ | exact trivial | exact rfl))))
            all_goals first | exact Nat.le_refl _ | omega
          rintro _ _ _ ⟨rfl, rfl, rfl⟩
          repeat' (first | refine Both.mk ?_ ?_ | refine And.intro (by first | omega | (dsimp only; omega) | (show (_ : Bool) = true; kernel_rfl) | decide | (repeat' (first | refine And.intro ?_ ?_ | exact trivial | exact rfl))) ?_ | refine bcs_dec (fun h => ?_) (fun h => False.elim (by first | omega | exact h rfl)) | refine bcs_dec (fun h => False.elim (by omega)) (fun h => ?_) | refine bcs_dec (fun h => ?_) (fun h => ?_) | refine bcs_ndec (fun h => ?_) (fun h => ?_) | refine bcs_not ?_ | refine And.intro ?_ ?_)
          refine call_rule [.at 6 0] (cr) hG ?_ ?_
          · (refine ⟨?_, ?_, rfl, rfl, rfl⟩ <;> repeat' (first | refine And.intro ?_ ?_ | exact trivial | exact rfl | refine lt0 | refine lt1 ?_ | refine lt2 ?_ ?_ | refine lt3 ?_ ?_ ?_ | refine lt4 ?_ ?_ ?_ ?_ | exact veq_refl _ | decide | (intro i hi; repeat' (first | refine And.intro ?_ ?_ | exact trivial | exact rfl))))
            all_goals first | exact Nat.le_refl _ | omega
          rintro _ _ _ ⟨rfl, rfl, rfl⟩
          repeat' (first | refine And.intro (by first | omega | (dsimp only; omega) | (show (_ : Bool) = true; kernel_rfl) | decide | (repeat' (first | refine And.intro ?_ ?_ | exact trivial | exact rfl))) ?_ | refine bcs_dec (fun h => ?_) (fun h => False.elim (by first | omega | exact h rfl)) | refine bcs_dec (fun h => False.elim (by omega)) (fun h => ?_) | refine bcs_dec (fun h => ?_) (fun h => ?_) | refine bcs_ndec (fun h => ?_) (fun h => ?_) | refine bcs_not ?_ | refine bcs_intro (fun h => ?_) (fun h => ?_) | refine And.intro ?_ ?_ | refine reg_tail (by kernel_rfl) ?_)
          have hG := hG'
          refine ⟨(i + 1, some (X)), [.at 3 0, .at 4 0, .at 5 0, .at 6 0, .at 7 0, .at 8 0, .at 9 0, .at 10 0, .at 11 0], ?_, ?_, ?_⟩
          · refine ⟨by omega, by omega, ?_, ?_, ?_⟩
            · intro e
              simp only [Option.some.injEq] at e
              exact hXn e
            · show ((X).length : Int) + 8200 * ((mx - (i + 1)) + ((a.length - (c.A + c.N)) + (b.length - (c.B + c.M)))) ≤ 100000000000
              skip
              omega
            · show (X) ++ (blkF a b hf d c (mx - (i + 1)).toNat (i + 1) ++ prF a b hf d (L.drop (k + 1)) (c.A + c.N) (c.B + c.M)) = T
              rw [← j5]
          · show (mx - (i + 1)).toNat < (mx - i).toNat
            omega
          · (refine ⟨rfl, rfl, ?_, ?_⟩ <;> repeat' (first | refine And.intro ?_ ?_ | exact trivial | exact rfl | refine lt0 | refine lt1 ?_ | refine lt2 ?_ ?_ | refine lt3 ?_ ?_ ?_ | refine lt4 ?_ ?_ ?_ ?_ | exact veq_refl _ | decide | (intro i hi; repeat' (first | refine And.intro ?_ ?_ | exact trivial | exact rfl))))
            all_goals first | exact Nat.le_refl _ | omega | exact veq_refl _ | (simp; done) | skip
    · skip
      obtain rfl : i = mx := by omega
      rw [show (i - i).toNat = 0 by omega] at j5
      simp only [blkF, List.nil_append] at j5
      repeat' (first | refine And.intro (by first | omega | (dsimp only; omega) | (show (_ : Bool) = true; kernel_rfl) | decide | (repeat' (first | refine And.intro ?_ ?_ | exact trivial | exact rfl))) ?_ | refine bcs_dec (fun h => ?_) (fun h => False.elim (by first | omega | exact h rfl)) | refine bcs_dec (fun h => False.elim (by omega)) (fun h => ?_) | refine bcs_dec (fun h => ?_) (fun h => ?_) | refine bcs_ndec (fun h => ?_) (fun h => ?_) | refine bcs_not ?_ | refine bcs_intro (fun h => ?_) (fun h => ?_) | refine And.intro ?_ ?_ | refine reg_tail (by kernel_rfl) ?_)
      exact hK none j3 (by show (((0 : Nat) : Int)) + _ ≤ _; omega) j5
  | some q =>
    simp only [pOut] at j4 j5
    by_cases hi : i < mx
    · skip
      have hst : (mx - i).toNat = (mx - (i + 1)).toNat + 1 := by omega
      rw [hst] at j5
      simp only [blkF] at j5
      rw [show a.getD (c.A + i).toNat [] = (a.getD (0 + (c.A + i).toNat) []) by rw [Nat.zero_add], show b.getD (c.B + i).toNat [] = (b.getD (0 + (c.B + i).toNat) []) by rw [Nat.zero_add]] at j5
      have la := getD_flat a (0 + (c.A + i).toNat)
      have lb := getD_flat b (0 + (c.B + i).toNat)
      by_cases e1 : i ≥ c.M
      · rw [if_pos e1, List.append_assoc] at j5
        have lr := row_len (a.getD (0 + (c.A + i).toNat) []) 60 [] (s := d) hh1 hh2
        have cr := rowPU_con (a.getD (0 + (c.A + i).toNat) []) [] 60 hf d q (by omega) (by omega) (by simp) hh1 hh2 hd1 hd2
        obtain ⟨X, hX⟩ : ∃ X, X = rowF (a.getD (0 + (c.A + i).toNat) []) 60 [] hf d := ⟨_, rfl⟩
        have hXn : X ≠ [] := by rw [hX]; exact row_ne _ _ _ _ _
        rw [← hX] at j5 lr cr
        repeat' (first | refine And.intro (by first | omega | (dsimp only; omega) | (show (_ : Bool) = true; kernel_rfl) | decide | (repeat' (first | refine And.intro ?_ ?_ | exact trivial | exact rfl))) ?_ | refine bcs_dec (fun h => ?_) (fun h => False.elim (by first | omega | exact h rfl)) | refine bcs_dec (fun h => False.elim (by omega)) (fun h => ?_) | refine bcs_dec (fun h => ?_) (fun h => ?_) | refine bcs_ndec (fun h => ?_) (fun h => ?_) | refine bcs_not ?_ | refine bcs_intro (fun h => ?_) (fun h => ?_) | refine And.intro ?_ ?_ | refine reg_tail (by kernel_rfl) ?_)
        refine call_rule [.at 6 0, .at 11 0] (cr) hG ?_ ?_
        · (refine ⟨?_, ?_, rfl, rfl, rfl⟩ <;> repeat' (first | refine And.intro ?_ ?_ | exact trivial | exact rfl | refine lt0 | refine lt1 ?_ | refine lt2 ?_ ?_ | refine lt3 ?_ ?_ ?_ | refine lt4 ?_ ?_ ?_ ?_ | exact veq_refl _ | decide | (intro i hi; repeat' (first | refine And.intro ?_ ?_ | exact trivial | exact rfl))))
          all_goals first | exact Nat.le_refl _ | omega
        rintro _ _ _ ⟨rfl, rfl, rfl⟩
        repeat' (first | refine And.intro (by first | omega | (dsimp only; omega) | (show (_ : Bool) = true; kernel_rfl) | decide | (repeat' (first | refine And.intro ?_ ?_ | exact trivial | exact rfl))) ?_ | refine bcs_dec (fun h => ?_) (fun h => False.elim (by first | omega | exact h rfl)) | refine bcs_dec (fun h => False.elim (by omega)) (fun h => ?_) | refine bcs_dec (fun h => ?_) (fun h => ?_) | refine bcs_ndec (fun h => ?_) (fun h => ?_) | refine bcs_not ?_ | refine bcs_intro (fun h => ?_) (fun h => ?_) | refine And.intro ?_ ?_ | refine reg_tail (by kernel_rfl) ?_)
        refine ⟨(i + 1, some (q ++ X)), [.at 3 0, .at 4 0, .at 5 0, .at 6 0, .at 7 0, .at 8 0, .at 9 0, .at 10 0, .at 12 0], ?_, ?_, ?_⟩
        · refine ⟨by omega, by omega, ?_, ?_, ?_⟩
          · intro e
            simp only [Option.some.injEq] at e
            exact hXn (List.append_eq_nil_iff.1 e).2
          · show ((q ++ X).length : Int) + 8200 * ((mx - (i + 1)) + ((a.length - (c.A + c.N)) + (b.length - (c.B + c.M)))) ≤ 100000000000
            rw [List.length_append]
            omega
          · show (q ++ X) ++ (blkF a b hf d c (mx - (i + 1)).toNat (i + 1) ++ prF a b hf d (L.drop (k + 1)) (c.A + c.N) (c.B + c.M)) = T
            rw [← j5, List.append_assoc]
        · show (mx - (i + 1)).toNat < (mx - i).toNat
          omega
        · (refine ⟨rfl, rfl, ?_, ?_⟩ <;> repeat' (first | refine And.intro ?_ ?_ | exact trivial | exact rfl | refine lt0 | refine lt1 ?_ | refine lt2 ?_ ?_ | refine lt3 ?_ ?_ ?_ | refine lt4 ?_ ?_ ?_ ?_ | exact veq_refl _ | decide | (intro i hi; repeat' (first | refine And.intro ?_ ?_ | exact trivial | exact rfl))))
          all_goals first | exact Nat.le_refl _ | omega | exact veq_refl _ | (simp; done) | skip
      · rw [if_neg e1] at j5
        by_cases e2 : i ≥ c.N
        · rw [if_pos e2, List.append_assoc] at j5
          have lr := row_len [] 62 (b.getD (0 + (c.B + i).toNat) []) (s := d) hh1 hh2
          have cr := rowPU_con [] (b.getD (0 + (c.B + i).toNat) []) 62 hf d q (by omega) (by simp) (by omega) hh1 hh2 hd1 hd2
          obtain ⟨X, hX⟩ : ∃ X, X = rowF [] 62 (b.getD (0 + (c.B + i).toNat) []) hf d := ⟨_, rfl⟩
          have hXn : X ≠ [] := by rw [hX]; exact row_ne _ _ _ _ _
          rw [← hX] at j5 lr cr
          repeat' (first | refine And.intro (by first | omega | (dsimp only; omega) | (show (_ : Bool) = true; kernel_rfl) | decide | (repeat' (first | refine And.intro ?_ ?_ | exact trivial | exact rfl))) ?_ | refine bcs_dec (fun h => ?_) (fun h => False.elim (by first | omega | exact h rfl)) | refine bcs_dec (fun h => False.elim (by omega)) (fun h => ?_) | refine bcs_dec (fun h => ?_) (fun h => ?_) | refine bcs_ndec (fun h => ?_) (fun h => ?_) | refine bcs_not ?_ | refine bcs_intro (fun h => ?_) (fun h => ?_) | refine And.intro ?_ ?_ | refine reg_tail (by kernel_rfl) ?_)
          refine call_rule [.at 6 0, .at 11 0] (cr) hG ?_ ?_
          · (refine ⟨?_, ?_, rfl, rfl, rfl⟩ <;> repeat' (first | refine And.intro ?_ ?_ | exact trivial | exact rfl | refine lt0 | refine lt1 ?_ | refine lt2 ?_ ?_ | refine lt3 ?_ ?_ ?_ | refine lt4 ?_ ?_ ?_ ?_ | exact veq_refl _ | decide | (intro i hi; repeat' (first | refine And.intro ?_ ?_ | exact trivial | exact rfl))))
            all_goals first | exact Nat.le_refl _ | omega
          rintro _ _ _ ⟨rfl, rfl, rfl⟩
          repeat' (first | refine And.intro (by first | omega | (dsimp only; omega) | (show (_ : Bool) = true; kernel_rfl) | decide | (repeat' (first | refine And.intro ?_ ?_ | exact trivial | exact rfl))) ?_ | refine bcs_dec (fun h => ?_) (fun h => False.elim (by first | omega | exact h rfl)) | refine bcs_dec (fun h => False.elim (by omega)) (fun h => ?_) | refine bcs_dec (fun h => ?_) (fun h => ?_) | refine bcs_ndec (fun h => ?_) (fun h => ?_) | refine bcs_not ?_ | refine bcs_intro (fun h => ?_) (fun h => ?_) | refine And.intro ?_ ?_ | refine reg_tail (by kernel_rfl) ?_)
          refine ⟨(i + 1, some (q ++ X)), [.at 3 0, .at 4 0, .at 5 0, .at 6 0, .at 7 0, .at 8 0, .at 9 0, .at 10 0, .at 12 0], ?_, ?_, ?_⟩
          · refine ⟨by omega, by omega, ?_, ?_, ?_⟩
            · intro e
              simp only [Option.some.injEq] at e
              exact hXn (List.append_eq_nil_iff.1 e).2
            · show ((q ++ X).length : Int) + 8200 * ((mx - (i + 1)) + ((a.length - (c.A + c.N)) + (b.length - (c.B + c.M)))) ≤ 100000000000
              rw [List.length_append]
              omega
            · show (q ++ X) ++ (blkF a b hf d c (mx - (i + 1)).toNat (i + 1) ++ prF a b hf d (L.drop (k + 1)) (c.A + c.N) (c.B + c.M)) = T
              rw [← j5, List.append_assoc]
          · show (mx - (i + 1)).toNat < (mx - i).toNat
            omega
          · (refine ⟨rfl, rfl, ?_, ?_⟩ <;> repeat' (first | refine And.intro ?_ ?_ | exact trivial | exact rfl | refine lt0 | refine lt1 ?_ | refine lt2 ?_ ?_ | refine lt3 ?_ ?_ ?_ | refine lt4 ?_ ?_ ?_ ?_ | exact veq_refl _ | decide | (intro i hi; repeat' (first | refine And.intro ?_ ?_ | exact trivial | exact rfl))))
            all_goals first | exact Nat.le_refl _ | omega | exact veq_refl _ | (simp; done) | skip
        · rw [if_neg e2, List.append_assoc] at j5
          have cb := beside_con (a.getD (0 + (c.A + i).toNat) []) (b.getD (0 + (c.B + i).toNat) []) (by omega) (by omega)
          have lr := row_len (a.getD (0 + (c.A + i).toNat) []) (besideF (a.getD (0 + (c.A + i).toNat) []) (b.getD (0 + (c.B + i).toNat) [])) (b.getD (0 + (c.B + i).toNat) []) (s := d) hh1 hh2
          have cr := rowPU_con (a.getD (0 + (c.A + i).toNat) []) (b.getD (0 + (c.B + i).toNat) []) (besideF (a.getD (0 + (c.A + i).toNat) []) (b.getD (0 + (c.B + i).toNat) [])) hf d q (by omega) (by omega) (by omega) hh1 hh2 hd1 hd2
          obtain ⟨X, hX⟩ : ∃ X, X = rowF (a.getD (0 + (c.A + i).toNat) []) (besideF (a.getD (0 + (c.A + i).toNat) []) (b.getD (0 + (c.B + i).toNat) [])) (b.getD (0 + (c.B + i).toNat) []) hf d := ⟨_, rfl⟩
          have hXn : X ≠ [] := by rw [hX]; exact row_ne _ _ _ _ _
          rw [← hX] at j5 lr cr
          repeat' (first | refine Both.mk ?_ ?_ | refine And.intro (by first | omega | (dsimp only; omega) | (show (_ : Bool) = true; kernel_rfl) | decide | (repeat' (first | refine And.intro ?_ ?_ | exact trivial | exact rfl))) ?_ | refine bcs_dec (fun h => ?_) (fun h => False.elim (by first | omega | exact h rfl)) | refine bcs_dec (fun h => False.elim (by omega)) (fun h => ?_) | refine bcs_dec (fun h => ?_) (fun h => ?_) | refine bcs_ndec (fun h => ?_) (fun h => ?_) | refine bcs_not ?_ | refine And.intro ?_ ?_)
          refine reg_ord [3, 4, 7, 8, 9] (.early 0 (.early 1 (.early 2 (.early 3 (.early 4 (.early 5 (.early 6 (.early 7 (.early 8 (.early 9 (.early 10 (.early 11 (.early 12 (.early 13 (.early 14 (.early 15 (.early 16 (.early 17 (.early 18 (.early 20 (.early 21 (.early 22 (.early 23 (.early 24 (.early 25 (.late 19 (.late 26 .nil))))))))))))))))))))))))))) (by decide +kernel) rfl ?_
          intro B' hB'
          have hG' := hG
          have hG := hB'.trans hG
          repeat' (first | refine Both.mk ?_ ?_ | refine And.intro (by first | omega | (dsimp only; omega) | (show (_ : Bool) = true; kernel_rfl) | decide | (repeat' (first | refine And.intro ?_ ?_ | exact trivial | exact rfl))) ?_ | refine bcs_dec (fun h => ?_) (fun h => False.elim (by first | omega | exact h rfl)) | refine bcs_dec (fun h => False.elim (by omega)) (fun h => ?_) | refine bcs_dec (fun h => ?_) (fun h => ?_) | refine bcs_ndec (fun h => ?_) (fun h => ?_) | refine bcs_not ?_ | refine And.intro ?_ ?_)
          refine call_rule [] (cb) hG ?_ ?_
          · (refine ⟨?_, ?_, rfl, rfl, rfl⟩ <;> repeat' (first | refine And.intro ?_ ?_ | exact trivial | exact rfl | refine lt0 | refine lt1 ?_ | refine lt2 ?_ ?_ | refine lt3 ?_ ?_ ?_ | refine lt4 ?_ ?_ ?_ ?_ | exact veq_refl _ | decide | (intro i hi; repeat' (first | refine And.intro ?_ ?_ | exact trivial | exact rfl))))
            all_goals first | exact Nat.le_refl _ | omega
          rintro _ _ _ ⟨rfl, rfl, rfl⟩
          repeat' (first | refine Both.mk ?_ ?_ | refine And.intro (by first | omega | (dsimp only; omega) | (show (_ : Bool) = true; kernel_rfl) | decide | (repeat' (first | refine And.intro ?_ ?_ | exact trivial | exact rfl))) ?_ | refine bcs_dec (fun h => ?_) (fun h => False.elim (by first | omega | exact h rfl)) | refine bcs_dec (fun h => False.elim (by omega)) (fun h => ?_) | refine bcs_dec (fun h => ?_) (fun h => ?_) | refine bcs_ndec (fun h => ?_) (fun h => ?_) | refine bcs_not ?_ | refine And.intro ?_ ?_)
          refine call_rule [.at 6 0, .at 11 0] (cr) hG ?_ ?_
          · (refine ⟨?_, ?_, rfl, rfl, rfl⟩ <;> repeat' (first | refine And.intro ?_ ?_ | exact trivial | exact rfl | refine lt0 | refine lt1 ?_ | refine lt2 ?_ ?_ | refine lt3 ?_ ?_ ?_ | refine lt4 ?_ ?_ ?_ ?_ | exact veq_refl _ | decide | (intro i hi; repeat' (first | refine And.intro ?_ ?_ | exact trivial | exact rfl))))
            all_goals first | exact Nat.le_refl _ | omega
          rintro _ _ _ ⟨rfl, rfl, rfl⟩
          repeat' (first | refine And.intro (by first | omega | (dsimp only; omega) | (show (_ : Bool) = true; kernel_rfl) | decide | (repeat' (first | refine And.intro ?_ ?_ | exact trivial | exact rfl))) ?_ | refine bcs_dec (fun h => ?_) (fun h => False.elim (by first | omega | exact h rfl)) | refine bcs_dec (fun h => False.elim (by omega)) (fun h => ?_) | refine bcs_dec (fun h => ?_) (fun h => ?_) | refine bcs_ndec (fun h => ?_) (fun h => ?_) | refine bcs_not ?_ | refine bcs_intro (fun h => ?_) (fun h => ?_) | refine And.intro ?_ ?_ | refine reg_tail (by kernel_rfl) ?_)
          have hG := hG'
          refine ⟨(i + 1, some (q ++ X)), [.at 3 0, .at 4 0, .at 5 0, .at 6 0, .at 7 0, .at 8 0, .at 9 0, .at 10 0, .at 12 0], ?_, ?_, ?_⟩
          · refine ⟨by omega, by omega, ?_, ?_, ?_⟩
            · intro e
              simp only [Option.some.injEq] at e
              exact hXn (List.append_eq_nil_iff.1 e).2
            · show ((q ++ X).length : Int) + 8200 * ((mx - (i + 1)) + ((a.length - (c.A + c.N)) + (b.length - (c.B + c.M)))) ≤ 100000000000
              rw [List.length_append]
              omega
            · show (q ++ X) ++ (blkF a b hf d c (mx - (i + 1)).toNat (i + 1) ++ prF a b hf d (L.drop (k + 1)) (c.A + c.N) (c.B + c.M)) = T
              rw [← j5, List.append_assoc]
          · show (mx - (i + 1)).toNat < (mx - i).toNat
            omega
          · (refine ⟨rfl, rfl, ?_, ?_⟩ <;> repeat' (first | refine And.intro ?_ ?_ | exact trivial | exact rfl | refine lt0 | refine lt1 ?_ | refine lt2 ?_ ?_ | refine lt3 ?_ ?_ ?_ | refine lt4 ?_ ?_ ?_ ?_ | exact veq_refl _ | decide | (intro i hi; repeat' (first | refine And.intro ?_ ?_ | exact trivial | exact rfl))))
            all_goals first | exact Nat.le_refl _ | omega | exact veq_refl _ | (simp; done) | skip
    · skip
      obtain rfl : i = mx := by omega
      rw [show (i - i).toNat = 0 by omega] at j5
      simp only [blkF, List.nil_append] at j5
      repeat' (first | refine And.intro (by first | omega | (dsimp only; omega) | (show (_ : Bool) = true; kernel_rfl) | decide | (repeat' (first | refine And.intro ?_ ?_ | exact trivial | exact rfl))) ?_ | refine bcs_dec (fun h => ?_) (fun h => False.elim (by first | omega | exact h rfl)) | refine bcs_dec (fun h => False.elim (by omega)) (fun h => ?_) | refine bcs_dec (fun h => ?_) (fun h => ?_) | refine bcs_ndec (fun h => ?_) (fun h => ?_) | refine bcs_not ?_ | refine bcs_intro (fun h => ?_) (fun h => ?_) | refine And.intro ?_ ?_ | refine reg_tail (by kernel_rfl) ?_)
      exact hK (some q) j3 (by show ((q.length : Int)) + _ ≤ _; omega) j5
end Go.Proofs.YtjlobgcmhnkgnaaDoor
