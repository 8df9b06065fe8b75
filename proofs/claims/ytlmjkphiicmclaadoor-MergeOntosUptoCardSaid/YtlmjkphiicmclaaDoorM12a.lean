/- Chapter 18: a group of changes that meet: the document's inner loop of Chunks, walked. Printed by gen_m12.py. -/
import Derived.Test.YtlmjkphiicmclaaDoorM9
namespace Go.Proofs.YtlmjkphiicmclaaDoor
open Go Go.RowKit Vc

/-- What stands behind a block. -/
def isBlk (n : Nat) : Code → Bool
  | .block m _ => Nat.beq m n
  | .seq _ b => isBlk n b
  | _ => false
def aftOf (n : Nat) : Code → Option Code
  | .seq a b => bif isBlk n a then some b else (match aftOf n a with | some c => some c | none => aftOf n b)
  | .block _ c => aftOf n c
  | .loop c => aftOf n c
  | .cond _ a b => match aftOf n a with | some c => some c | none => aftOf n b
  | _ => none
def restOf (n : Nat) (f : Func) : Code := match f.body with
  | some b => (match aftOf n b with | some c => c | none => .skip)
  | none => .skip
abbrev ckROwn (l : List Chk) : Ch := .own 36 7 l.length (ckRow l)
def rSta (P Q : List Chg) (b m y : List Byt) (i0 j0 : Nat) (z : Int) (out : List Chk) : St := ⟨[(2, .s 2 0 b.length), (3, .s 3 0 m.length), (4, .s 4 0 y.length), (12, .s 5 0 P.length), (14, .s 6 0 Q.length), (15, .o 7), (16, .v (.int .i64 z)), (17, .v (.int .i64 i0)), (18, .v (.int .i64 j0))], [(2, stRo b), (3, stRo m), (4, stRo y), (5, chRo P), (6, chRo Q), (7, .own 36 7 out.length (ckRow out))], 8⟩
def rGrp (P Q : List Chg) (b m y : List Byt) (i0 j0 : Nat) (z : Int) (out : List Chk) (f : Int) (x w : Nat) (tw : Int) (more : Bool) : St :=
  ⟨[(19, .v (.int .i64 f)), (20, .v (.int .i64 tw)), (21, .v (.int .i64 x)), (22, .v (.int .i64 w)), (23, .v (.bool more)), (2, .s 2 0 b.length), (3, .s 3 0 m.length), (4, .s 4 0 y.length), (12, .s 5 0 P.length), (14, .s 6 0 Q.length), (15, .o 7), (16, .v (.int .i64 z)), (17, .v (.int .i64 i0)), (18, .v (.int .i64 j0))], [(2, stRo b), (3, stRo m), (4, stRo y), (5, chRo P), (6, chRo Q), (7, .own 36 7 out.length (ckRow out))], 8⟩
theorem takeX_sh (P Q : List Chg) (i j : Nat) (tw : Int) (hi : i < P.length) : (GS.takeX ⟨P.drop i, Q.drop j, tw, shiftF P i, shiftF Q j⟩) = ⟨P.drop (i + 1), Q.drop j, max tw ((P.getD i Chg.d).A + (P.getD i Chg.d).N), shiftF P (i + 1), shiftF Q j⟩ := takeX_at P Q i j tw _ _ hi
theorem takeY_sh (P Q : List Chg) (i j : Nat) (tw : Int) (hj : j < Q.length) : (GS.takeY ⟨P.drop i, Q.drop j, tw, shiftF P i, shiftF Q j⟩) = ⟨P.drop i, Q.drop (j + 1), max tw ((Q.getD j Chg.d).A + (Q.getD j Chg.d).N), shiftF P i, shiftF Q (j + 1)⟩ := takeY_at P Q i j tw _ _ hj
theorem hd_is {P : List Chg} {i : Nat} {t : Int} {v : Bool} (h : hd (P.drop i) t = v) : v = decide (i < P.length ∧ (P.getD i Chg.d).A ≤ t) := by rw [← h, drop_hd]
theorem hd_yes {P : List Chg} {i : Nat} {t : Int} (h : hd (P.drop i) t = true) : i < P.length ∧ (P.getD (0 + (i : Int).toNat) Chg.d).A ≤ t := by
  rw [Nat.zero_add, Int.toNat_natCast]
  exact of_decide_eq_true (hd_is h).symm
theorem hd_no {P : List Chg} {i : Nat} {t : Int} (h : hd (P.drop i) t = false) : ¬ (i < P.length ∧ (P.getD (0 + (i : Int).toNat) Chg.d).A ≤ t) := by
  rw [Nat.zero_add, Int.toNat_natCast]
  exact of_decide_eq_false (hd_is h).symm
theorem at_tk0 {n m z mx : Int} {P : List Chg} {i : Nat} (h : atF n m (P.drop i) z mx) (hn : n ≤ 4194304) (hm : m ≤ 4194304) (hi : i < P.length) : 0 ≤ (P.getD (0 + (i : Int).toNat) Chg.d).A ∧ 0 ≤ (P.getD (0 + (i : Int).toNat) Chg.d).N ∧ 0 ≤ (P.getD (0 + (i : Int).toNat) Chg.d).M ∧ (P.getD (0 + (i : Int).toNat) Chg.d).A + (P.getD (0 + (i : Int).toNat) Chg.d).N ≤ 4194304 ∧ (P.getD (0 + (i : Int).toNat) Chg.d).M ≤ 4194304 := by
  rw [Nat.zero_add, Int.toNat_natCast]
  exact at_tk h hn hm hi
set_option maxRecDepth 100000 in
set_option maxHeartbeats 64000000 in
theorem rgrp_loop (P Q : List Chg) (b m y : List Byt) (f z : Int) (out : List Chk) (i0 j0 : Nat) (G : GS) (B : Bs) (hbl : b.length ≤ 4194304) (hml : m.length ≤ 4194304) (hyl : y.length ≤ 4194304) (hi0 : i0 ≤ P.length) (hj0 : j0 ≤ Q.length) (hP : P.length ≤ 4194304) (hQ : Q.length ≤ 4194304)
    (K : St → Prop) (E : Nat → St → Prop) (R : St → Prop) (s0 : St) (new0 : List Kp)
    (h0 : gth (P.length - i0 + (Q.length - j0)) ⟨P.drop i0, Q.drop j0, f, shiftF P i0, shiftF Q j0⟩ = G) (hin : gIn b.length m.length y.length f (shiftF P i0) (shiftF Q j0) ⟨P.drop i0, Q.drop j0, f, shiftF P i0, shiftF Q j0⟩)
    (hs : Sub 5 new0 s0 (rGrp P Q b m y i0 j0 z out f i0 j0 f true))
    (hK : ∀ (i j : Nat) (tw : Int), i0 ≤ i → i ≤ P.length → j0 ≤ j → j ≤ Q.length → G = ⟨P.drop i, Q.drop j, tw, shiftF P i, shiftF Q j⟩ → gIn b.length m.length y.length f (shiftF P i0) (shiftF Q j0) G → hd G.p G.tw = false → hd G.q G.tw = false →
      K ⟨(112, .v (.bool false)) :: (112, .v (.bool false)) :: (rGrp P Q b m y i0 j0 z out f i j tw false).fr, (rGrp P Q b m y i0 j0 z out f i j tw false).mem, 8⟩) :
    LoopP ⟨Tryd.prog, tab, B, 295, 5⟩ (loopOf 2 Tryd.f13) s0 (fun i s => bif Nat.beq i 2 then K s else E i s) R := by
  refine loop_rule (α := Nat × Nat × Int × Bool) (fun (i, j, tw, more) => rGrp P Q b m y i0 j0 z out f i j tw more)
    (fun (i, j, tw, more) => i0 ≤ i ∧ i ≤ P.length ∧ j0 ≤ j ∧ j ≤ Q.length ∧ gth (P.length - i + (Q.length - j)) ⟨P.drop i, Q.drop j, tw, shiftF P i, shiftF Q j⟩ = G ∧ gIn b.length m.length y.length f (shiftF P i0) (shiftF Q j0) ⟨P.drop i, Q.drop j, tw, shiftF P i, shiftF Q j⟩ ∧
      (more = false → hd (P.drop i) tw = false ∧ hd (Q.drop j) tw = false))
    (fun (i, j, _, more) => 2 * (P.length - i + (Q.length - j)) + (if more then 1 else 0)) (i0, j0, f, true) new0 ?_ hs ?_
  · exact ⟨Nat.le_refl _, hi0, Nat.le_refl _, hj0, h0, hin, fun h => by cases h⟩
  rintro ⟨i, j, tw, more⟩ ⟨c1, c2, c3, c4, c7, c8, c9⟩
  cases more with
  | false =>
    obtain ⟨n1, n2⟩ := c9 rfl
    rw [gth_done (g := ⟨P.drop i, Q.drop j, tw, shiftF P i, shiftF Q j⟩) n1 n2] at c7
    subst c7
    repeat' (first | refine And.intro (by first | (show (_ : Bool) = true; kernel_rfl) | omega | (dsimp only; omega) | decide | (repeat' (first | refine And.intro ?_ ?_ | exact trivial | exact rfl))) ?_ | refine bcs_dec (fun h => ?_) (fun h => False.elim (by first | omega | exact h rfl)) | refine bcs_dec (fun h => False.elim (by omega)) (fun h => ?_) | refine bcs_dec (fun h => ?_) (fun h => ?_) | refine bcs_ndec (fun h => ?_) (fun h => ?_) | refine bcs_not ?_ | refine bcs_intro (fun h => ?_) (fun h => ?_) | refine And.intro ?_ ?_ | refine reg_tail (by kernel_rfl) ?_)
    exact hK i j tw c1 c2 c3 c4 rfl c8 n1 n2
  | true =>
    clear c9
    have c8' := c8
    obtain ⟨d1, d2, ⟨zx, d3, d4, d5, d6⟩, ⟨zy, d7, d8, d9, d10⟩⟩ := c8'
    dsimp only at d1 d2 d3 d4 d5 d6 d7 d8 d9 d10
    have kx := at_tk0 (i := i) d3 (by omega) (by omega)
    have ky := at_tk0 (i := j) d7 (by omega) (by omega)
    clear d3 d4 d5 d6 d7 d8 d9 d10
    cases hx : hd (P.drop i) tw with
    | true =>
      have yx := hd_yes hx
      have kx := kx yx.1
      have c8 := gIn_X c8 hx
      rw [show P.length - i + (Q.length - j) = P.length - (i + 1) + (Q.length - j) + 1 by omega, gth_X (g := ⟨P.drop i, Q.drop j, tw, shiftF P i, shiftF Q j⟩) hx] at c7
      rw [takeX_sh P Q i j tw yx.1] at c7 c8
      rw [show P.getD i Chg.d = P.getD (0 + (i : Int).toNat) Chg.d by rw [Nat.zero_add]; rfl] at c7 c8
      cases hy : hd (Q.drop j) (max tw ((P.getD (0 + (i : Int).toNat) Chg.d).A + (P.getD (0 + (i : Int).toNat) Chg.d).N)) with
      | true =>
        have yy := hd_yes hy
        have ky := ky yy.1
        have c8 := gIn_Y c8 hy
        rw [show P.length - (i + 1) + (Q.length - j) = P.length - (i + 1) + (Q.length - (j + 1)) + 1 by omega, gth_Y _ ⟨P.drop (i + 1), Q.drop j, _, shiftF P (i + 1), shiftF Q j⟩ (by show (P.drop (i + 1)).length + (Q.drop j).length ≤ _; rw [List.length_drop, List.length_drop]; omega) hy] at c7
        rw [takeY_sh P Q (i + 1) j _ yy.1] at c7 c8
        rw [show Q.getD j Chg.d = Q.getD (0 + (j : Int).toNat) Chg.d by rw [Nat.zero_add]; rfl] at c7 c8
        repeat' (first | refine And.intro (by first | (show (_ : Bool) = true; kernel_rfl) | omega | (dsimp only; omega) | decide | (repeat' (first | refine And.intro ?_ ?_ | exact trivial | exact rfl))) ?_ | refine bcs_dec (fun h => ?_) (fun h => False.elim (by first | omega | exact h rfl)) | refine bcs_dec (fun h => False.elim (by omega)) (fun h => ?_) | refine bcs_dec (fun h => ?_) (fun h => ?_) | refine bcs_ndec (fun h => ?_) (fun h => ?_) | refine bcs_not ?_ | refine bcs_intro (fun h => ?_) (fun h => ?_) | refine And.intro ?_ ?_ | refine reg_tail (by kernel_rfl) ?_)
        all_goals first
          | omega
          | skip
        refine ⟨(i + 1, j + 1, max (max tw ((P.getD (0 + (i : Int).toNat) Chg.d).A + (P.getD (0 + (i : Int).toNat) Chg.d).N)) ((Q.getD (0 + (j : Int).toNat) Chg.d).A + (Q.getD (0 + (j : Int).toNat) Chg.d).N), true), [.at 5 0, .at 6 0, .at 7 0], ?_, ?_, ?_⟩
        · exact ⟨by omega, yx.1, by omega, yy.1, c7, c8, fun h => by cases h⟩
        · show 2 * (P.length - (i + 1) + (Q.length - (j + 1))) + 1 < 2 * (P.length - i + (Q.length - j)) + 1
          omega
        · (refine ⟨rfl, rfl, ?_, ?_⟩ <;> repeat' (first | refine And.intro ?_ ?_ | exact trivial | exact rfl | refine lt0 | refine lt1 ?_ | refine lt2 ?_ ?_ | refine lt3 ?_ ?_ ?_ | refine lt4 ?_ ?_ ?_ ?_ | exact veq_refl _ | decide | (intro i hi; repeat' (first | refine And.intro ?_ ?_ | exact trivial | exact rfl))))
          all_goals first | exact Nat.le_refl _ | omega | exact veq_refl _ | skip
      | false =>
        have yy := hd_no hy
        repeat' (first | refine And.intro (by first | (show (_ : Bool) = true; kernel_rfl) | omega | (dsimp only; omega) | decide | (repeat' (first | refine And.intro ?_ ?_ | exact trivial | exact rfl))) ?_ | refine bcs_dec (fun h => ?_) (fun h => False.elim (by first | omega | exact h rfl)) | refine bcs_dec (fun h => False.elim (by omega)) (fun h => ?_) | refine bcs_dec (fun h => ?_) (fun h => ?_) | refine bcs_ndec (fun h => ?_) (fun h => ?_) | refine bcs_not ?_ | refine bcs_intro (fun h => ?_) (fun h => ?_) | refine And.intro ?_ ?_ | refine reg_tail (by kernel_rfl) ?_)
        all_goals first
          | omega
          | skip
        all_goals
          refine ⟨(i + 1, j, max tw ((P.getD (0 + (i : Int).toNat) Chg.d).A + (P.getD (0 + (i : Int).toNat) Chg.d).N), true), [.at 5 0, .at 6 0, .at 7 0], ?_, ?_, ?_⟩
          · exact ⟨by omega, yx.1, c3, c4, c7, c8, fun h => by cases h⟩
          · show 2 * (P.length - (i + 1) + (Q.length - j)) + 1 < 2 * (P.length - i + (Q.length - j)) + 1
            omega
          · (refine ⟨rfl, rfl, ?_, ?_⟩ <;> repeat' (first | refine And.intro ?_ ?_ | exact trivial | exact rfl | refine lt0 | refine lt1 ?_ | refine lt2 ?_ ?_ | refine lt3 ?_ ?_ ?_ | refine lt4 ?_ ?_ ?_ ?_ | exact veq_refl _ | decide | (intro i hi; repeat' (first | refine And.intro ?_ ?_ | exact trivial | exact rfl))))
            all_goals first | exact Nat.le_refl _ | omega | exact veq_refl _ | skip
    | false =>
      have yx := hd_no hx
      cases hy : hd (Q.drop j) tw with
      | true =>
        have yy := hd_yes hy
        have ky := ky yy.1
        have c8 := gIn_Y c8 hy
        rw [show P.length - i + (Q.length - j) = P.length - i + (Q.length - (j + 1)) + 1 by omega, gth_Y _ ⟨P.drop i, Q.drop j, tw, shiftF P i, shiftF Q j⟩ (by show (P.drop i).length + (Q.drop j).length ≤ _; rw [List.length_drop, List.length_drop]; omega) hy] at c7
        rw [takeY_sh P Q i j tw yy.1] at c7 c8
        rw [show Q.getD j Chg.d = Q.getD (0 + (j : Int).toNat) Chg.d by rw [Nat.zero_add]; rfl] at c7 c8
        repeat' (first | refine And.intro (by first | (show (_ : Bool) = true; kernel_rfl) | omega | (dsimp only; omega) | decide | (repeat' (first | refine And.intro ?_ ?_ | exact trivial | exact rfl))) ?_ | refine bcs_dec (fun h => ?_) (fun h => False.elim (by first | omega | exact h rfl)) | refine bcs_dec (fun h => False.elim (by omega)) (fun h => ?_) | refine bcs_dec (fun h => ?_) (fun h => ?_) | refine bcs_ndec (fun h => ?_) (fun h => ?_) | refine bcs_not ?_ | refine bcs_intro (fun h => ?_) (fun h => ?_) | refine And.intro ?_ ?_ | refine reg_tail (by kernel_rfl) ?_)
        all_goals first
          | omega
          | skip
        all_goals
          refine ⟨(i, j + 1, max tw ((Q.getD (0 + (j : Int).toNat) Chg.d).A + (Q.getD (0 + (j : Int).toNat) Chg.d).N), true), [.at 5 0, .at 6 0, .at 7 0], ?_, ?_, ?_⟩
          · exact ⟨c1, c2, by omega, yy.1, c7, c8, fun h => by cases h⟩
          · show 2 * (P.length - i + (Q.length - (j + 1))) + 1 < 2 * (P.length - i + (Q.length - j)) + 1
            omega
          · (refine ⟨rfl, rfl, ?_, ?_⟩ <;> repeat' (first | refine And.intro ?_ ?_ | exact trivial | exact rfl | refine lt0 | refine lt1 ?_ | refine lt2 ?_ ?_ | refine lt3 ?_ ?_ ?_ | refine lt4 ?_ ?_ ?_ ?_ | exact veq_refl _ | decide | (intro i hi; repeat' (first | refine And.intro ?_ ?_ | exact trivial | exact rfl))))
            all_goals first | exact Nat.le_refl _ | omega | exact veq_refl _ | skip
      | false =>
        have yy := hd_no hy
        repeat' (first | refine And.intro (by first | (show (_ : Bool) = true; kernel_rfl) | omega | (dsimp only; omega) | decide | (repeat' (first | refine And.intro ?_ ?_ | exact trivial | exact rfl))) ?_ | refine bcs_dec (fun h => ?_) (fun h => False.elim (by first | omega | exact h rfl)) | refine bcs_dec (fun h => False.elim (by omega)) (fun h => ?_) | refine bcs_dec (fun h => ?_) (fun h => ?_) | refine bcs_ndec (fun h => ?_) (fun h => ?_) | refine bcs_not ?_ | refine bcs_intro (fun h => ?_) (fun h => ?_) | refine And.intro ?_ ?_ | refine reg_tail (by kernel_rfl) ?_)
        all_goals first
          | omega
          | skip
        all_goals
          refine ⟨(i, j, tw, false), [.at 5 0, .at 6 0, .at 7 0], ?_, ?_, ?_⟩
          · exact ⟨c1, c2, c3, c4, c7, c8, fun _ => ⟨hx, hy⟩⟩
          · show 2 * (P.length - i + (Q.length - j)) + 0 < 2 * (P.length - i + (Q.length - j)) + 1
            omega
          · (refine ⟨rfl, rfl, ?_, ?_⟩ <;> repeat' (first | refine And.intro ?_ ?_ | exact trivial | exact rfl | refine lt0 | refine lt1 ?_ | refine lt2 ?_ ?_ | refine lt3 ?_ ?_ ?_ | refine lt4 ?_ ?_ ?_ ?_ | exact veq_refl _ | decide | (intro i hi; repeat' (first | refine And.intro ?_ ?_ | exact trivial | exact rfl))))
            all_goals first | exact Nat.le_refl _ | omega | exact veq_refl _ | skip
end Go.Proofs.YtlmjkphiicmclaaDoor
