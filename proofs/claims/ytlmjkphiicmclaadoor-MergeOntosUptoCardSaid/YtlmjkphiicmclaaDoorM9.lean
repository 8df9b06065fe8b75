/- Chapter 18: a group of changes that meet: the program's inner loop of Chunks, walked. Printed by gen_m9.py. -/
import Derived.Test.YtlmjkphiicmclaaDoorMB
import Derived.Test.YtlmjkphiicmclaaDoorGA
namespace Go.Proofs.YtlmjkphiicmclaaDoor
open Go Go.RowKit Vc

/-- What stands in a block that is a loop. -/
def blkOf (n : Nat) : Code → Option Code
  | .seq a b => match blkOf n a with | some c => some c | none => blkOf n b
  | .block m c => bif Nat.beq m n then some c else blkOf n c
  | .loop c => blkOf n c
  | .cond _ a b => match blkOf n a with | some c => some c | none => blkOf n b
  | _ => none
def loopOf (n : Nat) (f : Func) : Code := match f.body with
  | some b => (match blkOf n b with | some (.loop c) => c | _ => .skip)
  | none => .skip
/-- Where Chunks stands ahead of each group. -/
def oSt (P Q : List Chg) (b m y : List Byt) (i j : Nat) (z xm ym : Int) (out : List Chk) : St := ⟨[(2, .s 2 0 b.length), (3, .s 3 0 m.length), (4, .s 4 0 y.length), (13, .p 9 0 0), (14, .p 10 0 0), (15, .p 11 0 0), (16, .p 12 0 0), (17, .f 49 [.p 11 0 0, .p 12 0 0, .p 9 0 0, .p 10 0 0])], [(2, stRo b), (3, stRo m), (4, stRo y), (5, chRo P), (6, chRo Q), (7, .box 89 [.s 5 i (P.length - i), .v (.int .i64 xm)]), (8, .box 89 [.s 6 j (Q.length - j), .v (.int .i64 ym)]), (9, .box 87 [.p 7 0 0]), (10, .box 87 [.p 8 0 0]), (11, .box 26 [.o 13]), (12, .box 3 [.v (.int .i64 z)]), (13, ckOwn out)], 14⟩
/-- .. within a group: it began at 'f'. -/
def gFr (b m y : List Byt) (f x0 y0 tw : Int) (bx bz : Bool) : List (Nat × SV) := [(18, .v (.int .i64 f)), (19, .v (.int .i64 tw)), (20, .v (.int .i64 x0)), (21, .v (.int .i64 y0)), (22, .v (.bool bx)), (23, .v (.bool bz)), (2, .s 2 0 b.length), (3, .s 3 0 m.length), (4, .s 4 0 y.length), (13, .p 9 0 0), (14, .p 10 0 0), (15, .p 11 0 0), (16, .p 12 0 0), (17, .f 49 [.p 11 0 0, .p 12 0 0, .p 9 0 0, .p 10 0 0])]
def gSta (P Q : List Chg) (b m y : List Byt) (f x0 y0 z : Int) (out : List Chk) (i j : Nat) (tw xm ym : Int) (bx bz : Bool) : St := ⟨gFr b m y f x0 y0 tw bx bz, [(2, stRo b), (3, stRo m), (4, stRo y), (5, chRo P), (6, chRo Q), (7, .box 89 [.s 5 i (P.length - i), .v (.int .i64 xm)]), (8, .box 89 [.s 6 j (Q.length - j), .v (.int .i64 ym)]), (9, .box 87 [.p 7 0 0]), (10, .box 87 [.p 8 0 0]), (11, .box 26 [.o 13]), (12, .box 3 [.v (.int .i64 z)]), (13, ckOwn out)], 14⟩
theorem takeX_at (P Q : List Chg) (i j : Nat) (tw xm ym : Int) (hi : i < P.length) : (GS.takeX ⟨P.drop i, Q.drop j, tw, xm, ym⟩) = ⟨P.drop (i + 1), Q.drop j, max tw ((P.getD i Chg.d).A + (P.getD i Chg.d).N), xm + ((P.getD i Chg.d).M - (P.getD i Chg.d).N), ym⟩ := by
  unfold GS.takeX
  dsimp only
  rw [drop_get Chg.d P i hi]
  rfl
theorem takeY_at (P Q : List Chg) (i j : Nat) (tw xm ym : Int) (hj : j < Q.length) : (GS.takeY ⟨P.drop i, Q.drop j, tw, xm, ym⟩) = ⟨P.drop i, Q.drop (j + 1), max tw ((Q.getD j Chg.d).A + (Q.getD j Chg.d).N), xm, ym + ((Q.getD j Chg.d).M - (Q.getD j Chg.d).N)⟩ := by
  unfold GS.takeY
  dsimp only
  rw [drop_get Chg.d Q j hj]
  rfl
theorem hd_lt {P : List Chg} {i : Nat} {t : Int} (h : hd (P.drop i) t = true) : i < P.length := by
  rw [drop_hd] at h
  exact (of_decide_eq_true h).1
/-- What is known of the next change of a side. -/
theorem at_meets {n m z mx f : Int} {P : List Chg} {i : Nat} (h : atF n m (P.drop i) z mx) (hf : f ≤ z) (hn : n ≤ 4194304) : i < P.length → f ≤ (P.getD i Chg.d).A ∧ 0 ≤ (P.getD i Chg.d).N ∧ (P.getD i Chg.d).A + (P.getD i Chg.d).N ≤ 4194304 ∧ 0 ≤ (P.getD i Chg.d).A := fun hi => by
  rw [drop_get Chg.d P i hi] at h
  obtain ⟨_, k2, k3, k4, k5, k6, k7, k8⟩ := at_take h
  omega
theorem at_tk {n m z mx : Int} {P : List Chg} {i : Nat} (h : atF n m (P.drop i) z mx) (hn : n ≤ 4194304) (hm : m ≤ 4194304) (hi : i < P.length) : 0 ≤ (P.getD i Chg.d).A ∧ 0 ≤ (P.getD i Chg.d).N ∧ 0 ≤ (P.getD i Chg.d).M ∧ (P.getD i Chg.d).A + (P.getD i Chg.d).N ≤ 4194304 ∧ (P.getD i Chg.d).M ≤ 4194304 := by
  have h' := h
  obtain ⟨_, h0, h1, _, _⟩ := h'
  rw [drop_get Chg.d P i hi] at h
  obtain ⟨_, k2, k3, k4, k5, k6, k7, k8⟩ := at_take h
  omega
set_option maxRecDepth 100000 in
set_option maxHeartbeats 64000000 in
theorem grp_loop (P Q : List Chg) (b m y : List Byt) (f x0 y0 z : Int) (out : List Chk) (i0 j0 : Nat) (G : GS) (B : Bs) (hG : B.glob = glob) (hbl : b.length ≤ 4194304) (hml : m.length ≤ 4194304) (hyl : y.length ≤ 4194304) (hi0 : i0 ≤ P.length) (hj0 : j0 ≤ Q.length)
    (K : St → Prop) (E : Nat → St → Prop) (R : St → Prop) (s0 : St) (new0 : List Kp)
    (h0 : gth (P.length - i0 + (Q.length - j0)) ⟨P.drop i0, Q.drop j0, f, x0, y0⟩ = G) (hin : gIn b.length m.length y.length f x0 y0 ⟨P.drop i0, Q.drop j0, f, x0, y0⟩)
    (hs : Sub 5 new0 s0 (gSta P Q b m y f x0 y0 z out i0 j0 f x0 y0 false false))
    (hK : ∀ (i j : Nat) (tw xm ym : Int), i0 ≤ i → i ≤ P.length → j0 ≤ j → j ≤ Q.length → G = ⟨P.drop i, Q.drop j, tw, xm, ym⟩ → gIn b.length m.length y.length f x0 y0 G → hd G.p G.tw = false → hd G.q G.tw = false →
      K ⟨(139, .v (.bool false)) :: (139, .v (.bool false)) :: (143, .v (.bool false)) :: (142, .v (.int .i64 tw)) :: (141, .v (.int .i64 f)) :: (140, .p 8 0 0) :: (130, .v (.bool false)) :: (130, .v (.bool false)) :: (134, .v (.bool false)) :: (133, .v (.int .i64 tw)) :: (132, .v (.int .i64 f)) :: (131, .p 7 0 0) :: gFr b m y f x0 y0 tw (decide (i0 < i)) (decide (j0 < j)),
        (8, .box 89 [.s 6 j (Q.length - j), .v (.int .i64 ym)]) :: (7, .box 89 [.s 5 i (P.length - i), .v (.int .i64 xm)]) :: (gSta P Q b m y f x0 y0 z out i j tw xm ym true true).mem, 14⟩) :
    LoopP ⟨Tryd.prog, tab, B, 184, 5⟩ (loopOf 2 Tryd.f29) s0 (fun i s => bif Nat.beq i 2 then K s else E i s) R := by
  refine loop_rule (α := Nat × Nat × Int × Int × Int × Bool × Bool) (fun (i, j, tw, xm, ym, bx, bz) => gSta P Q b m y f x0 y0 z out i j tw xm ym bx bz)
    (fun (i, j, tw, xm, ym, bx, bz) => i0 ≤ i ∧ i ≤ P.length ∧ j0 ≤ j ∧ j ≤ Q.length ∧ bx = decide (i0 < i) ∧ bz = decide (j0 < j) ∧ gth (P.length - i + (Q.length - j)) ⟨P.drop i, Q.drop j, tw, xm, ym⟩ = G ∧ gIn b.length m.length y.length f x0 y0 ⟨P.drop i, Q.drop j, tw, xm, ym⟩)
    (fun (i, j, _) => P.length - i + (Q.length - j)) (i0, j0, f, x0, y0, false, false) new0 ?_ hs ?_
  · exact ⟨Nat.le_refl _, hi0, Nat.le_refl _, hj0, by simp, by simp, h0, hin⟩
  rintro ⟨i, j, tw, xm, ym, bx, bz⟩ ⟨c1, c2, c3, c4, c5, c6, c7, c8⟩
  have c8' := c8
  obtain ⟨d1, d2, ⟨zx, d3, d4, d5, d6⟩, ⟨zy, d7, d8, d9, d10⟩⟩ := c8
  dsimp only at d1 d2 d3 d4 d5 d6 d7 d8 d9 d10
  have cX := meets_con P i xm f tw c2 (at_meets d3 d4 (by omega))
  have cY := meets_con Q j ym f tw c4 (at_meets d7 d8 (by omega))
  have d3' := d3
  have d7' := d7
  obtain ⟨_, e1, e2, _, e3⟩ := d3'
  obtain ⟨_, e4, e5, _, e6⟩ := d7'
  by_cases hx : hd (P.drop i) tw = true
  · have hi := hd_lt hx
    rw [hx] at cX
    have cT := take_con P i xm hi (at_tk d3 (by omega) (by omega) hi) (by omega)
    have hst : P.length - i + (Q.length - j) = P.length - (i + 1) + (Q.length - j) + 1 := by omega
    have c8 := gIn_X c8' hx
    rw [hst, gth_X (g := ⟨P.drop i, Q.drop j, tw, xm, ym⟩) hx] at c7
    rw [takeX_at P Q i j tw xm ym hi] at c7 c8
    repeat' (first | refine And.intro (by first | omega | (dsimp only; omega) | (show (_ : Bool) = true; kernel_rfl) | decide | (repeat' (first | refine And.intro ?_ ?_ | exact trivial | exact rfl))) ?_ | refine bcs_dec (fun h => ?_) (fun h => False.elim (by first | omega | exact h rfl)) | refine bcs_dec (fun h => False.elim (by omega)) (fun h => ?_) | refine bcs_dec (fun h => ?_) (fun h => ?_) | refine bcs_ndec (fun h => ?_) (fun h => ?_) | refine bcs_not ?_ | refine bcs_intro (fun h => ?_) (fun h => ?_) | refine And.intro ?_ ?_ | refine reg_tail (by kernel_rfl) ?_)
    refine call_rule [.at 7 0, .at 5 0] (cX) hG ?_ ?_
    · (refine ⟨?_, ?_, rfl, rfl, rfl⟩ <;> repeat' (first | refine And.intro ?_ ?_ | exact trivial | exact rfl | refine lt0 | refine lt1 ?_ | refine lt2 ?_ ?_ | refine lt3 ?_ ?_ ?_ | refine lt4 ?_ ?_ ?_ ?_ | exact veq_refl _ | decide | (intro i hi; repeat' (first | refine And.intro ?_ ?_ | exact trivial | exact rfl))))
      all_goals first | exact Nat.le_refl _ | omega
    rintro _ _ _ ⟨rfl, rfl, rfl⟩
    repeat' (first | refine And.intro (by first | omega | (dsimp only; omega) | (show (_ : Bool) = true; kernel_rfl) | decide | (repeat' (first | refine And.intro ?_ ?_ | exact trivial | exact rfl))) ?_ | refine bcs_dec (fun h => ?_) (fun h => False.elim (by first | omega | exact h rfl)) | refine bcs_dec (fun h => False.elim (by omega)) (fun h => ?_) | refine bcs_dec (fun h => ?_) (fun h => ?_) | refine bcs_ndec (fun h => ?_) (fun h => ?_) | refine bcs_not ?_ | refine bcs_intro (fun h => ?_) (fun h => ?_) | refine And.intro ?_ ?_ | refine reg_tail (by kernel_rfl) ?_)
    refine call_rule [.at 7 0, .at 5 0] (cT) hG ?_ ?_
    · (refine ⟨?_, ?_, rfl, rfl, rfl⟩ <;> repeat' (first | refine And.intro ?_ ?_ | exact trivial | exact rfl | refine lt0 | refine lt1 ?_ | refine lt2 ?_ ?_ | refine lt3 ?_ ?_ ?_ | refine lt4 ?_ ?_ ?_ ?_ | exact veq_refl _ | decide | (intro i hi; repeat' (first | refine And.intro ?_ ?_ | exact trivial | exact rfl))))
      all_goals first | exact Nat.le_refl _ | omega
    rintro _ _ _ ⟨rfl, rfl, rfl⟩
    repeat' (first | refine And.intro (by first | omega | (dsimp only; omega) | (show (_ : Bool) = true; kernel_rfl) | decide | (repeat' (first | refine And.intro ?_ ?_ | exact trivial | exact rfl))) ?_ | refine bcs_dec (fun h => ?_) (fun h => False.elim (by first | omega | exact h rfl)) | refine bcs_dec (fun h => False.elim (by omega)) (fun h => ?_) | refine bcs_dec (fun h => ?_) (fun h => ?_) | refine bcs_ndec (fun h => ?_) (fun h => ?_) | refine bcs_not ?_ | refine bcs_intro (fun h => ?_) (fun h => ?_) | refine And.intro ?_ ?_ | refine reg_tail (by kernel_rfl) ?_)
    refine ⟨(i + 1, j, max tw ((P.getD i Chg.d).A + (P.getD i Chg.d).N), xm + ((P.getD i Chg.d).M - (P.getD i Chg.d).N), ym, true, bz), [.at 5 0, .at 6 0, .at 7 0, .at 8 0, .at 9 0, .at 10 0, .at 11 0, .at 12 0, .at 13 0], ?_, ?_, ?_⟩
    · exact ⟨by omega, hi, c3, c4, (decide_eq_true (by omega)).symm, c6, c7, c8⟩
    · show P.length - (i + 1) + (Q.length - j) < P.length - i + (Q.length - j)
      omega
    · (refine ⟨rfl, rfl, ?_, ?_⟩ <;> repeat' (first | refine And.intro ?_ ?_ | exact trivial | exact rfl | refine lt0 | refine lt1 ?_ | refine lt2 ?_ ?_ | refine lt3 ?_ ?_ ?_ | refine lt4 ?_ ?_ ?_ ?_ | exact veq_refl _ | decide | (intro i hi; repeat' (first | refine And.intro ?_ ?_ | exact trivial | exact rfl))))
      all_goals first | exact Nat.le_refl _ | omega | exact veq_refl _ | skip
  · have hx : hd (P.drop i) tw = false := by simpa using hx
    rw [hx] at cX
    by_cases hy : hd (Q.drop j) tw = true
    · have hj := hd_lt hy
      rw [hy] at cY
      have cT := take_con Q j ym hj (at_tk d7 (by omega) (by omega) hj) (by omega)
      have hst : P.length - i + (Q.length - j) = P.length - i + (Q.length - (j + 1)) + 1 := by omega
      have c8 := gIn_Y c8' hy
      rw [hst, gth_Y _ ⟨P.drop i, Q.drop j, tw, xm, ym⟩ (by show (P.drop i).length + (Q.drop j).length ≤ _; rw [List.length_drop, List.length_drop]; omega) hy] at c7
      rw [takeY_at P Q i j tw xm ym hj] at c7 c8
      repeat' (first | refine And.intro (by first | omega | (dsimp only; omega) | (show (_ : Bool) = true; kernel_rfl) | decide | (repeat' (first | refine And.intro ?_ ?_ | exact trivial | exact rfl))) ?_ | refine bcs_dec (fun h => ?_) (fun h => False.elim (by first | omega | exact h rfl)) | refine bcs_dec (fun h => False.elim (by omega)) (fun h => ?_) | refine bcs_dec (fun h => ?_) (fun h => ?_) | refine bcs_ndec (fun h => ?_) (fun h => ?_) | refine bcs_not ?_ | refine bcs_intro (fun h => ?_) (fun h => ?_) | refine And.intro ?_ ?_ | refine reg_tail (by kernel_rfl) ?_)
      refine call_rule [.at 7 0, .at 5 0] (cX) hG ?_ ?_
      · (refine ⟨?_, ?_, rfl, rfl, rfl⟩ <;> repeat' (first | refine And.intro ?_ ?_ | exact trivial | exact rfl | refine lt0 | refine lt1 ?_ | refine lt2 ?_ ?_ | refine lt3 ?_ ?_ ?_ | refine lt4 ?_ ?_ ?_ ?_ | exact veq_refl _ | decide | (intro i hi; repeat' (first | refine And.intro ?_ ?_ | exact trivial | exact rfl))))
        all_goals first | exact Nat.le_refl _ | omega
      rintro _ _ _ ⟨rfl, rfl, rfl⟩
      repeat' (first | refine And.intro (by first | omega | (dsimp only; omega) | (show (_ : Bool) = true; kernel_rfl) | decide | (repeat' (first | refine And.intro ?_ ?_ | exact trivial | exact rfl))) ?_ | refine bcs_dec (fun h => ?_) (fun h => False.elim (by first | omega | exact h rfl)) | refine bcs_dec (fun h => False.elim (by omega)) (fun h => ?_) | refine bcs_dec (fun h => ?_) (fun h => ?_) | refine bcs_ndec (fun h => ?_) (fun h => ?_) | refine bcs_not ?_ | refine bcs_intro (fun h => ?_) (fun h => ?_) | refine And.intro ?_ ?_ | refine reg_tail (by kernel_rfl) ?_)
      refine call_rule [.at 8 0, .at 6 0] (cY) hG ?_ ?_
      · (refine ⟨?_, ?_, rfl, rfl, rfl⟩ <;> repeat' (first | refine And.intro ?_ ?_ | exact trivial | exact rfl | refine lt0 | refine lt1 ?_ | refine lt2 ?_ ?_ | refine lt3 ?_ ?_ ?_ | refine lt4 ?_ ?_ ?_ ?_ | exact veq_refl _ | decide | (intro i hi; repeat' (first | refine And.intro ?_ ?_ | exact trivial | exact rfl))))
        all_goals first | exact Nat.le_refl _ | omega
      rintro _ _ _ ⟨rfl, rfl, rfl⟩
      repeat' (first | refine And.intro (by first | omega | (dsimp only; omega) | (show (_ : Bool) = true; kernel_rfl) | decide | (repeat' (first | refine And.intro ?_ ?_ | exact trivial | exact rfl))) ?_ | refine bcs_dec (fun h => ?_) (fun h => False.elim (by first | omega | exact h rfl)) | refine bcs_dec (fun h => False.elim (by omega)) (fun h => ?_) | refine bcs_dec (fun h => ?_) (fun h => ?_) | refine bcs_ndec (fun h => ?_) (fun h => ?_) | refine bcs_not ?_ | refine bcs_intro (fun h => ?_) (fun h => ?_) | refine And.intro ?_ ?_ | refine reg_tail (by kernel_rfl) ?_)
      refine call_rule [.at 8 0, .at 6 0] (cT) hG ?_ ?_
      · (refine ⟨?_, ?_, rfl, rfl, rfl⟩ <;> repeat' (first | refine And.intro ?_ ?_ | exact trivial | exact rfl | refine lt0 | refine lt1 ?_ | refine lt2 ?_ ?_ | refine lt3 ?_ ?_ ?_ | refine lt4 ?_ ?_ ?_ ?_ | exact veq_refl _ | decide | (intro i hi; repeat' (first | refine And.intro ?_ ?_ | exact trivial | exact rfl))))
        all_goals first | exact Nat.le_refl _ | omega
      rintro _ _ _ ⟨rfl, rfl, rfl⟩
      repeat' (first | refine And.intro (by first | omega | (dsimp only; omega) | (show (_ : Bool) = true; kernel_rfl) | decide | (repeat' (first | refine And.intro ?_ ?_ | exact trivial | exact rfl))) ?_ | refine bcs_dec (fun h => ?_) (fun h => False.elim (by first | omega | exact h rfl)) | refine bcs_dec (fun h => False.elim (by omega)) (fun h => ?_) | refine bcs_dec (fun h => ?_) (fun h => ?_) | refine bcs_ndec (fun h => ?_) (fun h => ?_) | refine bcs_not ?_ | refine bcs_intro (fun h => ?_) (fun h => ?_) | refine And.intro ?_ ?_ | refine reg_tail (by kernel_rfl) ?_)
      refine ⟨(i, j + 1, max tw ((Q.getD j Chg.d).A + (Q.getD j Chg.d).N), xm, ym + ((Q.getD j Chg.d).M - (Q.getD j Chg.d).N), bx, true), [.at 5 0, .at 6 0, .at 7 0, .at 8 0, .at 9 0, .at 10 0, .at 11 0, .at 12 0, .at 13 0], ?_, ?_, ?_⟩
      · exact ⟨c1, c2, by omega, hj, c5, (decide_eq_true (by omega)).symm, c7, c8⟩
      · show P.length - i + (Q.length - (j + 1)) < P.length - i + (Q.length - j)
        omega
      · (refine ⟨rfl, rfl, ?_, ?_⟩ <;> repeat' (first | refine And.intro ?_ ?_ | exact trivial | exact rfl | refine lt0 | refine lt1 ?_ | refine lt2 ?_ ?_ | refine lt3 ?_ ?_ ?_ | refine lt4 ?_ ?_ ?_ ?_ | exact veq_refl _ | decide | (intro i hi; repeat' (first | refine And.intro ?_ ?_ | exact trivial | exact rfl))))
        all_goals first | exact Nat.le_refl _ | omega | exact veq_refl _ | skip
    · have hy : hd (Q.drop j) tw = false := by simpa using hy
      rw [hy] at cY
      rw [gth_done (g := ⟨P.drop i, Q.drop j, tw, xm, ym⟩) hx hy] at c7
      subst c7
      subst c5 c6
      repeat' (first | refine And.intro (by first | omega | (dsimp only; omega) | (show (_ : Bool) = true; kernel_rfl) | decide | (repeat' (first | refine And.intro ?_ ?_ | exact trivial | exact rfl))) ?_ | refine bcs_dec (fun h => ?_) (fun h => False.elim (by first | omega | exact h rfl)) | refine bcs_dec (fun h => False.elim (by omega)) (fun h => ?_) | refine bcs_dec (fun h => ?_) (fun h => ?_) | refine bcs_ndec (fun h => ?_) (fun h => ?_) | refine bcs_not ?_ | refine bcs_intro (fun h => ?_) (fun h => ?_) | refine And.intro ?_ ?_ | refine reg_tail (by kernel_rfl) ?_)
      refine call_rule [.at 7 0, .at 5 0] (cX) hG ?_ ?_
      · (refine ⟨?_, ?_, rfl, rfl, rfl⟩ <;> repeat' (first | refine And.intro ?_ ?_ | exact trivial | exact rfl | refine lt0 | refine lt1 ?_ | refine lt2 ?_ ?_ | refine lt3 ?_ ?_ ?_ | refine lt4 ?_ ?_ ?_ ?_ | exact veq_refl _ | decide | (intro i hi; repeat' (first | refine And.intro ?_ ?_ | exact trivial | exact rfl))))
        all_goals first | exact Nat.le_refl _ | omega
      rintro _ _ _ ⟨rfl, rfl, rfl⟩
      repeat' (first | refine And.intro (by first | omega | (dsimp only; omega) | (show (_ : Bool) = true; kernel_rfl) | decide | (repeat' (first | refine And.intro ?_ ?_ | exact trivial | exact rfl))) ?_ | refine bcs_dec (fun h => ?_) (fun h => False.elim (by first | omega | exact h rfl)) | refine bcs_dec (fun h => False.elim (by omega)) (fun h => ?_) | refine bcs_dec (fun h => ?_) (fun h => ?_) | refine bcs_ndec (fun h => ?_) (fun h => ?_) | refine bcs_not ?_ | refine bcs_intro (fun h => ?_) (fun h => ?_) | refine And.intro ?_ ?_ | refine reg_tail (by kernel_rfl) ?_)
      refine call_rule [.at 8 0, .at 6 0] (cY) hG ?_ ?_
      · (refine ⟨?_, ?_, rfl, rfl, rfl⟩ <;> repeat' (first | refine And.intro ?_ ?_ | exact trivial | exact rfl | refine lt0 | refine lt1 ?_ | refine lt2 ?_ ?_ | refine lt3 ?_ ?_ ?_ | refine lt4 ?_ ?_ ?_ ?_ | exact veq_refl _ | decide | (intro i hi; repeat' (first | refine And.intro ?_ ?_ | exact trivial | exact rfl))))
        all_goals first | exact Nat.le_refl _ | omega
      rintro _ _ _ ⟨rfl, rfl, rfl⟩
      repeat' (first | refine And.intro (by first | omega | (dsimp only; omega) | (show (_ : Bool) = true; kernel_rfl) | decide | (repeat' (first | refine And.intro ?_ ?_ | exact trivial | exact rfl))) ?_ | refine bcs_dec (fun h => ?_) (fun h => False.elim (by first | omega | exact h rfl)) | refine bcs_dec (fun h => False.elim (by omega)) (fun h => ?_) | refine bcs_dec (fun h => ?_) (fun h => ?_) | refine bcs_ndec (fun h => ?_) (fun h => ?_) | refine bcs_not ?_ | refine bcs_intro (fun h => ?_) (fun h => ?_) | refine And.intro ?_ ?_ | refine reg_tail (by kernel_rfl) ?_)
      exact hK i j tw xm ym c1 c2 c3 c4 rfl c8' hx hy
end Go.Proofs.YtlmjkphiicmclaaDoor
