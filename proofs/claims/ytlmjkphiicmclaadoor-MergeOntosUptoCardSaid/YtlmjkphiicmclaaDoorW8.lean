/- Chapter 18: the merged text: the program's walked. Printed by gen_w8.py. -/
import Derived.Test.YtlmjkphiicmclaaDoorW7
import Derived.Test.YtlmjkphiicmclaaDoorW4t
import Derived.Test.YtlmjkphiicmclaaDoorM9
namespace Go.Proofs.YtlmjkphiicmclaaDoor
open Go Go.RowKit Vc

/-- Where Merge stands ahead of each chunk. -/
def mgSt (b m y lab : List Byt) (fmt : Int) (l : List Chk) (i : Nat) (cl : Int) : Wst → St
  | none => ⟨[(2, .s 2 0 b.length), (3, .s 3 0 m.length), (4, .s 4 0 y.length), (5, .s 5 0 lab.length), (6, .v (.int .i64 fmt)), (18, .s 6 0 l.length), (20, .p 7 0 0), (21, .p 8 0 0), (22, .v (.int .i64 cl)), (57, .s 6 0 l.length), (58, .v (.int .i64 l.length)), (59, .v (.int .i64 i))], [(2, stRo b), (3, stRo m), (4, stRo y), (5, stRo lab), (6, ckRo l), (7, .box 108 [.s 2 0 b.length, .s 3 0 m.length, .s 4 0 y.length, .s 5 0 lab.length, .v (.int .i64 fmt)]), (8, wrF false)], 9⟩
  | some (f, q) => ⟨[(2, .s 2 0 b.length), (3, .s 3 0 m.length), (4, .s 4 0 y.length), (5, .s 5 0 lab.length), (6, .v (.int .i64 fmt)), (18, .s 6 0 l.length), (20, .p 7 0 0), (21, .p 8 0 0), (22, .v (.int .i64 cl)), (57, .s 6 0 l.length), (58, .v (.int .i64 l.length)), (59, .v (.int .i64 i))], [(2, stRo b), (3, stRo m), (4, stRo y), (5, stRo lab), (6, ckRo l), (7, .box 108 [.s 2 0 b.length, .s 3 0 m.length, .s 4 0 y.length, .s 5 0 lab.length, .v (.int .i64 fmt)]), (8, .box 111 [.p 8 0 0, .o 9, .v (.bool f)]), (9, byOwn q)], 10⟩
/-- What holds of a writer while chunks are told. -/
def wIs : Wst → Prop
  | none => True
  | some (_, q) => q.length ≤ 4194304 ∧ q ≠ []
set_option maxRecDepth 100000 in
set_option maxHeartbeats 64000000 in
theorem merge_loop (b m y lab : List Byt) (fmt : Int) (l : List Chk) (B : Bs) (hG : B.glob = glob) (hb1 : ∀ x ∈ b, okP x) (hm1 : ∀ x ∈ m, okP x) (hy1 : ∀ x ∈ y, okP x) (hlab : ∀ i, (lab.getD i []).length ≤ 4096) (hl : l.length ≤ 100000000)
    (hok : ∀ c ∈ l, TellOk b m y lab fmt c) (W : Wst) (CL : Int) (hW : puts none (tellsP b m y lab fmt l) = W) (hCL : clF fmt l = CL)
    (K : St → Prop) (E : Nat → St → Prop) (R : St → Prop) (s0 : St) (new0 : List Kp)
    (hs : Sub 6 new0 s0 (mgSt b m y lab fmt l 0 0 none))
    (hK : wIs W → K ⟨(60, .v (.bool false)) :: (60, .v (.bool (decide ((l.length : Int) < (l.length : Int))))) :: (mgSt b m y lab fmt l l.length CL W).fr, (mgSt b m y lab fmt l l.length CL W).mem, (mgSt b m y lab fmt l l.length CL W).nx⟩) :
    LoopP ⟨Tryd.prog, tab, B, 93, 6⟩ (loopOf 0 Tryd.f34) s0 (fun i s => bif Nat.beq i 0 then K s else E i s) R := by
  refine loop_rule (α := Nat × Int × Wst) (fun (i, cl, u) => mgSt b m y lab fmt l i cl u)
    (fun (i, cl, u) => i ≤ l.length ∧ wIs u ∧ puts u (tellsP b m y lab fmt (l.drop i)) = W ∧ cl + clF fmt (l.drop i) = CL ∧ 0 ≤ cl ∧ cl ≤ i) (fun (i, _) => l.length - i) (0, 0, none) new0 ?_ hs ?_
  · exact ⟨Nat.zero_le _, True.intro, hW, by rw [List.drop_zero, hCL]; omega, Int.le_refl _, Int.le_refl _⟩
  rintro ⟨i, cl, u⟩ ⟨j1, j2, h4, h3, j6, j7⟩
  by_cases hi : i < l.length
  · rw [drop_get Chk.d l i hi] at h3 h4
    have e0 : l.getD i Chk.d = l.getD (0 + (i : Int).toNat) Chk.d := by rw [Nat.zero_add]; rfl
    have hm : l.getD i Chk.d ∈ l := by
      rw [List.getD_eq_getElem?_getD, List.getElem?_eq_getElem hi]
      exact List.getElem_mem hi
    have hok := hok _ hm
    rw [e0] at hok h3 h4
    clear hm e0
    have h4 : puts u (tellP b m y lab fmt (l.getD (0 + (i : Int).toNat) Chk.d) (l.drop (i + 1)).isEmpty ++ tellsP b m y lab fmt (l.drop (i + 1))) = W := h4
    rcases u with _ | ⟨f, q⟩
    · skip
      by_cases hlast : i + 1 = l.length
      · rw [show (l.drop (i + 1)).isEmpty = true by rw [List.drop_of_length_le (by omega)]; rfl] at h4
        cases e1 : puts none (tellP b m y lab fmt (l.getD (0 + (i : Int).toNat) Chk.d) true) with
        | none =>
          have cT := tellN_con b m y lab fmt (l.getD (0 + (i : Int).toNat) Chk.d) true hok e1
          rw [puts_app, e1] at h4
          repeat' (first | refine And.intro (by first | (show (_ : Bool) = true; kernel_rfl) | omega | (dsimp only; omega) | decide | (repeat' (first | refine And.intro ?_ ?_ | exact trivial | exact rfl))) ?_ | refine bcs_dec (fun h => ?_) (fun h => False.elim (by first | omega | exact h rfl)) | refine bcs_dec (fun h => False.elim (by omega)) (fun h => ?_) | refine bcs_dec (fun h => ?_) (fun h => ?_) | refine bcs_ndec (fun h => ?_) (fun h => ?_) | refine bcs_not ?_ | refine bcs_intro (fun h => ?_) (fun h => ?_) | refine And.intro ?_ ?_ | refine reg_tail (by kernel_rfl) ?_)
          all_goals first
            | omega
            | skip
          all_goals
            skip
            refine call_rule [.at 8 0, .at 2 0, .at 3 0, .at 4 0, .at 5 0] (cT) hG ?_ ?_
            · (refine ⟨?_, ?_, rfl, rfl, rfl⟩ <;> repeat' (first | refine And.intro ?_ ?_ | exact trivial | exact rfl | refine lt0 | refine lt1 ?_ | refine lt2 ?_ ?_ | refine lt3 ?_ ?_ ?_ | refine lt4 ?_ ?_ ?_ ?_ | exact veq_refl _ | decide | (intro i hi; repeat' (first | refine And.intro ?_ ?_ | exact trivial | exact rfl))))
              all_goals first | exact Nat.le_refl _ | omega | exact veq_refl _ | exact veq_of_eq (congrArg Value.bool (by symm; rw [beq_iff_eq]; omega)) | exact veq_of_eq (congrArg Value.bool (by symm; rw [beq_eq_false_iff_ne]; omega))
            rintro _ _ _ ⟨rfl, rfl, rfl⟩
            repeat' (first | refine And.intro (by first | (show (_ : Bool) = true; kernel_rfl) | omega | (dsimp only; omega) | decide | (repeat' (first | refine And.intro ?_ ?_ | exact trivial | exact rfl))) ?_ | refine bcs_dec (fun h => ?_) (fun h => False.elim (by first | omega | exact h rfl)) | refine bcs_dec (fun h => False.elim (by omega)) (fun h => ?_) | refine bcs_dec (fun h => ?_) (fun h => ?_) | refine bcs_ndec (fun h => ?_) (fun h => ?_) | refine bcs_not ?_ | refine bcs_intro (fun h => ?_) (fun h => ?_) | refine And.intro ?_ ?_ | refine reg_tail (by kernel_rfl) ?_)
            all_goals first
              | omega
              | skip
            refine ⟨(i + 1, cl + (if (l.getD (0 + (i : Int).toNat) Chk.d).k = 5 ∧ fmt < 3 then 1 else 0), none), [.at 6 0, .at 7 0, .at 8 0], ?_, ?_, ?_⟩
            · exact ⟨hi, True.intro, h4, by rw [← h3]; simp only [clF]; omega, by split <;> omega, by split <;> omega⟩
            · show l.length - (i + 1) < l.length - i
              omega
            · (refine ⟨rfl, rfl, ?_, ?_⟩ <;> repeat' (first | refine And.intro ?_ ?_ | exact trivial | exact rfl | refine lt0 | refine lt1 ?_ | refine lt2 ?_ ?_ | refine lt3 ?_ ?_ ?_ | refine lt4 ?_ ?_ ?_ ?_ | exact veq_refl _ | decide | (intro i hi; repeat' (first | refine And.intro ?_ ?_ | exact trivial | exact rfl))))
              all_goals first | exact Nat.le_refl _ | omega | exact veq_refl _ | (refine veq_of_eq (congrArg (Value.int .i64) ?_); first | rfl | (rw [if_pos (by omega)]) | (rw [if_neg (by omega)]; omega)) | skip
        | some w1 =>
          obtain ⟨f1, q1⟩ := w1
          have n1 := puts_none_ne (tell_ok hb1 hm1 hy1 hlab (l.getD (0 + (i : Int).toNat) Chk.d) true) e1
          have l1 := puts_none_len (tell_ok hb1 hm1 hy1 hlab (l.getD (0 + (i : Int).toNat) Chk.d) true) e1
          have cT := tellF_con b m y lab fmt (l.getD (0 + (i : Int).toNat) Chk.d) true hok f1 q1 e1
          rw [puts_app, e1] at h4
          repeat' (first | refine And.intro (by first | (show (_ : Bool) = true; kernel_rfl) | omega | (dsimp only; omega) | decide | (repeat' (first | refine And.intro ?_ ?_ | exact trivial | exact rfl))) ?_ | refine bcs_dec (fun h => ?_) (fun h => False.elim (by first | omega | exact h rfl)) | refine bcs_dec (fun h => False.elim (by omega)) (fun h => ?_) | refine bcs_dec (fun h => ?_) (fun h => ?_) | refine bcs_ndec (fun h => ?_) (fun h => ?_) | refine bcs_not ?_ | refine bcs_intro (fun h => ?_) (fun h => ?_) | refine And.intro ?_ ?_ | refine reg_tail (by kernel_rfl) ?_)
          all_goals first
            | omega
            | skip
          all_goals
            skip
            refine call_rule [.at 8 0, .at 2 0, .at 3 0, .at 4 0, .at 5 0] (cT) hG ?_ ?_
            · (refine ⟨?_, ?_, rfl, rfl, rfl⟩ <;> repeat' (first | refine And.intro ?_ ?_ | exact trivial | exact rfl | refine lt0 | refine lt1 ?_ | refine lt2 ?_ ?_ | refine lt3 ?_ ?_ ?_ | refine lt4 ?_ ?_ ?_ ?_ | exact veq_refl _ | decide | (intro i hi; repeat' (first | refine And.intro ?_ ?_ | exact trivial | exact rfl))))
              all_goals first | exact Nat.le_refl _ | omega | exact veq_refl _ | exact veq_of_eq (congrArg Value.bool (by symm; rw [beq_iff_eq]; omega)) | exact veq_of_eq (congrArg Value.bool (by symm; rw [beq_eq_false_iff_ne]; omega))
            rintro _ _ _ ⟨rfl, rfl, rfl⟩
            repeat' (first | refine And.intro (by first | (show (_ : Bool) = true; kernel_rfl) | omega | (dsimp only; omega) | decide | (repeat' (first | refine And.intro ?_ ?_ | exact trivial | exact rfl))) ?_ | refine bcs_dec (fun h => ?_) (fun h => False.elim (by first | omega | exact h rfl)) | refine bcs_dec (fun h => False.elim (by omega)) (fun h => ?_) | refine bcs_dec (fun h => ?_) (fun h => ?_) | refine bcs_ndec (fun h => ?_) (fun h => ?_) | refine bcs_not ?_ | refine bcs_intro (fun h => ?_) (fun h => ?_) | refine And.intro ?_ ?_ | refine reg_tail (by kernel_rfl) ?_)
            all_goals first
              | omega
              | skip
            refine ⟨(i + 1, cl + (if (l.getD (0 + (i : Int).toNat) Chk.d).k = 5 ∧ fmt < 3 then 1 else 0), some (f1, q1)), [.at 6 0, .at 7 0, .at 8 0, .at 10 0], ?_, ?_, ?_⟩
            · exact ⟨hi, ⟨l1, n1⟩, h4, by rw [← h3]; simp only [clF]; omega, by split <;> omega, by split <;> omega⟩
            · show l.length - (i + 1) < l.length - i
              omega
            · (refine ⟨rfl, rfl, ?_, ?_⟩ <;> repeat' (first | refine And.intro ?_ ?_ | exact trivial | exact rfl | refine lt0 | refine lt1 ?_ | refine lt2 ?_ ?_ | refine lt3 ?_ ?_ ?_ | refine lt4 ?_ ?_ ?_ ?_ | exact veq_refl _ | decide | (intro i hi; repeat' (first | refine And.intro ?_ ?_ | exact trivial | exact rfl))))
              all_goals first | exact Nat.le_refl _ | omega | exact veq_refl _ | (refine veq_of_eq (congrArg (Value.int .i64) ?_); first | rfl | (rw [if_pos (by omega)]) | (rw [if_neg (by omega)]; omega)) | skip
      · rw [show (l.drop (i + 1)).isEmpty = false by rw [List.isEmpty_eq_false_iff]; intro k; have := congrArg List.length k; rw [List.length_drop] at this; simp at this; omega] at h4
        cases e1 : puts none (tellP b m y lab fmt (l.getD (0 + (i : Int).toNat) Chk.d) false) with
        | none =>
          have cT := tellN_con b m y lab fmt (l.getD (0 + (i : Int).toNat) Chk.d) false hok e1
          rw [puts_app, e1] at h4
          repeat' (first | refine And.intro (by first | (show (_ : Bool) = true; kernel_rfl) | omega | (dsimp only; omega) | decide | (repeat' (first | refine And.intro ?_ ?_ | exact trivial | exact rfl))) ?_ | refine bcs_dec (fun h => ?_) (fun h => False.elim (by first | omega | exact h rfl)) | refine bcs_dec (fun h => False.elim (by omega)) (fun h => ?_) | refine bcs_dec (fun h => ?_) (fun h => ?_) | refine bcs_ndec (fun h => ?_) (fun h => ?_) | refine bcs_not ?_ | refine bcs_intro (fun h => ?_) (fun h => ?_) | refine And.intro ?_ ?_ | refine reg_tail (by kernel_rfl) ?_)
          all_goals first
            | omega
            | skip
          all_goals
            skip
            refine call_rule [.at 8 0, .at 2 0, .at 3 0, .at 4 0, .at 5 0] (cT) hG ?_ ?_
            · (refine ⟨?_, ?_, rfl, rfl, rfl⟩ <;> repeat' (first | refine And.intro ?_ ?_ | exact trivial | exact rfl | refine lt0 | refine lt1 ?_ | refine lt2 ?_ ?_ | refine lt3 ?_ ?_ ?_ | refine lt4 ?_ ?_ ?_ ?_ | exact veq_refl _ | decide | (intro i hi; repeat' (first | refine And.intro ?_ ?_ | exact trivial | exact rfl))))
              all_goals first | exact Nat.le_refl _ | omega | exact veq_refl _ | exact veq_of_eq (congrArg Value.bool (by symm; rw [beq_iff_eq]; omega)) | exact veq_of_eq (congrArg Value.bool (by symm; rw [beq_eq_false_iff_ne]; omega))
            rintro _ _ _ ⟨rfl, rfl, rfl⟩
            repeat' (first | refine And.intro (by first | (show (_ : Bool) = true; kernel_rfl) | omega | (dsimp only; omega) | decide | (repeat' (first | refine And.intro ?_ ?_ | exact trivial | exact rfl))) ?_ | refine bcs_dec (fun h => ?_) (fun h => False.elim (by first | omega | exact h rfl)) | refine bcs_dec (fun h => False.elim (by omega)) (fun h => ?_) | refine bcs_dec (fun h => ?_) (fun h => ?_) | refine bcs_ndec (fun h => ?_) (fun h => ?_) | refine bcs_not ?_ | refine bcs_intro (fun h => ?_) (fun h => ?_) | refine And.intro ?_ ?_ | refine reg_tail (by kernel_rfl) ?_)
            all_goals first
              | omega
              | skip
            refine ⟨(i + 1, cl + (if (l.getD (0 + (i : Int).toNat) Chk.d).k = 5 ∧ fmt < 3 then 1 else 0), none), [.at 6 0, .at 7 0, .at 8 0], ?_, ?_, ?_⟩
            · exact ⟨hi, True.intro, h4, by rw [← h3]; simp only [clF]; omega, by split <;> omega, by split <;> omega⟩
            · show l.length - (i + 1) < l.length - i
              omega
            · (refine ⟨rfl, rfl, ?_, ?_⟩ <;> repeat' (first | refine And.intro ?_ ?_ | exact trivial | exact rfl | refine lt0 | refine lt1 ?_ | refine lt2 ?_ ?_ | refine lt3 ?_ ?_ ?_ | refine lt4 ?_ ?_ ?_ ?_ | exact veq_refl _ | decide | (intro i hi; repeat' (first | refine And.intro ?_ ?_ | exact trivial | exact rfl))))
              all_goals first | exact Nat.le_refl _ | omega | exact veq_refl _ | (refine veq_of_eq (congrArg (Value.int .i64) ?_); first | rfl | (rw [if_pos (by omega)]) | (rw [if_neg (by omega)]; omega)) | skip
        | some w1 =>
          obtain ⟨f1, q1⟩ := w1
          have n1 := puts_none_ne (tell_ok hb1 hm1 hy1 hlab (l.getD (0 + (i : Int).toNat) Chk.d) false) e1
          have l1 := puts_none_len (tell_ok hb1 hm1 hy1 hlab (l.getD (0 + (i : Int).toNat) Chk.d) false) e1
          have cT := tellF_con b m y lab fmt (l.getD (0 + (i : Int).toNat) Chk.d) false hok f1 q1 e1
          rw [puts_app, e1] at h4
          repeat' (first | refine And.intro (by first | (show (_ : Bool) = true; kernel_rfl) | omega | (dsimp only; omega) | decide | (repeat' (first | refine And.intro ?_ ?_ | exact trivial | exact rfl))) ?_ | refine bcs_dec (fun h => ?_) (fun h => False.elim (by first | omega | exact h rfl)) | refine bcs_dec (fun h => False.elim (by omega)) (fun h => ?_) | refine bcs_dec (fun h => ?_) (fun h => ?_) | refine bcs_ndec (fun h => ?_) (fun h => ?_) | refine bcs_not ?_ | refine bcs_intro (fun h => ?_) (fun h => ?_) | refine And.intro ?_ ?_ | refine reg_tail (by kernel_rfl) ?_)
          all_goals first
            | omega
            | skip
          all_goals
            skip
            refine call_rule [.at 8 0, .at 2 0, .at 3 0, .at 4 0, .at 5 0] (cT) hG ?_ ?_
            · (refine ⟨?_, ?_, rfl, rfl, rfl⟩ <;> repeat' (first | refine And.intro ?_ ?_ | exact trivial | exact rfl | refine lt0 | refine lt1 ?_ | refine lt2 ?_ ?_ | refine lt3 ?_ ?_ ?_ | refine lt4 ?_ ?_ ?_ ?_ | exact veq_refl _ | decide | (intro i hi; repeat' (first | refine And.intro ?_ ?_ | exact trivial | exact rfl))))
              all_goals first | exact Nat.le_refl _ | omega | exact veq_refl _ | exact veq_of_eq (congrArg Value.bool (by symm; rw [beq_iff_eq]; omega)) | exact veq_of_eq (congrArg Value.bool (by symm; rw [beq_eq_false_iff_ne]; omega))
            rintro _ _ _ ⟨rfl, rfl, rfl⟩
            repeat' (first | refine And.intro (by first | (show (_ : Bool) = true; kernel_rfl) | omega | (dsimp only; omega) | decide | (repeat' (first | refine And.intro ?_ ?_ | exact trivial | exact rfl))) ?_ | refine bcs_dec (fun h => ?_) (fun h => False.elim (by first | omega | exact h rfl)) | refine bcs_dec (fun h => False.elim (by omega)) (fun h => ?_) | refine bcs_dec (fun h => ?_) (fun h => ?_) | refine bcs_ndec (fun h => ?_) (fun h => ?_) | refine bcs_not ?_ | refine bcs_intro (fun h => ?_) (fun h => ?_) | refine And.intro ?_ ?_ | refine reg_tail (by kernel_rfl) ?_)
            all_goals first
              | omega
              | skip
            refine ⟨(i + 1, cl + (if (l.getD (0 + (i : Int).toNat) Chk.d).k = 5 ∧ fmt < 3 then 1 else 0), some (f1, q1)), [.at 6 0, .at 7 0, .at 8 0, .at 10 0], ?_, ?_, ?_⟩
            · exact ⟨hi, ⟨l1, n1⟩, h4, by rw [← h3]; simp only [clF]; omega, by split <;> omega, by split <;> omega⟩
            · show l.length - (i + 1) < l.length - i
              omega
            · (refine ⟨rfl, rfl, ?_, ?_⟩ <;> repeat' (first | refine And.intro ?_ ?_ | exact trivial | exact rfl | refine lt0 | refine lt1 ?_ | refine lt2 ?_ ?_ | refine lt3 ?_ ?_ ?_ | refine lt4 ?_ ?_ ?_ ?_ | exact veq_refl _ | decide | (intro i hi; repeat' (first | refine And.intro ?_ ?_ | exact trivial | exact rfl))))
              all_goals first | exact Nat.le_refl _ | omega | exact veq_refl _ | (refine veq_of_eq (congrArg (Value.int .i64) ?_); first | rfl | (rw [if_pos (by omega)]) | (rw [if_neg (by omega)]; omega)) | skip
    · obtain ⟨j3, j5⟩ := j2
      by_cases hlast : i + 1 = l.length
      · rw [show (l.drop (i + 1)).isEmpty = true by rw [List.drop_of_length_le (by omega)]; rfl] at h4
        obtain ⟨f1, q1, e1, l1⟩ := puts_some_ex (tellP b m y lab fmt (l.getD (0 + (i : Int).toNat) Chk.d) true) f q j3
        have n1 := puts_ne _ _ _ j5 f1 q1 e1
        have cT := tellU_con b m y lab fmt (l.getD (0 + (i : Int).toNat) Chk.d) true hok f q j3 f1 q1 e1
        rw [puts_app, e1] at h4
        repeat' (first | refine And.intro (by first | (show (_ : Bool) = true; kernel_rfl) | omega | (dsimp only; omega) | decide | (repeat' (first | refine And.intro ?_ ?_ | exact trivial | exact rfl))) ?_ | refine bcs_dec (fun h => ?_) (fun h => False.elim (by first | omega | exact h rfl)) | refine bcs_dec (fun h => False.elim (by omega)) (fun h => ?_) | refine bcs_dec (fun h => ?_) (fun h => ?_) | refine bcs_ndec (fun h => ?_) (fun h => ?_) | refine bcs_not ?_ | refine bcs_intro (fun h => ?_) (fun h => ?_) | refine And.intro ?_ ?_ | refine reg_tail (by kernel_rfl) ?_)
        all_goals first
          | omega
          | skip
        all_goals
          skip
          refine call_rule [.at 8 0, .at 9 0, .at 2 0, .at 3 0, .at 4 0, .at 5 0] (cT) hG ?_ ?_
          · (refine ⟨?_, ?_, rfl, rfl, rfl⟩ <;> repeat' (first | refine And.intro ?_ ?_ | exact trivial | exact rfl | refine lt0 | refine lt1 ?_ | refine lt2 ?_ ?_ | refine lt3 ?_ ?_ ?_ | refine lt4 ?_ ?_ ?_ ?_ | exact veq_refl _ | decide | (intro i hi; repeat' (first | refine And.intro ?_ ?_ | exact trivial | exact rfl))))
            all_goals first | exact Nat.le_refl _ | omega | exact veq_refl _ | exact veq_of_eq (congrArg Value.bool (by symm; rw [beq_iff_eq]; omega)) | exact veq_of_eq (congrArg Value.bool (by symm; rw [beq_eq_false_iff_ne]; omega))
          rintro _ _ _ ⟨rfl, rfl, rfl⟩
          repeat' (first | refine And.intro (by first | (show (_ : Bool) = true; kernel_rfl) | omega | (dsimp only; omega) | decide | (repeat' (first | refine And.intro ?_ ?_ | exact trivial | exact rfl))) ?_ | refine bcs_dec (fun h => ?_) (fun h => False.elim (by first | omega | exact h rfl)) | refine bcs_dec (fun h => False.elim (by omega)) (fun h => ?_) | refine bcs_dec (fun h => ?_) (fun h => ?_) | refine bcs_ndec (fun h => ?_) (fun h => ?_) | refine bcs_not ?_ | refine bcs_intro (fun h => ?_) (fun h => ?_) | refine And.intro ?_ ?_ | refine reg_tail (by kernel_rfl) ?_)
          all_goals first
            | omega
            | skip
          refine ⟨(i + 1, cl + (if (l.getD (0 + (i : Int).toNat) Chk.d).k = 5 ∧ fmt < 3 then 1 else 0), some (f1, q1)), [.at 6 0, .at 7 0, .at 8 0, .at 11 0], ?_, ?_, ?_⟩
          · exact ⟨hi, ⟨l1, n1⟩, h4, by rw [← h3]; simp only [clF]; omega, by split <;> omega, by split <;> omega⟩
          · show l.length - (i + 1) < l.length - i
            omega
          · (refine ⟨rfl, rfl, ?_, ?_⟩ <;> repeat' (first | refine And.intro ?_ ?_ | exact trivial | exact rfl | refine lt0 | refine lt1 ?_ | refine lt2 ?_ ?_ | refine lt3 ?_ ?_ ?_ | refine lt4 ?_ ?_ ?_ ?_ | exact veq_refl _ | decide | (intro i hi; repeat' (first | refine And.intro ?_ ?_ | exact trivial | exact rfl))))
            all_goals first | exact Nat.le_refl _ | omega | exact veq_refl _ | (refine veq_of_eq (congrArg (Value.int .i64) ?_); first | rfl | (rw [if_pos (by omega)]) | (rw [if_neg (by omega)]; omega)) | skip
      · rw [show (l.drop (i + 1)).isEmpty = false by rw [List.isEmpty_eq_false_iff]; intro k; have := congrArg List.length k; rw [List.length_drop] at this; simp at this; omega] at h4
        obtain ⟨f1, q1, e1, l1⟩ := puts_some_ex (tellP b m y lab fmt (l.getD (0 + (i : Int).toNat) Chk.d) false) f q j3
        have n1 := puts_ne _ _ _ j5 f1 q1 e1
        have cT := tellU_con b m y lab fmt (l.getD (0 + (i : Int).toNat) Chk.d) false hok f q j3 f1 q1 e1
        rw [puts_app, e1] at h4
        repeat' (first | refine And.intro (by first | (show (_ : Bool) = true; kernel_rfl) | omega | (dsimp only; omega) | decide | (repeat' (first | refine And.intro ?_ ?_ | exact trivial | exact rfl))) ?_ | refine bcs_dec (fun h => ?_) (fun h => False.elim (by first | omega | exact h rfl)) | refine bcs_dec (fun h => False.elim (by omega)) (fun h => ?_) | refine bcs_dec (fun h => ?_) (fun h => ?_) | refine bcs_ndec (fun h => ?_) (fun h => ?_) | refine bcs_not ?_ | refine bcs_intro (fun h => ?_) (fun h => ?_) | refine And.intro ?_ ?_ | refine reg_tail (by kernel_rfl) ?_)
        all_goals first
          | omega
          | skip
        all_goals
          skip
          refine call_rule [.at 8 0, .at 9 0, .at 2 0, .at 3 0, .at 4 0, .at 5 0] (cT) hG ?_ ?_
          · (refine ⟨?_, ?_, rfl, rfl, rfl⟩ <;> repeat' (first | refine And.intro ?_ ?_ | exact trivial | exact rfl | refine lt0 | refine lt1 ?_ | refine lt2 ?_ ?_ | refine lt3 ?_ ?_ ?_ | refine lt4 ?_ ?_ ?_ ?_ | exact veq_refl _ | decide | (intro i hi; repeat' (first | refine And.intro ?_ ?_ | exact trivial | exact rfl))))
            all_goals first | exact Nat.le_refl _ | omega | exact veq_refl _ | exact veq_of_eq (congrArg Value.bool (by symm; rw [beq_iff_eq]; omega)) | exact veq_of_eq (congrArg Value.bool (by symm; rw [beq_eq_false_iff_ne]; omega))
          rintro _ _ _ ⟨rfl, rfl, rfl⟩
          repeat' (first | refine And.intro (by first | (show (_ : Bool) = true; kernel_rfl) | omega | (dsimp only; omega) | decide | (repeat' (first | refine And.intro ?_ ?_ | exact trivial | exact rfl))) ?_ | refine bcs_dec (fun h => ?_) (fun h => False.elim (by first | omega | exact h rfl)) | refine bcs_dec (fun h => False.elim (by omega)) (fun h => ?_) | refine bcs_dec (fun h => ?_) (fun h => ?_) | refine bcs_ndec (fun h => ?_) (fun h => ?_) | refine bcs_not ?_ | refine bcs_intro (fun h => ?_) (fun h => ?_) | refine And.intro ?_ ?_ | refine reg_tail (by kernel_rfl) ?_)
          all_goals first
            | omega
            | skip
          refine ⟨(i + 1, cl + (if (l.getD (0 + (i : Int).toNat) Chk.d).k = 5 ∧ fmt < 3 then 1 else 0), some (f1, q1)), [.at 6 0, .at 7 0, .at 8 0, .at 11 0], ?_, ?_, ?_⟩
          · exact ⟨hi, ⟨l1, n1⟩, h4, by rw [← h3]; simp only [clF]; omega, by split <;> omega, by split <;> omega⟩
          · show l.length - (i + 1) < l.length - i
            omega
          · (refine ⟨rfl, rfl, ?_, ?_⟩ <;> repeat' (first | refine And.intro ?_ ?_ | exact trivial | exact rfl | refine lt0 | refine lt1 ?_ | refine lt2 ?_ ?_ | refine lt3 ?_ ?_ ?_ | refine lt4 ?_ ?_ ?_ ?_ | exact veq_refl _ | decide | (intro i hi; repeat' (first | refine And.intro ?_ ?_ | exact trivial | exact rfl))))
            all_goals first | exact Nat.le_refl _ | omega | exact veq_refl _ | (refine veq_of_eq (congrArg (Value.int .i64) ?_); first | rfl | (rw [if_pos (by omega)]) | (rw [if_neg (by omega)]; omega)) | skip
  · obtain rfl : i = l.length := by omega
    rw [List.drop_of_length_le (by omega)] at h3 h4
    have e1 : cl = CL := by rw [← h3]; simp [clF]
    have e2 : u = W := h4
    subst e1 e2
    rcases u with _ | ⟨f, q⟩
    · repeat' (first | refine And.intro (by first | (show (_ : Bool) = true; kernel_rfl) | omega | (dsimp only; omega) | decide | (repeat' (first | refine And.intro ?_ ?_ | exact trivial | exact rfl))) ?_ | refine bcs_dec (fun h => ?_) (fun h => False.elim (by first | omega | exact h rfl)) | refine bcs_dec (fun h => False.elim (by omega)) (fun h => ?_) | refine bcs_dec (fun h => ?_) (fun h => ?_) | refine bcs_ndec (fun h => ?_) (fun h => ?_) | refine bcs_not ?_ | refine bcs_intro (fun h => ?_) (fun h => ?_) | refine And.intro ?_ ?_ | refine reg_tail (by kernel_rfl) ?_)
      exact hK j2
    · repeat' (first | refine And.intro (by first | (show (_ : Bool) = true; kernel_rfl) | omega | (dsimp only; omega) | decide | (repeat' (first | refine And.intro ?_ ?_ | exact trivial | exact rfl))) ?_ | refine bcs_dec (fun h => ?_) (fun h => False.elim (by first | omega | exact h rfl)) | refine bcs_dec (fun h => False.elim (by omega)) (fun h => ?_) | refine bcs_dec (fun h => ?_) (fun h => ?_) | refine bcs_ndec (fun h => ?_) (fun h => ?_) | refine bcs_not ?_ | refine bcs_intro (fun h => ?_) (fun h => ?_) | refine And.intro ?_ ?_ | refine reg_tail (by kernel_rfl) ?_)
      exact hK j2
end Go.Proofs.YtlmjkphiicmclaaDoor
