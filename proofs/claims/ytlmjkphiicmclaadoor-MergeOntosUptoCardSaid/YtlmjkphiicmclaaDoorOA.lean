/- Chapter 18: folded together: parts O1, O2, O3. -/
import Derived.Test.YtlmjkphiicmclaaDoorW8
import Derived.Test.YtlmjkphiicmclaaDoorTB
import Derived.Test.YtlmjkphiicmclaaDoorW10
import Derived.Test.YtlmjkphiicmclaaDoorW9
import Derived.Test.YtlmjkphiicmclaaDoorMD
namespace Go.Proofs.YtlmjkphiicmclaaDoor
open Go Go.RowKit Vc

/-- A call whose arguments' proofs are found by the usual steps. -/
theorem call_rA {Γ : Cx} {g : Nat} {args svs : List SV} {mem : Mem} {nx : Nat} {Q : SV → Mem → Nat → Prop} {s : St} {K : SV → St → Prop} (k : List Kp) {G : List (Nat × Value)} (hs : Con Γ.P G g args mem nx Q) (hG : Γ.B.glob = G)
    (hK : ∀ x m' n, Q x m' n → fnat s.nx fun b => fmem (newM k nx b m' nx b (n - nx) (wrM k nx b m' mem s.mem)) fun M => fnat (b + (n - nx)) fun b1 => K (ren3 k nx b x) ⟨s.fr, M, b1⟩)
    (hc : CallOk k svs s args mem nx := by (refine ⟨?_, ?_, rfl, rfl, rfl⟩ <;> repeat' (first | refine And.intro ?_ ?_ | exact trivial | exact rfl | refine lt0 | refine lt1 ?_ | refine lt2 ?_ ?_ | refine lt3 ?_ ?_ ?_ | refine lt4 ?_ ?_ ?_ ?_ | exact veq_refl _ | decide | (intro i hi; repeat' (first | refine And.intro ?_ ?_ | exact trivial | exact rfl)))); all_goals first | exact Nat.le_refl _ | omega) : CallP Γ g svs s K := call_rule k hs hG hc hK
/-- Where Onto stands ahead of each chunk. -/
def onSt (b m y lab : List Byt) (fmt : Int) (TX : Byt) (l : List Chk) (i : Nat) (w : Int) (out : List Chg) : St := ⟨[(3, .s 3 0 m.length), (17, str TX), (20, .s 6 0 l.length), (21, .p 7 0 0), (22, .o 8), (23, .v (.int .i64 w)), (62, .s 6 0 l.length), (63, .v (.int .i64 l.length)), (64, .v (.int .i64 i))], [(2, stRo b), (3, stRo m), (4, stRo y), (5, stRo lab), (6, ckRo l), (7, .box 108 [.s 2 0 b.length, .s 3 0 m.length, .s 4 0 y.length, .s 5 0 lab.length, .v (.int .i64 fmt)]), (8, chOwn out)], 9⟩
set_option maxRecDepth 100000 in
set_option maxHeartbeats 64000000 in
theorem onto_loop (b m y lab : List Byt) (fmt : Int) (TX : Byt) (l : List Chk) (B : Bs) (hG : B.glob = glob) (hb1 : ∀ x ∈ b, okP x) (hm1 : ∀ x ∈ m, okP x) (hy1 : ∀ x ∈ y, okP x) (hlab : ∀ i, (lab.getD i []).length ≤ 4096) (hl : l.length ≤ 100000000) (hml : m.length ≤ 4194304)
    (hok : ∀ c ∈ l, TellOk b m y lab fmt c) (htl : (toldsF b m y lab fmt l).length ≤ 4194304)
    (K : St → Prop) (E : Nat → St → Prop) (R : St → Prop) (s0 : St) (new0 : List Kp)
    (hs : Sub 6 new0 s0 (onSt b m y lab fmt TX l 0 0 []))
    (hK : ∀ w out, out = onF b m y lab fmt l 0 → out.length ≤ l.length → K ⟨(65, .v (.bool false)) :: (65, .v (.bool (decide ((l.length : Int) < (l.length : Int))))) :: (onSt b m y lab fmt TX l l.length w out).fr, (onSt b m y lab fmt TX l l.length w out).mem, (onSt b m y lab fmt TX l l.length w out).nx⟩) :
    LoopP ⟨Tryd.prog, tab, B, 129, 6⟩ (loopOf 0 Tryd.f38) s0 (fun i s => bif Nat.beq i 0 then K s else E i s) R := by
  have hbn : NE b := fun x hx => (hb1 x hx).1
  have hmn : NE m := fun x hx => (hm1 x hx).1
  have hyn : NE y := fun x hx => (hy1 x hx).1
  refine loop_rule (α := Nat × Int × List Chg) (fun (i, w, out) => onSt b m y lab fmt TX l i w out)
    (fun (i, w, out) => i ≤ l.length ∧ 0 ≤ w ∧ out ++ onF b m y lab fmt (l.drop i) w = onF b m y lab fmt l 0 ∧ w + (toldsF b m y lab fmt (l.drop i)).length ≤ 4194304 ∧ out.length ≤ i ∧ w ≤ 4194304) (fun (i, _) => l.length - i) (0, 0, []) new0 ?_ hs ?_
  · exact ⟨Nat.zero_le _, Int.le_refl _, rfl, by rw [List.drop_zero]; omega, Nat.le_refl _, by omega⟩
  rintro ⟨i, w, out⟩ ⟨j1, j2, j3, j4, j5, j6⟩
  by_cases hi : i < l.length
  · have e0 : l.getD i Chk.d = (l.getD (0 + (i : Int).toNat) Chk.d) := by rw [Nat.zero_add]; rfl
    have hm : l.getD i Chk.d ∈ l := by
      rw [List.getD_eq_getElem?_getD, List.getElem?_eq_getElem hi]
      exact List.getElem_mem hi
    have hok := hok _ hm
    rw [e0] at hok
    rw [drop_get Chk.d l i hi, e0] at j3 j4
    clear hm e0
    have j3 : out ++ (onC b m y lab fmt (l.getD (0 + (i : Int).toNat) Chk.d) (l.drop (i + 1)).isEmpty w ++ onF b m y lab fmt (l.drop (i + 1)) (w + (tlF b m y lab fmt (l.getD (0 + (i : Int).toNat) Chk.d) (l.drop (i + 1)).isEmpty).length)) = onF b m y lab fmt l 0 := j3
    have j4 : w + ((toldF b m y lab fmt (l.getD (0 + (i : Int).toNat) Chk.d) (l.drop (i + 1)).isEmpty ++ toldsF b m y lab fmt (l.drop (i + 1))).length : Int) ≤ 4194304 := j4
    have hm1' := hok.hm1
    have hm2' := hok.hm2
    have hm3' := hok.hm3
    have s1 := seg_len m (show 0 ≤ ((l.getD (0 + (i : Int).toNat) Chk.d)).m by omega) (show ((l.getD (0 + (i : Int).toNat) Chk.d)).m ≤ ((l.getD (0 + (i : Int).toNat) Chk.d)).m + ((l.getD (0 + (i : Int).toNat) Chk.d)).mn by omega) hm3'
    obtain ⟨v, hv, hve⟩ : ∃ v : Bool, v = decide ((i : Int) + 1 = l.length) ∧ (l.drop (i + 1)).isEmpty = v := by
      refine ⟨_, rfl, ?_⟩
      by_cases hlast : i + 1 = l.length
      · rw [List.drop_of_length_le (by omega), decide_eq_true (by omega)]; rfl
      · rw [decide_eq_false (by omega), List.isEmpty_eq_false_iff]
        intro k
        have := congrArg List.length k
        rw [List.length_drop] at this
        simp at this
        omega
    rw [hve] at j3 j4
    rw [List.length_append] at j4
    have j7 : (toldF b m y lab fmt (l.getD (0 + (i : Int).toNat) Chk.d) v).length ≤ 4194304 := by omega
    have j8 : (tlF b m y lab fmt (l.getD (0 + (i : Int).toNat) Chk.d) v).length ≤ (toldF b m y lab fmt (l.getD (0 + (i : Int).toNat) Chk.d) v).length := splitF_len _
    have hT := (puts_none (ps := tellP b m y lab fmt (l.getD (0 + (i : Int).toNat) Chk.d) v) (fun x hx => (tell_ok hb1 hm1 hy1 hlab (l.getD (0 + (i : Int).toNat) Chk.d) v x hx).2)).1
    rw [tell_flat hbn hmn hyn] at hT
    obtain ⟨hT1, hT2⟩ := hT j7
    have cS := split_con (toldF b m y lab fmt (l.getD (0 + (i : Int).toNat) Chk.d) v) j7
    have cE := equalG_con (tlF b m y lab fmt (l.getD (0 + (i : Int).toNat) Chk.d) v) (segL m ((l.getD (0 + (i : Int).toNat) Chk.d)).m (((l.getD (0 + (i : Int).toNat) Chk.d)).m + ((l.getD (0 + (i : Int).toNat) Chk.d)).mn)) (fun k => (tlF b m y lab fmt (l.getD (0 + (i : Int).toNat) Chk.d) v).getD k []) (fun k => m.getD (k + ((l.getD (0 + (i : Int).toNat) Chk.d)).m.toNat) []) (by omega) (fun _ _ => rfl) (seg_row m (by omega) (by omega) (by omega))
    rw [s1] at cE
    cases e1 : puts none (tellP b m y lab fmt (l.getD (0 + (i : Int).toNat) Chk.d) v) with
    | none =>
      have cT := tellN_con b m y lab fmt (l.getD (0 + (i : Int).toNat) Chk.d) v hok e1
      rw [e1] at hT2
      have hT2 : ([] : Byt) = toldF b m y lab fmt (l.getD (0 + (i : Int).toNat) Chk.d) v := hT2
      repeat' (first | refine And.intro (by first | (show (_ : Bool) = true; kernel_rfl) | omega | (dsimp only; omega) | (repeat' (first | refine And.intro ?_ ?_ | exact trivial | exact rfl))) ?_ | refine bcs_dec (fun h => ?_) (fun h => False.elim (by first | omega | exact h rfl)) | refine bcs_dec (fun h => False.elim (by omega)) (fun h => ?_) | refine bcs_not ?_ | refine And.intro ?_ ?_ | refine reg_tail (by kernel_rfl) ?_)
      all_goals first
        | omega
        | skip
      all_goals
        skip
        simp only [Vc.put, vcOps, vcOp, vcG]
        rw [show Nat.blt 77 129 = true from rfl]
        simp only [cond_true, fsv_eq]
        conv => whnf
        refine call_thin [(3, .s 3 0 m.length), (17, str TX), (20, .s 6 0 l.length), (21, .p 7 0 0), (22, .o 8), (23, .v (.int .i64 w)), (24, .v (.int .i64 i)), (25, .p 9 0 0), (26, .p 10 0 0), (62, .s 6 0 l.length), (63, .v (.int .i64 l.length)), (64, .v (.int .i64 i))] ⟨rfl, rfl, rfl, rfl, rfl, rfl, rfl, rfl, rfl, rfl, rfl, rfl, trivial⟩ ?_
        conv => whnf
        refine call_ruleS [.at 10 0, .at 2 0, .at 3 0, .at 4 0, .at 5 0] (cT) hG ?_ ?_
        · (refine ⟨?_, ?_, rfl, rfl, rfl⟩ <;> repeat' (first | refine And.intro ?_ ?_ | exact trivial | exact rfl | refine lt0 | refine lt1 ?_ | refine lt2 ?_ ?_ | refine lt3 ?_ ?_ ?_ | refine lt4 ?_ ?_ ?_ ?_ | exact veq_refl _ | decide | (intro i hi; repeat' (first | refine And.intro ?_ ?_ | exact trivial | exact rfl))))
          all_goals first | exact Nat.le_refl _ | omega | exact veq_refl _ | (refine veq_of_eq (congrArg Value.bool ?_); rw [hv, Bool.eq_iff_iff]; simp only [decide_eq_true_eq, beq_iff_eq]; omega)
        rintro _ _ _ ⟨rfl, rfl, rfl⟩
        refine And.intro trivial ?_
        dsimp only
        repeat' (first | refine And.intro (by first | (show (_ : Bool) = true; kernel_rfl) | omega | (dsimp only; omega) | (repeat' (first | refine And.intro ?_ ?_ | exact trivial | exact rfl))) ?_ | refine bcs_dec (fun h => ?_) (fun h => False.elim (by first | omega | exact h rfl)) | refine bcs_dec (fun h => False.elim (by omega)) (fun h => ?_) | refine bcs_not ?_ | refine And.intro ?_ ?_ | refine reg_tail (by kernel_rfl) ?_)
        refine call_rA [.at 10 0] (strPF_con false) hG ?_
        rintro _ _ _ ⟨rfl, rfl, rfl⟩
        repeat' (first | refine And.intro (by first | (show (_ : Bool) = true; kernel_rfl) | omega | (dsimp only; omega) | (repeat' (first | refine And.intro ?_ ?_ | exact trivial | exact rfl))) ?_ | refine bcs_dec (fun h => ?_) (fun h => False.elim (by first | omega | exact h rfl)) | refine bcs_dec (fun h => False.elim (by omega)) (fun h => ?_) | refine bcs_not ?_ | refine And.intro ?_ ?_ | refine reg_tail (by kernel_rfl) ?_)
        rw [← hT2] at cS
        have cS : Con Tryd.prog glob 62 [str []] [] 0 (retM (.o 0) [(0, stOwn (tlF b m y lab fmt (l.getD (0 + (i : Int).toNat) Chk.d) v))] 1) := by unfold tlF; rw [← hT2]; exact cS
        refine call_rA [] (cS) hG ?_
        rintro _ _ _ ⟨rfl, rfl, rfl⟩
        repeat' (first | refine And.intro (by first | (show (_ : Bool) = true; kernel_rfl) | omega | (dsimp only; omega) | (repeat' (first | refine And.intro ?_ ?_ | exact trivial | exact rfl))) ?_ | refine bcs_dec (fun h => ?_) (fun h => False.elim (by first | omega | exact h rfl)) | refine bcs_dec (fun h => False.elim (by omega)) (fun h => ?_) | refine bcs_not ?_ | refine And.intro ?_ ?_ | refine reg_tail (by kernel_rfl) ?_)
        by_cases hE : tlF b m y lab fmt (l.getD (0 + (i : Int).toNat) Chk.d) v = segL m ((l.getD (0 + (i : Int).toNat) Chk.d)).m (((l.getD (0 + (i : Int).toNat) Chk.d)).m + ((l.getD (0 + (i : Int).toNat) Chk.d)).mn)
        · rw [decide_eq_true hE] at cE
          refine call_rA [.at 11 0, .at 3 ((l.getD (0 + (i : Int).toNat) Chk.d)).m.toNat] (cE) hG ?_
          rintro _ _ _ ⟨rfl, rfl, rfl⟩
          repeat' (first | refine And.intro (by first | (show (_ : Bool) = true; kernel_rfl) | omega | (dsimp only; omega) | (repeat' (first | refine And.intro ?_ ?_ | exact trivial | exact rfl))) ?_ | refine bcs_dec (fun h => ?_) (fun h => False.elim (by first | omega | exact h rfl)) | refine bcs_dec (fun h => False.elim (by omega)) (fun h => ?_) | refine bcs_not ?_ | refine And.intro ?_ ?_ | refine reg_tail (by kernel_rfl) ?_)
          all_goals first
            | omega
            | skip
          refine ⟨(i + 1, w + (tlF b m y lab fmt (l.getD (0 + (i : Int).toNat) Chk.d) v).length, out), [.at 6 0, .at 7 0, .at 8 0], ?_, ?_, ?_⟩
          · dsimp only
            refine ⟨hi, by omega, ?_, by omega, by omega, by omega⟩
            rw [← j3, onC, if_pos hE]
            rfl
          · show l.length - (i + 1) < l.length - i
            omega
          · (refine ⟨rfl, rfl, ?_, ?_⟩ <;> repeat' (first | refine And.intro ?_ ?_ | exact trivial | exact rfl | refine lt0 | refine lt1 ?_ | refine lt2 ?_ ?_ | refine lt3 ?_ ?_ ?_ | refine lt4 ?_ ?_ ?_ ?_ | exact veq_refl _ | decide | (intro i hi; repeat' (first | refine And.intro ?_ ?_ | exact trivial | exact rfl))))
            all_goals first | exact Nat.le_refl _ | omega | exact veq_refl _ | (rw [List.length_append, List.length_singleton]; done) | skip
        · rw [decide_eq_false hE] at cE
          refine call_rA [.at 11 0, .at 3 ((l.getD (0 + (i : Int).toNat) Chk.d)).m.toNat] (cE) hG ?_
          rintro _ _ _ ⟨rfl, rfl, rfl⟩
          repeat' (first | refine And.intro (by first | (show (_ : Bool) = true; kernel_rfl) | omega | (dsimp only; omega) | (repeat' (first | refine And.intro ?_ ?_ | exact trivial | exact rfl))) ?_ | refine bcs_dec (fun h => ?_) (fun h => False.elim (by first | omega | exact h rfl)) | refine bcs_dec (fun h => False.elim (by omega)) (fun h => ?_) | refine bcs_not ?_ | refine And.intro ?_ ?_ | refine reg_tail (by kernel_rfl) ?_)
          all_goals first
            | omega
            | skip
          refine app1 Chg.enc Chg.d out ⟨((l.getD (0 + (i : Int).toNat) Chk.d)).m, ((l.getD (0 + (i : Int).toNat) Chk.d)).mn, w, (tlF b m y lab fmt (l.getD (0 + (i : Int).toNat) Chk.d) v).length⟩ rfl rfl ?_
          repeat' (first | refine And.intro (by first | (show (_ : Bool) = true; kernel_rfl) | omega | (dsimp only; omega) | (repeat' (first | refine And.intro ?_ ?_ | exact trivial | exact rfl))) ?_ | refine bcs_dec (fun h => ?_) (fun h => False.elim (by first | omega | exact h rfl)) | refine bcs_dec (fun h => False.elim (by omega)) (fun h => ?_) | refine bcs_not ?_ | refine And.intro ?_ ?_ | refine reg_tail (by kernel_rfl) ?_)
          all_goals first
            | omega
            | skip
          refine ⟨(i + 1, w + (tlF b m y lab fmt (l.getD (0 + (i : Int).toNat) Chk.d) v).length, out ++ [⟨((l.getD (0 + (i : Int).toNat) Chk.d)).m, ((l.getD (0 + (i : Int).toNat) Chk.d)).mn, w, (tlF b m y lab fmt (l.getD (0 + (i : Int).toNat) Chk.d) v).length⟩]), [.at 6 0, .at 7 0, .at 13 0], ?_, ?_, ?_⟩
          · dsimp only
            refine ⟨hi, by omega, ?_, by omega, by rw [List.length_append, List.length_singleton]; omega, by omega⟩
            rw [← j3, onC, if_neg hE]
            rw [List.append_assoc]
          · show l.length - (i + 1) < l.length - i
            omega
          · (refine ⟨rfl, rfl, ?_, ?_⟩ <;> repeat' (first | refine And.intro ?_ ?_ | exact trivial | exact rfl | refine lt0 | refine lt1 ?_ | refine lt2 ?_ ?_ | refine lt3 ?_ ?_ ?_ | refine lt4 ?_ ?_ ?_ ?_ | exact veq_refl _ | decide | (intro i hi; repeat' (first | refine And.intro ?_ ?_ | exact trivial | exact rfl))))
            all_goals first | exact Nat.le_refl _ | omega | exact veq_refl _ | (rw [List.length_append, List.length_singleton]; done) | skip
    | some w1 =>
      obtain ⟨f1, q1⟩ := w1
      have n1 := puts_none_ne (tell_ok hb1 hm1 hy1 hlab (l.getD (0 + (i : Int).toNat) Chk.d) v) e1
      have cT := tellF_con b m y lab fmt (l.getD (0 + (i : Int).toNat) Chk.d) v hok f1 q1 e1
      rw [e1] at hT2
      have hT2 : q1 = toldF b m y lab fmt (l.getD (0 + (i : Int).toNat) Chk.d) v := hT2
      repeat' (first | refine And.intro (by first | (show (_ : Bool) = true; kernel_rfl) | omega | (dsimp only; omega) | (repeat' (first | refine And.intro ?_ ?_ | exact trivial | exact rfl))) ?_ | refine bcs_dec (fun h => ?_) (fun h => False.elim (by first | omega | exact h rfl)) | refine bcs_dec (fun h => False.elim (by omega)) (fun h => ?_) | refine bcs_not ?_ | refine And.intro ?_ ?_ | refine reg_tail (by kernel_rfl) ?_)
      all_goals first
        | omega
        | skip
      all_goals
        skip
        simp only [Vc.put, vcOps, vcOp, vcG]
        rw [show Nat.blt 77 129 = true from rfl]
        simp only [cond_true, fsv_eq]
        conv => whnf
        refine call_thin [(3, .s 3 0 m.length), (17, str TX), (20, .s 6 0 l.length), (21, .p 7 0 0), (22, .o 8), (23, .v (.int .i64 w)), (24, .v (.int .i64 i)), (25, .p 9 0 0), (26, .p 10 0 0), (62, .s 6 0 l.length), (63, .v (.int .i64 l.length)), (64, .v (.int .i64 i))] ⟨rfl, rfl, rfl, rfl, rfl, rfl, rfl, rfl, rfl, rfl, rfl, rfl, trivial⟩ ?_
        conv => whnf
        refine call_ruleS [.at 10 0, .at 2 0, .at 3 0, .at 4 0, .at 5 0] (cT) hG ?_ ?_
        · (refine ⟨?_, ?_, rfl, rfl, rfl⟩ <;> repeat' (first | refine And.intro ?_ ?_ | exact trivial | exact rfl | refine lt0 | refine lt1 ?_ | refine lt2 ?_ ?_ | refine lt3 ?_ ?_ ?_ | refine lt4 ?_ ?_ ?_ ?_ | exact veq_refl _ | decide | (intro i hi; repeat' (first | refine And.intro ?_ ?_ | exact trivial | exact rfl))))
          all_goals first | exact Nat.le_refl _ | omega | exact veq_refl _ | (refine veq_of_eq (congrArg Value.bool ?_); rw [hv, Bool.eq_iff_iff]; simp only [decide_eq_true_eq, beq_iff_eq]; omega)
        rintro _ _ _ ⟨rfl, rfl, rfl⟩
        refine And.intro trivial ?_
        dsimp only
        repeat' (first | refine And.intro (by first | (show (_ : Bool) = true; kernel_rfl) | omega | (dsimp only; omega) | (repeat' (first | refine And.intro ?_ ?_ | exact trivial | exact rfl))) ?_ | refine bcs_dec (fun h => ?_) (fun h => False.elim (by first | omega | exact h rfl)) | refine bcs_dec (fun h => False.elim (by omega)) (fun h => ?_) | refine bcs_not ?_ | refine And.intro ?_ ?_ | refine reg_tail (by kernel_rfl) ?_)
        refine call_rA [.at 10 0, .at 11 0] (strPU_con f1 q1 n1) hG ?_
        rintro _ _ _ ⟨rfl, rfl, rfl⟩
        repeat' (first | refine And.intro (by first | (show (_ : Bool) = true; kernel_rfl) | omega | (dsimp only; omega) | (repeat' (first | refine And.intro ?_ ?_ | exact trivial | exact rfl))) ?_ | refine bcs_dec (fun h => ?_) (fun h => False.elim (by first | omega | exact h rfl)) | refine bcs_dec (fun h => False.elim (by omega)) (fun h => ?_) | refine bcs_not ?_ | refine And.intro ?_ ?_ | refine reg_tail (by kernel_rfl) ?_)
        have cS : Con Tryd.prog glob 62 [str q1] [] 0 (retM (.o 0) [(0, stOwn (tlF b m y lab fmt (l.getD (0 + (i : Int).toNat) Chk.d) v))] 1) := by unfold tlF; rw [← hT2] at cS ⊢; exact cS
        refine call_rA [] (cS) hG ?_
        rintro _ _ _ ⟨rfl, rfl, rfl⟩
        repeat' (first | refine And.intro (by first | (show (_ : Bool) = true; kernel_rfl) | omega | (dsimp only; omega) | (repeat' (first | refine And.intro ?_ ?_ | exact trivial | exact rfl))) ?_ | refine bcs_dec (fun h => ?_) (fun h => False.elim (by first | omega | exact h rfl)) | refine bcs_dec (fun h => False.elim (by omega)) (fun h => ?_) | refine bcs_not ?_ | refine And.intro ?_ ?_ | refine reg_tail (by kernel_rfl) ?_)
        by_cases hE : tlF b m y lab fmt (l.getD (0 + (i : Int).toNat) Chk.d) v = segL m ((l.getD (0 + (i : Int).toNat) Chk.d)).m (((l.getD (0 + (i : Int).toNat) Chk.d)).m + ((l.getD (0 + (i : Int).toNat) Chk.d)).mn)
        · rw [decide_eq_true hE] at cE
          refine call_rA [.at 12 0, .at 3 ((l.getD (0 + (i : Int).toNat) Chk.d)).m.toNat] (cE) hG ?_
          rintro _ _ _ ⟨rfl, rfl, rfl⟩
          repeat' (first | refine And.intro (by first | (show (_ : Bool) = true; kernel_rfl) | omega | (dsimp only; omega) | (repeat' (first | refine And.intro ?_ ?_ | exact trivial | exact rfl))) ?_ | refine bcs_dec (fun h => ?_) (fun h => False.elim (by first | omega | exact h rfl)) | refine bcs_dec (fun h => False.elim (by omega)) (fun h => ?_) | refine bcs_not ?_ | refine And.intro ?_ ?_ | refine reg_tail (by kernel_rfl) ?_)
          all_goals first
            | omega
            | skip
          refine ⟨(i + 1, w + (tlF b m y lab fmt (l.getD (0 + (i : Int).toNat) Chk.d) v).length, out), [.at 6 0, .at 7 0, .at 8 0], ?_, ?_, ?_⟩
          · dsimp only
            refine ⟨hi, by omega, ?_, by omega, by omega, by omega⟩
            rw [← j3, onC, if_pos hE]
            rfl
          · show l.length - (i + 1) < l.length - i
            omega
          · (refine ⟨rfl, rfl, ?_, ?_⟩ <;> repeat' (first | refine And.intro ?_ ?_ | exact trivial | exact rfl | refine lt0 | refine lt1 ?_ | refine lt2 ?_ ?_ | refine lt3 ?_ ?_ ?_ | refine lt4 ?_ ?_ ?_ ?_ | exact veq_refl _ | decide | (intro i hi; repeat' (first | refine And.intro ?_ ?_ | exact trivial | exact rfl))))
            all_goals first | exact Nat.le_refl _ | omega | exact veq_refl _ | (rw [List.length_append, List.length_singleton]; done) | skip
        · rw [decide_eq_false hE] at cE
          refine call_rA [.at 12 0, .at 3 ((l.getD (0 + (i : Int).toNat) Chk.d)).m.toNat] (cE) hG ?_
          rintro _ _ _ ⟨rfl, rfl, rfl⟩
          repeat' (first | refine And.intro (by first | (show (_ : Bool) = true; kernel_rfl) | omega | (dsimp only; omega) | (repeat' (first | refine And.intro ?_ ?_ | exact trivial | exact rfl))) ?_ | refine bcs_dec (fun h => ?_) (fun h => False.elim (by first | omega | exact h rfl)) | refine bcs_dec (fun h => False.elim (by omega)) (fun h => ?_) | refine bcs_not ?_ | refine And.intro ?_ ?_ | refine reg_tail (by kernel_rfl) ?_)
          all_goals first
            | omega
            | skip
          refine app1 Chg.enc Chg.d out ⟨((l.getD (0 + (i : Int).toNat) Chk.d)).m, ((l.getD (0 + (i : Int).toNat) Chk.d)).mn, w, (tlF b m y lab fmt (l.getD (0 + (i : Int).toNat) Chk.d) v).length⟩ rfl rfl ?_
          repeat' (first | refine And.intro (by first | (show (_ : Bool) = true; kernel_rfl) | omega | (dsimp only; omega) | (repeat' (first | refine And.intro ?_ ?_ | exact trivial | exact rfl))) ?_ | refine bcs_dec (fun h => ?_) (fun h => False.elim (by first | omega | exact h rfl)) | refine bcs_dec (fun h => False.elim (by omega)) (fun h => ?_) | refine bcs_not ?_ | refine And.intro ?_ ?_ | refine reg_tail (by kernel_rfl) ?_)
          all_goals first
            | omega
            | skip
          refine ⟨(i + 1, w + (tlF b m y lab fmt (l.getD (0 + (i : Int).toNat) Chk.d) v).length, out ++ [⟨((l.getD (0 + (i : Int).toNat) Chk.d)).m, ((l.getD (0 + (i : Int).toNat) Chk.d)).mn, w, (tlF b m y lab fmt (l.getD (0 + (i : Int).toNat) Chk.d) v).length⟩]), [.at 6 0, .at 7 0, .at 14 0], ?_, ?_, ?_⟩
          · dsimp only
            refine ⟨hi, by omega, ?_, by omega, by rw [List.length_append, List.length_singleton]; omega, by omega⟩
            rw [← j3, onC, if_neg hE]
            rw [List.append_assoc]
          · show l.length - (i + 1) < l.length - i
            omega
          · (refine ⟨rfl, rfl, ?_, ?_⟩ <;> repeat' (first | refine And.intro ?_ ?_ | exact trivial | exact rfl | refine lt0 | refine lt1 ?_ | refine lt2 ?_ ?_ | refine lt3 ?_ ?_ ?_ | refine lt4 ?_ ?_ ?_ ?_ | exact veq_refl _ | decide | (intro i hi; repeat' (first | refine And.intro ?_ ?_ | exact trivial | exact rfl))))
            all_goals first | exact Nat.le_refl _ | omega | exact veq_refl _ | (rw [List.length_append, List.length_singleton]; done) | skip
  · obtain rfl : i = l.length := by omega
    rw [List.drop_length] at j3
    have e1 : out = onF b m y lab fmt l 0 := by rw [← j3]; show out = out ++ []; rw [List.append_nil]
    repeat' (first | refine And.intro (by first | (show (_ : Bool) = true; kernel_rfl) | omega | (dsimp only; omega) | (repeat' (first | refine And.intro ?_ ?_ | exact trivial | exact rfl))) ?_ | refine bcs_dec (fun h => ?_) (fun h => False.elim (by first | omega | exact h rfl)) | refine bcs_dec (fun h => False.elim (by omega)) (fun h => ?_) | refine bcs_not ?_ | refine And.intro ?_ ?_ | refine reg_tail (by kernel_rfl) ?_)
    exact hK w out e1 j5
end Go.Proofs.YtlmjkphiicmclaaDoor

namespace Go.Proofs.YtlmjkphiicmclaaDoor
open Go Go.RowKit Vc

theorem mg_lab {s t : List Chg} {b m y lab : List Byt} {fmt : Int} (h : mgErr s t b m y lab fmt = 0) : labE lab = 0 ∧ 1 ≤ fmt ∧ fmt ≤ 5 ∧ (toldsF b m y lab fmt (chLst s t b m y)).length ≤ 4194304 := by
  rcases mgErr_cases s t b m y lab fmt with ⟨_, e⟩ | ⟨f1, f2, ⟨k, e⟩ | ⟨hl, ⟨k, e⟩ | ⟨_, ⟨_, e⟩ | ⟨hg, _⟩⟩⟩⟩
  · omega
  · rw [h] at e; exact absurd e.symm k
  · rw [h] at e; exact absurd e.symm k
  · omega
  · exact ⟨hl, f1, f2, hg⟩
set_option maxRecDepth 100000 in
set_option maxHeartbeats 64000000 in
theorem onto_con (s t : List Chg) (b m y lab : List Byt) (fmt : Int) (H : JobSm s t b m y lab) :
    Con Tryd.prog glob 38 [.s 0 0 s.length, .s 1 0 t.length, .s 2 0 b.length, .s 3 0 m.length, .s 4 0 y.length, .s 5 0 lab.length, .v (.int .i64 fmt)] [(0, chRo s), (1, chRo t), (2, stRo b), (3, stRo m), (4, stRo y), (5, stRo lab)] 6 (retM (.t [.o 6, .o 7, .v (errV (mgErr s t b m y lab fmt))]) [(6, chOwn (onL s t b m y lab fmt)), (7, stOwn (onT s t b m y lab fmt))] 8) := by
  have cM := merge_con s t b m y lab fmt H
  by_cases he : mgErr s t b m y lab fmt = 0
  · have hch := mg_ch he
    obtain ⟨hl, f1, f2, htl⟩ := mg_lab he
    obtain ⟨hl3, hlab⟩ := lab_len hl
    obtain ⟨vb, vm, vy, _⟩ := chLst_cov hch
    have hok := H.ok
    have cC := chunks_con s t b m y hok
    have hlen := chLst_len hok
    have hat := chLst_at (s := s) (t := t) (b := b) (m := m) (y := y)
    have hv := on_ok (fmt := fmt) hok.hml he
    have htx := mg_len he
    have cS := split_con (mgTxt s t b m y lab fmt) htx
    rw [hch, errV_0 rfl] at cC
    rw [he, errV_0 rfl] at cM ⊢
    unfold onL onT
    rw [if_pos he, if_pos he]
    obtain ⟨hs, ht, hb, hm, hy, hbl, hml, hyl⟩ := hok
    have hb1 := valid_ok1 vb (by omega)
    have hm1 := valid_ok1 vm (by omega)
    have hy1 := valid_ok1 vy (by omega)
    have hok : ∀ c ∈ chLst s t b m y, TellOk b m y lab fmt c := fun c hc => by
      have hat := hat c hc
      exact ⟨fun i => by have := getD_flat b i; omega, fun i => by have := getD_flat m i; omega, fun i => by have := getD_flat y i; omega, hlab, by omega, by omega, by omega, hl3, f1, f2, hat.1, hat.2.1, hat.2.2.1, hat.2.2.2.1, hat.2.2.2.2.1, hat.2.2.2.2.2.1, hat.2.2.2.2.2.2.1, hat.2.2.2.2.2.2.2.1, hat.2.2.2.2.2.2.2.2⟩
    obtain ⟨TX, hTX⟩ : ∃ TX, TX = mgTxt s t b m y lab fmt := ⟨_, rfl⟩
    obtain ⟨CL, hCL⟩ : ∃ CL, CL = mgCl s t b m y lab fmt := ⟨_, rfl⟩
    obtain ⟨l, hll⟩ : ∃ l, l = chLst s t b m y := ⟨_, rfl⟩
    rw [← hTX, ← hCL] at cM
    rw [← hTX] at cS hv ⊢
    rw [← hll] at cC hlen hok hv htl ⊢
    clear hTX hCL hll H hat htx he hch
    refine spec_intro (tab := tab) (N := 129) Tryd.func38 rfl rfl tab_ok mix rfl rfl _ rfl ?_
    intro B hG
    repeat' (first | refine And.intro (by first | (show (_ : Bool) = true; kernel_rfl) | omega | (dsimp only; omega) | (repeat' (first | refine And.intro ?_ ?_ | exact trivial | exact rfl))) ?_ | refine bcs_dec (fun h => ?_) (fun h => False.elim (by first | omega | exact h rfl)) | refine bcs_dec (fun h => False.elim (by omega)) (fun h => ?_) | refine bcs_not ?_ | refine And.intro ?_ ?_ | refine reg_tail (by kernel_rfl) ?_)
    refine call_rA [.at 0 0, .at 1 0, .at 2 0, .at 3 0, .at 4 0, .at 5 0] (cM) hG ?_
    rintro _ _ _ ⟨rfl, rfl, rfl⟩
    repeat' (first | refine And.intro (by first | (show (_ : Bool) = true; kernel_rfl) | omega | (dsimp only; omega) | (repeat' (first | refine And.intro ?_ ?_ | exact trivial | exact rfl))) ?_ | refine bcs_dec (fun h => ?_) (fun h => False.elim (by first | omega | exact h rfl)) | refine bcs_dec (fun h => False.elim (by omega)) (fun h => ?_) | refine bcs_not ?_ | refine And.intro ?_ ?_ | refine reg_tail (by kernel_rfl) ?_)
    refine call_rA [.at 0 0, .at 1 0, .at 2 0, .at 3 0, .at 4 0] (cC) hG ?_
    rintro _ _ _ ⟨rfl, rfl, rfl⟩
    repeat' (first | refine And.intro (by first | (show (_ : Bool) = true; kernel_rfl) | omega | (dsimp only; omega) | (repeat' (first | refine And.intro ?_ ?_ | exact trivial | exact rfl))) ?_ | refine bcs_dec (fun h => ?_) (fun h => False.elim (by first | omega | exact h rfl)) | refine bcs_dec (fun h => False.elim (by omega)) (fun h => ?_) | refine bcs_not ?_ | refine And.intro ?_ ?_ | refine reg_tail (by kernel_rfl) ?_)
    refine onto_loop b m y lab fmt TX l B hG hb1 hm1 hy1 hlab hlen hml hok htl _ _ _ _ [.at 6 0, .at 7 0, .nil 4] ?_ fun w out ho hol => ?_
    · (refine ⟨rfl, rfl, ?_, ?_⟩ <;> repeat' (first | refine And.intro ?_ ?_ | exact trivial | exact rfl | refine lt0 | refine lt1 ?_ | refine lt2 ?_ ?_ | refine lt3 ?_ ?_ ?_ | refine lt4 ?_ ?_ ?_ ?_ | exact veq_refl _ | decide | (intro i hi; repeat' (first | refine And.intro ?_ ?_ | exact trivial | exact rfl))))
      all_goals first | exact Nat.le_refl _ | omega | exact veq_refl _ | skip
    · rw [← ho] at hv ⊢
      have cN := normal_ok (s := out) (n := m.length) (m := (splitF TX).length) (by omega) hv
      clear hv ho cM cC
      repeat' (first | refine And.intro (by first | (show (_ : Bool) = true; kernel_rfl) | omega | (dsimp only; omega) | (repeat' (first | refine And.intro ?_ ?_ | exact trivial | exact rfl))) ?_ | refine bcs_dec (fun h => ?_) (fun h => False.elim (by first | omega | exact h rfl)) | refine bcs_dec (fun h => False.elim (by omega)) (fun h => ?_) | refine bcs_not ?_ | refine And.intro ?_ ?_ | refine reg_tail (by kernel_rfl) ?_)
      refine call_rA [] (cS) hG ?_
      rintro _ _ _ ⟨rfl, rfl, rfl⟩
      repeat' (first | refine And.intro (by first | (show (_ : Bool) = true; kernel_rfl) | omega | (dsimp only; omega) | (repeat' (first | refine And.intro ?_ ?_ | exact trivial | exact rfl))) ?_ | refine bcs_dec (fun h => ?_) (fun h => False.elim (by first | omega | exact h rfl)) | refine bcs_dec (fun h => False.elim (by omega)) (fun h => ?_) | refine bcs_not ?_ | refine And.intro ?_ ?_ | refine reg_tail (by kernel_rfl) ?_)
      refine call_rA [.at 8 0] (cN) hG ?_
      rintro _ _ _ ⟨rfl, rfl, rfl⟩
      repeat' (first | refine And.intro (by first | (show (_ : Bool) = true; kernel_rfl) | omega | (dsimp only; omega) | (repeat' (first | refine And.intro ?_ ?_ | exact trivial | exact rfl))) ?_ | refine bcs_dec (fun h => ?_) (fun h => False.elim (by first | omega | exact h rfl)) | refine bcs_dec (fun h => False.elim (by omega)) (fun h => ?_) | refine bcs_not ?_ | refine And.intro ?_ ?_ | refine reg_tail (by kernel_rfl) ?_)
      refine ret_mem [.at 10 0, .at 9 0] rfl rfl ?_ ?_
      · repeat' (first | refine And.intro ?_ ?_ | exact trivial)
        all_goals first | exact rfl | exact veq_refl _
      · repeat' (first | refine And.intro ?_ ?_ | exact trivial)
        all_goals try first | exact rfl | exact veq_refl _ | omega
        all_goals
          intro i hi
          repeat' (first | refine And.intro ?_ ?_ | exact trivial)
          all_goals exact rfl
  · have e1 : onL s t b m y lab fmt = [] := if_neg he
    have e2 : onT s t b m y lab fmt = [] := if_neg he
    rw [e1, e2]
    rw [errV_n he] at cM ⊢
    obtain ⟨TX, hTX⟩ : ∃ TX, TX = mgTxt s t b m y lab fmt := ⟨_, rfl⟩
    obtain ⟨CL, hCL⟩ : ∃ CL, CL = mgCl s t b m y lab fmt := ⟨_, rfl⟩
    obtain ⟨e, hee⟩ : ∃ e, e = mgErr s t b m y lab fmt := ⟨_, rfl⟩
    rw [← hTX, ← hCL, ← hee] at cM
    rw [← hee]
    clear hTX hCL hee he e1 e2 H
    refine spec_intro (tab := tab) (N := 129) Tryd.func38 rfl rfl tab_ok mix rfl rfl _ rfl ?_
    intro B hG
    repeat' (first | refine And.intro (by first | (show (_ : Bool) = true; kernel_rfl) | omega | (dsimp only; omega) | (repeat' (first | refine And.intro ?_ ?_ | exact trivial | exact rfl))) ?_ | refine bcs_dec (fun h => ?_) (fun h => False.elim (by first | omega | exact h rfl)) | refine bcs_dec (fun h => False.elim (by omega)) (fun h => ?_) | refine bcs_not ?_ | refine And.intro ?_ ?_ | refine reg_tail (by kernel_rfl) ?_)
    refine call_rA [.at 0 0, .at 1 0, .at 2 0, .at 3 0, .at 4 0, .at 5 0] (cM) hG ?_
    rintro _ _ _ ⟨rfl, rfl, rfl⟩
    repeat' (first | refine And.intro (by first | (show (_ : Bool) = true; kernel_rfl) | omega | (dsimp only; omega) | (repeat' (first | refine And.intro ?_ ?_ | exact trivial | exact rfl))) ?_ | refine bcs_dec (fun h => ?_) (fun h => False.elim (by first | omega | exact h rfl)) | refine bcs_dec (fun h => False.elim (by omega)) (fun h => ?_) | refine bcs_not ?_ | refine And.intro ?_ ?_ | refine reg_tail (by kernel_rfl) ?_)
    refine ret_mem [.nil 4, .nil 1] rfl rfl ?_ ?_
    · repeat' (first | refine And.intro ?_ ?_ | exact trivial)
      all_goals first | exact rfl | exact veq_refl _
    · repeat' (first | refine And.intro ?_ ?_ | exact trivial)
      all_goals try first | exact rfl | exact veq_refl _ | omega
      all_goals
        intro i hi
        repeat' (first | refine And.intro ?_ ?_ | exact trivial)
        all_goals exact rfl
end Go.Proofs.YtlmjkphiicmclaaDoor

namespace Go.Proofs.YtlmjkphiicmclaaDoor
open Go Go.RowKit Vc

set_option maxRecDepth 100000 in
set_option maxHeartbeats 64000000 in
theorem ronto_con (s t : List Chg) (b m y lab : List Byt) (fmt : Int) (H : JobSm s t b m y lab) :
    Con Tryd.prog glob 23 [.s 0 0 s.length, .s 1 0 t.length, .s 2 0 b.length, .s 3 0 m.length, .s 4 0 y.length, .s 5 0 lab.length, .v (.int .i64 fmt)] [(0, chRo s), (1, chRo t), (2, stRo b), (3, stRo m), (4, stRo y), (5, stRo lab)] 6 (retM (.t [.o 6, .o 7, .v (.int .i64 (mgErr s t b m y lab fmt))]) [(6, chOwn (onL s t b m y lab fmt)), (7, stOwn (onT s t b m y lab fmt))] 8) := by
  have cM := rmerge_con s t b m y lab fmt H
  by_cases he : mgErr s t b m y lab fmt = 0
  · have hch := mg_ch he
    obtain ⟨hl, f1, f2, htl⟩ := mg_lab he
    obtain ⟨hl3, hlab⟩ := lab_len hl
    have hok := H.ok
    have cC := rchunks_con s t b m y hok
    have hlen := chLst_len hok
    have hat := chLst_at (s := s) (t := t) (b := b) (m := m) (y := y)
    have hv := on_ok (fmt := fmt) hok.hml he
    have htx := mg_len he
    have cS := rSplit_con (mgTxt s t b m y lab fmt) htx
    rw [hch] at cC
    rw [he] at cM ⊢
    unfold onL onT
    rw [if_pos he, if_pos he]
    obtain ⟨hs, ht, hb, hm, hy, hbl, hml, hyl, hll, hlf⟩ := H
    have hto : ∀ c ∈ chLst s t b m y, ToldOk b m y lab fmt c := fun c hc => by
      have hat := hat c hc
      exact ⟨by omega, by omega, by omega, hlab, by omega, by omega, by omega, hl3, f1, f2, hat.1, hat.2.1, hat.2.2.1, hat.2.2.2.1, hat.2.2.2.2.1, hat.2.2.2.2.2.1, hat.2.2.2.2.2.2.1, hat.2.2.2.2.2.2.2.1, hat.2.2.2.2.2.2.2.2⟩
    obtain ⟨TX, hTX⟩ : ∃ TX, TX = mgTxt s t b m y lab fmt := ⟨_, rfl⟩
    obtain ⟨CL, hCL⟩ : ∃ CL, CL = mgCl s t b m y lab fmt := ⟨_, rfl⟩
    obtain ⟨l, hll⟩ : ∃ l, l = chLst s t b m y := ⟨_, rfl⟩
    rw [← hTX, ← hCL] at cM
    rw [← hTX] at cS hv ⊢
    rw [← hll] at cC hlen hto hv htl ⊢
    clear hTX hCL hll hat htx he hch hs ht
    refine spec_intro (tab := tab) (N := 117) Tryd.func23 rfl rfl tab_ok mix rfl rfl _ rfl ?_
    intro B hG
    repeat' (first | refine And.intro (by first | (show (_ : Bool) = true; kernel_rfl) | omega | (dsimp only; omega) | (repeat' (first | refine And.intro ?_ ?_ | exact trivial | exact rfl))) ?_ | refine bcs_dec (fun h => ?_) (fun h => False.elim (by first | omega | exact h rfl)) | refine bcs_dec (fun h => False.elim (by omega)) (fun h => ?_) | refine bcs_not ?_ | refine And.intro ?_ ?_ | refine reg_tail (by kernel_rfl) ?_)
    refine call_rA [.at 0 0, .at 1 0, .at 2 0, .at 3 0, .at 4 0, .at 5 0] (cM) hG ?_
    rintro _ _ _ ⟨rfl, rfl, rfl⟩
    repeat' (first | refine And.intro (by first | (show (_ : Bool) = true; kernel_rfl) | omega | (dsimp only; omega) | (repeat' (first | refine And.intro ?_ ?_ | exact trivial | exact rfl))) ?_ | refine bcs_dec (fun h => ?_) (fun h => False.elim (by first | omega | exact h rfl)) | refine bcs_dec (fun h => False.elim (by omega)) (fun h => ?_) | refine bcs_not ?_ | refine And.intro ?_ ?_ | refine reg_tail (by kernel_rfl) ?_)
    refine call_rA [.at 0 0, .at 1 0, .at 2 0, .at 3 0, .at 4 0] (cC) hG ?_
    rintro _ _ _ ⟨rfl, rfl, rfl⟩
    repeat' (first | refine And.intro (by first | (show (_ : Bool) = true; kernel_rfl) | omega | (dsimp only; omega) | (repeat' (first | refine And.intro ?_ ?_ | exact trivial | exact rfl))) ?_ | refine bcs_dec (fun h => ?_) (fun h => False.elim (by first | omega | exact h rfl)) | refine bcs_dec (fun h => False.elim (by omega)) (fun h => ?_) | refine bcs_not ?_ | refine And.intro ?_ ?_ | refine reg_tail (by kernel_rfl) ?_)
    clear cM cC
    refine loop_rule (α := Nat × Int × List Chg) (fun (i, w, out) => ⟨[(2, .s 2 0 b.length), (3, .s 3 0 m.length), (4, .s 4 0 y.length), (5, .s 5 0 lab.length), (6, .v (.int .i64 fmt)), (17, str TX), (20, .s 6 0 l.length), (22, .o 7), (23, .v (.int .i64 w)), (24, .v (.int .i64 i))], [(2, stRo b), (3, stRo m), (4, stRo y), (5, stRo lab), (6, ckRo l), (7, chOwn out)], 8⟩)
      (fun (i, w, out) => i ≤ l.length ∧ 0 ≤ w ∧ out ++ onF b m y lab fmt (l.drop i) w = onF b m y lab fmt l 0 ∧ w + (toldsF b m y lab fmt (l.drop i)).length ≤ 4194304 ∧ out.length ≤ i ∧ w ≤ 4194304) (fun (i, _) => l.length - i) (0, 0, []) [.at 6 0, .nil 4] ?_ ?_ ?_
    · exact ⟨Nat.zero_le _, Int.le_refl _, rfl, by rw [List.drop_zero]; omega, Nat.le_refl _, by omega⟩
    · (refine ⟨rfl, rfl, ?_, ?_⟩ <;> repeat' (first | refine And.intro ?_ ?_ | exact trivial | exact rfl | refine lt0 | refine lt1 ?_ | refine lt2 ?_ ?_ | refine lt3 ?_ ?_ ?_ | refine lt4 ?_ ?_ ?_ ?_ | exact veq_refl _ | decide | (intro i hi; repeat' (first | refine And.intro ?_ ?_ | exact trivial | exact rfl))))
      all_goals first | exact Nat.le_refl _ | omega | exact veq_refl _ | skip
    rintro ⟨i, w, out⟩ ⟨j1, j2, j3, j4, j5, j6⟩
    by_cases hi : i < l.length
    · have e0 : l.getD i Chk.d = (l.getD (0 + (i : Int).toNat) Chk.d) := by rw [Nat.zero_add]; rfl
      have hmem : l.getD i Chk.d ∈ l := by
        rw [List.getD_eq_getElem?_getD, List.getElem?_eq_getElem hi]
        exact List.getElem_mem hi
      have hto := hto _ hmem
      rw [e0] at hto
      rw [drop_get Chk.d l i hi, e0] at j3 j4
      clear hmem e0 hv cS
      have j3 : out ++ (onC b m y lab fmt (l.getD (0 + (i : Int).toNat) Chk.d) (l.drop (i + 1)).isEmpty w ++ onF b m y lab fmt (l.drop (i + 1)) (w + (tlF b m y lab fmt (l.getD (0 + (i : Int).toNat) Chk.d) (l.drop (i + 1)).isEmpty).length)) = onF b m y lab fmt l 0 := j3
      have j4 : w + ((toldF b m y lab fmt (l.getD (0 + (i : Int).toNat) Chk.d) (l.drop (i + 1)).isEmpty ++ toldsF b m y lab fmt (l.drop (i + 1))).length : Int) ≤ 4194304 := j4
      have hm1' := hto.hm1
      have hm2' := hto.hm2
      have hm3' := hto.hm3
      have s1 := seg_len m (show 0 ≤ ((l.getD (0 + (i : Int).toNat) Chk.d)).m by omega) (show ((l.getD (0 + (i : Int).toNat) Chk.d)).m ≤ ((l.getD (0 + (i : Int).toNat) Chk.d)).m + ((l.getD (0 + (i : Int).toNat) Chk.d)).mn by omega) hm3'
      obtain ⟨v, hv, hve⟩ : ∃ v : Bool, v = decide ((i : Int) + 1 = l.length) ∧ (l.drop (i + 1)).isEmpty = v := by
        refine ⟨_, rfl, ?_⟩
        by_cases hlast : i + 1 = l.length
        · rw [List.drop_of_length_le (by omega), decide_eq_true (by omega)]; rfl
        · rw [decide_eq_false (by omega), List.isEmpty_eq_false_iff]
          intro k
          have := congrArg List.length k
          rw [List.length_drop] at this
          simp at this
          omega
      rw [hve] at j3 j4
      rw [List.length_append] at j4
      have j7 : (toldF b m y lab fmt (l.getD (0 + (i : Int).toNat) Chk.d) v).length ≤ 4194304 := by omega
      have j8 : (tlF b m y lab fmt (l.getD (0 + (i : Int).toNat) Chk.d) v).length ≤ (toldF b m y lab fmt (l.getD (0 + (i : Int).toNat) Chk.d) v).length := splitF_len _
      have cT := told_con b m y lab fmt (l.getD (0 + (i : Int).toNat) Chk.d) v hto
      have cS := rSplit_con (toldF b m y lab fmt (l.getD (0 + (i : Int).toNat) Chk.d) v) j7
      have cE := sameG_con (tlF b m y lab fmt (l.getD (0 + (i : Int).toNat) Chk.d) v) (segL m ((l.getD (0 + (i : Int).toNat) Chk.d)).m (((l.getD (0 + (i : Int).toNat) Chk.d)).m + ((l.getD (0 + (i : Int).toNat) Chk.d)).mn)) (fun k => (tlF b m y lab fmt (l.getD (0 + (i : Int).toNat) Chk.d) v).getD k []) (fun k => m.getD (k + ((l.getD (0 + (i : Int).toNat) Chk.d)).m.toNat) []) (by omega) (fun _ _ => rfl) (seg_row m (by omega) (by omega) (by omega))
      rw [s1] at cE
      obtain ⟨X, hX⟩ : ∃ X, X = toldF b m y lab fmt (l.getD (0 + (i : Int).toNat) Chk.d) v := ⟨_, rfl⟩
      have hXT : splitF X = tlF b m y lab fmt (l.getD (0 + (i : Int).toNat) Chk.d) v := by rw [hX]; rfl
      rw [← hX, hXT] at cS
      rw [← hX] at cT
      have hmm : onC b m y lab fmt (l.getD (0 + (i : Int).toNat) Chk.d) v w = if tlF b m y lab fmt (l.getD (0 + (i : Int).toNat) Chk.d) v = segL m ((l.getD (0 + (i : Int).toNat) Chk.d)).m (((l.getD (0 + (i : Int).toNat) Chk.d)).m + ((l.getD (0 + (i : Int).toNat) Chk.d)).mn) then [] else [⟨((l.getD (0 + (i : Int).toNat) Chk.d)).m, ((l.getD (0 + (i : Int).toNat) Chk.d)).mn, w, (tlF b m y lab fmt (l.getD (0 + (i : Int).toNat) Chk.d) v).length⟩] := rfl
      rw [hmm] at j3
      rw [← hX] at j4 j7 j8
      clear hmm hX hXT s1 hto
      obtain ⟨T, hT⟩ : ∃ T, T = tlF b m y lab fmt (l.getD (0 + (i : Int).toNat) Chk.d) v := ⟨_, rfl⟩
      rw [← hT] at cS cE j3 j8
      clear hT
      repeat' (first | refine And.intro (by first | (show (_ : Bool) = true; kernel_rfl) | omega | (dsimp only; omega) | (repeat' (first | refine And.intro ?_ ?_ | exact trivial | exact rfl))) ?_ | refine bcs_dec (fun h => ?_) (fun h => False.elim (by first | omega | exact h rfl)) | refine bcs_dec (fun h => False.elim (by omega)) (fun h => ?_) | refine bcs_not ?_ | refine And.intro ?_ ?_ | refine reg_tail (by kernel_rfl) ?_)
      all_goals first
        | omega
        | skip
      refine call_rule [.at 2 0, .at 3 0, .at 4 0, .at 5 0] cT hG ?_ ?_
      · (refine ⟨?_, ?_, rfl, rfl, rfl⟩ <;> repeat' (first | refine And.intro ?_ ?_ | exact trivial | exact rfl | refine lt0 | refine lt1 ?_ | refine lt2 ?_ ?_ | refine lt3 ?_ ?_ ?_ | refine lt4 ?_ ?_ ?_ ?_ | exact veq_refl _ | decide | (intro i hi; repeat' (first | refine And.intro ?_ ?_ | exact trivial | exact rfl))))
        all_goals first | exact Nat.le_refl _ | omega | exact veq_of_eq (congrArg Value.bool hv) | (refine veq_of_eq (congrArg Value.bool ?_); rw [hv]; exact Bool.eq_iff_iff.2 (by simp))
      rintro _ _ _ ⟨rfl, rfl, rfl⟩
      repeat' (first | refine And.intro (by first | (show (_ : Bool) = true; kernel_rfl) | omega | (dsimp only; omega) | (repeat' (first | refine And.intro ?_ ?_ | exact trivial | exact rfl))) ?_ | refine bcs_dec (fun h => ?_) (fun h => False.elim (by first | omega | exact h rfl)) | refine bcs_dec (fun h => False.elim (by omega)) (fun h => ?_) | refine bcs_not ?_ | refine And.intro ?_ ?_ | refine reg_tail (by kernel_rfl) ?_)
      refine call_rA [] (cS) hG ?_
      rintro _ _ _ ⟨rfl, rfl, rfl⟩
      repeat' (first | refine And.intro (by first | (show (_ : Bool) = true; kernel_rfl) | omega | (dsimp only; omega) | (repeat' (first | refine And.intro ?_ ?_ | exact trivial | exact rfl))) ?_ | refine bcs_dec (fun h => ?_) (fun h => False.elim (by first | omega | exact h rfl)) | refine bcs_dec (fun h => False.elim (by omega)) (fun h => ?_) | refine bcs_not ?_ | refine And.intro ?_ ?_ | refine reg_tail (by kernel_rfl) ?_)
      by_cases hE : T = segL m ((l.getD (0 + (i : Int).toNat) Chk.d)).m (((l.getD (0 + (i : Int).toNat) Chk.d)).m + ((l.getD (0 + (i : Int).toNat) Chk.d)).mn)
      · rw [decide_eq_true hE] at cE
        refine call_rA [.at 9 0, .at 3 ((l.getD (0 + (i : Int).toNat) Chk.d)).m.toNat] (cE) hG ?_
        rintro _ _ _ ⟨rfl, rfl, rfl⟩
        repeat' (first | refine And.intro (by first | (show (_ : Bool) = true; kernel_rfl) | omega | (dsimp only; omega) | (repeat' (first | refine And.intro ?_ ?_ | exact trivial | exact rfl))) ?_ | refine bcs_dec (fun h => ?_) (fun h => False.elim (by first | omega | exact h rfl)) | refine bcs_dec (fun h => False.elim (by omega)) (fun h => ?_) | refine bcs_not ?_ | refine And.intro ?_ ?_ | refine reg_tail (by kernel_rfl) ?_)
        all_goals first
          | omega
          | skip
        refine ⟨(i + 1, w + T.length, out), [.at 6 0, .at 7 0], ?_, ?_, ?_⟩
        · dsimp only
          refine ⟨hi, by omega, ?_, by omega, by omega, by omega⟩
          rw [← j3, if_pos hE, List.nil_append]
        · show l.length - (i + 1) < l.length - i
          omega
        · (refine ⟨rfl, rfl, ?_, ?_⟩ <;> repeat' (first | refine And.intro ?_ ?_ | exact trivial | exact rfl | refine lt0 | refine lt1 ?_ | refine lt2 ?_ ?_ | refine lt3 ?_ ?_ ?_ | refine lt4 ?_ ?_ ?_ ?_ | exact veq_refl _ | decide | (intro i hi; repeat' (first | refine And.intro ?_ ?_ | exact trivial | exact rfl))))
          all_goals first | exact Nat.le_refl _ | omega | exact veq_refl _ | skip
      · rw [decide_eq_false hE] at cE
        refine call_rA [.at 9 0, .at 3 ((l.getD (0 + (i : Int).toNat) Chk.d)).m.toNat] (cE) hG ?_
        rintro _ _ _ ⟨rfl, rfl, rfl⟩
        repeat' (first | refine And.intro (by first | (show (_ : Bool) = true; kernel_rfl) | omega | (dsimp only; omega) | (repeat' (first | refine And.intro ?_ ?_ | exact trivial | exact rfl))) ?_ | refine bcs_dec (fun h => ?_) (fun h => False.elim (by first | omega | exact h rfl)) | refine bcs_dec (fun h => False.elim (by omega)) (fun h => ?_) | refine bcs_not ?_ | refine And.intro ?_ ?_ | refine reg_tail (by kernel_rfl) ?_)
        all_goals first
          | omega
          | skip
        refine app1 Chg.enc Chg.d out ⟨((l.getD (0 + (i : Int).toNat) Chk.d)).m, ((l.getD (0 + (i : Int).toNat) Chk.d)).mn, w, T.length⟩ rfl rfl ?_
        repeat' (first | refine And.intro (by first | (show (_ : Bool) = true; kernel_rfl) | omega | (dsimp only; omega) | (repeat' (first | refine And.intro ?_ ?_ | exact trivial | exact rfl))) ?_ | refine bcs_dec (fun h => ?_) (fun h => False.elim (by first | omega | exact h rfl)) | refine bcs_dec (fun h => False.elim (by omega)) (fun h => ?_) | refine bcs_not ?_ | refine And.intro ?_ ?_ | refine reg_tail (by kernel_rfl) ?_)
        all_goals first
          | omega
          | skip
        refine ⟨(i + 1, w + T.length, out ++ [⟨((l.getD (0 + (i : Int).toNat) Chk.d)).m, ((l.getD (0 + (i : Int).toNat) Chk.d)).mn, w, T.length⟩]), [.at 6 0, .at 11 0], ?_, ?_, ?_⟩
        · dsimp only
          refine ⟨hi, by omega, ?_, by omega, by rw [List.length_append, List.length_singleton]; omega, by omega⟩
          rw [← j3, if_neg hE, List.append_assoc]
        · show l.length - (i + 1) < l.length - i
          omega
        · (refine ⟨rfl, rfl, ?_, ?_⟩ <;> repeat' (first | refine And.intro ?_ ?_ | exact trivial | exact rfl | refine lt0 | refine lt1 ?_ | refine lt2 ?_ ?_ | refine lt3 ?_ ?_ ?_ | refine lt4 ?_ ?_ ?_ ?_ | exact veq_refl _ | decide | (intro i hi; repeat' (first | refine And.intro ?_ ?_ | exact trivial | exact rfl))))
          all_goals first | exact Nat.le_refl _ | omega | exact veq_refl _ | (rw [List.length_append, List.length_singleton]; done) | skip
    · obtain rfl : i = l.length := by omega
      rw [List.drop_length] at j3
      have e1 : out = onF b m y lab fmt l 0 := by rw [← j3]; show out = out ++ []; rw [List.append_nil]
      rw [← e1] at hv ⊢
      have cN := rNormal_good (s := out) (n := m.length) (m := (splitF TX).length) (by omega) hv
      clear hv e1 j3
      repeat' (first | refine And.intro (by first | (show (_ : Bool) = true; kernel_rfl) | omega | (dsimp only; omega) | (repeat' (first | refine And.intro ?_ ?_ | exact trivial | exact rfl))) ?_ | refine bcs_dec (fun h => ?_) (fun h => False.elim (by first | omega | exact h rfl)) | refine bcs_dec (fun h => False.elim (by omega)) (fun h => ?_) | refine bcs_not ?_ | refine And.intro ?_ ?_ | refine reg_tail (by kernel_rfl) ?_)
      all_goals first
        | omega
        | skip
      refine call_rA [] (cS) hG ?_
      rintro _ _ _ ⟨rfl, rfl, rfl⟩
      repeat' (first | refine And.intro (by first | (show (_ : Bool) = true; kernel_rfl) | omega | (dsimp only; omega) | (repeat' (first | refine And.intro ?_ ?_ | exact trivial | exact rfl))) ?_ | refine bcs_dec (fun h => ?_) (fun h => False.elim (by first | omega | exact h rfl)) | refine bcs_dec (fun h => False.elim (by omega)) (fun h => ?_) | refine bcs_not ?_ | refine And.intro ?_ ?_ | refine reg_tail (by kernel_rfl) ?_)
      refine call_rA [.at 7 0] (cN) hG ?_
      rintro _ _ _ ⟨rfl, rfl, rfl⟩
      repeat' (first | refine And.intro (by first | (show (_ : Bool) = true; kernel_rfl) | omega | (dsimp only; omega) | (repeat' (first | refine And.intro ?_ ?_ | exact trivial | exact rfl))) ?_ | refine bcs_dec (fun h => ?_) (fun h => False.elim (by first | omega | exact h rfl)) | refine bcs_dec (fun h => False.elim (by omega)) (fun h => ?_) | refine bcs_not ?_ | refine And.intro ?_ ?_ | refine reg_tail (by kernel_rfl) ?_)
      refine ret_mem [.at 9 0, .at 8 0] rfl rfl ?_ ?_
      · repeat' (first | refine And.intro ?_ ?_ | exact trivial)
        all_goals first | exact rfl | exact veq_refl _
      · repeat' (first | refine And.intro ?_ ?_ | exact trivial)
        all_goals try first | exact rfl | exact veq_refl _ | omega
        all_goals
          intro i hi
          repeat' (first | refine And.intro ?_ ?_ | exact trivial)
          all_goals exact rfl
  · have e1 : onL s t b m y lab fmt = [] := if_neg he
    have e2 : onT s t b m y lab fmt = [] := if_neg he
    rw [e1, e2]
    obtain ⟨TX, hTX⟩ : ∃ TX, TX = mgTxt s t b m y lab fmt := ⟨_, rfl⟩
    obtain ⟨CL, hCL⟩ : ∃ CL, CL = mgCl s t b m y lab fmt := ⟨_, rfl⟩
    obtain ⟨e, hee⟩ : ∃ e, e = mgErr s t b m y lab fmt := ⟨_, rfl⟩
    rw [← hTX, ← hCL, ← hee] at cM
    rw [← hee] at he ⊢
    clear hTX hCL hee e1 e2 H
    refine spec_intro (tab := tab) (N := 117) Tryd.func23 rfl rfl tab_ok mix rfl rfl _ rfl ?_
    intro B hG
    repeat' (first | refine And.intro (by first | (show (_ : Bool) = true; kernel_rfl) | omega | (dsimp only; omega) | (repeat' (first | refine And.intro ?_ ?_ | exact trivial | exact rfl))) ?_ | refine bcs_dec (fun h => ?_) (fun h => False.elim (by first | omega | exact h rfl)) | refine bcs_dec (fun h => False.elim (by omega)) (fun h => ?_) | refine bcs_not ?_ | refine And.intro ?_ ?_ | refine reg_tail (by kernel_rfl) ?_)
    refine call_rA [.at 0 0, .at 1 0, .at 2 0, .at 3 0, .at 4 0, .at 5 0] (cM) hG ?_
    rintro _ _ _ ⟨rfl, rfl, rfl⟩
    repeat' (first | refine And.intro (by first | (show (_ : Bool) = true; kernel_rfl) | omega | (dsimp only; omega) | (repeat' (first | refine And.intro ?_ ?_ | exact trivial | exact rfl))) ?_ | refine bcs_dec (fun h => ?_) (fun h => False.elim (by first | omega | exact h rfl)) | refine bcs_dec (fun h => False.elim (by omega)) (fun h => ?_) | refine bcs_not ?_ | refine And.intro ?_ ?_ | refine reg_tail (by kernel_rfl) ?_)
    all_goals first
      | omega
      | skip
    refine ret_mem [.nil 4, .nil 1] rfl rfl ?_ ?_
    · repeat' (first | refine And.intro ?_ ?_ | exact trivial)
      all_goals first | exact rfl | exact veq_refl _
    · repeat' (first | refine And.intro ?_ ?_ | exact trivial)
      all_goals try first | exact rfl | exact veq_refl _ | omega
      all_goals
        intro i hi
        repeat' (first | refine And.intro ?_ ?_ | exact trivial)
        all_goals exact rfl
end Go.Proofs.YtlmjkphiicmclaaDoor
