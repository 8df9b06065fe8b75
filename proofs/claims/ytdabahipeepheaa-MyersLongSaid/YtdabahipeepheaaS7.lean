/- Chapter 7: one box after the other. Printed with the orders of its regions by ords.py. -/
import Derived.Test.YtdabahipeepheaaS6
namespace Go.Proofs.Ytdabahipeepheaa
open Go Go.RowKit Vc

/-- An append to a row that is told another way. -/
theorem appG {α : Type} (enc : α → List SV) (d : α) (l r : List α) {n m i : Nat} {f g : Nat → List SV} {K : (Nat → List SV) → Prop} (hn : n = l.length) (hf : ∀ j, j < l.length → f j = enc (l.getD j d)) (hm : m = r.length) (hg : ∀ j, j < r.length → g (i + j) = enc (r.getD j d)) (hk : K fun j => enc ((l ++ r).getD j d)) :
    ∃ f' : Nat → List SV, (∀ j, j < n → f' j = f j) ∧ (∀ j, j < m → f' (n + j) = g (i + j)) ∧ K f' :=
  ⟨_, fun j hj => by subst hn; rw [hf j hj, getD_app1 hj], fun j hj => by subst hn; subst hm; rw [hg j hj, getD_app2], hk⟩
set_option maxRecDepth 100000 in
set_option maxHeartbeats 64000000 in
theorem m_loop (A C : Nat → Int) (N M : Nat) (hN : N ≤ 1048576) (hM : M ≤ 1048576) (B : Bs) (hG : B.glob = glob) (E : Nat → St → Prop) (U : St → Prop) (s0 : St) (new0 : List Kp)
    (hs : Sub 2 new0 s0 (mSt A C N M (beg N M))) :
    LoopP ⟨Try.prog, tab, B, 122, 2⟩ (loopOf 0 Try.f17) s0 (fun i s' => bif Nat.beq i 0 then (∃ (_ : Unit) (new : List Kp), True ∧ Sub 2 new s' (mSt A C N M (endS A C N M))) else E i s') U := by
  refine loop_rule (α := MS) (fun s => mSt A C N M s) (fun s => MInv A C N M s ∧ ∃ k, mu s ≤ k ∧ runF A C k s = endS A C N M) mu (beg N M) new0 ⟨beg_inv A C N M, mu (beg N M), Nat.le_refl _, rfl⟩ hs ?_
  rintro s ⟨hI, k, hk, hr⟩
  by_cases hst : s.st = []
  · have hl : s.st.length = 0 := by rw [hst]; rfl
    have he : s = endS A C N M := by
      rw [← hr]
      cases k with
      | zero => rfl
      | succ k => unfold runF; rw [if_pos hst]
    repeat' (first | refine And.intro (by first | omega | (dsimp only; omega) | (show (_ : Bool) = true; kernel_rfl) | decide | (repeat' (first | refine And.intro ?_ ?_ | exact trivial | exact rfl))) ?_ | refine bcs_dec (fun h => ?_) (fun h => False.elim (by first | omega | exact h rfl)) | refine bcs_dec (fun h => False.elim (by omega)) (fun h => ?_) | refine bcs_dec (fun h => ?_) (fun h => ?_) | refine bcs_ndec (fun h => ?_) (fun h => ?_) | refine bcs_not ?_ | refine bcs_intro (fun h => ?_) (fun h => ?_) | refine And.intro ?_ ?_ | refine reg_tail (by kernel_rfl) ?_)
    all_goals first
      | omega
      | skip
    refine ⟨(), [.at 2 0, .at 3 0, .at 4 0, .at 5 0, .at 6 0], trivial, ?_⟩
    rw [← he]
    (refine ⟨rfl, rfl, ?_, ?_⟩ <;> repeat' (first | refine And.intro ?_ ?_ | exact trivial | exact rfl | refine lt0 | refine lt1 ?_ | refine lt2 ?_ ?_ | refine lt3 ?_ ?_ ?_ | refine lt4 ?_ ?_ ?_ ?_ | exact veq_refl _ | decide | (intro i hi; repeat' (first | refine And.intro ?_ ?_ | exact trivial | exact rfl))))
    all_goals first | exact Nat.le_refl _ | omega | (dsimp only; omega) | (simp; done) | (show @Eq Int _ _; omega)
  · obtain ⟨t1, t2, t3, t4, t5⟩ := hI.top hst
    obtain ⟨j1, j2, ⟨j3, j4⟩, j5⟩ := hI.step hst
    have lg := hI.lg
    have lc := hI.lc
    have hr' : ∃ k', mu (stepF A C s) ≤ k' ∧ runF A C k' (stepF A C s) = endS A C N M := by
      cases k with
      | zero => omega
      | succ k => unfold runF at hr; rw [if_neg hst] at hr; exact ⟨k, by omega, hr⟩
    have hix : ((s.st.length : Int) - 1).toNat = s.st.length - 1 := by omega
    obtain ⟨r, hrr⟩ : ∃ r, r = s.st.take (s.st.length - 1) := ⟨_, rfl⟩
    have lr : r.length = s.st.length - 1 := by rw [hrr, List.length_take]; omega
    have gr : ∀ e, e < r.length → s.st.getD e Bx.d = r.getD e Bx.d := fun e he => by
      rw [hrr, List.getD_eq_getElem?_getD, List.getD_eq_getElem?_getD, List.getElem?_take, if_pos (by omega)]
    have cT := trim_con A C N M hN hM (s.st.getD ((s.st.length : Int) - 1).toNat Bx.d) (by rw [hix]; exact t1) (by rw [hix]; exact t2)
    obtain ⟨b, hb⟩ : ∃ b, b = topB A C s := ⟨_, rfl⟩
    have hb2 : trimF A C (s.st.getD ((s.st.length : Int) - 1).toNat Bx.d) = b := by rw [hix, hb]; rfl
    rw [hb2] at cT
    have hstep : stepF A C s = if b.n = 0 ∨ b.m = 0 then ⟨r, mkF s.g b.x b.n, mkF s.c b.y b.m⟩ else ⟨r ++ [⟨b.x, (snkB A C b).1, b.y, (snkB A C b).2.1⟩, ⟨b.x + (snkB A C b).2.2.1, b.n - (snkB A C b).2.2.1, b.y + (snkB A C b).2.2.2, b.m - (snkB A C b).2.2.2⟩], s.g, s.c⟩ := by
      rw [hb, hrr]; rfl
    rw [← hb] at j3 j4 j5
    have hid := Hd.mk hstep
    have hid2 := Hd.mk j1
    have hid3 := Hd.mk hr'
    have hid4 := Hd.mk j2
    have hid5 := Hd.mk j5
    clear hb2 hstep j1 hr' j2 j5 hI hr t5 hk hb hrr t1 t2
    repeat' (first | refine And.intro (by first | omega | (dsimp only; omega) | (show (_ : Bool) = true; kernel_rfl) | decide | (repeat' (first | refine And.intro ?_ ?_ | exact trivial | exact rfl))) ?_ | refine bcs_dec (fun h => ?_) (fun h => False.elim (by first | omega | exact h rfl)) | refine bcs_dec (fun h => False.elim (by omega)) (fun h => ?_) | refine bcs_dec (fun h => ?_) (fun h => ?_) | refine bcs_ndec (fun h => ?_) (fun h => ?_) | refine bcs_not ?_ | refine bcs_intro (fun h => ?_) (fun h => ?_) | refine And.intro ?_ ?_ | refine reg_tail (by kernel_rfl) ?_)
    all_goals first
      | omega
      | skip
    refine call_rule [.at 0 0, .at 1 0] (cT) hG ?_ ?_
    · (refine ⟨?_, ?_, rfl, rfl, rfl⟩ <;> repeat' (first | refine And.intro ?_ ?_ | exact trivial | exact rfl | refine lt0 | refine lt1 ?_ | refine lt2 ?_ ?_ | refine lt3 ?_ ?_ ?_ | refine lt4 ?_ ?_ ?_ ?_ | exact veq_refl _ | decide | (intro i hi; repeat' (first | refine And.intro ?_ ?_ | exact trivial | exact rfl))))
      all_goals first | exact Nat.le_refl _ | omega
    rintro _ _ _ ⟨rfl, rfl, rfl⟩
    repeat' (first | refine And.intro (by first | omega | (dsimp only; omega) | (show (_ : Bool) = true; kernel_rfl) | decide | (repeat' (first | refine And.intro ?_ ?_ | exact trivial | exact rfl))) ?_ | refine bcs_dec (fun h => ?_) (fun h => False.elim (by first | omega | exact h rfl)) | refine bcs_dec (fun h => False.elim (by omega)) (fun h => ?_) | refine bcs_dec (fun h => ?_) (fun h => ?_) | refine bcs_ndec (fun h => ?_) (fun h => ?_) | refine bcs_not ?_ | refine bcs_intro (fun h => ?_) (fun h => ?_) | refine And.intro ?_ ?_ | refine reg_tail (by kernel_rfl) ?_)
    all_goals first
      | omega
      | skip
    refine Or.inr ?_
    repeat' (first | refine And.intro (by first | omega | (dsimp only; omega) | (show (_ : Bool) = true; kernel_rfl) | decide | (repeat' (first | refine And.intro ?_ ?_ | exact trivial | exact rfl))) ?_ | refine bcs_dec (fun h => ?_) (fun h => False.elim (by first | omega | exact h rfl)) | refine bcs_dec (fun h => False.elim (by omega)) (fun h => ?_) | refine bcs_dec (fun h => ?_) (fun h => ?_) | refine bcs_ndec (fun h => ?_) (fun h => ?_) | refine bcs_not ?_ | refine bcs_intro (fun h => ?_) (fun h => ?_) | refine And.intro ?_ ?_ | refine reg_tail (by kernel_rfl) ?_)
    all_goals first
      | omega
      | skip
    iterate 2
      · skip
        repeat' (first | refine And.intro (by first | omega | (dsimp only; omega) | (show (_ : Bool) = true; kernel_rfl) | decide | (repeat' (first | refine And.intro ?_ ?_ | exact trivial | exact rfl))) ?_ | refine bcs_dec (fun h => ?_) (fun h => False.elim (by first | omega | exact h rfl)) | refine bcs_dec (fun h => False.elim (by omega)) (fun h => ?_) | refine bcs_dec (fun h => ?_) (fun h => ?_) | refine bcs_ndec (fun h => ?_) (fun h => ?_) | refine bcs_not ?_ | refine bcs_intro (fun h => ?_) (fun h => ?_) | refine And.intro ?_ ?_ | refine reg_tail (by kernel_rfl) ?_)
        all_goals first
          | omega
          | skip
        refine loop_out (fun _ : Unit => nSt A C N M r b (mkF s.g b.x b.n) s.c 52 53 b.n b.n) _ (gone_loop A C N M hN r b j3 s.g s.c lg B _ _ _ [.at 2 0, .at 3 0, .at 4 0, .at 5 0, .at 6 0, .at 7 0, .at 8 0] ?_) ?_
        · (refine ⟨rfl, rfl, ?_, ?_⟩ <;> repeat' (first | refine And.intro ?_ ?_ | exact trivial | exact rfl | refine lt0 | refine lt1 ?_ | refine lt2 ?_ ?_ | refine lt3 ?_ ?_ ?_ | refine lt4 ?_ ?_ ?_ ?_ | exact veq_refl _ | decide | (intro i hi; repeat' (first | refine And.intro ?_ ?_ | exact trivial | exact rfl))))
          all_goals first | exact Nat.le_refl _ | omega | (dsimp only; omega) | (simp; done) | (show @Eq Int _ _; omega) | (rw [gr i (by omega)]; done) | (rw [gr i (by omega)]; exact veq_refl _) | (rw [gr i (by omega)]; exact rfl) | (rw [gr i (by omega)]; omega)
        intro _ _
        repeat' (first | refine And.intro (by first | omega | (dsimp only; omega) | (show (_ : Bool) = true; kernel_rfl) | decide | (repeat' (first | refine And.intro ?_ ?_ | exact trivial | exact rfl))) ?_ | refine bcs_dec (fun h => ?_) (fun h => False.elim (by first | omega | exact h rfl)) | refine bcs_dec (fun h => False.elim (by omega)) (fun h => ?_) | refine bcs_dec (fun h => ?_) (fun h => ?_) | refine bcs_ndec (fun h => ?_) (fun h => ?_) | refine bcs_not ?_ | refine bcs_intro (fun h => ?_) (fun h => ?_) | refine And.intro ?_ ?_ | refine reg_tail (by kernel_rfl) ?_)
        all_goals first
          | omega
          | skip
        refine loop_out (fun _ : Unit => nSt A C N M r b (mkF s.g b.x b.n) (mkF s.c b.y b.m) 66 67 b.m b.m) _ (come_loop A C N M hM r b j4 (mkF s.g b.x b.n) s.c lc B _ _ _ [.at 2 0, .at 3 0, .at 4 0, .at 5 0, .at 6 0, .at 7 0, .at 8 0] ?_) ?_
        · (refine ⟨rfl, rfl, ?_, ?_⟩ <;> repeat' (first | refine And.intro ?_ ?_ | exact trivial | exact rfl | refine lt0 | refine lt1 ?_ | refine lt2 ?_ ?_ | refine lt3 ?_ ?_ ?_ | refine lt4 ?_ ?_ ?_ ?_ | exact veq_refl _ | decide | (intro i hi; repeat' (first | refine And.intro ?_ ?_ | exact trivial | exact rfl))))
          all_goals first | exact Nat.le_refl _ | omega | (dsimp only; omega) | (simp; done) | (show @Eq Int _ _; omega) | (rw [gr i (by omega)]; done) | (rw [gr i (by omega)]; exact veq_refl _) | (rw [gr i (by omega)]; exact rfl) | (rw [gr i (by omega)]; omega)
        intro _ _
        repeat' (first | refine And.intro (by first | omega | (dsimp only; omega) | (show (_ : Bool) = true; kernel_rfl) | decide | (repeat' (first | refine And.intro ?_ ?_ | exact trivial | exact rfl))) ?_ | refine bcs_dec (fun h => ?_) (fun h => False.elim (by first | omega | exact h rfl)) | refine bcs_dec (fun h => False.elim (by omega)) (fun h => ?_) | refine bcs_dec (fun h => ?_) (fun h => ?_) | refine bcs_ndec (fun h => ?_) (fun h => ?_) | refine bcs_not ?_ | refine bcs_intro (fun h => ?_) (fun h => ?_) | refine And.intro ?_ ?_ | refine reg_tail (by kernel_rfl) ?_)
        all_goals first
          | omega
          | skip
        refine ⟨stepF A C s, [.at 2 0, .at 3 0, .at 4 0, .at 5 0, .at 8 0], ⟨hid2.out, hid3.out⟩, hid4.out, ?_⟩
        rw [hid.out, if_pos (by omega)]
        (refine ⟨rfl, rfl, ?_, ?_⟩ <;> repeat' (first | refine And.intro ?_ ?_ | exact trivial | exact rfl | refine lt0 | refine lt1 ?_ | refine lt2 ?_ ?_ | refine lt3 ?_ ?_ ?_ | refine lt4 ?_ ?_ ?_ ?_ | exact veq_refl _ | decide | (intro i hi; repeat' (first | refine And.intro ?_ ?_ | exact trivial | exact rfl))))
        all_goals first | exact Nat.le_refl _ | omega | (dsimp only; omega) | (simp; done) | (show @Eq Int _ _; omega) | (rw [gr i (by omega)]; done) | (rw [gr i (by omega)]; exact veq_refl _) | (rw [gr i (by omega)]; exact rfl) | (rw [gr i (by omega)]; omega)
    have hnz : ¬ (b.n = 0 ∨ b.m = 0) := by omega
    obtain ⟨j6, j7, j8, j9⟩ := hid5.out hnz
    have cS : Con Try.prog glob 21 [.s 0 0 b.n, .s 1 0 b.m] [(0, iRo b.n (fun e => A (e + b.x))), (1, iRo b.m (fun e => C (e + b.y)))] 2 (snkQ (fun e => A (b.x + e)) (fun e => C (b.y + e)) b.n b.m) := by
      have e1 : (fun e => A (e + b.x)) = fun e => A (b.x + e) := funext fun e => by rw [Nat.add_comm]
      have e2 : (fun e => C (e + b.y)) = fun e => C (b.y + e) := funext fun e => by rw [Nat.add_comm]
      rw [e1, e2]
      exact snake_con _ _ b.n b.m (by omega) (by omega)
    obtain ⟨q, hq⟩ : ∃ q, q = snkB A C b := ⟨_, rfl⟩
    have hq' : snkA (fun e => A (b.x + e)) (fun e => C (b.y + e)) b.n b.m = q := hq.symm
    unfold snkQ at cS
    rw [hq'] at cS
    rw [← hq] at j6 j7 j8 j9
    have hid' := hid.out
    rw [if_neg hnz, ← hq] at hid'
    have hid7 := Hd.mk hid'
    clear hid hid5 hid' hnz hq hq'
    repeat' (first | refine And.intro (by first | omega | (dsimp only; omega) | (show (_ : Bool) = true; kernel_rfl) | decide | (repeat' (first | refine And.intro ?_ ?_ | exact trivial | exact rfl))) ?_ | refine bcs_dec (fun h => ?_) (fun h => False.elim (by first | omega | exact h rfl)) | refine bcs_dec (fun h => False.elim (by omega)) (fun h => ?_) | refine bcs_dec (fun h => ?_) (fun h => ?_) | refine bcs_ndec (fun h => ?_) (fun h => ?_) | refine bcs_not ?_ | refine bcs_intro (fun h => ?_) (fun h => ?_) | refine And.intro ?_ ?_ | refine reg_tail (by kernel_rfl) ?_)
    refine call_rule [.at 0 b.x, .at 1 b.y] (cS) hG ?_ ?_
    · (refine ⟨?_, ?_, rfl, rfl, rfl⟩ <;> repeat' (first | refine And.intro ?_ ?_ | exact trivial | exact rfl | refine lt0 | refine lt1 ?_ | refine lt2 ?_ ?_ | refine lt3 ?_ ?_ ?_ | refine lt4 ?_ ?_ ?_ ?_ | exact veq_refl _ | decide | (intro i hi; repeat' (first | refine And.intro ?_ ?_ | exact trivial | exact rfl))))
      all_goals first | exact Nat.le_refl _ | omega
    rintro _ _ _ ⟨rfl, rfl, rfl⟩
    repeat' (first | refine Both.mk ?_ ?_ | refine And.intro (by first | (show (_ : Bool) = true; kernel_rfl) | omega | (dsimp only; omega) | decide | (repeat' (first | refine And.intro ?_ ?_ | exact trivial | exact rfl))) ?_ | refine bcs_dec (fun h => ?_) (fun h => False.elim (by first | omega | exact h rfl)) | refine bcs_dec (fun h => False.elim (by omega)) (fun h => ?_) | refine bcs_dec (fun h => ?_) (fun h => ?_) | refine bcs_ndec (fun h => ?_) (fun h => ?_) | refine bcs_not ?_ | refine And.intro ?_ ?_)
    all_goals first
      | omega
      | skip
    refine reg_ord [7] (.early 0 (.early 1 (.early 2 (.early 3 (.early 4 (.early 5 (.early 6 (.early 7 (.early 8 (.early 9 (.early 10 (.early 11 (.early 12 (.early 14 (.early 15 (.early 16 (.early 17 (.early 18 (.early 19 (.early 20 (.early 21 (.early 22 (.early 23 (.early 24 (.early 25 (.early 26 (.early 27 (.early 28 (.early 29 (.fork 13 (.late 30 (.late 31 (.late 32 (.late 33 .nil)))) 30 (.late 13 (.late 31 (.late 32 (.late 33 .nil)))))))))))))))))))))))))))))))))) (by decide +kernel) rfl ?_
    intro B' hB'
    have hG' := hG
    have hG := hB'.trans hG
    repeat' (first | refine Both.mk ?_ ?_ | refine And.intro (by first | (show (_ : Bool) = true; kernel_rfl) | omega | (dsimp only; omega) | decide | (repeat' (first | refine And.intro ?_ ?_ | exact trivial | exact rfl))) ?_ | refine bcs_dec (fun h => ?_) (fun h => False.elim (by first | omega | exact h rfl)) | refine bcs_dec (fun h => False.elim (by omega)) (fun h => ?_) | refine bcs_dec (fun h => ?_) (fun h => ?_) | refine bcs_ndec (fun h => ?_) (fun h => ?_) | refine bcs_not ?_ | refine And.intro ?_ ?_)
    all_goals first
      | omega
      | skip
    all_goals
      skip
      refine appG bxEnc Bx.d r [⟨b.x, q.1, b.y, q.2.1⟩, ⟨b.x + q.2.2.1, b.n - q.2.2.1, b.y + q.2.2.2, b.m - q.2.2.2⟩] (by omega) (fun j hj => by rw [← gr j hj]) rfl (lt2 rfl rfl) ?_
      repeat' (first | refine Both.mk ?_ ?_ | refine And.intro (by first | (show (_ : Bool) = true; kernel_rfl) | omega | (dsimp only; omega) | decide | (repeat' (first | refine And.intro ?_ ?_ | exact trivial | exact rfl))) ?_ | refine bcs_dec (fun h => ?_) (fun h => False.elim (by first | omega | exact h rfl)) | refine bcs_dec (fun h => False.elim (by omega)) (fun h => ?_) | refine bcs_dec (fun h => ?_) (fun h => ?_) | refine bcs_ndec (fun h => ?_) (fun h => ?_) | refine bcs_not ?_ | refine And.intro ?_ ?_)
    all_goals first
      | omega
      | skip
    all_goals
      refine ⟨stepF A C s, [.at 2 0, .at 3 0, .at 4 0, .at 5 0, .at 10 0], ⟨hid2.out, hid3.out⟩, hid4.out, ?_⟩
      rw [hid7.out]
      (refine ⟨rfl, rfl, ?_, ?_⟩ <;> repeat' (first | refine And.intro ?_ ?_ | exact trivial | exact rfl | refine lt0 | refine lt1 ?_ | refine lt2 ?_ ?_ | refine lt3 ?_ ?_ ?_ | refine lt4 ?_ ?_ ?_ ?_ | exact veq_refl _ | decide | (intro i hi; repeat' (first | refine And.intro ?_ ?_ | exact trivial | exact rfl))))
      all_goals first | exact Nat.le_refl _ | omega | (dsimp only; omega) | (dsimp only; rw [List.length_append]; simp only [List.length_cons, List.length_nil]; omega) | (simp; done) | (show @Eq Int _ _; omega)
end Go.Proofs.Ytdabahipeepheaa
