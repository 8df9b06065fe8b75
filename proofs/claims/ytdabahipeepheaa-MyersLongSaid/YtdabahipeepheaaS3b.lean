/- Chapter 7: the middle: a round over all diagonals, from the end. Printed by gen_s3.py. -/
import Derived.Test.YtdabahipeepheaaR3b
namespace Go.Proofs.Ytdabahipeepheaa
open Go Go.RowKit Vc

set_option maxRecDepth 100000 in
set_option maxHeartbeats 64000000 in
theorem k_loop0 (A C : Nat → Int) (n m : Nat) (hn : n ≤ 1048576) (hm : m ≤ 1048576) (z : Nat) (odd o : Int) (ho : o = 0) (hz : 2 * ((min n m : Nat) : Int) + 2 = (z : Int)) (hodd : odd = ((n + m : Nat) : Int) % 2) (p hh : Nat) (hhl : hh ≤ n + m + 1) (F R : List Int) (lF : F.length = z) (lR : R.length = z)
    (k0 : Int) (hk0 : k0 = -((hh : Int) - 2 * max 0 ((hh : Int) - m))) (hin : RowIn (gA A C n m) n m z R hh k0) (hrd : (∀ h', h' + 0 = hh → RowAt (fA A C n m) n m z F h')) (hT : (n + m) % 2 = 0 → 2 * hh ≤ n + m - 2 * mq (fA A C n m) n m) (B : Bs) (hG : B.glob = glob) (E : Nat → St → Prop) (s0 : St) (new0 : List Kp)
    (hs : Sub 2 new0 s0 (kSt A C n m z odd hh o 3 2 p k0 F R)) :
    LoopP ⟨Try.prog, tab, B, 229, 2⟩ (loopOf 4 Try.f21) s0 (fun i s' => bif Nat.beq i 4 then (∃ (y : List Int × Int) (new : List Kp), (y.1.length = z ∧ RowAt (gA A C n m) n m z y.1 hh ∧ ((n + m) % 2 = 0 → 2 * hh + 2 ≤ n + m - 2 * mq (fA A C n m) n m) ∧ -4194304 ≤ y.2 ∧ y.2 ≤ 4194304) ∧ Sub 2 new s' (kSt A C n m z odd hh o 3 2 p y.2 F y.1)) else E i s')
      (RetP 2 tab [.tmp 4, .tmp 5, .tmp 6, .tmp 7] (snkQ A C n m)) := by
  have hqle := (mq_most (fA A C n m) n m).1.le
  refine loop_rule (α := List Int × Int) (fun y => kSt A C n m z odd hh o 3 2 p y.2 F y.1)
    (kInv0 A C n m z hh k0) (fun y => ((hh : Int) + 2 - y.2).toNat) (R, k0) new0 ?_ hs ?_
  · refine ⟨by exact lR, hin, Int.le_refl _, by omega, by omega, fun hp e he hmt => ?_⟩
    obtain ⟨h1, h2, h3, h4⟩ := hmt
    omega
  rintro ⟨G, k⟩ hC
  show vcCode ⟨Try.prog, tab, B, 229, 2⟩ _ (kSt A C n m z odd hh o 3 2 p k F G) _ _ _
  have hC' := hC
  obtain ⟨c1, c2, c3, c4, c5, c6⟩ := hC'
  dsimp only at c1 c2 c3 c4 c5 c6
  clear hs hin
  have hz0 : 0 < (z : Int) := by omega
  have hz1 : (z : Int) ≤ 4611686018427387904 := by omega
  have hkb : -4194304 ≤ k ∧ k ≤ 4194304 := by omega
  have hhb : hh ≤ 4194304 := by omega
  have hidx : ∀ G' : List Int, [.at 2 0, .at 3 0, .at 4 0] = ([.at 2 0, .at 3 0, .at 4 0] : List Kp) := fun _ => rfl
  by_cases hc : k ≤ (hh : Int) - 2 * max 0 ((hh : Int) - n)
  · obtain ⟨i, j, hij, hk, hi, hj⟩ : ∃ i j : Nat, i + j = hh ∧ (i : Int) - j = k ∧ i ≤ n ∧ j ≤ m := ⟨(((hh : Int) + k) / 2).toNat, (((hh : Int) - k) / 2).toNat, by omega, by omega, by omega, by omega⟩
    obtain ⟨rd1, rd2, rd3⟩ := c2.read hij hk hi hj
    obtain ⟨lx1, lx2, lx3, lx4⟩ := l0_max (gA A C n m) i j
    have lwm := Lw_most (pairA A C n m).symm ((mq_most (fA A C n m) n m).turn (pairA A C n m)) i j
    have w1 := mod_in (k - 1) hz0
    have w2 := mod_in (k + 1) hz0
    have lw1 : 0 < i → Lw (gA A C n m) (i - 1) j ≤ n := fun _ => by have := Lw_most (pairA A C n m).symm ((mq_most (fA A C n m) n m).turn (pairA A C n m)) (i - 1) j; omega
    have lw2 : 0 < j → Lw (gA A C n m) i (j - 1) ≤ n := fun _ => by have := Lw_most (pairA A C n m).symm ((mq_most (fA A C n m) n m).turn (pairA A C n m)) i (j - 1); omega
    obtain ⟨x, hx⟩ : ∃ x, x = i + l0 (gA A C n m) i j := ⟨_, rfl⟩
    obtain ⟨y, hy⟩ : ∃ y, y = j + l0 (gA A C n m) i j := ⟨_, rfl⟩
    have hxy : (x : Int) - k = y := by omega
    obtain ⟨V1, hV1⟩ : ∃ v, v = G.getD (0 + ((k - 1) % (z : Int)).toNat) 0 := ⟨_, rfl⟩
    obtain ⟨V2, hV2⟩ : ∃ v, v = G.getD (0 + ((k + 1) % (z : Int)).toNat) 0 := ⟨_, rfl⟩
    have hx1 : x ≤ 4194304 ∧ y ≤ 4194304 := by
      rcases Nat.eq_zero_or_pos i with q1 | q1 <;> rcases Nat.eq_zero_or_pos j with q2 | q2
      · have := lx4 q1 q2; omega
      · have := lx2 q1 q2; have := lw2 q2; omega
      · have := lx3 q1 q2; have := lw1 q1; omega
      · have := lx1 q1 q2; have := lw1 q1; have := lw2 q2; omega
    have hw : (k = -(hh : Int) ∧ V2 = x) ∨ (k ≠ -(hh : Int) ∧ k = hh ∧ V1 + 1 = x) ∨ (k ≠ -(hh : Int) ∧ k ≠ hh ∧ 0 ≤ V1 ∧ V1 ≤ 4194304 ∧ (V1 < V2 → V2 = x) ∧ (¬ V1 < V2 → V1 + 1 = x)) := by
      rw [hV1, hV2, Nat.zero_add, Nat.zero_add]
      rcases Nat.eq_zero_or_pos i with q1 | q1 <;> rcases Nat.eq_zero_or_pos j with q2 | q2
      · have := lx4 q1 q2; have := rd3 q1 q2; omega
      · have := lx2 q1 q2; have := rd2 q2; omega
      · have := lx3 q1 q2; have := rd1 q1; omega
      · have := lx1 q1 q2; have := rd1 q1; have := rd2 q2; have := lw1 q1; omega
    have hide : Hd (kInv0 A C n m z hh k0 (G, k) ∧ RowIn (gA A C n m) n m z G hh k ∧ k0 ≤ k ∧ (k - hh) % 2 = 0 ∧ ((n + m) % 2 = 0 → ∀ e : Nat, 2 * (e : Int) < k + hh → ¬ Meet (gA A C n m) (fA A C n m) n m ((n + m + 0) / 2 - hh) hh e) ∧ k ≤ (hh : Int) - 2 * max 0 ((hh : Int) - n) ∧ hh ≤ n + m + 1 ∧ 2 * ((min n m : Nat) : Int) + 2 = (z : Int) ∧ odd = ((n + m : Nat) : Int) % 2 ∧ ((n + m) % 2 = 0 → 2 * hh ≤ n + m - 2 * mq (fA A C n m) n m) ∧ (∀ h', h' + 0 = hh → RowAt (fA A C n m) n m z F h') ∧ i + j = hh ∧ (i : Int) - j = k ∧ i ≤ n ∧ j ≤ m ∧ x = i + l0 (gA A C n m) i j ∧ y = j + l0 (gA A C n m) i j ∧ Lw (gA A C n m) i j ≤ mq (fA A C n m) n m ∧ k ≤ hh + 2 ∧ (0 + mq (fA A C n m) n m ≤ n ∧ 0 + mq (fA A C n m) n m ≤ m)) :=
      ⟨hC, c2, c3, c5, c6, hc, hhl, hz, hodd, hT, hrd, hij, hk, hi, hj, hx, hy, lwm, c4, hqle⟩
    clear hC c2 c3 c5 c6 hhl hz hodd hT hrd hij hk hi hj hx hy lwm c4 hqle rd1 rd2 rd3 lx1 lx2 lx3 lx4 lw1 lw2 hk0
    apply use_rest1 (C := fun r : Nat => (∀ e, e < r → (gA A C n m) (x + e) (y + e) = true) ∧ (gA A C n m) (x + r) (y + r) = false)
    · intro hrest
      have hw' := hw
      have cA := wrap_con (k - 1) z hz0 hz1
      have cB := wrap_con (k + 1) z hz0 hz1
      rcases hw' with ⟨k1, k2⟩ | ⟨k0', k1, k2⟩ | ⟨k0', k1, k2, k3, k4, k5⟩
      all_goals
        skip
        repeat' (first | refine Both.mk ?_ ?_ | refine And.intro (by first | (show (_ : Bool) = true; kernel_rfl) | omega | (dsimp only; omega) | decide | (repeat' (first | refine And.intro ?_ ?_ | exact trivial | exact rfl))) ?_ | refine bcs_dec (fun h => ?_) (fun h => False.elim (by first | omega | exact h rfl)) | refine bcs_dec (fun h => False.elim (by omega)) (fun h => ?_) | refine bcs_dec (fun h => ?_) (fun h => ?_) | refine bcs_ndec (fun h => ?_) (fun h => ?_) | refine bcs_not ?_ | refine And.intro ?_ ?_)
        all_goals first
          | omega
          | skip
        refine reg_ord [3] (.early 0 (.late 1 (.late 2 (.late 3 (.late 4 (.early 5 (.late 6 (.late 7 (.late 8 (.early 9 (.early 10 (.early 11 (.early 12 (.early 16 (.early 17 (.early 18 (.early 19 (.late 13 (.early 14 (.early 15 (.late 20 (.late 21 (.late 22 (.late 23 (.late 24 (.late 25 .nil)))))))))))))))))))))))))) (by decide +kernel) rfl ?_
        intro B' hB'
        have hG' := hG
        have hG := hB'.trans hG
        repeat' (first | refine Both.mk ?_ ?_ | refine And.intro (by first | (show (_ : Bool) = true; kernel_rfl) | omega | (dsimp only; omega) | decide | (repeat' (first | refine And.intro ?_ ?_ | exact trivial | exact rfl))) ?_ | refine bcs_dec (fun h => ?_) (fun h => False.elim (by first | omega | exact h rfl)) | refine bcs_dec (fun h => False.elim (by omega)) (fun h => ?_) | refine bcs_dec (fun h => ?_) (fun h => ?_) | refine bcs_ndec (fun h => ?_) (fun h => ?_) | refine bcs_not ?_ | refine And.intro ?_ ?_)
        all_goals first
          | omega
          | skip
      · have hG := hG'
        refine call_rule [] (cB) hG ?_ ?_
        · (refine ⟨?_, ?_, rfl, rfl, rfl⟩ <;> repeat' (first | refine And.intro ?_ ?_ | exact trivial | exact rfl | refine lt0 | refine lt1 ?_ | refine lt2 ?_ ?_ | refine lt3 ?_ ?_ ?_ | refine lt4 ?_ ?_ ?_ ?_ | exact veq_refl _ | decide | (intro i hi; repeat' (first | refine And.intro ?_ ?_ | exact trivial | exact rfl))))
          all_goals first | exact Nat.le_refl _ | omega
        rintro _ _ _ ⟨rfl, rfl, rfl⟩
        ((repeat' (first | refine Both.mk ?_ ?_ | refine And.intro (by first | (show (_ : Bool) = true; kernel_rfl) | omega | (dsimp only; omega) | decide | (repeat' (first | refine And.intro ?_ ?_ | exact trivial | exact rfl))) ?_ | refine bcs_dec (fun h => ?_) (fun h => False.elim (by first | omega | exact h rfl)) | refine bcs_dec (fun h => False.elim (by omega)) (fun h => ?_) | refine bcs_dec (fun h => ?_) (fun h => ?_) | refine bcs_ndec (fun h => ?_) (fun h => ?_) | refine bcs_not ?_ | refine And.intro ?_ ?_)); refine loop_out (fun r => sSt A C n m z odd hh o 3 2 p k F G x y r) _ (slide_loop0 A C n m hn hm z odd hh o ho p k F G x y hx1.1 hx1.2 B _ _ _ [.at 2 0, .at 3 0, .at 4 0] ?_) hrest; ((refine ⟨rfl, rfl, ?_, ?_⟩ <;> repeat' (first | refine And.intro ?_ ?_ | exact trivial | exact rfl | refine lt0 | refine lt1 ?_ | refine lt2 ?_ ?_ | refine lt3 ?_ ?_ ?_ | refine lt4 ?_ ?_ ?_ ?_ | exact veq_refl _ | decide | (intro i hi; repeat' (first | refine And.intro ?_ ?_ | exact trivial | exact rfl))))); all_goals first | exact Nat.le_refl _ | omega | exact veq_refl _ | (show @Eq Int _ _; omega))
      · have hG := hG'
        refine call_rule [] (cA) hG ?_ ?_
        · (refine ⟨?_, ?_, rfl, rfl, rfl⟩ <;> repeat' (first | refine And.intro ?_ ?_ | exact trivial | exact rfl | refine lt0 | refine lt1 ?_ | refine lt2 ?_ ?_ | refine lt3 ?_ ?_ ?_ | refine lt4 ?_ ?_ ?_ ?_ | exact veq_refl _ | decide | (intro i hi; repeat' (first | refine And.intro ?_ ?_ | exact trivial | exact rfl))))
          all_goals first | exact Nat.le_refl _ | omega
        rintro _ _ _ ⟨rfl, rfl, rfl⟩
        ((repeat' (first | refine Both.mk ?_ ?_ | refine And.intro (by first | (show (_ : Bool) = true; kernel_rfl) | omega | (dsimp only; omega) | decide | (repeat' (first | refine And.intro ?_ ?_ | exact trivial | exact rfl))) ?_ | refine bcs_dec (fun h => ?_) (fun h => False.elim (by first | omega | exact h rfl)) | refine bcs_dec (fun h => False.elim (by omega)) (fun h => ?_) | refine bcs_dec (fun h => ?_) (fun h => ?_) | refine bcs_ndec (fun h => ?_) (fun h => ?_) | refine bcs_not ?_ | refine And.intro ?_ ?_)); refine loop_out (fun r => sSt A C n m z odd hh o 3 2 p k F G x y r) _ (slide_loop0 A C n m hn hm z odd hh o ho p k F G x y hx1.1 hx1.2 B _ _ _ [.at 2 0, .at 3 0, .at 4 0] ?_) hrest; ((refine ⟨rfl, rfl, ?_, ?_⟩ <;> repeat' (first | refine And.intro ?_ ?_ | exact trivial | exact rfl | refine lt0 | refine lt1 ?_ | refine lt2 ?_ ?_ | refine lt3 ?_ ?_ ?_ | refine lt4 ?_ ?_ ?_ ?_ | exact veq_refl _ | decide | (intro i hi; repeat' (first | refine And.intro ?_ ?_ | exact trivial | exact rfl))))); all_goals first | exact Nat.le_refl _ | omega | exact veq_refl _ | (show @Eq Int _ _; omega))
      · skip
        refine call_rule [] (cA) hG ?_ ?_
        · (refine ⟨?_, ?_, rfl, rfl, rfl⟩ <;> repeat' (first | refine And.intro ?_ ?_ | exact trivial | exact rfl | refine lt0 | refine lt1 ?_ | refine lt2 ?_ ?_ | refine lt3 ?_ ?_ ?_ | refine lt4 ?_ ?_ ?_ ?_ | exact veq_refl _ | decide | (intro i hi; repeat' (first | refine And.intro ?_ ?_ | exact trivial | exact rfl))))
          all_goals first | exact Nat.le_refl _ | omega
        rintro _ _ _ ⟨rfl, rfl, rfl⟩
        (repeat' (first | refine Both.mk ?_ ?_ | refine And.intro (by first | (show (_ : Bool) = true; kernel_rfl) | omega | (dsimp only; omega) | decide | (repeat' (first | refine And.intro ?_ ?_ | exact trivial | exact rfl))) ?_ | refine bcs_dec (fun h => ?_) (fun h => False.elim (by first | omega | exact h rfl)) | refine bcs_dec (fun h => False.elim (by omega)) (fun h => ?_) | refine bcs_dec (fun h => ?_) (fun h => ?_) | refine bcs_ndec (fun h => ?_) (fun h => ?_) | refine bcs_not ?_ | refine And.intro ?_ ?_))
        refine call_rule [] (cB) hG ?_ ?_
        · (refine ⟨?_, ?_, rfl, rfl, rfl⟩ <;> repeat' (first | refine And.intro ?_ ?_ | exact trivial | exact rfl | refine lt0 | refine lt1 ?_ | refine lt2 ?_ ?_ | refine lt3 ?_ ?_ ?_ | refine lt4 ?_ ?_ ?_ ?_ | exact veq_refl _ | decide | (intro i hi; repeat' (first | refine And.intro ?_ ?_ | exact trivial | exact rfl))))
          all_goals first | exact Nat.le_refl _ | omega
        rintro _ _ _ ⟨rfl, rfl, rfl⟩
        (repeat' (first | refine Both.mk ?_ ?_ | refine And.intro (by first | (show (_ : Bool) = true; kernel_rfl) | omega | (dsimp only; omega) | decide | (repeat' (first | refine And.intro ?_ ?_ | exact trivial | exact rfl))) ?_ | refine bcs_dec (fun h => ?_) (fun h => False.elim (by first | omega | exact h rfl)) | refine bcs_dec (fun h => False.elim (by omega)) (fun h => ?_) | refine bcs_dec (fun h => ?_) (fun h => ?_) | refine bcs_ndec (fun h => ?_) (fun h => ?_) | refine bcs_not ?_ | refine And.intro ?_ ?_))
        · have hG := hG'
          refine call_rule [] (cB) hG ?_ ?_
          · (refine ⟨?_, ?_, rfl, rfl, rfl⟩ <;> repeat' (first | refine And.intro ?_ ?_ | exact trivial | exact rfl | refine lt0 | refine lt1 ?_ | refine lt2 ?_ ?_ | refine lt3 ?_ ?_ ?_ | refine lt4 ?_ ?_ ?_ ?_ | exact veq_refl _ | decide | (intro i hi; repeat' (first | refine And.intro ?_ ?_ | exact trivial | exact rfl))))
            all_goals first | exact Nat.le_refl _ | omega
          rintro _ _ _ ⟨rfl, rfl, rfl⟩
          ((repeat' (first | refine Both.mk ?_ ?_ | refine And.intro (by first | (show (_ : Bool) = true; kernel_rfl) | omega | (dsimp only; omega) | decide | (repeat' (first | refine And.intro ?_ ?_ | exact trivial | exact rfl))) ?_ | refine bcs_dec (fun h => ?_) (fun h => False.elim (by first | omega | exact h rfl)) | refine bcs_dec (fun h => False.elim (by omega)) (fun h => ?_) | refine bcs_dec (fun h => ?_) (fun h => ?_) | refine bcs_ndec (fun h => ?_) (fun h => ?_) | refine bcs_not ?_ | refine And.intro ?_ ?_)); refine loop_out (fun r => sSt A C n m z odd hh o 3 2 p k F G x y r) _ (slide_loop0 A C n m hn hm z odd hh o ho p k F G x y hx1.1 hx1.2 B _ _ _ [.at 2 0, .at 3 0, .at 4 0] ?_) hrest; ((refine ⟨rfl, rfl, ?_, ?_⟩ <;> repeat' (first | refine And.intro ?_ ?_ | exact trivial | exact rfl | refine lt0 | refine lt1 ?_ | refine lt2 ?_ ?_ | refine lt3 ?_ ?_ ?_ | refine lt4 ?_ ?_ ?_ ?_ | exact veq_refl _ | decide | (intro i hi; repeat' (first | refine And.intro ?_ ?_ | exact trivial | exact rfl))))); all_goals first | exact Nat.le_refl _ | omega | exact veq_refl _ | (show @Eq Int _ _; omega))
        · have hG := hG'
          refine call_rule [] (cA) hG ?_ ?_
          · (refine ⟨?_, ?_, rfl, rfl, rfl⟩ <;> repeat' (first | refine And.intro ?_ ?_ | exact trivial | exact rfl | refine lt0 | refine lt1 ?_ | refine lt2 ?_ ?_ | refine lt3 ?_ ?_ ?_ | refine lt4 ?_ ?_ ?_ ?_ | exact veq_refl _ | decide | (intro i hi; repeat' (first | refine And.intro ?_ ?_ | exact trivial | exact rfl))))
            all_goals first | exact Nat.le_refl _ | omega
          rintro _ _ _ ⟨rfl, rfl, rfl⟩
          ((repeat' (first | refine Both.mk ?_ ?_ | refine And.intro (by first | (show (_ : Bool) = true; kernel_rfl) | omega | (dsimp only; omega) | decide | (repeat' (first | refine And.intro ?_ ?_ | exact trivial | exact rfl))) ?_ | refine bcs_dec (fun h => ?_) (fun h => False.elim (by first | omega | exact h rfl)) | refine bcs_dec (fun h => False.elim (by omega)) (fun h => ?_) | refine bcs_dec (fun h => ?_) (fun h => ?_) | refine bcs_ndec (fun h => ?_) (fun h => ?_) | refine bcs_not ?_ | refine And.intro ?_ ?_)); refine loop_out (fun r => sSt A C n m z odd hh o 3 2 p k F G x y r) _ (slide_loop0 A C n m hn hm z odd hh o ho p k F G x y hx1.1 hx1.2 B _ _ _ [.at 2 0, .at 3 0, .at 4 0] ?_) hrest; ((refine ⟨rfl, rfl, ?_, ?_⟩ <;> repeat' (first | refine And.intro ?_ ?_ | exact trivial | exact rfl | refine lt0 | refine lt1 ?_ | refine lt2 ?_ ?_ | refine lt3 ?_ ?_ ?_ | refine lt4 ?_ ?_ ?_ ?_ | exact veq_refl _ | decide | (intro i hi; repeat' (first | refine And.intro ?_ ?_ | exact trivial | exact rfl))))); all_goals first | exact Nat.le_refl _ | omega | exact veq_refl _ | (show @Eq Int _ _; omega))
    · intro r hr
      obtain ⟨hC, c2, c3, c5, c6, hc, hhl, hz, hodd, hT, hrd, hij, hk, hi, hj, hx, hy, lwm, c4, hqle⟩ := hide.out
      exact k_rest0 A C n m hn hm z odd o ho hz hodd p hh hhl F R lF lR k0 hrd hT B hG _ _ G k i j x y r hC hc hij hk hi hj hx hy hx1 hr
  · skip
    repeat' (first | refine Both.mk ?_ ?_ | refine And.intro (by first | (show (_ : Bool) = true; kernel_rfl) | omega | (dsimp only; omega) | decide | (repeat' (first | refine And.intro ?_ ?_ | exact trivial | exact rfl))) ?_ | refine bcs_dec (fun h => ?_) (fun h => False.elim (by first | omega | exact h rfl)) | refine bcs_dec (fun h => False.elim (by omega)) (fun h => ?_) | refine bcs_dec (fun h => ?_) (fun h => ?_) | refine bcs_ndec (fun h => ?_) (fun h => ?_) | refine bcs_not ?_ | refine And.intro ?_ ?_)
    all_goals first
      | omega
      | skip
    refine ⟨(G, k), [.at 2 0, .at 3 0, .at 4 0], ⟨c1, c2.all (by omega), fun hp => ?_, by dsimp only; omega, by dsimp only; omega⟩, ?_⟩
    · have hT' := hT hp
      have hne := none_meet (f := (gA A C n m)) (g := (fA A C n m)) (t := (n + m + 0) / 2 - hh) (pairA A C n m).symm ((mq_most (fA A C n m) n m).turn (pairA A C n m)) (h := hh) (by omega) (fun e hmt => c6 hp e (by obtain ⟨m1, m2, m3, m4⟩ := hmt; omega) hmt)
      omega
    · (refine ⟨rfl, rfl, ?_, ?_⟩ <;> repeat' (first | refine And.intro ?_ ?_ | exact trivial | exact rfl | refine lt0 | refine lt1 ?_ | refine lt2 ?_ ?_ | refine lt3 ?_ ?_ ?_ | refine lt4 ?_ ?_ ?_ ?_ | exact veq_refl _ | decide | (intro i hi; repeat' (first | refine And.intro ?_ ?_ | exact trivial | exact rfl))))
      all_goals first | exact Nat.le_refl _ | omega | (simp; done) | (show @Eq Int _ _; omega)
end Go.Proofs.Ytdabahipeepheaa
