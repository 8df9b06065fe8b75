/- Chapter 7: the script, change by change. -/
import Derived.Test.YtdabahipeepheaaS9
namespace Go.Proofs.Ytdabahipeepheaa
open Go Go.RowKit Vc


set_option maxRecDepth 100000 in
set_option maxHeartbeats 64000000 in
theorem d_loop (f : Nat → Nat → Bool) (A C : Nat → Int) (n m : Nat) (hn : n ≤ 1048576) (hm : m ≤ 1048576) (g c : List Bool) (lg : g.length = n) (lc : c.length = m) (l0 : Nat) (hal : Al f g c n m 0 0 l0) (B : Bs) (E : Nat → St → Prop) (U : St → Prop) (s0 : St) (new0 : List Kp)
    (hs : Sub 2 new0 s0 (dSt A C n m g c [] 0 0)) :
    LoopP ⟨Try.prog, tab, B, 77, 2⟩ (loopOf 0 Try.f13) s0 (fun i s' => bif Nat.beq i 0 then (∃ (y : Nat × Nat) (new : List Kp), True ∧ Sub 2 new s' (dSt A C n m g c (chgs g c n m) y.1 y.2)) else E i s') U := by
  refine loop_rule (α := Nat × Nat × List Chg) (fun (x, y, out) => dSt A C n m g c out x y) (fun (x, y, out) => (∃ l, Al f g c n m x y l) ∧ out.length ≤ x + y ∧ out ++ difF g c n m (n - x + (m - y)) x y = chgs g c n m) (fun (x, y, _) => n - x + (m - y)) (0, 0, []) new0 ⟨⟨l0, hal⟩, Nat.le_refl _, rfl⟩ hs ?_
  clear hal hs l0
  rintro ⟨x, y, out⟩ ⟨⟨l, hal⟩, ho, hd⟩
  have hle := hal.le
  by_cases hxy : x < n ∨ y < m
  · obtain ⟨a1, a2⟩ := skF_le g n (n - x) x
    obtain ⟨b1, b2⟩ := skF_le c m (m - y) y
    have hs := (hal.skipsG (n - x)).skipsC (m - y)
    have o1 := skF_out g n (n - x) x (by omega)
    have o2 := skF_out c m (m - y) y (by omega)
    have hm1 := dif_more (g := g) (c := c) hxy
    have hm2 := dif_next (g := g) (c := c) hxy
    obtain ⟨x', hx'⟩ : ∃ t, t = skF g n (n - x) x := ⟨_, rfl⟩
    obtain ⟨y', hy'⟩ : ∃ t, t = skF c m (m - y) y := ⟨_, rfl⟩
    have cg := g_loop A C n m (by omega) g c lg out x y x y (by omega) B
    have cc := c_loop A C n m (by omega) g c lc out x y x' y (by omega) B
    rw [← hx'] at a1 a2 hs o1 hm1 hm2 cg
    rw [← hy'] at b1 b2 hs o2 hm1 hm2 cc
    have hl2 := hs.le
    have hnx : ¬ (0 < (x' - x) + (y' - y)) → (∃ l', Al f g c n m (x + 1) (y + 1) l') ∧ x < n ∧ y < m := by
      intro h2
      have e1 : x' = x := by omega
      have e2 : y' = y := by omega
      rw [e1, e2] at hs
      rw [e1] at o1
      rw [e2] at o2
      cases hs with
      | fin => omega
      | gone h3 h4 _ => exact absurd ⟨h3, h4⟩ o1
      | come h3 h4 _ => exact absurd ⟨h3, h4⟩ o2
      | both h3 h4 h5 h6 h7 h8 => exact ⟨⟨_, h8⟩, h3, h4⟩
    rw [show ((x' - x : Nat) : Int) = (x' : Int) - x by omega, show ((y' - y : Nat) : Int) = (y' : Int) - y by omega] at hm1
    have hid := Hd.mk (And.intro hm1 (And.intro hm2 (And.intro hs hd)))
    have hid2 := Hd.mk hnx
    clear hm1 hm2 hs o1 o2 hd hx' hy' hal hnx
    have hl3 : x' ≤ n ∧ y' ≤ m := by omega
    clear a2 b2 hl2 hle
    repeat' (first | refine And.intro (by first | (show (_ : Bool) = true; kernel_rfl) | omega | (dsimp only; omega) | decide | (repeat' (first | refine And.intro ?_ ?_ | exact trivial | exact rfl))) ?_ | refine bcs_dec (fun h => ?_) (fun h => False.elim (by first | omega | exact h rfl)) | refine bcs_dec (fun h => False.elim (by omega)) (fun h => ?_) | refine bcs_dec (fun h => ?_) (fun h => ?_) | refine bcs_ndec (fun h => ?_) (fun h => ?_) | refine bcs_not ?_ | refine bcs_intro (fun h => ?_) (fun h => ?_) | refine And.intro ?_ ?_ | refine reg_tail (by kernel_rfl) ?_)
    all_goals first
      | omega
      | skip
    all_goals
      skip
      refine loop_out (fun _ : Unit => eSt A C n m g c out x y x' y) _ (cg _ _ _ [.at 2 0, .at 3 0, .at 4 0, .at 5 0, .at 6 0] ?_) ?_
      · (refine ⟨rfl, rfl, ?_, ?_⟩ <;> repeat' (first | refine And.intro ?_ ?_ | exact trivial | exact rfl | refine lt0 | refine lt1 ?_ | refine lt2 ?_ ?_ | refine lt3 ?_ ?_ ?_ | refine lt4 ?_ ?_ ?_ ?_ | exact veq_refl _ | decide | (intro i hi; repeat' (first | refine And.intro ?_ ?_ | exact trivial | exact rfl))))
        all_goals first | exact Nat.le_refl _ | omega | (dsimp only; omega) | (simp; done) | (show @Eq Int _ _; omega)
      intro _ _
      repeat' (first | refine And.intro (by first | (show (_ : Bool) = true; kernel_rfl) | omega | (dsimp only; omega) | decide | (repeat' (first | refine And.intro ?_ ?_ | exact trivial | exact rfl))) ?_ | refine bcs_dec (fun h => ?_) (fun h => False.elim (by first | omega | exact h rfl)) | refine bcs_dec (fun h => False.elim (by omega)) (fun h => ?_) | refine bcs_dec (fun h => ?_) (fun h => ?_) | refine bcs_ndec (fun h => ?_) (fun h => ?_) | refine bcs_not ?_ | refine bcs_intro (fun h => ?_) (fun h => ?_) | refine And.intro ?_ ?_ | refine reg_tail (by kernel_rfl) ?_)
      all_goals first
        | omega
        | skip
      refine loop_out (fun _ : Unit => eSt A C n m g c out x y x' y') _ (cc _ _ _ [.at 2 0, .at 3 0, .at 4 0, .at 5 0, .at 6 0] ?_) ?_
      · (refine ⟨rfl, rfl, ?_, ?_⟩ <;> repeat' (first | refine And.intro ?_ ?_ | exact trivial | exact rfl | refine lt0 | refine lt1 ?_ | refine lt2 ?_ ?_ | refine lt3 ?_ ?_ ?_ | refine lt4 ?_ ?_ ?_ ?_ | exact veq_refl _ | decide | (intro i hi; repeat' (first | refine And.intro ?_ ?_ | exact trivial | exact rfl))))
        all_goals first | exact Nat.le_refl _ | omega | (dsimp only; omega) | (simp; done) | (show @Eq Int _ _; omega)
      intro _ _
      repeat' (first | refine And.intro (by first | (show (_ : Bool) = true; kernel_rfl) | omega | (dsimp only; omega) | decide | (repeat' (first | refine And.intro ?_ ?_ | exact trivial | exact rfl))) ?_ | refine bcs_dec (fun h => ?_) (fun h => False.elim (by first | omega | exact h rfl)) | refine bcs_dec (fun h => False.elim (by omega)) (fun h => ?_) | refine bcs_dec (fun h => ?_) (fun h => ?_) | refine bcs_ndec (fun h => ?_) (fun h => ?_) | refine bcs_not ?_ | refine bcs_intro (fun h => ?_) (fun h => ?_) | refine And.intro ?_ ?_ | refine reg_tail (by kernel_rfl) ?_)
      all_goals first
        | omega
        | skip
      · refine app1 Chg.enc Chg.d out ⟨x, (x' : Int) - x, y, (y' : Int) - y⟩ rfl rfl ?_
        repeat' (first | refine And.intro (by first | (show (_ : Bool) = true; kernel_rfl) | omega | (dsimp only; omega) | decide | (repeat' (first | refine And.intro ?_ ?_ | exact trivial | exact rfl))) ?_ | refine bcs_dec (fun h => ?_) (fun h => False.elim (by first | omega | exact h rfl)) | refine bcs_dec (fun h => False.elim (by omega)) (fun h => ?_) | refine bcs_dec (fun h => ?_) (fun h => ?_) | refine bcs_ndec (fun h => ?_) (fun h => ?_) | refine bcs_not ?_ | refine bcs_intro (fun h => ?_) (fun h => ?_) | refine And.intro ?_ ?_ | refine reg_tail (by kernel_rfl) ?_)
        obtain ⟨k1, k2, k3, k4⟩ := hid.out
        refine ⟨(x', y', out ++ [⟨x, (x' : Int) - x, y, (y' : Int) - y⟩]), [.at 2 0, .at 3 0, .at 4 0, .at 8 0], ⟨⟨l, k3⟩, ?_, ?_⟩, ?_, ?_⟩
        · rw [List.length_append]; simp only [List.length_cons, List.length_nil]; omega
        · rw [← k4, k1 (by omega), List.append_assoc]; rfl
        · show n - x' + (m - y') < n - x + (m - y)
          omega
        · (refine ⟨rfl, rfl, ?_, ?_⟩ <;> repeat' (first | refine And.intro ?_ ?_ | exact trivial | exact rfl | refine lt0 | refine lt1 ?_ | refine lt2 ?_ ?_ | refine lt3 ?_ ?_ ?_ | refine lt4 ?_ ?_ ?_ ?_ | exact veq_refl _ | decide | (intro i hi; repeat' (first | refine And.intro ?_ ?_ | exact trivial | exact rfl))))
          all_goals first | exact Nat.le_refl _ | omega | (dsimp only; omega) | (simp; done) | (show @Eq Int _ _; omega)
      · obtain ⟨k1, k2, k3, k4⟩ := hid.out
        obtain ⟨k5, k6, k7⟩ := hid2.out (by omega)
        have q1 : x' = x := by omega
        have q2 : y' = y := by omega
        refine ⟨(x + 1, y + 1, out), [.at 2 0, .at 3 0, .at 4 0, .at 5 0], ⟨k5, by omega, ?_⟩, ?_, ?_⟩
        · rw [← k4, k2 (by omega)]
        · show n - (x + 1) + (m - (y + 1)) < n - x + (m - y)
          omega
        · (refine ⟨rfl, rfl, ?_, ?_⟩ <;> repeat' (first | refine And.intro ?_ ?_ | exact trivial | exact rfl | refine lt0 | refine lt1 ?_ | refine lt2 ?_ ?_ | refine lt3 ?_ ?_ ?_ | refine lt4 ?_ ?_ ?_ ?_ | exact veq_refl _ | decide | (intro i hi; repeat' (first | refine And.intro ?_ ?_ | exact trivial | exact rfl))))
          all_goals first | exact Nat.le_refl _ | omega | (dsimp only; omega) | (simp; done) | (show @Eq Int _ _; omega)
  · repeat' (first | refine And.intro (by first | (show (_ : Bool) = true; kernel_rfl) | omega | (dsimp only; omega) | decide | (repeat' (first | refine And.intro ?_ ?_ | exact trivial | exact rfl))) ?_ | refine bcs_dec (fun h => ?_) (fun h => False.elim (by first | omega | exact h rfl)) | refine bcs_dec (fun h => False.elim (by omega)) (fun h => ?_) | refine bcs_dec (fun h => ?_) (fun h => ?_) | refine bcs_ndec (fun h => ?_) (fun h => ?_) | refine bcs_not ?_ | refine bcs_intro (fun h => ?_) (fun h => ?_) | refine And.intro ?_ ?_ | refine reg_tail (by kernel_rfl) ?_)
    all_goals first
      | omega
      | skip
    all_goals
      refine ⟨(x, y), [.at 2 0, .at 3 0, .at 4 0, .at 5 0], trivial, ?_⟩
      rw [dif_end hxy, List.append_nil] at hd
      rw [← hd]
      (refine ⟨rfl, rfl, ?_, ?_⟩ <;> repeat' (first | refine And.intro ?_ ?_ | exact trivial | exact rfl | refine lt0 | refine lt1 ?_ | refine lt2 ?_ ?_ | refine lt3 ?_ ?_ ?_ | refine lt4 ?_ ?_ ?_ ?_ | exact veq_refl _ | decide | (intro i hi; repeat' (first | refine And.intro ?_ ?_ | exact trivial | exact rfl))))
      all_goals first | exact Nat.le_refl _ | omega | (dsimp only; omega) | (simp; done) | (show @Eq Int _ _; omega)

set_option maxRecDepth 100000 in
set_option maxHeartbeats 64000000 in
theorem diff_con (A C : Nat → Int) (N M : Nat) (hN : N ≤ 1048576) (hM : M ≤ 1048576) : Con Try.prog glob 13 [.s 0 0 N, .s 1 0 M] [(0, iRo N A), (1, iRo M C)] 2
    (retM (.o 2) [(2, chOwn (diffL A C N M))] 3) := by
  obtain ⟨hal, lg, lc⟩ := end_al A C N M
  have cM := mark_con A C N M (by omega) (by omega)
  have hL : chgs (endS A C N M).g (endS A C N M).c N M = diffL A C N M := rfl
  obtain ⟨g, hg⟩ : ∃ g, g = (endS A C N M).g := ⟨_, rfl⟩
  obtain ⟨c, hc⟩ : ∃ c, c = (endS A C N M).c := ⟨_, rfl⟩
  rw [← hg, ← hc] at hal cM hL
  rw [← hg] at lg
  rw [← hc] at lc
  clear hg hc
  rw [← hL]
  refine spec_intro (tab := tab) (N := 77) Try.func13 rfl rfl tab_ok mix rfl rfl _ rfl ?_
  intro B hG
  repeat' (first | refine And.intro (by first | (show (_ : Bool) = true; kernel_rfl) | omega | (dsimp only; omega) | decide | (repeat' (first | refine And.intro ?_ ?_ | exact trivial | exact rfl))) ?_ | refine bcs_dec (fun h => ?_) (fun h => False.elim (by first | omega | exact h rfl)) | refine bcs_dec (fun h => False.elim (by omega)) (fun h => ?_) | refine bcs_dec (fun h => ?_) (fun h => ?_) | refine bcs_ndec (fun h => ?_) (fun h => ?_) | refine bcs_not ?_ | refine bcs_intro (fun h => ?_) (fun h => ?_) | refine And.intro ?_ ?_ | refine reg_tail (by kernel_rfl) ?_)
  refine call_rule [.at 0 0, .at 1 0] (cM) hG ?_ ?_
  · (refine ⟨?_, ?_, rfl, rfl, rfl⟩ <;> repeat' (first | refine And.intro ?_ ?_ | exact trivial | exact rfl | refine lt0 | refine lt1 ?_ | refine lt2 ?_ ?_ | refine lt3 ?_ ?_ ?_ | refine lt4 ?_ ?_ ?_ ?_ | exact veq_refl _ | decide | (intro i hi; repeat' (first | refine And.intro ?_ ?_ | exact trivial | exact rfl))))
    all_goals first | exact Nat.le_refl _ | omega
  rintro _ _ _ ⟨rfl, rfl, rfl⟩
  repeat' (first | refine And.intro (by first | (show (_ : Bool) = true; kernel_rfl) | omega | (dsimp only; omega) | decide | (repeat' (first | refine And.intro ?_ ?_ | exact trivial | exact rfl))) ?_ | refine bcs_dec (fun h => ?_) (fun h => False.elim (by first | omega | exact h rfl)) | refine bcs_dec (fun h => False.elim (by omega)) (fun h => ?_) | refine bcs_dec (fun h => ?_) (fun h => ?_) | refine bcs_ndec (fun h => ?_) (fun h => ?_) | refine bcs_not ?_ | refine bcs_intro (fun h => ?_) (fun h => ?_) | refine And.intro ?_ ?_ | refine reg_tail (by kernel_rfl) ?_)
  refine loop_out (fun y : Nat × Nat => dSt A C N M g c (chgs g c N M) y.1 y.2) _ (d_loop (fA A C N M) A C N M hN hM g c lg lc _ hal B _ _ _ [.at 2 0, .at 3 0, .at 4 0, .nil 4] ?_) ?_
  · (refine ⟨rfl, rfl, ?_, ?_⟩ <;> repeat' (first | refine And.intro ?_ ?_ | exact trivial | exact rfl | refine lt0 | refine lt1 ?_ | refine lt2 ?_ ?_ | refine lt3 ?_ ?_ ?_ | refine lt4 ?_ ?_ ?_ ?_ | exact veq_refl _ | decide | (intro i hi; repeat' (first | refine And.intro ?_ ?_ | exact trivial | exact rfl))))
    all_goals first | exact Nat.le_refl _ | omega | (dsimp only; omega) | (simp; done) | (show @Eq Int _ _; omega)
  · rintro ⟨x, y⟩ _
    repeat' (first | refine And.intro (by first | (show (_ : Bool) = true; kernel_rfl) | omega | (dsimp only; omega) | decide | (repeat' (first | refine And.intro ?_ ?_ | exact trivial | exact rfl))) ?_ | refine bcs_dec (fun h => ?_) (fun h => False.elim (by first | omega | exact h rfl)) | refine bcs_dec (fun h => False.elim (by omega)) (fun h => ?_) | refine bcs_dec (fun h => ?_) (fun h => ?_) | refine bcs_ndec (fun h => ?_) (fun h => ?_) | refine bcs_not ?_ | refine bcs_intro (fun h => ?_) (fun h => ?_) | refine And.intro ?_ ?_ | refine reg_tail (by kernel_rfl) ?_)
    refine ret_mem [.at 5 0] rfl rfl ?_ ?_
    · repeat' (first | refine And.intro ?_ ?_ | exact trivial)
      all_goals exact rfl
    · repeat' (first | refine And.intro ?_ ?_ | exact trivial)
      all_goals first | exact rfl | (intro i hi; repeat' (first | refine And.intro ?_ ?_ | exact trivial | exact rfl | exact veq_refl _))
end Go.Proofs.Ytdabahipeepheaa
