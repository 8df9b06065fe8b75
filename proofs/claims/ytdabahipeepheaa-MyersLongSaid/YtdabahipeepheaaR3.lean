/- Chapter 7: the middle: behind what is alike on a diagonal. Printed by gen_s3.py. -/
import Derived.Test.YtdabahipeepheaaS2
import Derived.Test.YtdabahipeepheaaY4
namespace Go.Proofs.Ytdabahipeepheaa
open Go Go.RowKit Vc

/-- Where 'snake' stands ahead of each diagonal. -/
def kSt (A C : Nat → Int) (n m : Nat) (z : Nat) (odd : Int) (hh : Nat) (o : Int) (c d p : Nat) (k : Int) (F R : List Int) : St := ⟨kFr n m z odd hh o c d p k, kMem A C n m F R, 5⟩
abbrev snkQ (A C : Nat → Int) (n m : Nat) : SV → Mem → Nat → Prop := retV 2 (.t [.v (.int .i64 (snkA A C n m).1), .v (.int .i64 (snkA A C n m).2.1), .v (.int .i64 (snkA A C n m).2.2.1), .v (.int .i64 (snkA A C n m).2.2.2)])
theorem use_rest1 {α : Type} {C K : α → Prop} {g : Prop} (h1 : (∀ a, C a → K a) → g) (h2 : ∀ a, C a → K a) : g := h1 h2

def kInv1 (A C : Nat → Int) (n m z hh : Nat) (k0 : Int) (y : List Int × Int) : Prop := y.1.length = z ∧ RowIn (fA A C n m) n m z y.1 hh y.2 ∧ k0 ≤ y.2 ∧ y.2 ≤ hh + 2 ∧ (y.2 - hh) % 2 = 0 ∧ ((n + m) % 2 = 1 → ∀ e : Nat, 2 * (e : Int) < y.2 + hh → ¬ Meet (fA A C n m) (gA A C n m) n m ((n + m + 1) / 2 - hh) hh e)
set_option maxRecDepth 100000 in
set_option maxHeartbeats 64000000 in
theorem k_rest1 (A C : Nat → Int) (n m : Nat) (hn : n ≤ 1048576) (hm : m ≤ 1048576) (z : Nat) (odd o : Int) (ho : o = 1) (hz : 2 * ((min n m : Nat) : Int) + 2 = (z : Int)) (hodd : odd = ((n + m : Nat) : Int) % 2) (p hh : Nat) (hhl : hh ≤ n + m + 1) (F R : List Int) (_lF : F.length = z) (lR : R.length = z)
    (k0 : Int) (hrd : (∀ h', h' + 1 = hh → RowAt (gA A C n m) n m z R h')) (hT : (n + m) % 2 = 1 → 2 * hh ≤ n + m - 2 * mq (fA A C n m) n m + 1) (B : Bs) (hG : B.glob = glob) (E : Nat → St → Prop) (K0 : St → Prop) (G : List Int) (k : Int) (i j x y r : Nat) (hC : kInv1 A C n m z hh k0 (G, k))
    (_hc : k ≤ (hh : Int) - 2 * max 0 ((hh : Int) - n)) (hij : i + j = hh) (hk : (i : Int) - j = k) (hi : i ≤ n) (hj : j ≤ m) (hx : x = i + l0 (fA A C n m) i j) (hy : y = j + l0 (fA A C n m) i j) (hxl : x ≤ 4194304 ∧ y ≤ 4194304) (hr : (∀ e, e < r → (fA A C n m) (x + e) (y + e) = true) ∧ (fA A C n m) (x + r) (y + r) = false) :
    vcCode ⟨Try.prog, tab, B, 229, 2⟩ (aftOf 6 Try.f21) (sSt A C n m z odd hh o 2 3 p k G R x y r) K0
      (fun i s' => bif Nat.beq i 5 then vcCode ⟨Try.prog, tab, B, 229, 2⟩ (aftOf 5 Try.f21) s' (fun s' => ∃ y new, kInv1 A C n m z hh k0 y ∧ ((hh : Int) + 2 - y.2).toNat < ((hh : Int) + 2 - k).toNat ∧ Sub 2 new s' (kSt A C n m z odd hh o 2 3 p y.2 y.1 R)) E (RetP 2 tab [.tmp 4, .tmp 5, .tmp 6, .tmp 7] (snkQ A C n m)) else E i s')
      (RetP 2 tab [.tmp 4, .tmp 5, .tmp 6, .tmp 7] (snkQ A C n m)) := by
  have hqle := (mq_most (fA A C n m) n m).1.le
  obtain ⟨c1, c2, c3, c4, c5, c6⟩ := hC
  dsimp only at c1 c2 c3 c4 c5 c6
  have hz0 : 0 < (z : Int) := by omega
  have hz1 : (z : Int) ≤ 4611686018427387904 := by omega
  have hkb : -4194304 ≤ k ∧ k ≤ 4194304 := by omega
  have hhb : hh ≤ 4194304 := by omega
  have lwm := Lw_most (pairA A C n m) (mq_most (fA A C n m) n m) i j
  have w3 := mod_in k hz0
  have w4 := mod_in ((n : Int) - m - k) hz0
  have cC := wrap_con k z hz0 hz1
  have cD := wrap_con ((n : Int) - m - k) z hz0 hz1
  have r2 : Lw (fA A C n m) i j = l0 (fA A C n m) i j + r := Lw_step (pairA A C n m) (by rw [← hx, ← hy]; exact hr.1) (by rw [← hx, ← hy]; exact hr.2)
  have rb : r ≤ 1048576 := by omega
  obtain ⟨Y0, hY0⟩ : ∃ v, v = R.getD (0 + (((n : Int) - m - k) % (z : Int)).toNat) 0 := ⟨_, rfl⟩
  have hpo : (n + m) % 2 = 1 ↔ odd = o := by omega
  have hmeet : odd = o → -((hh : Int) - o) ≤ (n : Int) - m - k → (n : Int) - m - k ≤ (hh : Int) - o → (Meet (fA A C n m) (gA A C n m) n m ((n + m + 1) / 2 - hh) hh i ↔ (n : Int) ≤ (x : Int) + r + Y0) ∧ 0 ≤ Y0 ∧ Y0 ≤ 4194304 := by
    intro q1 q2 q3
    have hT' := hT (hpo.2 q1)
    have hR := hrd (hh - 1) (by omega)
    have h1 := meet_iff (f := (fA A C n m)) (h := hh) (t := (n + m + 1) / 2 - hh) (y := Y0) hR hij hk (by omega) (by omega) (by omega) (by rw [hY0, Nat.zero_add])
    have h2 := hR (n - ((n + m + 1) / 2 - hh) - i) (m - ((n + m + 1) / 2 - hh) - j) (by omega) (by omega) (by omega)
    rw [show ((n - ((n + m + 1) / 2 - hh) - i : Nat) : Int) - ((m - ((n + m + 1) / 2 - hh) - j : Nat) : Int) = (n : Int) - m - k by omega] at h2
    have h3 := Lw_most (pairA A C n m).symm ((mq_most (fA A C n m) n m).turn (pairA A C n m)) (n - ((n + m + 1) / 2 - hh) - i) (m - ((n + m + 1) / 2 - hh) - j)
    rw [Nat.zero_add] at hY0
    rw [← hY0] at h2
    refine ⟨?_, by omega, by omega⟩
    rw [h1, r2]
    omega
  have hcont : ¬ (odd = o ∧ -((hh : Int) - o) ≤ (n : Int) - m - k ∧ (n : Int) - m - k ≤ (hh : Int) - o ∧ (n : Int) ≤ (x : Int) + r + Y0) → (n + m) % 2 = 1 → ∀ e : Nat, 2 * (e : Int) < k + 2 + hh → ¬ Meet (fA A C n m) (gA A C n m) n m ((n + m + 1) / 2 - hh) hh e := by
    intro q1 q2 e he hmt
    by_cases e1 : e = i
    · subst e1
      have q3 := hpo.1 q2
      have hT' := hT q2
      obtain ⟨m1, m2, m3, m4⟩ := id hmt
      have q4 : -((hh : Int) - o) ≤ (n : Int) - m - k ∧ (n : Int) - m - k ≤ (hh : Int) - o := by omega
      exact q1 ⟨q3, q4.1, q4.2, (hmeet q3 q4.1 q4.2).1.1 hmt⟩
    · exact c6 q2 e (by omega) hmt
  have hfound : odd = o → -((hh : Int) - o) ≤ (n : Int) - m - k → (n : Int) - m - k ≤ (hh : Int) - o → (n : Int) ≤ (x : Int) + r + Y0 → (snkA A C n m = (x, y, x + r, y + r) ∧ True) := by
    intro q1 q2 q3 q4
    have hT' := hT (hpo.2 q1)
    have hmt := (hmeet q1 q2 q3).1.2 q4
    have hs := snk_fwd (pairA A C n m) (mq_most (fA A C n m) n m) (h := hh) (t := (n + m + 1) / 2 - hh) (i := i) (hpo.2 q1) hT' (by omega) hmt (fun e he => c6 (hpo.2 q1) e (by omega))
    have e1 : hh - i = j := by omega
    rw [e1, r2, ← Nat.add_assoc, ← Nat.add_assoc, ← hx, ← hy] at hs
    exact ⟨hs, trivial⟩
  have hYb : odd = o → -((hh : Int) - o) ≤ (n : Int) - m - k → (n : Int) - m - k ≤ (hh : Int) - o → 0 ≤ Y0 ∧ Y0 ≤ 4194304 := fun q1 q2 q3 => (hmeet q1 q2 q3).2
  have hst : RowIn (fA A C n m) n m z (G.set (0 + (k % (z : Int)).toNat) ((x : Int) + r)) hh (k + 2) := by
    have := c2.store (w := ((min n m : Nat) : Int) + 1) (by omega) hz (by omega) hij hk hi hj
    rw [r2] at this
    rw [Nat.zero_add, show (x : Int) + r = (i : Int) + ((l0 (fA A C n m) i j + r : Nat) : Int) by omega]
    exact this
  have hfin : k0 ≤ k + 2 ∧ k + 2 ≤ hh + 2 ∧ (k + 2 - hh) % 2 = 0 := by omega
  have hcont' := Hd.mk hcont
  have hfound' := Hd.mk hfound
  have hst' := Hd.mk (And.intro hst hfin)
  clear hcont hfound hst hfin hmeet hpo c2 c3 c5 c6 hhl hz hodd hT hrd hij hk hi hj hx hy lwm c4 hqle r2 hr
  
  conv => whnf
  have hmu := hst'.out.2.2.1
  refine call_rule [] (cC) hG ?_ ?_
  · (refine ⟨?_, ?_, rfl, rfl, rfl⟩ <;> repeat' (first | refine And.intro ?_ ?_ | exact trivial | exact rfl | refine lt0 | refine lt1 ?_ | refine lt2 ?_ ?_ | refine lt3 ?_ ?_ ?_ | refine lt4 ?_ ?_ ?_ ?_ | exact veq_refl _ | decide | (intro i hi; repeat' (first | refine And.intro ?_ ?_ | exact trivial | exact rfl))))
    all_goals first | exact Nat.le_refl _ | omega
  rintro _ _ _ ⟨rfl, rfl, rfl⟩
  refine And.intro (by omega) ?_
  simp only [Vc.put, vcOps, vcOp, vcG]
  rw [show Nat.blt 174 229 = true from rfl]
  simp only [cond_true, fsv_eq]
  conv => whnf
  refine And.intro (by omega) ?_
  refine sto1 nEnc 0 G ((x : Int) + r) rfl (by omega) rfl ?_
  repeat' (first | refine Both.mk ?_ ?_ | refine And.intro (by first | (show (_ : Bool) = true; kernel_rfl) | omega | (dsimp only; omega) | decide | (repeat' (first | refine And.intro ?_ ?_ | exact trivial | exact rfl))) ?_ | refine bcs_dec (fun h => ?_) (fun h => False.elim (by first | omega | exact h rfl)) | refine bcs_dec (fun h => False.elim (by omega)) (fun h => ?_) | refine bcs_dec (fun h => ?_) (fun h => ?_) | refine bcs_ndec (fun h => ?_) (fun h => ?_) | refine bcs_not ?_ | refine And.intro ?_ ?_)
  all_goals first
    | omega
    | skip
  all_goals first
    | (refine ⟨(G.set (0 + (k % (z : Int)).toNat) ((x : Int) + r), k + 2), [.at 2 0, .at 3 0, .at 4 0], ⟨by simpa using c1, hst'.out.1, hst'.out.2.1, hst'.out.2.2.1, hst'.out.2.2.2, hcont'.out (by omega)⟩, by dsimp only; omega, ?_⟩
       (refine ⟨rfl, rfl, ?_, ?_⟩ <;> repeat' (first | refine And.intro ?_ ?_ | exact trivial | exact rfl | refine lt0 | refine lt1 ?_ | refine lt2 ?_ ?_ | refine lt3 ?_ ?_ ?_ | refine lt4 ?_ ?_ ?_ ?_ | exact veq_refl _ | decide | (intro i hi; repeat' (first | refine And.intro ?_ ?_ | exact trivial | exact rfl))))
       all_goals first | exact Nat.le_refl _ | omega | (simp; done) | (show @Eq Int _ _; omega)
       done)
    | skip
  conv => whnf
  refine call_rule [] (cD) hG ?_ ?_
  · (refine ⟨?_, ?_, rfl, rfl, rfl⟩ <;> repeat' (first | refine And.intro ?_ ?_ | exact trivial | exact rfl | refine lt0 | refine lt1 ?_ | refine lt2 ?_ ?_ | refine lt3 ?_ ?_ ?_ | refine lt4 ?_ ?_ ?_ ?_ | exact veq_refl _ | decide | (intro i hi; repeat' (first | refine And.intro ?_ ?_ | exact trivial | exact rfl))))
    all_goals first | exact Nat.le_refl _ | omega
  rintro _ _ _ ⟨rfl, rfl, rfl⟩
  repeat' (first | refine Both.mk ?_ ?_ | refine And.intro (by first | (show (_ : Bool) = true; kernel_rfl) | omega | (dsimp only; omega) | decide | (repeat' (first | refine And.intro ?_ ?_ | exact trivial | exact rfl))) ?_ | refine bcs_dec (fun h => ?_) (fun h => False.elim (by first | omega | exact h rfl)) | refine bcs_dec (fun h => False.elim (by omega)) (fun h => ?_) | refine bcs_dec (fun h => ?_) (fun h => ?_) | refine bcs_ndec (fun h => ?_) (fun h => ?_) | refine bcs_not ?_ | refine And.intro ?_ ?_)
  all_goals first
    | omega
    | skip
  all_goals first
    | (refine ⟨(G.set (0 + (k % (z : Int)).toNat) ((x : Int) + r), k + 2), [.at 2 0, .at 3 0, .at 4 0], ⟨by simpa using c1, hst'.out.1, hst'.out.2.1, hst'.out.2.2.1, hst'.out.2.2.2, hcont'.out (by omega)⟩, by dsimp only; omega, ?_⟩
       (refine ⟨rfl, rfl, ?_, ?_⟩ <;> repeat' (first | refine And.intro ?_ ?_ | exact trivial | exact rfl | refine lt0 | refine lt1 ?_ | refine lt2 ?_ ?_ | refine lt3 ?_ ?_ ?_ | refine lt4 ?_ ?_ ?_ ?_ | exact veq_refl _ | decide | (intro i hi; repeat' (first | refine And.intro ?_ ?_ | exact trivial | exact rfl))))
       all_goals first | exact Nat.le_refl _ | omega | (simp; done) | (show @Eq Int _ _; omega)
       done)
    | skip
  obtain ⟨hs, hb⟩ := hfound'.out (by omega) (by omega) (by omega) (by omega)
  refine ret_plain ?_
  repeat' (first | refine And.intro ?_ ?_ | exact trivial)
  all_goals show @Eq Int _ _
  all_goals rw [hs]
  all_goals dsimp only
  all_goals omega
end Go.Proofs.Ytdabahipeepheaa
