/- Chapter 6: contracts: a run of lines compared; Fits. -/
import Derived.Test.YtiihmggoebohkaaDoorB17
namespace Go.Proofs.YtiihmggoebohkaaDoor
open Go Go.RowKit Vc

theorem sim1_v {k : List Kp} {m : Mem} {x z : Int} (h : x = z) : sim1 k m (.v (.int .i64 x)) (.v (.int .i64 z)) := h
theorem ext_getD {l r : List Int} (h : l.length = r.length) (k : ∀ j, j < l.length → l.getD j 0 = r.getD j 0) : l = r := by
  apply List.ext_getElem h
  intro j h1 h2
  have := k j h1
  rwa [List.getD_eq_getElem?_getD, List.getD_eq_getElem?_getD, List.getElem?_eq_getElem h1, List.getElem?_eq_getElem h2] at this
theorem diag_get : ∀ (c : Nat) (i k : Int) (j : Nat), j < c → (i + j, k + j) ∈ diag i k c
  | 0, _, _, j, h => absurd h (Nat.not_lt_zero j)
  | c + 1, i, k, 0, _ => by simp [diag]
  | c + 1, i, k, j + 1, h => by
    have := diag_get c (i + 1) (k + 1) j (by omega)
    simp only [diag, List.mem_cons]
    right
    rw [show i + ((j + 1 : Nat) : Int) = i + 1 + (j : Int) from by omega, show k + ((j + 1 : Nat) : Int) = k + 1 + (j : Int) from by omega]
    exact this
theorem seg_eq {a b : List Int} {i k : Int} {c : Nat} (hi : 0 ≤ i) (hk : 0 ≤ k) (ha : i + c ≤ a.length) (hb : k + c ≤ b.length) :
    (a.drop i.toNat).take c = (b.drop k.toNat).take c ↔ ∀ p ∈ diag i k c, sameAt a b p := by
  constructor
  · intro h p hp
    obtain ⟨h1, h2, h3⟩ := diag_mem _ _ _ _ hp
    have e := congrArg (fun l => l.getD (p.1 - i).toNat 0) h
    rw [getD_seg (by omega), getD_seg (by omega)] at e
    unfold sameAt
    rw [show p.1.toNat = i.toNat + (p.1 - i).toNat from by omega, show p.2.toNat = k.toNat + (p.1 - i).toNat from by omega]
    exact e
  · intro h
    apply ext_getD
    · rw [seg_len (by omega), seg_len (by omega)]
    · intro j hj
      rw [seg_len (by omega)] at hj
      rw [getD_seg hj, getD_seg hj]
      have := h _ (diag_get c i k j hj)
      unfold sameAt at this
      dsimp only at this
      rwa [show (i + (j : Int)).toNat = i.toNat + j from by omega, show (k + (j : Int)).toNat = k.toNat + j from by omega] at this

set_option maxRecDepth 100000 in
set_option maxHeartbeats 4000000 in
theorem cmp_con {a b : List Int} {f : Bool} {i k c : Int} (hi : 0 ≤ i) (hk : 0 ≤ k) (hc : 0 ≤ c) (ha : i + c ≤ a.length) (hb : k + c ≤ b.length) (hla : a.length ≤ 4194304) (hlb : b.length ≤ 4194304) :
    Con Tryd.prog glob 46 [.v (.int .i64 i), .v (.int .i64 k), .v (.int .i64 c), .p 0 0 0, .p 1 0 0, .p 2 0 0] [(0, .box 4 [.v (.bool f)]), (1, .box 50 [.s 3 0 a.length]), (2, .box 50 [.s 4 0 b.length]), (3, inRo a), (4, inRo b)] 5
    (retM (.t []) [(0, .box 4 [.v (.bool (f && decide (∀ p ∈ diag i k c.toNat, sameAt a b p)))]), (1, .box 50 [.s 3 0 a.length]), (2, .box 50 [.s 4 0 b.length])] 5) := by
  refine spec_intro (tab := tab) (N := 25) Tryd.func46 rfl rfl tab_ok mix rfl rfl _ rfl ?_
  intro B hG
  cases f with
  | false =>
    repeat' (first | refine And.intro (by first | omega | (dsimp only; omega) | (show (_ : Bool) = true; kernel_rfl) | decide | (repeat' (first | refine And.intro ?_ ?_ | exact trivial | exact rfl))) ?_ | refine bcs_dec (fun h => ?_) (fun h => ?_) | refine bcs_ndec (fun h => ?_) (fun h => ?_) | refine bcs_not ?_ | refine bcs_intro (fun h => ?_) (fun h => ?_) | refine And.intro ?_ ?_ | refine reg_tail (by kernel_rfl) ?_)
    refine ret_mem [] rfl rfl ?_ ?_
    · repeat' (first | refine And.intro ?_ ?_ | exact trivial)
    · repeat' (first | refine And.intro ?_ ?_ | exact trivial)
      all_goals exact rfl
  | true =>
    repeat' (first | refine And.intro (by first | omega | (dsimp only; omega) | (show (_ : Bool) = true; kernel_rfl) | decide | (repeat' (first | refine And.intro ?_ ?_ | exact trivial | exact rfl))) ?_ | refine bcs_dec (fun h => ?_) (fun h => ?_) | refine bcs_ndec (fun h => ?_) (fun h => ?_) | refine bcs_not ?_ | refine bcs_intro (fun h => ?_) (fun h => ?_) | refine And.intro ?_ ?_ | refine reg_tail (by kernel_rfl) ?_)
    have hx : ((a.drop i.toNat).take c.toNat).length = c.toNat := seg_len (by omega)
    have hy : ((b.drop k.toNat).take c.toNat).length = c.toNat := seg_len (by omega)
    have hq := equal_con ((a.drop i.toNat).take c.toNat) ((b.drop k.toNat).take c.toNat) (by omega) (by omega)
    rw [hx, hy] at hq
    refine call_rule [.at 3 i.toNat, .at 4 k.toNat] hq hG ?_ ?_
    · (refine ⟨?_, ?_, rfl, rfl, rfl⟩ <;> repeat' (first | refine And.intro ?_ ?_ | exact trivial | exact rfl | refine lt0 | refine lt1 ?_ | refine lt2 ?_ ?_ | refine lt3 ?_ ?_ ?_ | refine lt4 ?_ ?_ ?_ ?_ | exact veq_refl _ | decide | (intro i hi; repeat' (first | refine And.intro ?_ ?_ | exact trivial | exact rfl))))
      · omega
      · omega
      · rw [hx]; omega
      · exact sim1_v (by rw [getD_seg (by omega), Nat.add_comm])
      · rw [hy]; omega
      · exact sim1_v (by rw [getD_seg (by omega), Nat.add_comm])
    rintro _ _ _ ⟨r, rfl, rfl, rfl, hr⟩
    repeat' (first | refine And.intro (by first | omega | (dsimp only; omega) | (show (_ : Bool) = true; kernel_rfl) | decide | (repeat' (first | refine And.intro ?_ ?_ | exact trivial | exact rfl))) ?_ | refine bcs_dec (fun h => ?_) (fun h => ?_) | refine bcs_ndec (fun h => ?_) (fun h => ?_) | refine bcs_not ?_ | refine bcs_intro (fun h => ?_) (fun h => ?_) | refine And.intro ?_ ?_ | refine reg_tail (by kernel_rfl) ?_)
    have e : decide (∀ p ∈ diag i k c.toNat, sameAt a b p) = r := by
      have h := seg_eq (c := c.toNat) hi hk (a := a) (b := b) (by omega) (by omega)
      cases r with
      | true => exact decide_eq_true (h.1 (hr.1 rfl))
      | false => exact decide_eq_false fun h' => by have := hr.2 (h.2 h'); cases this
    rw [e, Bool.true_and]
    refine ret_mem [] rfl rfl ?_ ?_
    · repeat' (first | refine And.intro ?_ ?_ | exact trivial)
    · repeat' (first | refine And.intro ?_ ?_ | exact trivial)
      all_goals exact rfl
end Go.Proofs.YtiihmggoebohkaaDoor
