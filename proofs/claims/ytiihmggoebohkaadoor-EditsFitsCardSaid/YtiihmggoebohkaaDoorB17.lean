/- Chapter 6: contracts: what stays is the same: the document's Fits; slices.Equal. -/
import Derived.Test.YtiihmggoebohkaaDoorB16
namespace Go.Proofs.YtiihmggoebohkaaDoor
open Go Go.RowKit Vc

abbrev sameAt (a b : List Int) (p : Int × Int) : Prop := a.getD p.1.toNat 0 = b.getD p.2.toNat 0
def fitsF (s : List Chg) (a b : List Int) : Int := if validE s a.length b.length ≠ 0 then validE s a.length b.length else if ∀ p ∈ pairsF s 0 0 a.length, sameAt a b p then 0 else 61

theorem diag_mem : ∀ (c : Nat) (a b : Int) (p : Int × Int), p ∈ diag a b c → a ≤ p.1 ∧ p.1 < a + c ∧ p.2 - b = p.1 - a
  | 0, a, b, p, h => by simp [diag] at h
  | c + 1, a, b, p, h => by
    simp only [diag, List.mem_cons] at h
    rcases h with rfl | h
    · dsimp only; omega
    · have := diag_mem c _ _ p h
      omega
theorem pairsF_mem : ∀ (s : List Chg) (a b n m : Int) (p : Int × Int), validF s a b n m = 0 → p ∈ pairsF s a b n → a ≤ p.1 ∧ p.1 < n ∧ b ≤ p.2 ∧ p.2 < m
  | [], a, b, n, m, p, hv, h => by
    have := valid_nil hv
    have := diag_mem _ _ _ _ h
    omega
  | c :: r, a, b, n, m, p, hv, h => by
    obtain ⟨hb, hv'⟩ := valid_cons hv
    unfold bad at hb
    simp only [pairsF, List.mem_append] at h
    rcases h with h | h
    · have := diag_mem _ _ _ _ h
      omega
    · have := pairsF_mem r _ _ n m p hv' h
      omega
theorem getD_mem {l : List (Int × Int)} {k : Nat} (h : k < l.length) : l.getD k (0, 0) ∈ l := by
  rw [List.getD_eq_getElem?_getD, List.getElem?_eq_getElem h]; exact List.getElem_mem h
theorem take_all_snoc {l : List (Int × Int)} {k : Nat} {P : Int × Int → Prop} (h : k < l.length) (h1 : ∀ p ∈ l.take k, P p) (h2 : P (l.getD k (0, 0))) : ∀ p ∈ l.take (k + 1), P p := by
  intro p hp
  rw [List.take_succ_eq_append_getElem h] at hp
  rcases List.mem_append.1 hp with hp | hp
  · exact h1 p hp
  · rw [List.mem_singleton.1 hp]
    rwa [List.getD_eq_getElem?_getD, List.getElem?_eq_getElem h] at h2

set_option maxRecDepth 100000 in
set_option maxHeartbeats 4000000 in
theorem rFits_con {s : List Chg} {a b : List Int} (hs : s.length ≤ 9223372036854775807 - 1) : Con Tryd.prog glob 34 [.s 0 0 s.length, .s 1 0 a.length, .s 2 0 b.length] [(0, chRo s), (1, inRo a), (2, inRo b)] 3
    (retV 3 (.v (.int .i64 (fitsF s a b)))) := by
  refine spec_intro (tab := tab) (N := 46) Tryd.func34 rfl rfl tab_ok mix rfl rfl _ rfl ?_
  intro B hG
  repeat' (first | refine And.intro (by first | omega | (dsimp only; omega) | (show (_ : Bool) = true; kernel_rfl) | decide | (repeat' (first | refine And.intro ?_ ?_ | exact trivial | exact rfl))) ?_ | refine bcs_dec (fun h => ?_) (fun h => ?_) | refine bcs_ndec (fun h => ?_) (fun h => ?_) | refine bcs_not ?_ | refine bcs_intro (fun h => ?_) (fun h => ?_) | refine And.intro ?_ ?_ | refine reg_tail (by kernel_rfl) ?_)
  refine call_rule [.at 0 0] (validR_con s a.length b.length (by omega)) hG ?_ ?_
  · (refine ⟨?_, ?_, rfl, rfl, rfl⟩ <;> repeat' (first | refine And.intro ?_ ?_ | exact trivial | exact rfl | refine lt0 | refine lt1 ?_ | refine lt2 ?_ ?_ | refine lt3 ?_ ?_ ?_ | refine lt4 ?_ ?_ ?_ ?_ | exact veq_refl _ | decide | (intro i hi; repeat' (first | refine And.intro ?_ ?_ | exact trivial | exact rfl))))
    all_goals first | exact Nat.le_refl _ | omega
  rintro _ _ _ ⟨rfl, rfl, rfl⟩
  repeat' (first | refine And.intro (by first | omega | (dsimp only; omega) | (show (_ : Bool) = true; kernel_rfl) | decide | (repeat' (first | refine And.intro ?_ ?_ | exact trivial | exact rfl))) ?_ | refine bcs_dec (fun h => ?_) (fun h => ?_) | refine bcs_ndec (fun h => ?_) (fun h => ?_) | refine bcs_not ?_ | refine bcs_intro (fun h => ?_) (fun h => ?_) | refine And.intro ?_ ?_ | refine reg_tail (by kernel_rfl) ?_)
  · have e : fitsF s a b = validE s a.length b.length := by unfold fitsF; rw [if_pos (by omega)]
    rw [e]
    refine ret_plain ?_
    exact rfl
  have hv : validE s a.length b.length = 0 := by omega
  obtain ⟨r1, r2, r3, r4, r5⟩ := valid_range hv
  have hpl := pairsF_len s 0 0 a.length b.length r5 (by omega) (by omega)
  refine call_rule [.at 0 0] (pairsR_con hs hv) hG ?_ ?_
  · (refine ⟨?_, ?_, rfl, rfl, rfl⟩ <;> repeat' (first | refine And.intro ?_ ?_ | exact trivial | exact rfl | refine lt0 | refine lt1 ?_ | refine lt2 ?_ ?_ | refine lt3 ?_ ?_ ?_ | refine lt4 ?_ ?_ ?_ ?_ | exact veq_refl _ | decide | (intro i hi; repeat' (first | refine And.intro ?_ ?_ | exact trivial | exact rfl))))
    all_goals first | exact Nat.le_refl _ | omega
  rintro _ _ _ ⟨rfl, rfl, rfl⟩
  repeat' (first | refine And.intro (by first | omega | (dsimp only; omega) | (show (_ : Bool) = true; kernel_rfl) | decide | (repeat' (first | refine And.intro ?_ ?_ | exact trivial | exact rfl))) ?_ | refine bcs_dec (fun h => ?_) (fun h => ?_) | refine bcs_ndec (fun h => ?_) (fun h => ?_) | refine bcs_not ?_ | refine bcs_intro (fun h => ?_) (fun h => ?_) | refine And.intro ?_ ?_ | refine reg_tail (by kernel_rfl) ?_)
  obtain ⟨l, hl⟩ : ∃ l, l = pairsF s 0 0 (a.length : Int) := ⟨_, rfl⟩
  have hm : ∀ p ∈ l, 0 ≤ p.1 ∧ p.1 < a.length ∧ 0 ≤ p.2 ∧ p.2 < b.length := fun p hp => pairsF_mem s 0 0 a.length b.length p r5 (by rw [← hl]; exact hp)
  rw [← hl] at hpl
  refine loop_rule (α := Nat) (fun k => ⟨[(1, .s 1 0 a.length), (2, .s 2 0 b.length), (8, .o 3), (9, .v (.int .i64 k))], [(0, chRo s), (1, inRo a), (2, inRo b), (3, prOwn l)], 4⟩)
    (fun k => k ≤ l.length ∧ ∀ p ∈ l.take k, sameAt a b p) (fun k => l.length - k) 0 [.at 3 0] ?_ ?_ ?_
  · exact ⟨by omega, fun p hp => by simp at hp⟩
  · rw [hl]
    (refine ⟨rfl, rfl, ?_, ?_⟩ <;> repeat' (first | refine And.intro ?_ ?_ | exact trivial | exact rfl | refine lt0 | refine lt1 ?_ | refine lt2 ?_ ?_ | refine lt3 ?_ ?_ ?_ | refine lt4 ?_ ?_ ?_ ?_ | exact veq_refl _ | decide | (intro i hi; repeat' (first | refine And.intro ?_ ?_ | exact trivial | exact rfl))))
    all_goals omega
  · rintro k ⟨h1, h2⟩
    have hk : k < l.length → 0 ≤ (l.getD (k : Int).toNat (0, 0)).1 ∧ (l.getD (k : Int).toNat (0, 0)).1 < a.length ∧ 0 ≤ (l.getD (k : Int).toNat (0, 0)).2 ∧ (l.getD (k : Int).toNat (0, 0)).2 < b.length := fun h => by
      have := hm _ (getD_mem h)
      simpa using this
    repeat' (first | refine And.intro (by first | omega | (dsimp only; omega) | (show (_ : Bool) = true; kernel_rfl) | decide | (repeat' (first | refine And.intro ?_ ?_ | exact trivial | exact rfl))) ?_ | refine bcs_dec (fun h => ?_) (fun h => ?_) | refine bcs_ndec (fun h => ?_) (fun h => ?_) | refine bcs_not ?_ | refine bcs_intro (fun h => ?_) (fun h => ?_) | refine And.intro ?_ ?_ | refine reg_tail (by kernel_rfl) ?_)
    · have hp := getD_mem (l := l) (k := (k : Int).toNat) (by omega)
      have e : fitsF s a b = 61 := by
        unfold fitsF
        rw [if_neg (by omega), ← hl, if_neg]
        intro h'
        have := h' _ hp
        apply h
        unfold sameAt at this
        rw [Nat.zero_add, Nat.zero_add]
        exact this
      repeat' (first | refine And.intro (by first | omega | (dsimp only; omega) | (show (_ : Bool) = true; kernel_rfl) | decide | (repeat' (first | refine And.intro ?_ ?_ | exact trivial | exact rfl))) ?_ | refine bcs_dec (fun h => ?_) (fun h => ?_) | refine bcs_ndec (fun h => ?_) (fun h => ?_) | refine bcs_not ?_ | refine bcs_intro (fun h => ?_) (fun h => ?_) | refine And.intro ?_ ?_ | refine reg_tail (by kernel_rfl) ?_)
      rw [e]
      refine ret_plain ?_
      exact rfl
    · repeat' (first | refine And.intro (by first | omega | (dsimp only; omega) | (show (_ : Bool) = true; kernel_rfl) | decide | (repeat' (first | refine And.intro ?_ ?_ | exact trivial | exact rfl))) ?_ | refine bcs_dec (fun h => ?_) (fun h => ?_) | refine bcs_ndec (fun h => ?_) (fun h => ?_) | refine bcs_not ?_ | refine bcs_intro (fun h => ?_) (fun h => ?_) | refine And.intro ?_ ?_ | refine reg_tail (by kernel_rfl) ?_)
      refine ⟨k + 1, [.at 3 0], ?_, ?_, ?_⟩
      · have hkl : k < l.length := by omega
        refine ⟨by omega, take_all_snoc hkl h2 ?_⟩
        unfold sameAt
        simp only [Int.toNat_natCast, Nat.zero_add] at h
        exact h
      · show l.length - (k + 1) < l.length - k
        omega
      · (refine ⟨rfl, rfl, ?_, ?_⟩ <;> repeat' (first | refine And.intro ?_ ?_ | exact trivial | exact rfl | refine lt0 | refine lt1 ?_ | refine lt2 ?_ ?_ | refine lt3 ?_ ?_ ?_ | refine lt4 ?_ ?_ ?_ ?_ | exact veq_refl _ | decide | (intro i hi; repeat' (first | refine And.intro ?_ ?_ | exact trivial | exact rfl))))
        all_goals first | omega | (simp; done)
    · have e : fitsF s a b = 0 := by
        unfold fitsF
        rw [if_neg (by omega), ← hl, if_pos]
        intro p hp
        exact h2 p (by rw [List.take_of_length_le (by omega)]; exact hp)
      repeat' (first | refine And.intro (by first | omega | (dsimp only; omega) | (show (_ : Bool) = true; kernel_rfl) | decide | (repeat' (first | refine And.intro ?_ ?_ | exact trivial | exact rfl))) ?_ | refine bcs_dec (fun h => ?_) (fun h => ?_) | refine bcs_ndec (fun h => ?_) (fun h => ?_) | refine bcs_not ?_ | refine bcs_intro (fun h => ?_) (fun h => ?_) | refine And.intro ?_ ?_ | refine reg_tail (by kernel_rfl) ?_)
      rw [e]
      refine ret_plain ?_
      exact rfl

set_option maxRecDepth 100000 in
set_option maxHeartbeats 4000000 in
theorem equal_con (a b : List Int) (ha : a.length ≤ 9223372036854775807) (hb : b.length ≤ 9223372036854775807) : Con Tryd.prog glob 47 [.s 0 0 a.length, .s 1 0 b.length] [(0, inRo a), (1, inRo b)] 2 (fun x m n => ∃ r : Bool, x = .v (.bool r) ∧ m = [] ∧ n = 2 ∧ (r = true ↔ a = b)) := by
  refine spec_intro (tab := tab) (N := 26) Tryd.func47 rfl rfl tab_ok mix rfl rfl _ rfl ?_
  intro B hG
  repeat' (first | refine And.intro (by first | omega | (dsimp only; omega) | (show (_ : Bool) = true; kernel_rfl) | decide | (repeat' (first | refine And.intro ?_ ?_ | exact trivial | exact rfl))) ?_ | refine bcs_dec (fun h => ?_) (fun h => ?_) | refine bcs_ndec (fun h => ?_) (fun h => ?_) | refine bcs_not ?_ | refine bcs_intro (fun h => ?_) (fun h => ?_) | refine And.intro ?_ ?_ | refine reg_tail (by kernel_rfl) ?_)
  · refine ret_bool false ?_
    exact ⟨fun h => (by cases h), fun e => (by subst e; exact absurd rfl h)⟩
  have hl : a.length = b.length := by omega
  refine loop_rule (α := Nat) (fun k => ⟨[(0, .s 0 0 a.length), (1, .s 1 0 b.length), (12, .v (.int .i64 a.length)), (13, .v (.int .i64 k))], [(0, inRo a), (1, inRo b)], 2⟩)
    (fun k => k ≤ a.length ∧ a.take k = b.take k) (fun k => a.length - k) 0 [] ?_ ?_ ?_
  · simp
  · (refine ⟨rfl, rfl, ?_, ?_⟩ <;> repeat' (first | refine And.intro ?_ ?_ | exact trivial | exact rfl | refine lt0 | refine lt1 ?_ | refine lt2 ?_ ?_ | refine lt3 ?_ ?_ ?_ | refine lt4 ?_ ?_ ?_ ?_ | exact veq_refl _ | decide | (intro i hi; repeat' (first | refine And.intro ?_ ?_ | exact trivial | exact rfl))))
    all_goals exact Nat.le_refl _
  · rintro k ⟨h1, h2⟩
    repeat' (first | refine And.intro (by first | omega | (dsimp only; omega) | (show (_ : Bool) = true; kernel_rfl) | decide | (repeat' (first | refine And.intro ?_ ?_ | exact trivial | exact rfl))) ?_ | refine bcs_dec (fun h => ?_) (fun h => ?_) | refine bcs_ndec (fun h => ?_) (fun h => ?_) | refine bcs_not ?_ | refine bcs_intro (fun h => ?_) (fun h => ?_) | refine And.intro ?_ ?_ | refine reg_tail (by kernel_rfl) ?_)
    · refine ret_bool false ?_
      refine ⟨fun h => (by cases h), fun e => False.elim ?_⟩
      exact h (by rw [e])
    · refine ⟨k + 1, [], ?_, ?_, ?_⟩
      · simp only [nm] at *
        exact ⟨by omega, take_next 0 h2 h (by omega) (by omega)⟩
      · omega
      · (refine ⟨rfl, rfl, ?_, ?_⟩ <;> repeat' (first | refine And.intro ?_ ?_ | exact trivial | exact rfl | refine lt0 | refine lt1 ?_ | refine lt2 ?_ ?_ | refine lt3 ?_ ?_ ?_ | refine lt4 ?_ ?_ ?_ ?_ | exact veq_refl _ | decide | (intro i hi; repeat' (first | refine And.intro ?_ ?_ | exact trivial | exact rfl))))
        all_goals exact Nat.le_refl _
    · refine ret_bool true ?_
      exact ⟨fun _ => take_all h2 (by omega) (by omega), fun _ => rfl⟩
end Go.Proofs.YtiihmggoebohkaaDoor
