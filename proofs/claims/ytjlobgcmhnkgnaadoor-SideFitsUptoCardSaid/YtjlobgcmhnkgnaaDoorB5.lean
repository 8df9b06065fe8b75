/- Chapter 6: contracts: normal scripts. -/
import Derived.Test.YtjlobgcmhnkgnaaDoorB3
namespace Go.Proofs.YtjlobgcmhnkgnaaDoor
open Go Go.RowKit Vc

abbrev chOwn (l : List Chg) : Ch := .own 39 4 l.length (chRow l)
theorem valid_ok {s : List Chg} {n m : Int} (hs : s.length ≤ 9223372036854775807) (hv : validE s n m = 0) : Con Tryd.prog glob 47 [.s 0 0 s.length, .v (.int .i64 n), .v (.int .i64 m)] [(0, chRo s)] 1 (retV 1 (.v .nilIface)) := by
  have := valid_con s n m hs
  rwa [errV_0 hv] at this
theorem valid_no {s : List Chg} {n m : Int} (hs : s.length ≤ 9223372036854775807) (hv : validE s n m ≠ 0) : Con Tryd.prog glob 47 [.s 0 0 s.length, .v (.int .i64 n), .v (.int .i64 m)] [(0, chRo s)] 1 (retV 1 (.v (.iface 63 (.int .i64 (validE s n m))))) := by
  have := valid_con s n m hs
  rwa [errV_n hv] at this

theorem valid_range {s : List Chg} {n m : Int} (h : validE s n m = 0) : 0 ≤ n ∧ n ≤ 4194304 ∧ 0 ≤ m ∧ m ≤ 4194304 ∧ validF s 0 0 n m = 0 := by
  unfold validE at h
  by_cases hc : n < 0 ∨ n > 4194304 ∨ m < 0 ∨ m > 4194304
  · rw [if_pos hc] at h; omega
  · rw [if_neg hc] at h; exact ⟨by omega, by omega, by omega, by omega, h⟩
theorem valid_cons {c : Chg} {r : List Chg} {a b n m : Int} (h : validF (c :: r) a b n m = 0) : ¬ bad c a b n m ∧ validF r (c.A + c.N) (c.B + c.M) n m = 0 := by
  simp only [validF] at h
  by_cases hc : bad c a b n m
  · rw [if_pos hc] at h; omega
  · rw [if_neg hc] at h; exact ⟨hc, h⟩
theorem valid_nil {a b n m : Int} (h : validF [] a b n m = 0) : n - a = m - b := by
  simp only [validF] at h
  by_cases hc : n - a ≠ m - b
  · rw [if_pos hc] at h; omega
  · omega
theorem valid_at {s : List Chg} {k : Nat} {a b n m : Int} (h : validF (s.drop k) a b n m = 0) (hk : k < s.length) :
    ¬ bad (s.getD k Chg.d) a b n m ∧ validF (s.drop (k + 1)) ((s.getD k Chg.d).A + (s.getD k Chg.d).N) ((s.getD k Chg.d).B + (s.getD k Chg.d).M) n m = 0 := by
  rw [drop_get Chg.d s k hk] at h
  exact valid_cons h

abbrev Chg.plus (l c : Chg) : Chg := ⟨l.A, l.N + c.N, l.B, l.M + c.M⟩
abbrev lastC (l : List Chg) : Chg := l.getD (l.length - 1) Chg.d
def mergeF : List Chg → List Chg → List Chg
  | out, [] => out
  | out, c :: r => if out ≠ [] ∧ (lastC out).A + (lastC out).N = c.A then mergeF (out.set (out.length - 1) ((lastC out).plus c)) r else mergeF (out ++ [c]) r
abbrev normF (s : List Chg) : List Chg := mergeF [] s

set_option maxRecDepth 100000 in
set_option maxHeartbeats 4000000 in
theorem normal_no {s : List Chg} {n m : Int} (hs : s.length ≤ 9223372036854775807) (hv : validE s n m ≠ 0) : Con Tryd.prog glob 24 [.s 0 0 s.length, .v (.int .i64 n), .v (.int .i64 m)] [(0, chRo s)] 1
    (retM (.t [.o 1, .v (.iface 63 (.int .i64 (validE s n m)))]) [(1, chOwn [])] 2) := by
  refine spec_intro (tab := tab) (N := 73) Tryd.func24 rfl rfl tab_ok mix rfl rfl _ rfl ?_
  intro B hG
  repeat' (first | refine And.intro (by first | omega | (dsimp only; omega) | (show (_ : Bool) = true; kernel_rfl) | decide | (repeat' (first | refine And.intro ?_ ?_ | exact trivial | exact rfl))) ?_ | refine bcs_dec (fun h => ?_) (fun h => ?_) | refine bcs_ndec (fun h => ?_) (fun h => ?_) | refine bcs_not ?_ | refine bcs_intro (fun h => ?_) (fun h => ?_) | refine And.intro ?_ ?_ | refine reg_tail (by kernel_rfl) ?_)
  refine call_rule [.at 0 0] (valid_no hs hv) hG ?_ ?_
  · (refine ⟨?_, ?_, rfl, rfl, rfl⟩ <;> repeat' (first | refine And.intro ?_ ?_ | exact trivial | exact rfl | refine lt0 | refine lt1 ?_ | refine lt2 ?_ ?_ | refine lt3 ?_ ?_ ?_ | refine lt4 ?_ ?_ ?_ ?_ | exact veq_refl _ | decide | (intro i hi; repeat' (first | refine And.intro ?_ ?_ | exact trivial | exact rfl))))
    all_goals omega
  rintro _ _ _ ⟨rfl, rfl, rfl⟩
  repeat' (first | refine And.intro (by first | omega | (dsimp only; omega) | (show (_ : Bool) = true; kernel_rfl) | decide | (repeat' (first | refine And.intro ?_ ?_ | exact trivial | exact rfl))) ?_ | refine bcs_dec (fun h => ?_) (fun h => ?_) | refine bcs_ndec (fun h => ?_) (fun h => ?_) | refine bcs_not ?_ | refine bcs_intro (fun h => ?_) (fun h => ?_) | refine And.intro ?_ ?_ | refine reg_tail (by kernel_rfl) ?_)
  refine ret_mem [.nil 4] rfl rfl ?_ ?_
  · repeat' (first | refine And.intro ?_ ?_ | exact trivial)
    all_goals exact rfl
  · repeat' (first | refine And.intro ?_ ?_ | exact trivial)
    all_goals exact rfl

set_option maxRecDepth 100000 in
set_option maxHeartbeats 4000000 in
theorem normal_ok {s : List Chg} {n m : Int} (hs : s.length ≤ 9223372036854775807) (hv : validE s n m = 0) : Con Tryd.prog glob 24 [.s 0 0 s.length, .v (.int .i64 n), .v (.int .i64 m)] [(0, chRo s)] 1
    (retM (.t [.o 1, .v .nilIface]) [(1, chOwn (normF s))] 2) := by
  refine spec_intro (tab := tab) (N := 73) Tryd.func24 rfl rfl tab_ok mix rfl rfl _ rfl ?_
  intro B hG
  repeat' (first | refine And.intro (by first | omega | (dsimp only; omega) | (show (_ : Bool) = true; kernel_rfl) | decide | (repeat' (first | refine And.intro ?_ ?_ | exact trivial | exact rfl))) ?_ | refine bcs_dec (fun h => ?_) (fun h => ?_) | refine bcs_ndec (fun h => ?_) (fun h => ?_) | refine bcs_not ?_ | refine bcs_intro (fun h => ?_) (fun h => ?_) | refine And.intro ?_ ?_ | refine reg_tail (by kernel_rfl) ?_)
  refine call_rule [.at 0 0] (valid_ok hs hv) hG ?_ ?_
  · (refine ⟨?_, ?_, rfl, rfl, rfl⟩ <;> repeat' (first | refine And.intro ?_ ?_ | exact trivial | exact rfl | refine lt0 | refine lt1 ?_ | refine lt2 ?_ ?_ | refine lt3 ?_ ?_ ?_ | refine lt4 ?_ ?_ ?_ ?_ | exact veq_refl _ | decide | (intro i hi; repeat' (first | refine And.intro ?_ ?_ | exact trivial | exact rfl))))
    all_goals omega
  rintro _ _ _ ⟨rfl, rfl, rfl⟩
  repeat' (first | refine And.intro (by first | omega | (dsimp only; omega) | (show (_ : Bool) = true; kernel_rfl) | decide | (repeat' (first | refine And.intro ?_ ?_ | exact trivial | exact rfl))) ?_ | refine bcs_dec (fun h => ?_) (fun h => ?_) | refine bcs_ndec (fun h => ?_) (fun h => ?_) | refine bcs_not ?_ | refine bcs_intro (fun h => ?_) (fun h => ?_) | refine And.intro ?_ ?_ | refine reg_tail (by kernel_rfl) ?_)
  obtain ⟨r1, r2, r3, r4, r5⟩ := valid_range hv
  refine loop_rule (α := Nat × Int × Int × List Chg) (fun (k, a, b, out) => ⟨[(20, .s 0 0 s.length), (21, .v (.int .i64 s.length)), (22, .v (.int .i64 k)), (9, .o 1)], [(0, chRo s), (1, chOwn out)], 2⟩)
    (fun (k, a, b, out) => k ≤ s.length ∧ 0 ≤ a ∧ a ≤ n ∧ 0 ≤ b ∧ b ≤ m ∧ (out.length : Int) ≤ a + b ∧ validF (s.drop k) a b n m = 0 ∧ (out ≠ [] → (lastC out).A + (lastC out).N = a ∧ (lastC out).B + (lastC out).M = b ∧ 0 ≤ (lastC out).A ∧ 0 ≤ (lastC out).N ∧ 0 ≤ (lastC out).B ∧ 0 ≤ (lastC out).M) ∧ mergeF out (s.drop k) = normF s)
    (fun (k, a, b, out) => s.length - k) (0, 0, 0, []) [.nil 4] ?_ ?_ ?_
  · refine ⟨by omega, by omega, by omega, by omega, by omega, by simp, r5, fun h => absurd rfl h, rfl⟩
  · (refine ⟨rfl, rfl, ?_, ?_⟩ <;> repeat' (first | refine And.intro ?_ ?_ | exact trivial | exact rfl | refine lt0 | refine lt1 ?_ | refine lt2 ?_ ?_ | refine lt3 ?_ ?_ ?_ | refine lt4 ?_ ?_ ?_ ?_ | exact veq_refl _ | decide | (intro i hi; repeat' (first | refine And.intro ?_ ?_ | exact trivial | exact rfl))))
    all_goals omega
  · rintro ⟨k, a, b, out⟩ ⟨h1, h2, h3, h4, h5, h6, h7, h8, h9⟩
    have hb : k < s.length → ¬ bad (s.getD (0 + (k : Int).toNat) Chg.d) a b n m ∧ validF (s.drop (k + 1)) ((s.getD k Chg.d).A + (s.getD k Chg.d).N) ((s.getD k Chg.d).B + (s.getD k Chg.d).M) n m = 0 := fun h => by
      simpa using valid_at h7 h
    have hl : 1 ≤ out.length → (out.getD ((out.length : Int) - 1).toNat Chg.d).A + (out.getD ((out.length : Int) - 1).toNat Chg.d).N = a ∧ (out.getD ((out.length : Int) - 1).toNat Chg.d).B + (out.getD ((out.length : Int) - 1).toNat Chg.d).M = b ∧ 0 ≤ (out.getD ((out.length : Int) - 1).toNat Chg.d).A ∧ 0 ≤ (out.getD ((out.length : Int) - 1).toNat Chg.d).N ∧ 0 ≤ (out.getD ((out.length : Int) - 1).toNat Chg.d).B ∧ 0 ≤ (out.getD ((out.length : Int) - 1).toNat Chg.d).M := fun h => by
      have e : ((out.length : Int) - 1).toNat = out.length - 1 := by omega
      rw [e]; exact h8 (fun e => by subst e; simp at h)
    have hix : 1 ≤ out.length → ((out.length : Int) - 1).toNat = out.length - 1 := fun _ => by omega
    unfold bad at hb
    repeat' (first | refine And.intro (by first | omega | (dsimp only; omega) | (show (_ : Bool) = true; kernel_rfl) | decide | (repeat' (first | refine And.intro ?_ ?_ | exact trivial | exact rfl))) ?_ | refine bcs_dec (fun h => ?_) (fun h => ?_) | refine bcs_ndec (fun h => ?_) (fun h => ?_) | refine bcs_not ?_ | refine bcs_intro (fun h => ?_) (fun h => ?_) | refine And.intro ?_ ?_ | refine reg_tail (by kernel_rfl) ?_)
    · have hi' : ((out.length : Int) - 1).toNat = out.length - 1 := hix (by omega)
      have hil : ((out.length : Int) - 1).toNat < out.length := by omega
      obtain ⟨X, hX⟩ : ∃ X : Chg, X = ⟨(out.getD ((out.length : Int) - 1).toNat Chg.d).A, (out.getD ((out.length : Int) - 1).toNat Chg.d).N + (s.getD (0 + (k : Int).toNat) Chg.d).N, (out.getD ((out.length : Int) - 1).toNat Chg.d).B, (out.getD ((out.length : Int) - 1).toNat Chg.d).M⟩ := ⟨_, rfl⟩
      have hs1 := getD_set1 (d := Chg.d) (l := out) (i := ((out.length : Int) - 1).toNat) (x := X) hil
      have hs2 : ((out.set ((out.length : Int) - 1).toNat X).getD ((out.length : Int) - 1).toNat Chg.d).M = (out.getD ((out.length : Int) - 1).toNat Chg.d).M := by rw [hs1, hX]
      have hY : (lastC out).plus (s.getD k Chg.d) = ⟨X.A, X.N, X.B, X.M + (s.getD (0 + (k : Int).toNat) Chg.d).M⟩ := by rw [hX, hi']; simp
      have hne : out ≠ [] := fun e => by subst e; simp at hil
      refine sto1 Chg.enc Chg.d out X rfl hil (by rw [hX]; rfl) ?_
      repeat' (first | refine And.intro (by first | omega | (dsimp only; omega) | (show (_ : Bool) = true; kernel_rfl) | decide | (repeat' (first | refine And.intro ?_ ?_ | exact trivial | exact rfl))) ?_ | refine bcs_dec (fun h => ?_) (fun h => ?_) | refine bcs_ndec (fun h => ?_) (fun h => ?_) | refine bcs_not ?_ | refine bcs_intro (fun h => ?_) (fun h => ?_) | refine And.intro ?_ ?_ | refine reg_tail (by kernel_rfl) ?_)
      refine sto1 Chg.enc Chg.d (out.set ((out.length : Int) - 1).toNat X) ((lastC out).plus (s.getD k Chg.d)) ?_ (by simpa using hil) ?_ ?_
      · rw [List.length_set]
      · rw [hY]; dsimp only; rw [hs1]; rfl
      repeat' (first | refine And.intro (by first | omega | (dsimp only; omega) | (show (_ : Bool) = true; kernel_rfl) | decide | (repeat' (first | refine And.intro ?_ ?_ | exact trivial | exact rfl))) ?_ | refine bcs_dec (fun h => ?_) (fun h => ?_) | refine bcs_ndec (fun h => ?_) (fun h => ?_) | refine bcs_not ?_ | refine bcs_intro (fun h => ?_) (fun h => ?_) | refine And.intro ?_ ?_ | refine reg_tail (by kernel_rfl) ?_)
      refine ⟨(k + 1, (s.getD k Chg.d).A + (s.getD k Chg.d).N, (s.getD k Chg.d).B + (s.getD k Chg.d).M, (out.set ((out.length : Int) - 1).toNat X).set ((out.length : Int) - 1).toNat ((lastC out).plus (s.getD k Chg.d))), [.at 1 0], ?_, ?_, ?_⟩
      · have h8' := h8 hne
        have e1 : (out.set ((out.length : Int) - 1).toNat X).set ((out.length : Int) - 1).toNat ((lastC out).plus (s.getD k Chg.d)) = out.set (out.length - 1) ((lastC out).plus (s.getD k Chg.d)) := by rw [List.set_set, hi']
        have e2 : lastC ((out.set ((out.length : Int) - 1).toNat X).set ((out.length : Int) - 1).toNat ((lastC out).plus (s.getD k Chg.d))) = (lastC out).plus (s.getD k Chg.d) := by
          rw [e1]; unfold lastC; rw [List.length_set, getD_set1 (by omega)]
        rw [hi'] at hl h
        simp only [nm] at *
        refine ⟨by omega, by omega, by omega, by omega, by omega, by rw [List.length_set, List.length_set]; omega, (hb (by omega)).2, fun _ => ?_, ?_⟩
        · rw [e2]; dsimp only; omega
        · rw [← h9, drop_get Chg.d s k (by omega), e1]
          conv => rhs; simp only [mergeF]
          rw [if_pos ⟨hne, h⟩]
      · show s.length - (k + 1) < s.length - k
        omega
      · (refine ⟨rfl, rfl, ?_, ?_⟩ <;> repeat' (first | refine And.intro ?_ ?_ | exact trivial | exact rfl | refine lt0 | refine lt1 ?_ | refine lt2 ?_ ?_ | refine lt3 ?_ ?_ ?_ | refine lt4 ?_ ?_ ?_ ?_ | exact veq_refl _ | decide | (intro i hi; repeat' (first | refine And.intro ?_ ?_ | exact trivial | exact rfl))))
        all_goals first | omega | (simp; done)
    all_goals first
      | (refine app1 Chg.enc Chg.d out (s.getD k Chg.d) rfl (by simp; rfl) ?_
         repeat' (first | refine And.intro (by first | omega | (dsimp only; omega) | (show (_ : Bool) = true; kernel_rfl) | decide | (repeat' (first | refine And.intro ?_ ?_ | exact trivial | exact rfl))) ?_ | refine bcs_dec (fun h => ?_) (fun h => ?_) | refine bcs_ndec (fun h => ?_) (fun h => ?_) | refine bcs_not ?_ | refine bcs_intro (fun h => ?_) (fun h => ?_) | refine And.intro ?_ ?_ | refine reg_tail (by kernel_rfl) ?_)
         refine ⟨(k + 1, (s.getD k Chg.d).A + (s.getD k Chg.d).N, (s.getD k Chg.d).B + (s.getD k Chg.d).M, out ++ [s.getD k Chg.d]), [.at 4 0], ?_, ?_, ?_⟩
         · have hlast : lastC (out ++ [s.getD k Chg.d]) = s.getD k Chg.d := by simp
           have hno : ¬ (out ≠ [] ∧ (lastC out).A + (lastC out).N = (s.getD k Chg.d).A) := by
             rintro ⟨e1, e2⟩
             unfold lastC at e2
             have hp : 1 ≤ out.length := List.length_pos_iff.2 e1
             have hi' := hix hp
             first
               | omega
               | (rw [hi'] at h hl; simp only [nm] at *; omega)
           clear hix hl
           simp only [nm] at *
           refine ⟨by omega, by omega, by omega, by omega, by omega, by rw [List.length_append]; simp only [List.length_singleton]; omega, (hb (by omega)).2, fun _ => by rw [hlast]; omega, ?_⟩
           rw [← h9, drop_get Chg.d s k (by omega)]
           conv => rhs; simp only [mergeF]
           rw [if_neg hno]
         · show s.length - (k + 1) < s.length - k
           omega
         · (refine ⟨rfl, rfl, ?_, ?_⟩ <;> repeat' (first | refine And.intro ?_ ?_ | exact trivial | exact rfl | refine lt0 | refine lt1 ?_ | refine lt2 ?_ ?_ | refine lt3 ?_ ?_ ?_ | refine lt4 ?_ ?_ ?_ ?_ | exact veq_refl _ | decide | (intro i hi; repeat' (first | refine And.intro ?_ ?_ | exact trivial | exact rfl))))
           all_goals first | omega | (simp; done)
         done)
      | (refine ret_mem [.at 1 0] (by rfl) (by rfl) ?_ ?_
         · repeat' (first | refine And.intro ?_ ?_ | exact trivial)
           all_goals exact rfl
         · repeat' (first | refine And.intro ?_ ?_ | exact trivial)
           · rw [← h9, List.drop_of_length_le (by omega)]; rfl
           · intro i hi
             rw [← h9, List.drop_of_length_le (by omega)]
             repeat' (first | refine And.intro ?_ ?_ | exact trivial)
             all_goals exact rfl
         done)
end Go.Proofs.YtjlobgcmhnkgnaaDoor
