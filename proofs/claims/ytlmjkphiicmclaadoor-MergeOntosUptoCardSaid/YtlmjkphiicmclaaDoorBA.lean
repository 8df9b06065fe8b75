/- Chapter 18: folded together: parts H1, B1, B2, B3, B5, G1, P1, B4, B8, B9, B10, B13, B11, B12. -/
import Derived.Test.YtlmjkphiicmclaaDoorS1
namespace Go.Proofs.YtlmjkphiicmclaaDoor
open Go Go.RowKit Vc

theorem nil_of {r : Byt} (h : ((bs r).toList == (ByteArray.mk #[]).toList) = true) : r = [] := by
  have := (bs_eq r []).symm.trans h
  simpa using this
theorem cons_of {r : Byt} (h : ((bs r).toList == (ByteArray.mk #[]).toList) = false) : r ≠ [] := by
  have := (bs_eq r []).symm.trans h
  simpa using this
theorem seq (a : Byt) : ((bs a).toList == (bs a).toList) = true := by rw [bs_eq]; simp
theorem cut0 (r : Byt) (j : Nat) : (bs r).extract 0 j = bs (r.take j) := by rw [bs_cut]; simp
theorem cutE (r : Byt) (i : Nat) : (bs r).extract i (bs r).size = bs (r.drop i) := by
  rw [bs_cut, bs_size, List.take_of_length_le (by simp)]
theorem enc_eq {x y : ByteArray} (h : x = y) : [SV.v (.string x)] = [SV.v (.string y)] := by rw [h]
theorem bcs_t {b : Bool} {p q : Prop} (h : b = true) (k : p) : bcs b p q := by subst h; exact k
theorem bcs_f {b : Bool} {p q : Prop} (h : b = false) (k : q) : bcs b p q := by subst h; exact k
theorem one_of {x u : Byt} {w : ByteArray} (hu : u = x) (hv : w = bs x) : ((bs u).toList == w.toList) = true := by subst hu hv; exact seq u
theorem eqE (t : Byt) : ((bs t).toList == (ByteArray.mk #[]).toList) = decide (t = []) := bs_eq t []
end Go.Proofs.YtlmjkphiicmclaaDoor

namespace Go.Proofs.YtlmjkphiicmclaaDoor
open Go Go.RowKit Vc
structure Chg where
  A : Int
  N : Int
  B : Int
  M : Int
abbrev Chg.enc (c : Chg) : List SV := [.v (.int .i64 c.A), .v (.int .i64 c.N), .v (.int .i64 c.B), .v (.int .i64 c.M)]
abbrev Chg.d : Chg := ⟨0, 0, 0, 0⟩
abbrev chRow (l : List Chg) : Nat → List SV := fun i => Chg.enc (l.getD i Chg.d)
abbrev chRo (l : List Chg) : Ch := .ro 4 l.length (chRow l)
def costF : List Chg → Int → Int → Int × Int
  | [], n, m => (n, m)
  | c :: r, n, m => if c.A < 0 ∨ c.B < 0 ∨ c.N < 0 ∨ c.M < 0 ∨ c.N > 4611686018427387904 - n ∨ c.M > 4611686018427387904 - m then (0, 0) else costF r (n + c.N) (m + c.M)

end Go.Proofs.YtlmjkphiicmclaaDoor

namespace Go.Proofs.YtlmjkphiicmclaaDoor
open Go Go.RowKit Vc

/-- Is the rest of a script one, from (a, b) on? -/
def bad (c : Chg) (a b n m : Int) : Prop := c.N < 0 ∨ c.M < 0 ∨ (c.N = 0 ∧ c.M = 0) ∨ c.A < a ∨ c.A > n ∨ c.B < b ∨ c.B > m ∨ c.A - a ≠ c.B - b ∨ c.N > n - c.A ∨ c.M > m - c.B
instance (c : Chg) (a b n m : Int) : Decidable (bad c a b n m) := by unfold bad; infer_instance
def validF : List Chg → Int → Int → Int → Int → Int
  | [], a, b, n, m => if n - a ≠ m - b then 60 else 0
  | c :: r, a, b, n, m => if bad c a b n m then 60 else validF r (c.A + c.N) (c.B + c.M) n m
def validE (s : List Chg) (n m : Int) : Int := if n < 0 ∨ n > 4194304 ∨ m < 0 ∨ m > 4194304 then 1 else validF s 0 0 n m

def errV (e : Int) : Value := if e = 0 then .nilIface else .iface 67 (.int .i64 e)
theorem errV_0 {e : Int} (h : e = 0) : errV e = .nilIface := if_pos h
theorem errV_n {e : Int} (h : e ≠ 0) : errV e = .iface 67 (.int .i64 e) := if_neg h
end Go.Proofs.YtlmjkphiicmclaaDoor

namespace Go.Proofs.YtlmjkphiicmclaaDoor
open Go Go.RowKit Vc


set_option maxRecDepth 100000 in
set_option maxHeartbeats 4000000 in
theorem valid_con (s : List Chg) (n m : Int) (hs : s.length ≤ 9223372036854775807) : Con Tryd.prog glob 67 [.s 0 0 s.length, .v (.int .i64 n), .v (.int .i64 m)] [(0, chRo s)] 1 (retV 1 (.v (errV (validE s n m)))) := by
  refine spec_intro (tab := tab) (N := 123) Tryd.func67 rfl rfl tab_ok mix rfl rfl _ rfl ?_
  intro B hG
  repeat' (first | refine And.intro (by first | omega | (dsimp only; omega) | (show (_ : Bool) = true; kernel_rfl) | decide | (repeat' (first | refine And.intro ?_ ?_ | exact trivial | exact rfl))) ?_ | refine bcs_dec (fun h => ?_) (fun h => ?_) | refine bcs_ndec (fun h => ?_) (fun h => ?_) | refine bcs_not ?_ | refine bcs_intro (fun h => ?_) (fun h => ?_) | refine And.intro ?_ ?_ | refine reg_tail (by kernel_rfl) ?_)
  all_goals first
    | (refine ret_plain ?_
       refine veq_of_eq ?_
       rw [show validE s n m = 1 by unfold validE; rw [if_pos (by omega)]]
       rfl
       done)
    | skip
  have h0 : ¬ (n < 0 ∨ n > 4194304 ∨ m < 0 ∨ m > 4194304) := by omega
  refine loop_rule (α := Nat × Int × Int) (fun (k, a, b) => ⟨[(1, .v (.int .i64 n)), (2, .v (.int .i64 m)), (26, .s 0 0 s.length), (27, .v (.int .i64 s.length)), (28, .v (.int .i64 k)), (7, .v (.int .i64 a)), (8, .v (.int .i64 b))], [(0, chRo s)], 1⟩)
    (fun (k, a, b) => k ≤ s.length ∧ 0 ≤ a ∧ a ≤ n ∧ 0 ≤ b ∧ b ≤ m ∧ validF (s.drop k) a b n m = validE s n m) (fun (k, a, b) => s.length - k) (0, 0, 0) [] ?_ ?_ ?_
  · refine ⟨by omega, by omega, by omega, by omega, by omega, ?_⟩
    unfold validE; rw [if_neg h0]; rfl
  · (refine ⟨rfl, rfl, ?_, ?_⟩ <;> repeat' (first | refine And.intro ?_ ?_ | exact trivial | exact rfl | refine lt0 | refine lt1 ?_ | refine lt2 ?_ ?_ | refine lt3 ?_ ?_ ?_ | refine lt4 ?_ ?_ ?_ ?_ | exact veq_refl _ | decide | (intro i hi; repeat' (first | refine And.intro ?_ ?_ | exact trivial | exact rfl))))
    exact Nat.le_refl _
  · rintro ⟨k, a, b⟩ ⟨h1, h2, h3, h4, h5, h6⟩
    repeat' (first | refine And.intro (by first | omega | (dsimp only; omega) | (show (_ : Bool) = true; kernel_rfl) | decide | (repeat' (first | refine And.intro ?_ ?_ | exact trivial | exact rfl))) ?_ | refine bcs_dec (fun h => ?_) (fun h => ?_) | refine bcs_ndec (fun h => ?_) (fun h => ?_) | refine bcs_not ?_ | refine bcs_intro (fun h => ?_) (fun h => ?_) | refine And.intro ?_ ?_ | refine reg_tail (by kernel_rfl) ?_)
    all_goals first
      | omega
      | kernel_rfl
      | (refine ret_plain ?_
         refine veq_of_eq ?_
         simp only [nm] at *
         rw [show validE s n m = 60 by
           rw [← h6, drop_get Chg.d s k (by omega)]
           simp only [validF]
           rw [if_pos (by unfold bad; omega)]]
         rfl
         done)
      | skip
    all_goals first
      | (refine ⟨(k + 1, (s.getD k Chg.d).A + (s.getD k Chg.d).N, (s.getD k Chg.d).B + (s.getD k Chg.d).M), [], ?_, ?_, ?_⟩
         · simp only [nm] at *
           refine ⟨by omega, by omega, by omega, by omega, by omega, ?_⟩
           rw [← h6, drop_get Chg.d s k (by omega)]
           simp only [validF]
           rw [if_neg (by unfold bad; omega)]
         · show s.length - (k + 1) < s.length - k
           omega
         · (refine ⟨rfl, rfl, ?_, ?_⟩ <;> repeat' (first | refine And.intro ?_ ?_ | exact trivial | exact rfl | refine lt0 | refine lt1 ?_ | refine lt2 ?_ ?_ | refine lt3 ?_ ?_ ?_ | refine lt4 ?_ ?_ ?_ ?_ | exact veq_refl _ | decide | (intro i hi; repeat' (first | refine And.intro ?_ ?_ | exact trivial | exact rfl))))
           · simp only [nm] at *; rfl
           · simp only [nm] at *; rfl
           · exact Nat.le_refl _
         done)
      | (refine ret_plain ?_
         refine veq_of_eq ?_
         first
           | (rw [show validE s n m = 60 by
                rw [← h6, List.drop_of_length_le (by omega)]
                simp only [validF]
                rw [if_pos (by omega)]]
              rfl
              done)
           | (rw [show validE s n m = 0 by
                rw [← h6, List.drop_of_length_le (by omega)]
                simp only [validF]
                rw [if_neg (by omega)]]
              rfl
              done))
end Go.Proofs.YtlmjkphiicmclaaDoor

namespace Go.Proofs.YtlmjkphiicmclaaDoor
open Go Go.RowKit Vc

abbrev chOwn (l : List Chg) : Ch := .own 50 4 l.length (chRow l)
theorem valid_ok {s : List Chg} {n m : Int} (hs : s.length ≤ 9223372036854775807) (hv : validE s n m = 0) : Con Tryd.prog glob 67 [.s 0 0 s.length, .v (.int .i64 n), .v (.int .i64 m)] [(0, chRo s)] 1 (retV 1 (.v .nilIface)) := by
  have := valid_con s n m hs
  rwa [errV_0 hv] at this
theorem valid_no {s : List Chg} {n m : Int} (hs : s.length ≤ 9223372036854775807) (hv : validE s n m ≠ 0) : Con Tryd.prog glob 67 [.s 0 0 s.length, .v (.int .i64 n), .v (.int .i64 m)] [(0, chRo s)] 1 (retV 1 (.v (.iface 67 (.int .i64 (validE s n m))))) := by
  have := valid_con s n m hs
  rwa [errV_n hv] at this

theorem valid_range {s : List Chg} {n m : Int} (h : validE s n m = 0) : 0 ≤ n ∧ n ≤ 4194304 ∧ 0 ≤ m ∧ m ≤ 4194304 ∧ validF s 0 0 n m = 0 := by
  unfold validE at h
  by_cases hc : n < 0 ∨ n > 4194304 ∨ m < 0 ∨ m > 4194304
  · rw [if_pos hc] at h; omega
  · rw [if_neg hc] at h; exact ⟨by omega, by omega, by omega, by omega, h⟩
theorem valid_cons {c : Chg} {r : List Chg} {a b n m : Int} (h : validF (c :: r) a b n m = 0) : ¬ bad c a b n m ∧ validF r (c.A + c.N) (c.B + c.M) n m = 0 := by
  simp only [validF] at h
  by_cases hc : bad c a b n m
  · rw [if_pos hc] at h; omega
  · rw [if_neg hc] at h; exact ⟨hc, h⟩
theorem valid_nil {a b n m : Int} (h : validF [] a b n m = 0) : n - a = m - b := by
  simp only [validF] at h
  by_cases hc : n - a ≠ m - b
  · rw [if_pos hc] at h; omega
  · omega
theorem valid_at {s : List Chg} {k : Nat} {a b n m : Int} (h : validF (s.drop k) a b n m = 0) (hk : k < s.length) :
    ¬ bad (s.getD k Chg.d) a b n m ∧ validF (s.drop (k + 1)) ((s.getD k Chg.d).A + (s.getD k Chg.d).N) ((s.getD k Chg.d).B + (s.getD k Chg.d).M) n m = 0 := by
  rw [drop_get Chg.d s k hk] at h
  exact valid_cons h

abbrev Chg.plus (l c : Chg) : Chg := ⟨l.A, l.N + c.N, l.B, l.M + c.M⟩
abbrev lastC (l : List Chg) : Chg := l.getD (l.length - 1) Chg.d
def mergeF : List Chg → List Chg → List Chg
  | out, [] => out
  | out, c :: r => if out ≠ [] ∧ (lastC out).A + (lastC out).N = c.A then mergeF (out.set (out.length - 1) ((lastC out).plus c)) r else mergeF (out ++ [c]) r
abbrev normF (s : List Chg) : List Chg := mergeF [] s

set_option maxRecDepth 100000 in
set_option maxHeartbeats 4000000 in
theorem normal_no {s : List Chg} {n m : Int} (hs : s.length ≤ 9223372036854775807) (hv : validE s n m ≠ 0) : Con Tryd.prog glob 47 [.s 0 0 s.length, .v (.int .i64 n), .v (.int .i64 m)] [(0, chRo s)] 1
    (retM (.t [.o 1, .v (.iface 67 (.int .i64 (validE s n m)))]) [(1, chOwn [])] 2) := by
  refine spec_intro (tab := tab) (N := 73) Tryd.func47 rfl rfl tab_ok mix rfl rfl _ rfl ?_
  intro B hG
  repeat' (first | refine And.intro (by first | omega | (dsimp only; omega) | (show (_ : Bool) = true; kernel_rfl) | decide | (repeat' (first | refine And.intro ?_ ?_ | exact trivial | exact rfl))) ?_ | refine bcs_dec (fun h => ?_) (fun h => ?_) | refine bcs_ndec (fun h => ?_) (fun h => ?_) | refine bcs_not ?_ | refine bcs_intro (fun h => ?_) (fun h => ?_) | refine And.intro ?_ ?_ | refine reg_tail (by kernel_rfl) ?_)
  refine call_rule [.at 0 0] (valid_no hs hv) hG ?_ ?_
  · (refine ⟨?_, ?_, rfl, rfl, rfl⟩ <;> repeat' (first | refine And.intro ?_ ?_ | exact trivial | exact rfl | refine lt0 | refine lt1 ?_ | refine lt2 ?_ ?_ | refine lt3 ?_ ?_ ?_ | refine lt4 ?_ ?_ ?_ ?_ | exact veq_refl _ | decide | (intro i hi; repeat' (first | refine And.intro ?_ ?_ | exact trivial | exact rfl))))
    all_goals omega
  rintro _ _ _ ⟨rfl, rfl, rfl⟩
  repeat' (first | refine And.intro (by first | omega | (dsimp only; omega) | (show (_ : Bool) = true; kernel_rfl) | decide | (repeat' (first | refine And.intro ?_ ?_ | exact trivial | exact rfl))) ?_ | refine bcs_dec (fun h => ?_) (fun h => ?_) | refine bcs_ndec (fun h => ?_) (fun h => ?_) | refine bcs_not ?_ | refine bcs_intro (fun h => ?_) (fun h => ?_) | refine And.intro ?_ ?_ | refine reg_tail (by kernel_rfl) ?_)
  refine ret_mem [.nil 4] rfl rfl ?_ ?_
  · repeat' (first | refine And.intro ?_ ?_ | exact trivial)
    all_goals exact rfl
  · repeat' (first | refine And.intro ?_ ?_ | exact trivial)
    all_goals exact rfl

set_option maxRecDepth 100000 in
set_option maxHeartbeats 4000000 in
theorem normal_ok {s : List Chg} {n m : Int} (hs : s.length ≤ 9223372036854775807) (hv : validE s n m = 0) : Con Tryd.prog glob 47 [.s 0 0 s.length, .v (.int .i64 n), .v (.int .i64 m)] [(0, chRo s)] 1
    (retM (.t [.o 1, .v .nilIface]) [(1, chOwn (normF s))] 2) := by
  refine spec_intro (tab := tab) (N := 73) Tryd.func47 rfl rfl tab_ok mix rfl rfl _ rfl ?_
  intro B hG
  repeat' (first | refine And.intro (by first | omega | (dsimp only; omega) | (show (_ : Bool) = true; kernel_rfl) | decide | (repeat' (first | refine And.intro ?_ ?_ | exact trivial | exact rfl))) ?_ | refine bcs_dec (fun h => ?_) (fun h => ?_) | refine bcs_ndec (fun h => ?_) (fun h => ?_) | refine bcs_not ?_ | refine bcs_intro (fun h => ?_) (fun h => ?_) | refine And.intro ?_ ?_ | refine reg_tail (by kernel_rfl) ?_)
  refine call_rule [.at 0 0] (valid_ok hs hv) hG ?_ ?_
  · (refine ⟨?_, ?_, rfl, rfl, rfl⟩ <;> repeat' (first | refine And.intro ?_ ?_ | exact trivial | exact rfl | refine lt0 | refine lt1 ?_ | refine lt2 ?_ ?_ | refine lt3 ?_ ?_ ?_ | refine lt4 ?_ ?_ ?_ ?_ | exact veq_refl _ | decide | (intro i hi; repeat' (first | refine And.intro ?_ ?_ | exact trivial | exact rfl))))
    all_goals omega
  rintro _ _ _ ⟨rfl, rfl, rfl⟩
  repeat' (first | refine And.intro (by first | omega | (dsimp only; omega) | (show (_ : Bool) = true; kernel_rfl) | decide | (repeat' (first | refine And.intro ?_ ?_ | exact trivial | exact rfl))) ?_ | refine bcs_dec (fun h => ?_) (fun h => ?_) | refine bcs_ndec (fun h => ?_) (fun h => ?_) | refine bcs_not ?_ | refine bcs_intro (fun h => ?_) (fun h => ?_) | refine And.intro ?_ ?_ | refine reg_tail (by kernel_rfl) ?_)
  obtain ⟨r1, r2, r3, r4, r5⟩ := valid_range hv
  refine loop_rule (α := Nat × Int × Int × List Chg) (fun (k, a, b, out) => ⟨[(20, .s 0 0 s.length), (21, .v (.int .i64 s.length)), (22, .v (.int .i64 k)), (9, .o 1)], [(0, chRo s), (1, chOwn out)], 2⟩)
    (fun (k, a, b, out) => k ≤ s.length ∧ 0 ≤ a ∧ a ≤ n ∧ 0 ≤ b ∧ b ≤ m ∧ (out.length : Int) ≤ a + b ∧ validF (s.drop k) a b n m = 0 ∧ (out ≠ [] → (lastC out).A + (lastC out).N = a ∧ (lastC out).B + (lastC out).M = b ∧ 0 ≤ (lastC out).A ∧ 0 ≤ (lastC out).N ∧ 0 ≤ (lastC out).B ∧ 0 ≤ (lastC out).M) ∧ mergeF out (s.drop k) = normF s)
    (fun (k, a, b, out) => s.length - k) (0, 0, 0, []) [.nil 4] ?_ ?_ ?_
  · refine ⟨by omega, by omega, by omega, by omega, by omega, by simp, r5, fun h => absurd rfl h, rfl⟩
  · (refine ⟨rfl, rfl, ?_, ?_⟩ <;> repeat' (first | refine And.intro ?_ ?_ | exact trivial | exact rfl | refine lt0 | refine lt1 ?_ | refine lt2 ?_ ?_ | refine lt3 ?_ ?_ ?_ | refine lt4 ?_ ?_ ?_ ?_ | exact veq_refl _ | decide | (intro i hi; repeat' (first | refine And.intro ?_ ?_ | exact trivial | exact rfl))))
    all_goals omega
  · rintro ⟨k, a, b, out⟩ ⟨h1, h2, h3, h4, h5, h6, h7, h8, h9⟩
    have hb : k < s.length → ¬ bad (s.getD (0 + (k : Int).toNat) Chg.d) a b n m ∧ validF (s.drop (k + 1)) ((s.getD k Chg.d).A + (s.getD k Chg.d).N) ((s.getD k Chg.d).B + (s.getD k Chg.d).M) n m = 0 := fun h => by
      simpa using valid_at h7 h
    have hl : 1 ≤ out.length → (out.getD ((out.length : Int) - 1).toNat Chg.d).A + (out.getD ((out.length : Int) - 1).toNat Chg.d).N = a ∧ (out.getD ((out.length : Int) - 1).toNat Chg.d).B + (out.getD ((out.length : Int) - 1).toNat Chg.d).M = b ∧ 0 ≤ (out.getD ((out.length : Int) - 1).toNat Chg.d).A ∧ 0 ≤ (out.getD ((out.length : Int) - 1).toNat Chg.d).N ∧ 0 ≤ (out.getD ((out.length : Int) - 1).toNat Chg.d).B ∧ 0 ≤ (out.getD ((out.length : Int) - 1).toNat Chg.d).M := fun h => by
      have e : ((out.length : Int) - 1).toNat = out.length - 1 := by omega
      rw [e]; exact h8 (fun e => by subst e; simp at h)
    have hix : 1 ≤ out.length → ((out.length : Int) - 1).toNat = out.length - 1 := fun _ => by omega
    unfold bad at hb
    repeat' (first | refine And.intro (by first | omega | (dsimp only; omega) | (show (_ : Bool) = true; kernel_rfl) | decide | (repeat' (first | refine And.intro ?_ ?_ | exact trivial | exact rfl))) ?_ | refine bcs_dec (fun h => ?_) (fun h => ?_) | refine bcs_ndec (fun h => ?_) (fun h => ?_) | refine bcs_not ?_ | refine bcs_intro (fun h => ?_) (fun h => ?_) | refine And.intro ?_ ?_ | refine reg_tail (by kernel_rfl) ?_)
    · have hi' : ((out.length : Int) - 1).toNat = out.length - 1 := hix (by omega)
      have hil : ((out.length : Int) - 1).toNat < out.length := by omega
      obtain ⟨X, hX⟩ : ∃ X : Chg, X = ⟨(out.getD ((out.length : Int) - 1).toNat Chg.d).A, (out.getD ((out.length : Int) - 1).toNat Chg.d).N + (s.getD (0 + (k : Int).toNat) Chg.d).N, (out.getD ((out.length : Int) - 1).toNat Chg.d).B, (out.getD ((out.length : Int) - 1).toNat Chg.d).M⟩ := ⟨_, rfl⟩
      have hs1 := getD_set1 (d := Chg.d) (l := out) (i := ((out.length : Int) - 1).toNat) (x := X) hil
      have hs2 : ((out.set ((out.length : Int) - 1).toNat X).getD ((out.length : Int) - 1).toNat Chg.d).M = (out.getD ((out.length : Int) - 1).toNat Chg.d).M := by rw [hs1, hX]
      have hY : (lastC out).plus (s.getD k Chg.d) = ⟨X.A, X.N, X.B, X.M + (s.getD (0 + (k : Int).toNat) Chg.d).M⟩ := by rw [hX, hi']; simp
      have hne : out ≠ [] := fun e => by subst e; simp at hil
      refine sto1 Chg.enc Chg.d out X rfl hil (by rw [hX]; rfl) ?_
      repeat' (first | refine And.intro (by first | omega | (dsimp only; omega) | (show (_ : Bool) = true; kernel_rfl) | decide | (repeat' (first | refine And.intro ?_ ?_ | exact trivial | exact rfl))) ?_ | refine bcs_dec (fun h => ?_) (fun h => ?_) | refine bcs_ndec (fun h => ?_) (fun h => ?_) | refine bcs_not ?_ | refine bcs_intro (fun h => ?_) (fun h => ?_) | refine And.intro ?_ ?_ | refine reg_tail (by kernel_rfl) ?_)
      refine sto1 Chg.enc Chg.d (out.set ((out.length : Int) - 1).toNat X) ((lastC out).plus (s.getD k Chg.d)) ?_ (by simpa using hil) ?_ ?_
      · rw [List.length_set]
      · rw [hY]; dsimp only; rw [hs1]; rfl
      repeat' (first | refine And.intro (by first | omega | (dsimp only; omega) | (show (_ : Bool) = true; kernel_rfl) | decide | (repeat' (first | refine And.intro ?_ ?_ | exact trivial | exact rfl))) ?_ | refine bcs_dec (fun h => ?_) (fun h => ?_) | refine bcs_ndec (fun h => ?_) (fun h => ?_) | refine bcs_not ?_ | refine bcs_intro (fun h => ?_) (fun h => ?_) | refine And.intro ?_ ?_ | refine reg_tail (by kernel_rfl) ?_)
      refine ⟨(k + 1, (s.getD k Chg.d).A + (s.getD k Chg.d).N, (s.getD k Chg.d).B + (s.getD k Chg.d).M, (out.set ((out.length : Int) - 1).toNat X).set ((out.length : Int) - 1).toNat ((lastC out).plus (s.getD k Chg.d))), [.at 1 0], ?_, ?_, ?_⟩
      · have h8' := h8 hne
        have e1 : (out.set ((out.length : Int) - 1).toNat X).set ((out.length : Int) - 1).toNat ((lastC out).plus (s.getD k Chg.d)) = out.set (out.length - 1) ((lastC out).plus (s.getD k Chg.d)) := by rw [List.set_set, hi']
        have e2 : lastC ((out.set ((out.length : Int) - 1).toNat X).set ((out.length : Int) - 1).toNat ((lastC out).plus (s.getD k Chg.d))) = (lastC out).plus (s.getD k Chg.d) := by
          rw [e1]; unfold lastC; rw [List.length_set, getD_set1 (by omega)]
        rw [hi'] at hl h
        simp only [nm] at *
        refine ⟨by omega, by omega, by omega, by omega, by omega, by rw [List.length_set, List.length_set]; omega, (hb (by omega)).2, fun _ => ?_, ?_⟩
        · rw [e2]; dsimp only; omega
        · rw [← h9, drop_get Chg.d s k (by omega), e1]
          conv => rhs; simp only [mergeF]
          rw [if_pos ⟨hne, h⟩]
      · show s.length - (k + 1) < s.length - k
        omega
      · (refine ⟨rfl, rfl, ?_, ?_⟩ <;> repeat' (first | refine And.intro ?_ ?_ | exact trivial | exact rfl | refine lt0 | refine lt1 ?_ | refine lt2 ?_ ?_ | refine lt3 ?_ ?_ ?_ | refine lt4 ?_ ?_ ?_ ?_ | exact veq_refl _ | decide | (intro i hi; repeat' (first | refine And.intro ?_ ?_ | exact trivial | exact rfl))))
        all_goals first | omega | (simp; done)
    all_goals first
      | (refine app1 Chg.enc Chg.d out (s.getD k Chg.d) rfl (by simp; rfl) ?_
         repeat' (first | refine And.intro (by first | omega | (dsimp only; omega) | (show (_ : Bool) = true; kernel_rfl) | decide | (repeat' (first | refine And.intro ?_ ?_ | exact trivial | exact rfl))) ?_ | refine bcs_dec (fun h => ?_) (fun h => ?_) | refine bcs_ndec (fun h => ?_) (fun h => ?_) | refine bcs_not ?_ | refine bcs_intro (fun h => ?_) (fun h => ?_) | refine And.intro ?_ ?_ | refine reg_tail (by kernel_rfl) ?_)
         refine ⟨(k + 1, (s.getD k Chg.d).A + (s.getD k Chg.d).N, (s.getD k Chg.d).B + (s.getD k Chg.d).M, out ++ [s.getD k Chg.d]), [.at 4 0], ?_, ?_, ?_⟩
         · have hlast : lastC (out ++ [s.getD k Chg.d]) = s.getD k Chg.d := by simp
           have hno : ¬ (out ≠ [] ∧ (lastC out).A + (lastC out).N = (s.getD k Chg.d).A) := by
             rintro ⟨e1, e2⟩
             unfold lastC at e2
             have hp : 1 ≤ out.length := List.length_pos_iff.2 e1
             have hi' := hix hp
             first
               | omega
               | (rw [hi'] at h hl; simp only [nm] at *; omega)
           clear hix hl
           simp only [nm] at *
           refine ⟨by omega, by omega, by omega, by omega, by omega, by rw [List.length_append]; simp only [List.length_singleton]; omega, (hb (by omega)).2, fun _ => by rw [hlast]; omega, ?_⟩
           rw [← h9, drop_get Chg.d s k (by omega)]
           conv => rhs; simp only [mergeF]
           rw [if_neg hno]
         · show s.length - (k + 1) < s.length - k
           omega
         · (refine ⟨rfl, rfl, ?_, ?_⟩ <;> repeat' (first | refine And.intro ?_ ?_ | exact trivial | exact rfl | refine lt0 | refine lt1 ?_ | refine lt2 ?_ ?_ | refine lt3 ?_ ?_ ?_ | refine lt4 ?_ ?_ ?_ ?_ | exact veq_refl _ | decide | (intro i hi; repeat' (first | refine And.intro ?_ ?_ | exact trivial | exact rfl))))
           all_goals first | omega | (simp; done)
         done)
      | (refine ret_mem [.at 1 0] (by rfl) (by rfl) ?_ ?_
         · repeat' (first | refine And.intro ?_ ?_ | exact trivial)
           all_goals exact rfl
         · repeat' (first | refine And.intro ?_ ?_ | exact trivial)
           · rw [← h9, List.drop_of_length_le (by omega)]; rfl
           · intro i hi
             rw [← h9, List.drop_of_length_le (by omega)]
             repeat' (first | refine And.intro ?_ ?_ | exact trivial)
             all_goals exact rfl
         done)
end Go.Proofs.YtlmjkphiicmclaaDoor

namespace Go.Proofs.YtlmjkphiicmclaaDoor
open Go Go.RowKit Vc

/-- Changes left on both sides, up to where the base is taken, how much longer either text has become. -/
structure GS where
  p : List Chg
  q : List Chg
  tw : Int
  mx : Int
  my : Int
def hd (l : List Chg) (t : Int) : Bool := match l with
  | [] => false
  | c :: _ => decide (c.A ≤ t)
def GS.takeX (g : GS) : GS := ⟨g.p.tail, g.q, max g.tw ((g.p.getD 0 Chg.d).A + (g.p.getD 0 Chg.d).N), g.mx + ((g.p.getD 0 Chg.d).M - (g.p.getD 0 Chg.d).N), g.my⟩
def GS.takeY (g : GS) : GS := ⟨g.p, g.q.tail, max g.tw ((g.q.getD 0 Chg.d).A + (g.q.getD 0 Chg.d).N), g.mx, g.my + ((g.q.getD 0 Chg.d).M - (g.q.getD 0 Chg.d).N)⟩
def gth : Nat → GS → GS
  | 0, g => g
  | n + 1, g => if hd g.p g.tw then gth n g.takeX else if hd g.q g.tw then gth n g.takeY else g
theorem hd_mono {l : List Chg} {t u : Int} (h : hd l t = true) (k : t ≤ u) : hd l u = true := by
  cases l with
  | nil => cases h
  | cons c r => exact decide_eq_true (Int.le_trans (of_decide_eq_true h) k)
theorem hd_pos {l : List Chg} {t : Int} (h : hd l t = true) : 1 ≤ l.length := by
  cases l with
  | nil => cases h
  | cons c r => simp
theorem take_comm (g : GS) : g.takeX.takeY = g.takeY.takeX := by
  simp only [GS.takeX, GS.takeY, GS.mk.injEq, true_and, and_true]
  omega
theorem gth_X {n : Nat} {g : GS} (h : hd g.p g.tw = true) : gth (n + 1) g = gth n g.takeX := if_pos h
theorem gth_Y : ∀ (n : Nat) (g : GS), g.p.length + g.q.length ≤ n + 1 → hd g.q g.tw = true → gth (n + 1) g = gth n g.takeY
  | 0, g, hl, h => by
    have := hd_pos h
    have hp : hd g.p g.tw = false := by
      cases e : hd g.p g.tw with
      | false => rfl
      | true => have := hd_pos e; omega
    simp only [gth, hp, h]
    rfl
  | n + 1, g, hl, h => by
    cases hp : hd g.p g.tw with
    | false => simp only [gth, hp, h]; rfl
    | true =>
      have h1 := hd_pos hp
      have h2 := hd_pos h
      have hX : hd g.takeX.q g.takeX.tw = true := hd_mono h (by show g.tw ≤ max g.tw _; omega)
      have hY : hd g.takeY.p g.takeY.tw = true := hd_mono hp (by show g.tw ≤ max g.tw _; omega)
      rw [gth_X hp, gth_Y n g.takeX (by show g.p.tail.length + g.q.length ≤ n + 1; rw [List.length_tail]; omega) hX, gth_X hY, take_comm]
theorem gth_done {n : Nat} {g : GS} (h1 : hd g.p g.tw = false) (h2 : hd g.q g.tw = false) : gth n g = g := by
  cases n with
  | zero => rfl
  | succ n => simp only [gth, h1, h2]; rfl
end Go.Proofs.YtlmjkphiicmclaaDoor

namespace Go.Proofs.YtlmjkphiicmclaaDoor
open Go Go.RowKit Vc


/-- The lines of a text, behind what has been read of the first one. -/
def splitG : Byt → Byt → List Byt
  | [], [] => []
  | [], c :: cur => [c :: cur]
  | c :: r, cur => if c = 10 then (cur ++ [c]) :: splitG r [] else splitG r (cur ++ [c])
def splitF (l : Byt) : List Byt := splitG l []
theorem splitG_end {cur : Byt} (h : cur ≠ []) : splitG [] cur = [cur] := by
  cases cur with
  | nil => exact absurd rfl h
  | cons c r => rfl
theorem idx_nil : Lib.indexByte [] 10 = -1 := rfl
theorem idx_cons (c : UInt8) (r : Byt) : Lib.indexByte (c :: r) 10 = if c = 10 then 0 else if Lib.indexByte r 10 = -1 then -1 else Lib.indexByte r 10 + 1 := by
  by_cases h : c = 10 <;> simp [Lib.indexByte, h]
theorem idx_cases : ∀ l : Byt, (Lib.indexByte l 10 = -1 ∧ (10 : UInt8) ∉ l) ∨ ∃ k : Nat, Lib.indexByte l 10 = k ∧ k < l.length ∧ l.getD k 0 = 10 ∧ (10 : UInt8) ∉ l.take k
  | [] => .inl ⟨rfl, by simp⟩
  | c :: r => by
    rw [idx_cons]
    by_cases h : c = 10
    · rw [if_pos h]
      exact .inr ⟨0, rfl, by simp, by simp [h], by simp⟩
    · rw [if_neg h]
      have hne : ¬ (10 : UInt8) = c := fun e => h e.symm
      rcases idx_cases r with ⟨h1, h2⟩ | ⟨k, h1, h2, h3, h4⟩
      · rw [if_pos h1]
        exact .inl ⟨rfl, by simp [hne, h2]⟩
      · rw [if_neg (by omega)]
        exact .inr ⟨k + 1, by omega, by simp; omega, by simpa using h3, by simp [hne, h4]⟩
theorem splitG_none : ∀ {r : Byt} (cur : Byt), (10 : UInt8) ∉ r → splitG r cur = splitG [] (cur ++ r)
  | [], cur, _ => by rw [List.append_nil]
  | c :: r, cur, h => by
    simp only [List.mem_cons, not_or] at h
    simp only [splitG]
    rw [if_neg fun e => h.1 e.symm, splitG_none (cur ++ [c]) h.2, List.append_assoc]
    rfl
theorem splitG_some : ∀ {r : Byt} {k : Nat} (cur : Byt), k < r.length → r.getD k 0 = 10 → (10 : UInt8) ∉ r.take k → splitG r cur = (cur ++ r.take (k + 1)) :: splitG (r.drop (k + 1)) []
  | [], _, _, h, _, _ => by simp at h
  | c :: r, 0, cur, _, h, _ => by
    simp at h
    simp [splitG, h]
  | c :: r, k + 1, cur, h, h1, h2 => by
    simp only [List.take_succ_cons, List.mem_cons, not_or] at h2
    simp only [splitG]
    rw [if_neg fun e => h2.1 e.symm, splitG_some (k := k) (cur ++ [c]) (by simpa using h) (by simpa using h1) h2.2]
    simp
theorem splitG_flat : ∀ (r cur : Byt), (splitG r cur).flatten = cur ++ r
  | [], [] => rfl
  | [], c :: cur => by simp [splitG]
  | c :: r, cur => by
    simp only [splitG]
    split
    · simp [splitG_flat r []]
    · simp [splitG_flat r (cur ++ [c])]
theorem splitF_flat (l : Byt) : (splitF l).flatten = l := splitG_flat l []
theorem splitG_len : ∀ (r cur : Byt), (splitG r cur).length ≤ r.length + min 1 cur.length
  | [], [] => by simp [splitG]
  | [], c :: cur => by simp [splitG]
  | c :: r, cur => by
    simp only [splitG]
    split
    · have := splitG_len r []
      simp only [List.length_cons, List.length_nil] at this ⊢; omega
    · have := splitG_len r (cur ++ [c])
      simp only [List.length_cons, List.length_append, List.length_nil] at this ⊢; omega
theorem splitF_len (l : Byt) : (splitF l).length ≤ l.length := by
  have := splitG_len l []
  simpa [splitF] using this
theorem u8_iff {x y : UInt8} : (x.toNat : Int) = (y.toNat : Int) ↔ x = y := by
  constructor
  · intro h
    exact UInt8.toNat_inj.1 (by omega)
  · intro h; rw [h]
theorem bt10 (l : Byt) (i : Nat) : bt (bs l) (i : Int) = 10 ↔ l.getD i 0 = 10 := by
  rw [bs_bt]
  exact u8_iff (y := 10)
set_option maxRecDepth 100000 in
set_option maxHeartbeats 4000000 in
theorem split_con (l : Byt) (hl : l.length ≤ 4194304) : Con Tryd.prog glob 62 [str l] [] 0 (retM (.o 0) [(0, stOwn (splitF l))] 1) := by
  refine spec_intro (tab := tab) (N := 24) Tryd.func62 rfl rfl tab_ok mix rfl rfl _ rfl ?_
  intro B hG
  repeat' (first | refine And.intro (by first | omega | (dsimp only; omega) | (show (_ : Bool) = true; kernel_rfl) | decide | (repeat' (first | refine And.intro ?_ ?_ | exact trivial | exact rfl))) ?_ | refine bcs_dec (fun h => ?_) (fun h => ?_) | refine bcs_ndec (fun h => ?_) (fun h => ?_) | refine bcs_not ?_ | refine bcs_intro (fun h => ?_) (fun h => ?_) | refine And.intro ?_ ?_ | refine reg_tail (by kernel_rfl) ?_)
  refine loop_rule (α := Byt × List Byt) (fun (r, out) => ⟨[(0, str r), (3, .o 0)], [(0, stOwn out)], 1⟩)
    (fun (r, out) => r.length ≤ 4194304 ∧ out.length + r.length ≤ 4194304 ∧ out ++ splitF r = splitF l) (fun (r, _) => r.length) (l, []) [.nil 1] ?_ ?_ ?_
  · exact ⟨hl, by simpa using hl, rfl⟩
  · (refine ⟨rfl, rfl, ?_, ?_⟩ <;> repeat' (first | refine And.intro ?_ ?_ | exact trivial | exact rfl | refine lt0 | refine lt1 ?_ | refine lt2 ?_ ?_ | refine lt3 ?_ ?_ ?_ | refine lt4 ?_ ?_ ?_ ?_ | exact veq_refl _ | decide | (intro i hi; repeat' (first | refine And.intro ?_ ?_ | exact trivial | exact rfl))))
  rintro ⟨r, out⟩ ⟨h1, h2, h3⟩
  have hi := idx_con r
  have hb : (bs r).size = r.length := bs_size r
  repeat' (first | refine And.intro (by first | omega | (dsimp only; omega) | (show (_ : Bool) = true; kernel_rfl) | decide | (repeat' (first | refine And.intro ?_ ?_ | exact trivial | exact rfl))) ?_ | refine bcs_dec (fun h => ?_) (fun h => ?_) | refine bcs_ndec (fun h => ?_) (fun h => ?_) | refine bcs_not ?_ | refine bcs_intro (fun h => ?_) (fun h => ?_) | refine And.intro ?_ ?_ | refine reg_tail (by kernel_rfl) ?_)
  · obtain rfl := nil_of h
    have e : out = splitF l := by rw [← h3]; simp [splitF, splitG]
    subst e
    refine ret_mem [.at 0 0] rfl rfl ?_ ?_
    · repeat' (first | refine And.intro ?_ ?_ | exact trivial)
      all_goals exact rfl
    · repeat' (first | refine And.intro ?_ ?_ | exact trivial)
      · exact rfl
      · intro i hi
        repeat' (first | refine And.intro ?_ ?_ | exact trivial)
        all_goals exact rfl
  · have hr := cons_of h
    rcases idx_cases r with ⟨k1, k2⟩ | ⟨k, k1, k2, k3, k4⟩
    · rw [k1] at hi
      refine call_rule [] (hi) hG ?_ ?_
      · (refine ⟨?_, ?_, rfl, rfl, rfl⟩ <;> repeat' (first | refine And.intro ?_ ?_ | exact trivial | exact rfl | refine lt0 | refine lt1 ?_ | refine lt2 ?_ ?_ | refine lt3 ?_ ?_ ?_ | refine lt4 ?_ ?_ ?_ ?_ | exact veq_refl _ | decide | (intro i hi; repeat' (first | refine And.intro ?_ ?_ | exact trivial | exact rfl))))
        all_goals first | exact Nat.le_refl _ | omega
      rintro _ _ _ ⟨rfl, rfl, rfl⟩
      repeat' (first | refine And.intro (by first | omega | (dsimp only; omega) | (show (_ : Bool) = true; kernel_rfl) | decide | (repeat' (first | refine And.intro ?_ ?_ | exact trivial | exact rfl))) ?_ | refine bcs_dec (fun h => ?_) (fun h => ?_) | refine bcs_ndec (fun h => ?_) (fun h => ?_) | refine bcs_not ?_ | refine bcs_intro (fun h => ?_) (fun h => ?_) | refine And.intro ?_ ?_ | refine reg_tail (by kernel_rfl) ?_)
      refine app1 stEnc [] out r rfl (enc_eq ((cut0 r _).trans (by rw [hb]; simp))) ?_
      repeat' (first | refine And.intro (by first | omega | (dsimp only; omega) | (show (_ : Bool) = true; kernel_rfl) | decide | (repeat' (first | refine And.intro ?_ ?_ | exact trivial | exact rfl))) ?_ | refine bcs_dec (fun h => ?_) (fun h => ?_) | refine bcs_ndec (fun h => ?_) (fun h => ?_) | refine bcs_not ?_ | refine bcs_intro (fun h => ?_) (fun h => ?_) | refine And.intro ?_ ?_ | refine reg_tail (by kernel_rfl) ?_)
      refine ⟨([], out ++ [r]), [.at 2 0], ?_, ?_, ?_⟩
      · refine ⟨by simp, by cases r with | nil => exact absurd rfl hr | cons c q => simp at h1 h2 ⊢; omega, ?_⟩
        rw [← h3]
        simp only [splitF, splitG_none [] k2, List.nil_append, splitG_end hr]
        simp [splitG]
      · show 0 < r.length
        cases r with
        | nil => exact absurd rfl hr
        | cons c q => simp
      · (refine ⟨rfl, rfl, ?_, ?_⟩ <;> repeat' (first | refine And.intro ?_ ?_ | exact trivial | exact rfl | refine lt0 | refine lt1 ?_ | refine lt2 ?_ ?_ | refine lt3 ?_ ?_ ?_ | refine lt4 ?_ ?_ ?_ ?_ | exact veq_refl _ | decide | (intro i hi; repeat' (first | refine And.intro ?_ ?_ | exact trivial | exact rfl))))
        · exact veq_of_eq (congrArg Value.string ((cutE r _).trans (by rw [hb]; simp)).symm)
        · simp
    · rw [k1] at hi
      refine call_rule [] (hi) hG ?_ ?_
      · (refine ⟨?_, ?_, rfl, rfl, rfl⟩ <;> repeat' (first | refine And.intro ?_ ?_ | exact trivial | exact rfl | refine lt0 | refine lt1 ?_ | refine lt2 ?_ ?_ | refine lt3 ?_ ?_ ?_ | refine lt4 ?_ ?_ ?_ ?_ | exact veq_refl _ | decide | (intro i hi; repeat' (first | refine And.intro ?_ ?_ | exact trivial | exact rfl))))
        all_goals first | exact Nat.le_refl _ | omega
      rintro _ _ _ ⟨rfl, rfl, rfl⟩
      repeat' (first | refine And.intro (by first | omega | (dsimp only; omega) | (show (_ : Bool) = true; kernel_rfl) | decide | (repeat' (first | refine And.intro ?_ ?_ | exact trivial | exact rfl))) ?_ | refine bcs_dec (fun h => ?_) (fun h => ?_) | refine bcs_ndec (fun h => ?_) (fun h => ?_) | refine bcs_not ?_ | refine bcs_intro (fun h => ?_) (fun h => ?_) | refine And.intro ?_ ?_ | refine reg_tail (by kernel_rfl) ?_)
      refine app1 stEnc [] out (r.take (k + 1)) rfl (enc_eq (cut0 r (k + 1))) ?_
      repeat' (first | refine And.intro (by first | omega | (dsimp only; omega) | (show (_ : Bool) = true; kernel_rfl) | decide | (repeat' (first | refine And.intro ?_ ?_ | exact trivial | exact rfl))) ?_ | refine bcs_dec (fun h => ?_) (fun h => ?_) | refine bcs_ndec (fun h => ?_) (fun h => ?_) | refine bcs_not ?_ | refine bcs_intro (fun h => ?_) (fun h => ?_) | refine And.intro ?_ ?_ | refine reg_tail (by kernel_rfl) ?_)
      refine ⟨(r.drop (k + 1), out ++ [r.take (k + 1)]), [.at 2 0], ?_, ?_, ?_⟩
      · refine ⟨by simp; omega, by simp; omega, ?_⟩
        rw [← h3]
        simp only [splitF, splitG_some [] k2 k3 k4, List.nil_append, List.append_assoc, List.cons_append]
      · show (r.drop (k + 1)).length < r.length
        simp; omega
      · (refine ⟨rfl, rfl, ?_, ?_⟩ <;> repeat' (first | refine And.intro ?_ ?_ | exact trivial | exact rfl | refine lt0 | refine lt1 ?_ | refine lt2 ?_ ?_ | refine lt3 ?_ ?_ ?_ | refine lt4 ?_ ?_ ?_ ?_ | exact veq_refl _ | decide | (intro i hi; repeat' (first | refine And.intro ?_ ?_ | exact trivial | exact rfl))))
        · exact veq_of_eq (congrArg Value.string (cutE r (k + 1)).symm)
        · simp

/-- Has a line its end? -/
def wholeF (l : Byt) : Bool := Lib.hasSuffix l [10]
def bareF (l : Byt) : Byt := Lib.trimSuffix l [10]
theorem whole_con (l : Byt) (hl : l.length ≤ 9223372036854775807) : Con Tryd.prog glob 64 [str l] [] 0 (retV 0 (.v (.bool (wholeF l)))) := by
  have h := suf_con l hl
  refine spec_intro (tab := tab) (N := 5) Tryd.func64 rfl rfl tab_ok mix rfl rfl _ rfl ?_
  intro B hG
  repeat' (first | refine And.intro (by first | omega | (dsimp only; omega) | (show (_ : Bool) = true; kernel_rfl) | decide | (repeat' (first | refine And.intro ?_ ?_ | exact trivial | exact rfl))) ?_ | refine bcs_dec (fun h => ?_) (fun h => ?_) | refine bcs_ndec (fun h => ?_) (fun h => ?_) | refine bcs_not ?_ | refine bcs_intro (fun h => ?_) (fun h => ?_) | refine And.intro ?_ ?_ | refine reg_tail (by kernel_rfl) ?_)
  refine call_rule [] (h) hG ?_ ?_
  · (refine ⟨?_, ?_, rfl, rfl, rfl⟩ <;> repeat' (first | refine And.intro ?_ ?_ | exact trivial | exact rfl | refine lt0 | refine lt1 ?_ | refine lt2 ?_ ?_ | refine lt3 ?_ ?_ ?_ | refine lt4 ?_ ?_ ?_ ?_ | exact veq_refl _ | decide | (intro i hi; repeat' (first | refine And.intro ?_ ?_ | exact trivial | exact rfl))))
    all_goals first | exact Nat.le_refl _ | omega
  rintro _ _ _ ⟨rfl, rfl, rfl⟩
  repeat' (first | refine And.intro (by first | omega | (dsimp only; omega) | (show (_ : Bool) = true; kernel_rfl) | decide | (repeat' (first | refine And.intro ?_ ?_ | exact trivial | exact rfl))) ?_ | refine bcs_dec (fun h => ?_) (fun h => ?_) | refine bcs_ndec (fun h => ?_) (fun h => ?_) | refine bcs_not ?_ | refine bcs_intro (fun h => ?_) (fun h => ?_) | refine And.intro ?_ ?_ | refine reg_tail (by kernel_rfl) ?_)
  refine ret_plain ?_
  exact rfl
theorem whole_eq (l : Byt) : wholeF l = decide (0 < l.length ∧ l.getD (l.length - 1) 0 = 10) := by
  unfold wholeF Lib.hasSuffix
  rcases List.eq_nil_or_concat l with rfl | ⟨q, c, rfl⟩
  · rfl
  · have e : ([10] : Byt).isSuffixOf (q ++ [c]) = decide (c = 10) := by
      simp only [List.isSuffixOf, List.reverse_append, List.reverse_cons, List.reverse_nil, List.nil_append, List.cons_append, List.isPrefixOf]
      by_cases h : c = 10
      · simp [h]
      · simp [h, Ne.symm h]
    rw [List.concat_eq_append, e]
    by_cases h : c = 10 <;> simp [h]
theorem bare_eq (l : Byt) : bareF l = if wholeF l then l.take (l.length - 1) else l := rfl

set_option maxRecDepth 100000 in
set_option maxHeartbeats 4000000 in
theorem rWhole_con (l : Byt) (hl : l.length ≤ 9223372036854775807) : Con Tryd.prog glob 61 [str l] [] 0 (retV 0 (.v (.bool (wholeF l)))) := by
  have hb : (bs l).size = l.length := bs_size l
  have hw := whole_eq l
  refine spec_intro (tab := tab) (N := 14) Tryd.func61 rfl rfl tab_ok mix rfl rfl _ rfl ?_
  intro B hG
  repeat' (first | refine And.intro (by first | omega | (dsimp only; omega) | (show (_ : Bool) = true; kernel_rfl) | decide | (repeat' (first | refine And.intro ?_ ?_ | exact trivial | exact rfl))) ?_ | refine bcs_dec (fun h => ?_) (fun h => ?_) | refine bcs_ndec (fun h => ?_) (fun h => ?_) | refine bcs_not ?_ | refine bcs_intro (fun h => ?_) (fun h => ?_) | refine And.intro ?_ ?_ | refine reg_tail (by kernel_rfl) ?_)
  · refine ret_plain ?_
    refine veq_of_eq (congrArg Value.bool ?_)
    rw [hw, hb] at *
    have e : bt (bs l) ((l.length : Int) - 1) = 10 ↔ l.getD (l.length - 1) 0 = 10 := by
      rw [show (l.length : Int) - 1 = ((l.length - 1 : Nat) : Int) by omega]
      exact bt10 l (l.length - 1)
    by_cases k : l.getD (l.length - 1) 0 = 10
    · rw [e.2 k]
      simp only [k, and_true]
      simp; omega
    · have : ¬ bt (bs l) ((l.length : Int) - 1) = 10 := fun x => k (e.1 x)
      simp only [k, and_false, decide_false]
      simp [this]
  · refine ret_plain ?_
    refine veq_of_eq (congrArg Value.bool ?_)
    rw [hw]
    simp
    omega

theorem whole_last (l : Byt) : wholeF l = decide (l.getLast? = some 10) := by
  rw [whole_eq]
  rcases List.eq_nil_or_concat l with rfl | ⟨q, c, rfl⟩
  · rfl
  · by_cases h : c = 10 <;> simp [h]


abbrev okI (x : Byt) (last : Prop) : Prop := x ≠ [] ∧ (Lib.indexByte x 10 = (x.length : Int) - 1 ∨ (Lib.indexByte x 10 = -1 ∧ last))
def validB (L : List Byt) : Bool := decide (∀ i, i < L.length → okI (L.getD i []) (i + 1 = L.length))
theorem valid_yes {L : List Byt} (h : ∀ i, i < L.length → okI (L.getD i []) (i + 1 = L.length)) : validB L = true := decide_eq_true h
theorem valid_not {L : List Byt} {i : Nat} (hi : i < L.length) (h : ¬ okI (L.getD i []) (i + 1 = L.length)) : validB L = false := decide_eq_false fun k => h (k i hi)
theorem getD_le {L : List Byt} {m : Nat} (h : ∀ x ∈ L, x.length ≤ m) (i : Nat) : (L.getD i []).length ≤ m := by
  rcases Nat.lt_or_ge i L.length with hlt | hge
  · rw [List.getD_eq_getElem?_getD, List.getElem?_eq_getElem hlt]
    exact h _ (List.getElem_mem hlt)
  · rw [List.getD_eq_getElem?_getD, List.getElem?_eq_none hge]
    simp

set_option maxRecDepth 100000 in
set_option maxHeartbeats 4000000 in
theorem lvalid_con (L : List Byt) (hl : L.length ≤ 9223372036854775807) (hx : ∀ x ∈ L, x.length ≤ 140737488355328) : Con Tryd.prog glob 46 [.s 0 0 L.length] [(0, stRo L)] 1 (retV 1 (.v (.bool (validB L)))) := by
  refine spec_intro (tab := tab) (N := 40) Tryd.func46 rfl rfl tab_ok mix rfl rfl _ rfl ?_
  intro B hG
  repeat' (first | refine And.intro (by first | omega | (dsimp only; omega) | (show (_ : Bool) = true; kernel_rfl) | decide | (repeat' (first | refine And.intro ?_ ?_ | exact trivial | exact rfl))) ?_ | refine bcs_dec (fun h => ?_) (fun h => ?_) | refine bcs_ndec (fun h => ?_) (fun h => ?_) | refine bcs_not ?_ | refine bcs_intro (fun h => ?_) (fun h => ?_) | refine And.intro ?_ ?_ | refine reg_tail (by kernel_rfl) ?_)
  refine loop_rule (α := Nat) (fun k => ⟨[(0, .s 0 0 L.length), (6, .s 0 0 L.length), (7, .v (.int .i64 L.length)), (8, .v (.int .i64 k))], [(0, stRo L)], 1⟩)
    (fun k => k ≤ L.length ∧ ∀ i, i < k → okI (L.getD i []) (i + 1 = L.length)) (fun k => L.length - k) 0 [] ?_ ?_ ?_
  · exact ⟨by omega, fun i h => absurd h (by omega)⟩
  · (refine ⟨rfl, rfl, ?_, ?_⟩ <;> repeat' (first | refine And.intro ?_ ?_ | exact trivial | exact rfl | refine lt0 | refine lt1 ?_ | refine lt2 ?_ ?_ | refine lt3 ?_ ?_ ?_ | refine lt4 ?_ ?_ ?_ ?_ | exact veq_refl _ | decide | (intro i hi; repeat' (first | refine And.intro ?_ ?_ | exact trivial | exact rfl))))
    all_goals exact Nat.le_refl _
  rintro k ⟨h1, h2⟩
  have ek : (L.getD (0 + (k : Int).toNat) []) = L.getD k [] := by simp
  have hb : (bs (L.getD (0 + (k : Int).toNat) [])).size = (L.getD k []).length := by rw [ek, bs_size]
  have hm := getD_le hx k
  have hi := idx_con (L.getD (0 + (k : Int).toNat) [])
  have step : k < L.length → okI (L.getD k []) (k + 1 = L.length) → (k + 1 ≤ L.length ∧ ∀ i, i < k + 1 → okI (L.getD i []) (i + 1 = L.length)) := fun h h' => ⟨h, fun i hi => by
    rcases Nat.lt_succ_iff_lt_or_eq.1 hi with h3 | rfl
    · exact h2 i h3
    · exact h'⟩
  rcases idx_cases (L.getD (0 + (k : Int).toNat) []) with ⟨k1, _⟩ | ⟨q, k1, k2, _, _⟩
  all_goals
    rw [k1] at hi
    rw [ek] at k1
    try rw [ek] at k2
    repeat' (first | refine And.intro (by first | omega | (dsimp only; omega) | (show (_ : Bool) = true; kernel_rfl) | decide | (repeat' (first | refine And.intro ?_ ?_ | exact trivial | exact rfl))) ?_ | refine bcs_dec (fun h => ?_) (fun h => ?_) | refine bcs_ndec (fun h => ?_) (fun h => ?_) | refine bcs_not ?_ | refine bcs_intro (fun h => ?_) (fun h => ?_) | refine And.intro ?_ ?_ | refine reg_tail (by kernel_rfl) ?_)
    refine call_rule [] (hi) hG ?_ ?_
    · (refine ⟨?_, ?_, rfl, rfl, rfl⟩ <;> repeat' (first | refine And.intro ?_ ?_ | exact trivial | exact rfl | refine lt0 | refine lt1 ?_ | refine lt2 ?_ ?_ | refine lt3 ?_ ?_ ?_ | refine lt4 ?_ ?_ ?_ ?_ | exact veq_refl _ | decide | (intro i hi; repeat' (first | refine And.intro ?_ ?_ | exact trivial | exact rfl))))
      all_goals first | exact Nat.le_refl _ | omega
    rintro _ _ _ ⟨rfl, rfl, rfl⟩
    repeat' (first | refine And.intro (by first | omega | (dsimp only; omega) | (show (_ : Bool) = true; kernel_rfl) | decide | (repeat' (first | refine And.intro ?_ ?_ | exact trivial | exact rfl))) ?_ | refine bcs_dec (fun h => ?_) (fun h => ?_) | refine bcs_ndec (fun h => ?_) (fun h => ?_) | refine bcs_not ?_ | refine bcs_intro (fun h => ?_) (fun h => ?_) | refine And.intro ?_ ?_ | refine reg_tail (by kernel_rfl) ?_)
    all_goals first
      | (refine ret_plain ?_
         refine veq_of_eq (congrArg Value.bool ?_)
         refine (valid_not (i := k) (by omega) ?_)
         rintro ⟨g1, g2⟩
         have g0 := List.length_pos_iff.2 g1
         first
           | (rcases g2 with g2 | ⟨g2, g3⟩ <;> omega)
           | exact g1 (by rw [← ek]; exact nil_of (by assumption))
         done)
      | (refine ⟨k + 1, [], ?_, ?_, ?_⟩
         · exact step (by omega) ⟨by rw [← ek]; exact cons_of (by assumption), by first | exact .inl (by omega) | exact .inr ⟨k1, by omega⟩⟩
         · show L.length - (k + 1) < L.length - k
           omega
         · (refine ⟨rfl, rfl, ?_, ?_⟩ <;> repeat' (first | refine And.intro ?_ ?_ | exact trivial | exact rfl | refine lt0 | refine lt1 ?_ | refine lt2 ?_ ?_ | refine lt3 ?_ ?_ ?_ | refine lt4 ?_ ?_ ?_ ?_ | exact veq_refl _ | decide | (intro i hi; repeat' (first | refine And.intro ?_ ?_ | exact trivial | exact rfl))))
           all_goals exact Nat.le_refl _
         done)
      | (refine ret_plain ?_
         refine veq_of_eq (congrArg Value.bool ?_)
         exact valid_yes fun i hi => h2 i (by omega))

theorem idx_is {x : Byt} {q : Nat} (h1 : q < x.length) (h2 : x.getD q 0 = 10) (h3 : ∀ j, j < q → x.getD j 0 ≠ 10) : Lib.indexByte x 10 = q := by
  rcases idx_cases x with ⟨_, k2⟩ | ⟨r, k1, k2, k3, k4⟩
  · exact absurd (by rw [← h2, List.getD_eq_getElem?_getD, List.getElem?_eq_getElem h1]; exact List.getElem_mem h1) k2
  · rcases Nat.lt_trichotomy q r with hlt | rfl | hgt
    · refine absurd ?_ k4
      rw [← h2]
      refine List.mem_iff_getElem?.2 ⟨q, ?_⟩
      rw [List.getElem?_take_of_lt hlt, List.getD_eq_getElem?_getD, List.getElem?_eq_getElem h1]
      rfl
    · exact k1
    · exact absurd k3 (h3 r hgt)
theorem idx_no {x : Byt} (h : ∀ j, j < x.length → x.getD j 0 ≠ 10) : Lib.indexByte x 10 = -1 := by
  rcases idx_cases x with ⟨k1, _⟩ | ⟨r, _, k2, k3, _⟩
  · exact k1
  · exact absurd k3 (h r k2)
theorem idx_none {x : Byt} (h : Lib.indexByte x 10 = -1) {j : Nat} (hj : j < x.length) : x.getD j 0 ≠ 10 := by
  intro e
  rcases idx_cases x with ⟨_, k2⟩ | ⟨r, k1, _⟩
  · refine k2 ?_
    rw [← e, List.getD_eq_getElem?_getD, List.getElem?_eq_getElem hj]
    exact List.getElem_mem hj
  · omega
theorem idx_at {x : Byt} {q : Nat} (h : Lib.indexByte x 10 = q) : q < x.length ∧ x.getD q 0 = 10 ∧ ∀ j, j < q → x.getD j 0 ≠ 10 := by
  rcases idx_cases x with ⟨k1, _⟩ | ⟨r, k1, k2, k3, k4⟩
  · omega
  · obtain rfl : r = q := by omega
    refine ⟨k2, k3, fun j hj e => k4 ?_⟩
    rw [← e]
    refine List.mem_iff_getElem?.2 ⟨j, ?_⟩
    rw [List.getElem?_take_of_lt hj, List.getD_eq_getElem?_getD, List.getElem?_eq_getElem (by omega)]
    rfl
theorem ok_iff (x : Byt) (last : Prop) : okI x last ↔ 0 < x.length ∧ (∀ j, j + 1 < x.length → x.getD j 0 ≠ 10) ∧ (last ∨ x.getD (x.length - 1) 0 = 10) := by
  constructor
  · rintro ⟨g1, g2⟩
    have g0 := List.length_pos_iff.2 g1
    refine ⟨g0, fun j hj => ?_, ?_⟩
    · rcases g2 with g2 | ⟨g2, _⟩
      · exact (idx_at (q := x.length - 1) (by omega)).2.2 j (by omega)
      · exact idx_none g2 (by omega)
    · rcases g2 with g2 | ⟨_, g2⟩
      · exact .inr (idx_at (q := x.length - 1) (by omega)).2.1
      · exact .inl g2
  · rintro ⟨g0, g1, g2⟩
    refine ⟨List.length_pos_iff.1 g0, ?_⟩
    by_cases e : x.getD (x.length - 1) 0 = 10
    · left
      rw [idx_is (q := x.length - 1) (by omega) e fun j hj => g1 j (by omega)]
      omega
    · right
      refine ⟨idx_no fun j hj => ?_, g2.resolve_right e⟩
      rcases Nat.lt_or_ge (j + 1) x.length with h | h
      · exact g1 j h
      · rwa [show j = x.length - 1 by omega]

set_option maxRecDepth 100000 in
set_option maxHeartbeats 4000000 in
theorem lrValid_con (L : List Byt) (hl : L.length ≤ 9223372036854775807) (hx : ∀ x ∈ L, x.length ≤ 140737488355328) : Con Tryd.prog glob 21 [.s 0 0 L.length] [(0, stRo L)] 1 (retV 1 (.v (.bool (validB L)))) := by
  refine spec_intro (tab := tab) (N := 49) Tryd.func21 rfl rfl tab_ok mix rfl rfl _ rfl ?_
  intro B hG
  repeat' (first | refine And.intro (by first | omega | (dsimp only; omega) | (show (_ : Bool) = true; kernel_rfl) | decide | (repeat' (first | refine And.intro ?_ ?_ | exact trivial | exact rfl))) ?_ | refine bcs_dec (fun h => ?_) (fun h => ?_) | refine bcs_ndec (fun h => ?_) (fun h => ?_) | refine bcs_not ?_ | refine bcs_intro (fun h => ?_) (fun h => ?_) | refine And.intro ?_ ?_ | refine reg_tail (by kernel_rfl) ?_)
  refine loop_rule (α := Nat) (fun k => ⟨[(0, .s 0 0 L.length), (3, .v (.int .i64 k))], [(0, stRo L)], 1⟩)
    (fun k => k ≤ L.length ∧ ∀ i, i < k → okI (L.getD i []) (i + 1 = L.length)) (fun k => L.length - k) 0 [] ?_ ?_ ?_
  · exact ⟨by omega, fun i h => absurd h (by omega)⟩
  · (refine ⟨rfl, rfl, ?_, ?_⟩ <;> repeat' (first | refine And.intro ?_ ?_ | exact trivial | exact rfl | refine lt0 | refine lt1 ?_ | refine lt2 ?_ ?_ | refine lt3 ?_ ?_ ?_ | refine lt4 ?_ ?_ ?_ ?_ | exact veq_refl _ | decide | (intro i hi; repeat' (first | refine And.intro ?_ ?_ | exact trivial | exact rfl))))
    all_goals exact Nat.le_refl _
  rintro k ⟨h1, h2⟩
  have ek : (L.getD (0 + (k : Int).toNat) []) = L.getD k [] := by simp
  have hb : (bs (L.getD (0 + (k : Int).toNat) [])).size = (L.getD k []).length := by rw [ek, bs_size]
  have hm := getD_le hx k
  have step : k < L.length → okI (L.getD k []) (k + 1 = L.length) → (k + 1 ≤ L.length ∧ ∀ i, i < k + 1 → okI (L.getD i []) (i + 1 = L.length)) := fun h h' => ⟨h, fun i hi => by
    rcases Nat.lt_succ_iff_lt_or_eq.1 hi with h3 | rfl
    · exact h2 i h3
    · exact h'⟩
  repeat' (first | refine And.intro (by first | omega | (dsimp only; omega) | (show (_ : Bool) = true; kernel_rfl) | decide | (repeat' (first | refine And.intro ?_ ?_ | exact trivial | exact rfl))) ?_ | refine bcs_dec (fun h => ?_) (fun h => ?_) | refine bcs_ndec (fun h => ?_) (fun h => ?_) | refine bcs_not ?_ | refine bcs_intro (fun h => ?_) (fun h => ?_) | refine And.intro ?_ ?_ | refine reg_tail (by kernel_rfl) ?_)
  · refine loop_rule (α := Nat) (fun j => ⟨[(0, .s 0 0 L.length), (3, .v (.int .i64 k)), (4, .v (.int .i64 (bs (L.getD (0 + (k : Int).toNat) [])).size)), (5, .v (.int .i64 j))], [(0, stRo L)], 1⟩)
      (fun j => j ≤ (L.getD k []).length ∧ ∀ i, i < j → i + 1 < (L.getD k []).length → (L.getD k []).getD i 0 ≠ 10) (fun j => (L.getD k []).length - j) 0 [] ?_ ?_ ?_
    · exact ⟨by omega, fun i h => absurd h (by omega)⟩
    · (refine ⟨rfl, rfl, ?_, ?_⟩ <;> repeat' (first | refine And.intro ?_ ?_ | exact trivial | exact rfl | refine lt0 | refine lt1 ?_ | refine lt2 ?_ ?_ | refine lt3 ?_ ?_ ?_ | refine lt4 ?_ ?_ ?_ ?_ | exact veq_refl _ | decide | (intro i hi; repeat' (first | refine And.intro ?_ ?_ | exact trivial | exact rfl))))
      all_goals exact Nat.le_refl _
    rintro j ⟨g1, g2⟩
    have hbt : bt (bs (L.getD (0 + (k : Int).toNat) [])) (j : Int) = 10 ↔ (L.getD k []).getD j 0 = 10 := by rw [ek]; exact bt10 _ _
    have hbl : 0 < (L.getD k []).length → (bt (bs (L.getD (0 + (k : Int).toNat) [])) ((((bs (L.getD (0 + (k : Int).toNat) [])).size : Nat) : Int) - 1) = 10 ↔ (L.getD k []).getD ((L.getD k []).length - 1) 0 = 10) := fun h => by
      rw [hb, show ((L.getD k []).length : Int) - 1 = (((L.getD k []).length - 1 : Nat) : Int) by omega, ek]
      exact bt10 _ _
    repeat' (first | refine And.intro (by first | omega | (dsimp only; omega) | (show (_ : Bool) = true; kernel_rfl) | decide | (repeat' (first | refine And.intro ?_ ?_ | exact trivial | exact rfl))) ?_ | refine bcs_dec (fun h => ?_) (fun h => ?_) | refine bcs_ndec (fun h => ?_) (fun h => ?_) | refine bcs_not ?_ | refine bcs_intro (fun h => ?_) (fun h => ?_) | refine And.intro ?_ ?_ | refine reg_tail (by kernel_rfl) ?_)
    all_goals first
      | (refine ret_plain ?_
         refine veq_of_eq (congrArg Value.bool ?_)
         refine (valid_not (i := k) (by omega) ?_)
         rw [ok_iff]
         rintro ⟨e1, e2, e3⟩
         first
           | omega
           | exact e2 j (by omega) (hbt.1 (by assumption))
           | (rcases e3 with e3 | e3
              · omega
              · exact absurd ((hbl e1).2 e3) (by assumption))
         done)
      | (refine ⟨j + 1, [], ?_, ?_, ?_⟩
         · refine ⟨by omega, fun i hi hl => ?_⟩
           rcases Nat.lt_succ_iff_lt_or_eq.1 hi with h3 | rfl
           · exact g2 i h3 hl
           · exact fun e => absurd (hbt.2 e) (by assumption)
         · show (L.getD k []).length - (j + 1) < (L.getD k []).length - j
           omega
         · (refine ⟨rfl, rfl, ?_, ?_⟩ <;> repeat' (first | refine And.intro ?_ ?_ | exact trivial | exact rfl | refine lt0 | refine lt1 ?_ | refine lt2 ?_ ?_ | refine lt3 ?_ ?_ ?_ | refine lt4 ?_ ?_ ?_ ?_ | exact veq_refl _ | decide | (intro i hi; repeat' (first | refine And.intro ?_ ?_ | exact trivial | exact rfl))))
           all_goals exact Nat.le_refl _
         done)
      | (refine ⟨k + 1, [], ?_, ?_, ?_⟩
         · refine step (by omega) ((ok_iff _ _).2 ⟨by omega, fun i hi => g2 i (by omega) hi, ?_⟩)
           first
             | exact .inl (by omega)
             | exact .inr ((hbl (by omega)).1 (by assumption))
         · show L.length - (k + 1) < L.length - k
           omega
         · (refine ⟨rfl, rfl, ?_, ?_⟩ <;> repeat' (first | refine And.intro ?_ ?_ | exact trivial | exact rfl | refine lt0 | refine lt1 ?_ | refine lt2 ?_ ?_ | refine lt3 ?_ ?_ ?_ | refine lt4 ?_ ?_ ?_ ?_ | exact veq_refl _ | decide | (intro i hi; repeat' (first | refine And.intro ?_ ?_ | exact trivial | exact rfl))))
           all_goals exact Nat.le_refl _
         done)
  · refine ret_plain ?_
    refine veq_of_eq (congrArg Value.bool ?_)
    exact valid_yes fun i hi => h2 i (by omega)
end Go.Proofs.YtlmjkphiicmclaaDoor

namespace Go.Proofs.YtlmjkphiicmclaaDoor
open Go Go.RowKit Vc
abbrev inRow (l : List Int) : Nat → List SV := fun i => [.v (.int .i64 (l.getD i 0))]
abbrev inRo (l : List Int) : Ch := .ro 1 l.length (inRow l)
abbrev inOwn (l : List Int) : Ch := .own 2 1 l.length (inRow l)
abbrev prEnc (p : Int × Int) : List SV := [.v (.int .i64 p.1), .v (.int .i64 p.2)]
abbrev prRow (l : List (Int × Int)) : Nat → List SV := fun i => prEnc (l.getD i (0, 0))
abbrev prRo (l : List (Int × Int)) : Ch := .ro 2 l.length (prRow l)
abbrev prOwn (l : List (Int × Int)) : Ch := .own 60 2 l.length (prRow l)

theorem Chg.same {a b : Chg} (h : a.A = b.A ∧ a.N = b.N ∧ a.B = b.B ∧ a.M = b.M) : a = b := by
  cases a; cases b; simp at h ⊢; exact h

set_option maxRecDepth 100000 in
set_option maxHeartbeats 4000000 in
theorem validR_con (s : List Chg) (n m : Int) (hs : s.length ≤ 9223372036854775807) : Con Tryd.prog glob 24 [.s 0 0 s.length, .v (.int .i64 n), .v (.int .i64 m)] [(0, chRo s)] 1 (retV 1 (.v (.int .i64 (validE s n m)))) := by
  refine spec_intro (tab := tab) (N := 123) Tryd.func24 rfl rfl tab_ok mix rfl rfl _ rfl ?_
  intro B hG
  repeat' (first | refine And.intro (by first | omega | (dsimp only; omega) | (show (_ : Bool) = true; kernel_rfl) | decide | (repeat' (first | refine And.intro ?_ ?_ | exact trivial | exact rfl))) ?_ | refine bcs_dec (fun h => ?_) (fun h => ?_) | refine bcs_ndec (fun h => ?_) (fun h => ?_) | refine bcs_not ?_ | refine bcs_intro (fun h => ?_) (fun h => ?_) | refine And.intro ?_ ?_ | refine reg_tail (by kernel_rfl) ?_)
  all_goals first
    | (refine ret_plain ?_
       show @Eq Int _ _
       unfold validE
       rw [if_pos (by omega)]
       done)
    | skip
  have h0 : ¬ (n < 0 ∨ n > 4194304 ∨ m < 0 ∨ m > 4194304) := by omega
  refine loop_rule (α := Nat × Int × Int) (fun (k, a, b) => ⟨[(0, .s 0 0 s.length), (1, .v (.int .i64 n)), (2, .v (.int .i64 m)), (9, .v (.int .i64 k)), (7, .v (.int .i64 a)), (8, .v (.int .i64 b))], [(0, chRo s)], 1⟩)
    (fun (k, a, b) => k ≤ s.length ∧ 0 ≤ a ∧ a ≤ n ∧ 0 ≤ b ∧ b ≤ m ∧ validF (s.drop k) a b n m = validE s n m) (fun (k, a, b) => s.length - k) (0, 0, 0) [] ?_ ?_ ?_
  · refine ⟨by omega, by omega, by omega, by omega, by omega, ?_⟩
    unfold validE; rw [if_neg h0]; rfl
  · (refine ⟨rfl, rfl, ?_, ?_⟩ <;> repeat' (first | refine And.intro ?_ ?_ | exact trivial | exact rfl | refine lt0 | refine lt1 ?_ | refine lt2 ?_ ?_ | refine lt3 ?_ ?_ ?_ | refine lt4 ?_ ?_ ?_ ?_ | exact veq_refl _ | decide | (intro i hi; repeat' (first | refine And.intro ?_ ?_ | exact trivial | exact rfl))))
    exact Nat.le_refl _
  · rintro ⟨k, a, b⟩ ⟨h1, h2, h3, h4, h5, h6⟩
    repeat' (first | refine And.intro (by first | omega | (dsimp only; omega) | (show (_ : Bool) = true; kernel_rfl) | decide | (repeat' (first | refine And.intro ?_ ?_ | exact trivial | exact rfl))) ?_ | refine bcs_dec (fun h => ?_) (fun h => ?_) | refine bcs_ndec (fun h => ?_) (fun h => ?_) | refine bcs_not ?_ | refine bcs_intro (fun h => ?_) (fun h => ?_) | refine And.intro ?_ ?_ | refine reg_tail (by kernel_rfl) ?_)
    all_goals first
      | omega
      | (refine ret_plain ?_
         show @Eq Int _ _
         simp only [nm] at *
         rw [← h6, drop_get Chg.d s k (by omega)]
         simp only [validF]
         rw [if_pos (by unfold bad; omega)]
         done)
      | skip
    all_goals first
      | (refine ⟨(k + 1, (s.getD k Chg.d).A + (s.getD k Chg.d).N, (s.getD k Chg.d).B + (s.getD k Chg.d).M), [], ?_, ?_, ?_⟩
         · simp only [nm] at *
           refine ⟨by omega, by omega, by omega, by omega, by omega, ?_⟩
           rw [← h6, drop_get Chg.d s k (by omega)]
           simp only [validF]
           rw [if_neg (by unfold bad; omega)]
         · show s.length - (k + 1) < s.length - k
           omega
         · (refine ⟨rfl, rfl, ?_, ?_⟩ <;> repeat' (first | refine And.intro ?_ ?_ | exact trivial | exact rfl | refine lt0 | refine lt1 ?_ | refine lt2 ?_ ?_ | refine lt3 ?_ ?_ ?_ | refine lt4 ?_ ?_ ?_ ?_ | exact veq_refl _ | decide | (intro i hi; repeat' (first | refine And.intro ?_ ?_ | exact trivial | exact rfl))))
           · simp only [nm] at *; rfl
           · simp only [nm] at *; rfl
           · exact Nat.le_refl _
         done)
      | (refine ret_plain ?_
         show @Eq Int _ _
         rw [← h6, List.drop_of_length_le (by omega)]
         simp only [validF]
         first | rw [if_pos (by omega)] | rw [if_neg (by omega)])
end Go.Proofs.YtlmjkphiicmclaaDoor

namespace Go.Proofs.YtlmjkphiicmclaaDoor
open Go Go.RowKit Vc

def diag : Int → Int → Nat → List (Int × Int)
  | _, _, 0 => []
  | a, b, c + 1 => (a, b) :: diag (a + 1) (b + 1) c
def pairsF : List Chg → Int → Int → Int → List (Int × Int)
  | [], a, b, n => diag a b (n - a).toNat
  | c :: r, a, b, n => diag a b (c.A - a).toNat ++ pairsF r (c.A + c.N) (c.B + c.M) n

theorem diag_step {a b tw : Int} (h : a < tw) : diag a b (tw - a).toNat = (a, b) :: diag (a + 1) (b + 1) (tw - (a + 1)).toNat := by
  rw [show (tw - a).toNat = (tw - (a + 1)).toNat + 1 from by omega]; rfl
theorem diag_done {a b tw : Int} (h : tw ≤ a) : diag a b (tw - a).toNat = [] := by
  rw [show (tw - a).toNat = 0 from by omega]; rfl

set_option maxRecDepth 100000 in
set_option maxHeartbeats 4000000 in
theorem pairsR_con {s : List Chg} {n m : Int} (hs : s.length ≤ 9223372036854775807 - 1) (hv : validE s n m = 0) : Con Tryd.prog glob 37 [.s 0 0 s.length, .v (.int .i64 n)] [(0, chRo s)] 1 (retM (.o 1) [(1, prOwn (pairsF s 0 0 n))] 2) := by
  refine spec_intro (tab := tab) (N := 66) Tryd.func37 rfl rfl tab_ok mix rfl rfl _ rfl ?_
  intro B hG
  repeat' (first | refine And.intro (by first | omega | (dsimp only; omega) | (show (_ : Bool) = true; kernel_rfl) | decide | (repeat' (first | refine And.intro ?_ ?_ | exact trivial | exact rfl))) ?_ | refine bcs_dec (fun h => ?_) (fun h => ?_) | refine bcs_ndec (fun h => ?_) (fun h => ?_) | refine bcs_not ?_ | refine bcs_intro (fun h => ?_) (fun h => ?_) | refine And.intro ?_ ?_ | refine reg_tail (by kernel_rfl) ?_)
  obtain ⟨r1, r2, r3, r4, r5⟩ := valid_range hv
  refine loop_rule (α := Nat × Int × Int × List (Int × Int)) (fun (k, a, b, out) => ⟨[(0, .s 0 0 s.length), (1, .v (.int .i64 n)), (8, .v (.int .i64 k)), (6, .v (.int .i64 a)), (7, .v (.int .i64 b)), (5, .o 1)], [(0, chRo s), (1, prOwn out)], 2⟩)
    (fun (k, a, b, out) => 0 ≤ a ∧ a ≤ n ∧ 0 ≤ b ∧ b ≤ m ∧ (out.length : Int) ≤ a ∧ ((k ≤ s.length ∧ validF (s.drop k) a b n m = 0 ∧ out ++ pairsF (s.drop k) a b n = pairsF s 0 0 n) ∨ (k = s.length + 1 ∧ out = pairsF s 0 0 n)))
    (fun (k, a, b, out) => s.length + 1 - k) (0, 0, 0, []) [.nil 2] ?_ ?_ ?_
  · exact ⟨by omega, by omega, by omega, by omega, by simp, .inl ⟨by omega, r5, rfl⟩⟩
  · (refine ⟨rfl, rfl, ?_, ?_⟩ <;> repeat' (first | refine And.intro ?_ ?_ | exact trivial | exact rfl | refine lt0 | refine lt1 ?_ | refine lt2 ?_ ?_ | refine lt3 ?_ ?_ ?_ | refine lt4 ?_ ?_ ?_ ?_ | exact veq_refl _ | decide | (intro i hi; repeat' (first | refine And.intro ?_ ?_ | exact trivial | exact rfl))))
    all_goals omega
  · rintro ⟨k, a, b, out⟩ ⟨h1, h2, h3, h4, h5, h6⟩
    have hb : k < s.length → ¬ bad (s.getD (0 + (k : Int).toNat) Chg.d) a b n m ∧ validF (s.drop (k + 1)) ((s.getD k Chg.d).A + (s.getD k Chg.d).N) ((s.getD k Chg.d).B + (s.getD k Chg.d).M) n m = 0 := fun h => by
      rcases h6 with ⟨_, h7, _⟩ | ⟨h7, _⟩
      · simpa using valid_at h7 h
      · omega
    have hn : k = s.length → n - a = m - b := fun h => by
      rcases h6 with ⟨_, h7, _⟩ | ⟨h7, _⟩
      · rw [h, List.drop_length] at h7; exact valid_nil h7
      · omega
    unfold bad at hb
    repeat' (first | refine And.intro (by first | omega | (dsimp only; omega) | (show (_ : Bool) = true; kernel_rfl) | decide | (repeat' (first | refine And.intro ?_ ?_ | exact trivial | exact rfl))) ?_ | refine bcs_dec (fun h => ?_) (fun h => ?_) | refine bcs_ndec (fun h => ?_) (fun h => ?_) | refine bcs_not ?_ | refine bcs_intro (fun h => ?_) (fun h => ?_) | refine And.intro ?_ ?_ | refine reg_tail (by kernel_rfl) ?_)
    · have hb1 := (hb (by omega)).1
      obtain ⟨X, hX⟩ : ∃ X : Chg, X = s.getD (0 + (k : Int).toNat) Chg.d := ⟨_, rfl⟩
      refine loop_rule (α := Int × Int × List (Int × Int)) (fun (a', b', out') => ⟨[(0, .s 0 0 s.length), (1, .v (.int .i64 n)), (8, .v (.int .i64 k)), (9, .v (.int .i64 (s.getD (0 + (k : Int).toNat) Chg.d).A)), (6, .v (.int .i64 a')), (7, .v (.int .i64 b')), (5, .o 1)], [(0, chRo s), (1, prOwn out')], 2⟩)
        (fun (a', b', out') => a ≤ a' ∧ a' ≤ (s.getD (0 + (k : Int).toNat) Chg.d).A ∧ a' - a = b' - b ∧ (out'.length : Int) ≤ a' ∧ out' ++ diag a' b' ((s.getD (0 + (k : Int).toNat) Chg.d).A - a').toNat = out ++ diag a b ((s.getD (0 + (k : Int).toNat) Chg.d).A - a).toNat)
        (fun (a', b', out') => ((s.getD (0 + (k : Int).toNat) Chg.d).A - a').toNat) (a, b, out) [.at 1 0] ?_ ?_ ?_
      · refine ⟨by omega, by omega, by omega, by omega, ?_⟩; exact rfl
      · (refine ⟨rfl, rfl, ?_, ?_⟩ <;> repeat' (first | refine And.intro ?_ ?_ | exact trivial | exact rfl | refine lt0 | refine lt1 ?_ | refine lt2 ?_ ?_ | refine lt3 ?_ ?_ ?_ | refine lt4 ?_ ?_ ?_ ?_ | exact veq_refl _ | decide | (intro i hi; repeat' (first | refine And.intro ?_ ?_ | exact trivial | exact rfl))))
        all_goals first | omega | skip
      · rintro ⟨a', b', out'⟩ ⟨i1, i2, i3, i4, i5⟩
        repeat' (first | refine And.intro (by first | omega | (dsimp only; omega) | (show (_ : Bool) = true; kernel_rfl) | decide | (repeat' (first | refine And.intro ?_ ?_ | exact trivial | exact rfl))) ?_ | refine bcs_dec (fun h => ?_) (fun h => ?_) | refine bcs_ndec (fun h => ?_) (fun h => ?_) | refine bcs_not ?_ | refine bcs_intro (fun h => ?_) (fun h => ?_) | refine And.intro ?_ ?_ | refine reg_tail (by kernel_rfl) ?_)
        · refine app1 prEnc (0, 0) out' (a', b') rfl (by simp; rfl) ?_
          repeat' (first | refine And.intro (by first | omega | (dsimp only; omega) | (show (_ : Bool) = true; kernel_rfl) | decide | (repeat' (first | refine And.intro ?_ ?_ | exact trivial | exact rfl))) ?_ | refine bcs_dec (fun h => ?_) (fun h => ?_) | refine bcs_ndec (fun h => ?_) (fun h => ?_) | refine bcs_not ?_ | refine bcs_intro (fun h => ?_) (fun h => ?_) | refine And.intro ?_ ?_ | refine reg_tail (by kernel_rfl) ?_)
          refine ⟨(a' + 1, b' + 1, out' ++ [(a', b')]), [.at 3 0], ?_, ?_, ?_⟩
          · refine ⟨by omega, by omega, by omega, by rw [List.length_append]; simp only [List.length_singleton]; omega, ?_⟩
            rw [← i5, diag_step (a := a') (b := b') (tw := (s.getD (0 + (k : Int).toNat) Chg.d).A) (by omega), List.append_assoc]; rfl
          · show ((s.getD (0 + (k : Int).toNat) Chg.d).A - (a' + 1)).toNat < ((s.getD (0 + (k : Int).toNat) Chg.d).A - a').toNat
            omega
          · (refine ⟨rfl, rfl, ?_, ?_⟩ <;> repeat' (first | refine And.intro ?_ ?_ | exact trivial | exact rfl | refine lt0 | refine lt1 ?_ | refine lt2 ?_ ?_ | refine lt3 ?_ ?_ ?_ | refine lt4 ?_ ?_ ?_ ?_ | exact veq_refl _ | decide | (intro i hi; repeat' (first | refine And.intro ?_ ?_ | exact trivial | exact rfl))))
            all_goals first | omega | (simp; done)
        all_goals first
          | (exfalso; omega)
          | (refine ⟨(k + 1, (s.getD (0 + (k : Int).toNat) Chg.d).A + (s.getD (0 + (k : Int).toNat) Chg.d).N, (s.getD (0 + (k : Int).toNat) Chg.d).B + (s.getD (0 + (k : Int).toNat) Chg.d).M, out'), [.at 1 0], ?_, ?_, ?_⟩
             · have hk : k < s.length := by omega
               have hv' := (hb hk).2
               rcases h6 with ⟨_, _, h8⟩ | ⟨h7, _⟩
               · rw [diag_done (by omega), List.append_nil] at i5
                 rw [drop_get Chg.d s k hk] at h8
                 simp only [pairsF] at h8
                 simp only [nm] at *
                 refine ⟨by omega, by omega, by omega, by omega, by omega, .inl ⟨by omega, hv', ?_⟩⟩
                 rw [← h8, i5, List.append_assoc]
               · omega
             · show s.length + 1 - (k + 1) < s.length + 1 - k
               omega
             · (refine ⟨rfl, rfl, ?_, ?_⟩ <;> repeat' (first | refine And.intro ?_ ?_ | exact trivial | exact rfl | refine lt0 | refine lt1 ?_ | refine lt2 ?_ ?_ | refine lt3 ?_ ?_ ?_ | refine lt4 ?_ ?_ ?_ ?_ | exact veq_refl _ | decide | (intro i hi; repeat' (first | refine And.intro ?_ ?_ | exact trivial | exact rfl))))
               all_goals first | omega | (simp; done)
             done)
    · refine loop_rule (α := Int × Int × List (Int × Int)) (fun (a', b', out') => ⟨[(0, .s 0 0 s.length), (1, .v (.int .i64 n)), (8, .v (.int .i64 k)), (9, .v (.int .i64 n)), (6, .v (.int .i64 a')), (7, .v (.int .i64 b')), (5, .o 1)], [(0, chRo s), (1, prOwn out')], 2⟩)
        (fun (a', b', out') => a ≤ a' ∧ a' ≤ n ∧ a' - a = b' - b ∧ (out'.length : Int) ≤ a' ∧ out' ++ diag a' b' (n - a').toNat = out ++ diag a b (n - a).toNat)
        (fun (a', b', out') => (n - a').toNat) (a, b, out) [.at 1 0] ?_ ?_ ?_
      · refine ⟨by omega, by omega, by omega, by omega, ?_⟩; exact rfl
      · (refine ⟨rfl, rfl, ?_, ?_⟩ <;> repeat' (first | refine And.intro ?_ ?_ | exact trivial | exact rfl | refine lt0 | refine lt1 ?_ | refine lt2 ?_ ?_ | refine lt3 ?_ ?_ ?_ | refine lt4 ?_ ?_ ?_ ?_ | exact veq_refl _ | decide | (intro i hi; repeat' (first | refine And.intro ?_ ?_ | exact trivial | exact rfl))))
        all_goals first | omega | skip
      · rintro ⟨a', b', out'⟩ ⟨i1, i2, i3, i4, i5⟩
        repeat' (first | refine And.intro (by first | omega | (dsimp only; omega) | (show (_ : Bool) = true; kernel_rfl) | decide | (repeat' (first | refine And.intro ?_ ?_ | exact trivial | exact rfl))) ?_ | refine bcs_dec (fun h => ?_) (fun h => ?_) | refine bcs_ndec (fun h => ?_) (fun h => ?_) | refine bcs_not ?_ | refine bcs_intro (fun h => ?_) (fun h => ?_) | refine And.intro ?_ ?_ | refine reg_tail (by kernel_rfl) ?_)
        · refine app1 prEnc (0, 0) out' (a', b') rfl (by simp; rfl) ?_
          repeat' (first | refine And.intro (by first | omega | (dsimp only; omega) | (show (_ : Bool) = true; kernel_rfl) | decide | (repeat' (first | refine And.intro ?_ ?_ | exact trivial | exact rfl))) ?_ | refine bcs_dec (fun h => ?_) (fun h => ?_) | refine bcs_ndec (fun h => ?_) (fun h => ?_) | refine bcs_not ?_ | refine bcs_intro (fun h => ?_) (fun h => ?_) | refine And.intro ?_ ?_ | refine reg_tail (by kernel_rfl) ?_)
          refine ⟨(a' + 1, b' + 1, out' ++ [(a', b')]), [.at 3 0], ?_, ?_, ?_⟩
          · refine ⟨by omega, by omega, by omega, by rw [List.length_append]; simp only [List.length_singleton]; omega, ?_⟩
            rw [← i5, diag_step (a := a') (b := b') (tw := n) (by omega), List.append_assoc]; rfl
          · show (n - (a' + 1)).toNat < (n - a').toNat
            omega
          · (refine ⟨rfl, rfl, ?_, ?_⟩ <;> repeat' (first | refine And.intro ?_ ?_ | exact trivial | exact rfl | refine lt0 | refine lt1 ?_ | refine lt2 ?_ ?_ | refine lt3 ?_ ?_ ?_ | refine lt4 ?_ ?_ ?_ ?_ | exact veq_refl _ | decide | (intro i hi; repeat' (first | refine And.intro ?_ ?_ | exact trivial | exact rfl))))
            all_goals first | omega | (simp; done)
        all_goals first
          | (exfalso; omega)
          | (refine ⟨(k + 1, a', b', out'), [.at 1 0], ?_, ?_, ?_⟩
             · have hk : k = s.length := by omega
               have hn' := hn hk
               rcases h6 with ⟨_, _, h8⟩ | ⟨h7, _⟩
               · rw [diag_done (by omega), List.append_nil] at i5
                 rw [hk, List.drop_length] at h8
                 simp only [pairsF] at h8
                 refine ⟨by omega, by omega, by omega, by omega, by omega, .inr ⟨by omega, ?_⟩⟩
                 rw [← h8, i5]
               · omega
             · show s.length + 1 - (k + 1) < s.length + 1 - k
               omega
             · (refine ⟨rfl, rfl, ?_, ?_⟩ <;> repeat' (first | refine And.intro ?_ ?_ | exact trivial | exact rfl | refine lt0 | refine lt1 ?_ | refine lt2 ?_ ?_ | refine lt3 ?_ ?_ ?_ | refine lt4 ?_ ?_ ?_ ?_ | exact veq_refl _ | decide | (intro i hi; repeat' (first | refine And.intro ?_ ?_ | exact trivial | exact rfl))))
               all_goals first | omega | (simp; done)
             done)
    · rcases h6 with ⟨_, _, _⟩ | ⟨_, h8⟩
      · omega
      · refine ret_mem [.at 1 0] (by rfl) (by rfl) ?_ ?_
        · repeat' (first | refine And.intro ?_ ?_ | exact trivial)
          all_goals exact rfl
        · repeat' (first | refine And.intro ?_ ?_ | exact trivial)
          · rw [h8]
          · intro i hi
            rw [h8]
            repeat' (first | refine And.intro ?_ ?_ | exact trivial)
            all_goals exact rfl
end Go.Proofs.YtlmjkphiicmclaaDoor

namespace Go.Proofs.YtlmjkphiicmclaaDoor
open Go Go.RowKit Vc

def ofF : List (Int × Int) → Int → Int → Int → Int → List Chg → List Chg × Int
  | [], a, b, n, m, out => (if n > a ∨ m > b then out ++ [⟨a, n - a, b, m - b⟩] else out, 0)
  | (x, y) :: r, a, b, n, m, out => if x < a ∨ y < b ∨ x ≥ n ∨ y ≥ m then ([], 60) else ofF r (x + 1) (y + 1) n m (if x > a ∨ y > b then out ++ [⟨a, x - a, b, y - b⟩] else out)
def ofE (l : List (Int × Int)) (n m : Int) : List Chg × Int := if n < 0 ∨ n > 4194304 ∨ m < 0 ∨ m > 4194304 then ([], 1) else ofF l 0 0 n m []

theorem ofF_cons (p : Int × Int) (r : List (Int × Int)) (a b n m : Int) (out : List Chg) : ofF (p :: r) a b n m out = if p.1 < a ∨ p.2 < b ∨ p.1 ≥ n ∨ p.2 ≥ m then ([], 60) else ofF r (p.1 + 1) (p.2 + 1) n m (if p.1 > a ∨ p.2 > b then out ++ [⟨a, p.1 - a, b, p.2 - b⟩] else out) := by
  obtain ⟨x, y⟩ := p
  rfl

set_option maxRecDepth 100000 in
set_option maxHeartbeats 4000000 in
theorem ofR_con {l : List (Int × Int)} {n m : Int} (hs : l.length ≤ 9223372036854775807 - 1) : Con Tryd.prog glob 36 [.s 0 0 l.length, .v (.int .i64 n), .v (.int .i64 m)] [(0, prRo l)] 1
    (retM (.t [.o 1, .v (.int .i64 (ofE l n m).2)]) [(1, chOwn (ofE l n m).1)] 2) := by
  refine spec_intro (tab := tab) (N := 93) Tryd.func36 rfl rfl tab_ok mix rfl rfl _ rfl ?_
  intro B hG
  repeat' (first | refine And.intro (by first | omega | (dsimp only; omega) | (show (_ : Bool) = true; kernel_rfl) | decide | (repeat' (first | refine And.intro ?_ ?_ | exact trivial | exact rfl))) ?_ | refine bcs_dec (fun h => ?_) (fun h => ?_) | refine bcs_ndec (fun h => ?_) (fun h => ?_) | refine bcs_not ?_ | refine bcs_intro (fun h => ?_) (fun h => ?_) | refine And.intro ?_ ?_ | refine reg_tail (by kernel_rfl) ?_)
  all_goals first
    | (have e : ofE l n m = ([], 1) := by unfold ofE; rw [if_pos (by omega)]
       rw [e]
       refine ret_mem [.nil 4] rfl rfl ?_ ?_
       · repeat' (first | refine And.intro ?_ ?_ | exact trivial)
         all_goals exact rfl
       · repeat' (first | refine And.intro ?_ ?_ | exact trivial)
         all_goals exact rfl
       done)
    | skip
  have e0 : ofE l n m = ofF l 0 0 n m [] := by unfold ofE; rw [if_neg (by omega)]
  refine loop_rule (α := Nat × Int × Int × List Chg) (fun (k, a, b, out) => ⟨[(0, .s 0 0 l.length), (1, .v (.int .i64 n)), (2, .v (.int .i64 m)), (11, .v (.int .i64 k)), (9, .v (.int .i64 a)), (10, .v (.int .i64 b)), (8, .o 1)], [(0, prRo l), (1, chOwn out)], 2⟩)
    (fun (k, a, b, out) => 0 ≤ a ∧ 0 ≤ b ∧ (out.length : Int) ≤ a ∧ a ≤ n + 1 ∧ b ≤ m + 1 ∧ ((k ≤ l.length ∧ a ≤ n ∧ b ≤ m ∧ ofF (l.drop k) a b n m out = ofE l n m) ∨ (k = l.length + 1 ∧ (out, (0 : Int)) = ofE l n m)))
    (fun (k, a, b, out) => l.length + 1 - k) (0, 0, 0, []) [.nil 4] ?_ ?_ ?_
  · exact ⟨by omega, by omega, by simp, by omega, by omega, .inl ⟨by omega, by omega, by omega, e0.symm⟩⟩
  · (refine ⟨rfl, rfl, ?_, ?_⟩ <;> repeat' (first | refine And.intro ?_ ?_ | exact trivial | exact rfl | refine lt0 | refine lt1 ?_ | refine lt2 ?_ ?_ | refine lt3 ?_ ?_ ?_ | refine lt4 ?_ ?_ ?_ ?_ | exact veq_refl _ | decide | (intro i hi; repeat' (first | refine And.intro ?_ ?_ | exact trivial | exact rfl))))
    all_goals omega
  · rintro ⟨k, a, b, out⟩ ⟨h1, h2, h3, h4, h5, h6⟩
    have ek : 0 + (k : Int).toNat = k := by simp
    have hst : k < l.length → (if (l.getD (0 + (k : Int).toNat) (0, 0)).1 < a ∨ (l.getD (0 + (k : Int).toNat) (0, 0)).2 < b ∨ (l.getD (0 + (k : Int).toNat) (0, 0)).1 ≥ n ∨ (l.getD (0 + (k : Int).toNat) (0, 0)).2 ≥ m then ([], 60) else ofF (l.drop (k + 1)) ((l.getD (0 + (k : Int).toNat) (0, 0)).1 + 1) ((l.getD (0 + (k : Int).toNat) (0, 0)).2 + 1) n m (if (l.getD (0 + (k : Int).toNat) (0, 0)).1 > a ∨ (l.getD (0 + (k : Int).toNat) (0, 0)).2 > b then out ++ [⟨a, (l.getD (0 + (k : Int).toNat) (0, 0)).1 - a, b, (l.getD (0 + (k : Int).toNat) (0, 0)).2 - b⟩] else out)) = ofE l n m := fun h => by
      rcases h6 with ⟨_, _, _, h7⟩ | ⟨h7, _⟩
      · rw [drop_get (0, 0) l k h, ofF_cons] at h7
        rw [ek]; exact h7
      · omega
    have hla : k = l.length → ((if n > a ∨ m > b then out ++ [⟨a, n - a, b, m - b⟩] else out), (0 : Int)) = ofE l n m := fun h => by
      rcases h6 with ⟨_, _, _, h7⟩ | ⟨h7, _⟩
      · rw [h, List.drop_length] at h7; exact h7
      · omega
    have hab : k ≤ l.length → a ≤ n ∧ b ≤ m := fun h => by
      rcases h6 with ⟨_, h7, h8, _⟩ | ⟨h7, _⟩
      · exact ⟨h7, h8⟩
      · omega
    repeat' (first | refine And.intro (by first | omega | (dsimp only; omega) | (show (_ : Bool) = true; kernel_rfl) | decide | (repeat' (first | refine And.intro ?_ ?_ | exact trivial | exact rfl))) ?_ | refine bcs_dec (fun h => ?_) (fun h => ?_) | refine bcs_ndec (fun h => ?_) (fun h => ?_) | refine bcs_not ?_ | refine bcs_intro (fun h => ?_) (fun h => ?_) | refine And.intro ?_ ?_ | refine reg_tail (by kernel_rfl) ?_)
    all_goals first
      | (have e : ofE l n m = ([], 60) := by rw [← hst (by omega), if_pos (by omega)]
         rw [e]
         refine ret_mem [.nil 4] rfl rfl ?_ ?_
         · repeat' (first | refine And.intro ?_ ?_ | exact trivial)
           all_goals exact rfl
         · repeat' (first | refine And.intro ?_ ?_ | exact trivial)
           all_goals exact rfl
         done)
      | (refine app1 Chg.enc Chg.d out ⟨a, (l.getD (0 + (k : Int).toNat) (0, 0)).1 - a, b, (l.getD (0 + (k : Int).toNat) (0, 0)).2 - b⟩ rfl (by simp; rfl) ?_
         repeat' (first | refine And.intro (by first | omega | (dsimp only; omega) | (show (_ : Bool) = true; kernel_rfl) | decide | (repeat' (first | refine And.intro ?_ ?_ | exact trivial | exact rfl))) ?_ | refine bcs_dec (fun h => ?_) (fun h => ?_) | refine bcs_ndec (fun h => ?_) (fun h => ?_) | refine bcs_not ?_ | refine bcs_intro (fun h => ?_) (fun h => ?_) | refine And.intro ?_ ?_ | refine reg_tail (by kernel_rfl) ?_)
         refine ⟨(k + 1, (l.getD (0 + (k : Int).toNat) (0, 0)).1 + 1, (l.getD (0 + (k : Int).toNat) (0, 0)).2 + 1, out ++ [⟨a, (l.getD (0 + (k : Int).toNat) (0, 0)).1 - a, b, (l.getD (0 + (k : Int).toNat) (0, 0)).2 - b⟩]), [.at 3 0], ?_, ?_, ?_⟩
         · refine ⟨by omega, by omega, by rw [List.length_append]; simp only [List.length_singleton]; omega, by omega, by omega, .inl ⟨by omega, by omega, by omega, ?_⟩⟩
           rw [← hst (by omega), if_neg (by omega), if_pos (by omega)]
         · show l.length + 1 - (k + 1) < l.length + 1 - k
           omega
         · (refine ⟨rfl, rfl, ?_, ?_⟩ <;> repeat' (first | refine And.intro ?_ ?_ | exact trivial | exact rfl | refine lt0 | refine lt1 ?_ | refine lt2 ?_ ?_ | refine lt3 ?_ ?_ ?_ | refine lt4 ?_ ?_ ?_ ?_ | exact veq_refl _ | decide | (intro i hi; repeat' (first | refine And.intro ?_ ?_ | exact trivial | exact rfl))))
           all_goals first | omega | (simp; done)
         done)
      | (refine ⟨(k + 1, (l.getD (0 + (k : Int).toNat) (0, 0)).1 + 1, (l.getD (0 + (k : Int).toNat) (0, 0)).2 + 1, out), [.at 1 0], ?_, ?_, ?_⟩
         · refine ⟨by omega, by omega, by omega, by omega, by omega, .inl ⟨by omega, by omega, by omega, ?_⟩⟩
           rw [← hst (by omega), if_neg (by omega), if_neg (by omega)]
         · show l.length + 1 - (k + 1) < l.length + 1 - k
           omega
         · (refine ⟨rfl, rfl, ?_, ?_⟩ <;> repeat' (first | refine And.intro ?_ ?_ | exact trivial | exact rfl | refine lt0 | refine lt1 ?_ | refine lt2 ?_ ?_ | refine lt3 ?_ ?_ ?_ | refine lt4 ?_ ?_ ?_ ?_ | exact veq_refl _ | decide | (intro i hi; repeat' (first | refine And.intro ?_ ?_ | exact trivial | exact rfl))))
           all_goals first | omega | (simp; done)
         done)
      | (refine app1 Chg.enc Chg.d out ⟨a, n - a, b, m - b⟩ rfl (by simp; rfl) ?_
         repeat' (first | refine And.intro (by first | omega | (dsimp only; omega) | (show (_ : Bool) = true; kernel_rfl) | decide | (repeat' (first | refine And.intro ?_ ?_ | exact trivial | exact rfl))) ?_ | refine bcs_dec (fun h => ?_) (fun h => ?_) | refine bcs_ndec (fun h => ?_) (fun h => ?_) | refine bcs_not ?_ | refine bcs_intro (fun h => ?_) (fun h => ?_) | refine And.intro ?_ ?_ | refine reg_tail (by kernel_rfl) ?_)
         refine ⟨(k + 1, n + 1, m + 1, out ++ [⟨a, n - a, b, m - b⟩]), [.at 3 0], ?_, ?_, ?_⟩
         · refine ⟨by omega, by omega, by rw [List.length_append]; simp only [List.length_singleton]; omega, by omega, by omega, .inr ⟨by omega, ?_⟩⟩
           rw [← hla (by omega), if_pos (by omega)]
         · show l.length + 1 - (k + 1) < l.length + 1 - k
           omega
         · (refine ⟨rfl, rfl, ?_, ?_⟩ <;> repeat' (first | refine And.intro ?_ ?_ | exact trivial | exact rfl | refine lt0 | refine lt1 ?_ | refine lt2 ?_ ?_ | refine lt3 ?_ ?_ ?_ | refine lt4 ?_ ?_ ?_ ?_ | exact veq_refl _ | decide | (intro i hi; repeat' (first | refine And.intro ?_ ?_ | exact trivial | exact rfl))))
           all_goals first | omega | (simp; done)
         done)
      | (refine ⟨(k + 1, n + 1, m + 1, out), [.at 1 0], ?_, ?_, ?_⟩
         · refine ⟨by omega, by omega, by omega, by omega, by omega, .inr ⟨by omega, ?_⟩⟩
           rw [← hla (by omega), if_neg (by omega)]
         · show l.length + 1 - (k + 1) < l.length + 1 - k
           omega
         · (refine ⟨rfl, rfl, ?_, ?_⟩ <;> repeat' (first | refine And.intro ?_ ?_ | exact trivial | exact rfl | refine lt0 | refine lt1 ?_ | refine lt2 ?_ ?_ | refine lt3 ?_ ?_ ?_ | refine lt4 ?_ ?_ ?_ ?_ | exact veq_refl _ | decide | (intro i hi; repeat' (first | refine And.intro ?_ ?_ | exact trivial | exact rfl))))
           all_goals first | omega | (simp; done)
         done)
      | (have h9 : (out, (0 : Int)) = ofE l n m := by
           rcases h6 with ⟨_, _, _, _⟩ | ⟨_, h9⟩
           · omega
           · exact h9
         rw [show (ofE l n m).1 = out from by rw [← h9], show (ofE l n m).2 = 0 from by rw [← h9]]
         refine ret_mem [.at 1 0] (by rfl) (by rfl) ?_ ?_
         · repeat' (first | refine And.intro ?_ ?_ | exact trivial)
           all_goals exact rfl
         · repeat' (first | refine And.intro ?_ ?_ | exact trivial)
           · exact rfl
           · intro i hi
             repeat' (first | refine And.intro ?_ ?_ | exact trivial)
             all_goals exact rfl
         done)
end Go.Proofs.YtlmjkphiicmclaaDoor

namespace Go.Proofs.YtlmjkphiicmclaaDoor
open Go Go.RowKit Vc

theorem diag_len : ∀ (c : Nat) (a b : Int), (diag a b c).length = c
  | 0, _, _ => rfl
  | c + 1, a, b => by simp [diag, diag_len c]

theorem pairsF_len : ∀ (s : List Chg) (a b n m : Int), validF s a b n m = 0 → 0 ≤ a → a ≤ n → ((pairsF s a b n).length : Int) ≤ n - a
  | [], a, b, n, m, _, _, _ => by simp only [pairsF, diag_len]; omega
  | c :: r, a, b, n, m, h, h0, h1 => by
    obtain ⟨hb, hv⟩ := valid_cons h
    unfold bad at hb
    have := pairsF_len r (c.A + c.N) (c.B + c.M) n m hv (by omega) (by omega)
    simp only [pairsF, List.length_append, diag_len]
    omega

set_option maxRecDepth 100000 in
set_option maxHeartbeats 4000000 in
theorem rNormal_no {s : List Chg} {n m : Int} (hs : s.length ≤ 9223372036854775807 - 1) (hv : validE s n m ≠ 0) : Con Tryd.prog glob 20 [.s 0 0 s.length, .v (.int .i64 n), .v (.int .i64 m)] [(0, chRo s)] 1
    (retM (.t [.o 1, .v (.int .i64 (validE s n m))]) [(1, chOwn [])] 2) := by
  refine spec_intro (tab := tab) (N := 24) Tryd.func20 rfl rfl tab_ok mix rfl rfl _ rfl ?_
  intro B hG
  repeat' (first | refine And.intro (by first | omega | (dsimp only; omega) | (show (_ : Bool) = true; kernel_rfl) | decide | (repeat' (first | refine And.intro ?_ ?_ | exact trivial | exact rfl))) ?_ | refine bcs_dec (fun h => ?_) (fun h => ?_) | refine bcs_ndec (fun h => ?_) (fun h => ?_) | refine bcs_not ?_ | refine bcs_intro (fun h => ?_) (fun h => ?_) | refine And.intro ?_ ?_ | refine reg_tail (by kernel_rfl) ?_)
  refine call_rule [.at 0 0] (validR_con s n m (by omega)) hG ?_ ?_
  · (refine ⟨?_, ?_, rfl, rfl, rfl⟩ <;> repeat' (first | refine And.intro ?_ ?_ | exact trivial | exact rfl | refine lt0 | refine lt1 ?_ | refine lt2 ?_ ?_ | refine lt3 ?_ ?_ ?_ | refine lt4 ?_ ?_ ?_ ?_ | exact veq_refl _ | decide | (intro i hi; repeat' (first | refine And.intro ?_ ?_ | exact trivial | exact rfl))))
    all_goals exact Nat.le_refl _
  rintro _ _ _ ⟨rfl, rfl, rfl⟩
  repeat' (first | refine And.intro (by first | omega | (dsimp only; omega) | (show (_ : Bool) = true; kernel_rfl) | decide | (repeat' (first | refine And.intro ?_ ?_ | exact trivial | exact rfl))) ?_ | refine bcs_dec (fun h => ?_) (fun h => ?_) | refine bcs_ndec (fun h => ?_) (fun h => ?_) | refine bcs_not ?_ | refine bcs_intro (fun h => ?_) (fun h => ?_) | refine And.intro ?_ ?_ | refine reg_tail (by kernel_rfl) ?_)
  · refine ret_mem [.nil 4] rfl rfl ?_ ?_
    · repeat' (first | refine And.intro ?_ ?_ | exact trivial)
      all_goals exact rfl
    · repeat' (first | refine And.intro ?_ ?_ | exact trivial)
      all_goals exact rfl
  · omega

set_option maxRecDepth 100000 in
set_option maxHeartbeats 4000000 in
theorem rNormal_ok {s : List Chg} {n m : Int} (hs : s.length ≤ 9223372036854775807 - 1) (hv : validE s n m = 0) : Con Tryd.prog glob 20 [.s 0 0 s.length, .v (.int .i64 n), .v (.int .i64 m)] [(0, chRo s)] 1
    (retM (.t [.o 1, .v (.int .i64 (ofE (pairsF s 0 0 n) n m).2)]) [(1, chOwn (ofE (pairsF s 0 0 n) n m).1)] 2) := by
  refine spec_intro (tab := tab) (N := 24) Tryd.func20 rfl rfl tab_ok mix rfl rfl _ rfl ?_
  intro B hG
  repeat' (first | refine And.intro (by first | omega | (dsimp only; omega) | (show (_ : Bool) = true; kernel_rfl) | decide | (repeat' (first | refine And.intro ?_ ?_ | exact trivial | exact rfl))) ?_ | refine bcs_dec (fun h => ?_) (fun h => ?_) | refine bcs_ndec (fun h => ?_) (fun h => ?_) | refine bcs_not ?_ | refine bcs_intro (fun h => ?_) (fun h => ?_) | refine And.intro ?_ ?_ | refine reg_tail (by kernel_rfl) ?_)
  refine call_rule [.at 0 0] (validR_con s n m (by omega)) hG ?_ ?_
  · (refine ⟨?_, ?_, rfl, rfl, rfl⟩ <;> repeat' (first | refine And.intro ?_ ?_ | exact trivial | exact rfl | refine lt0 | refine lt1 ?_ | refine lt2 ?_ ?_ | refine lt3 ?_ ?_ ?_ | refine lt4 ?_ ?_ ?_ ?_ | exact veq_refl _ | decide | (intro i hi; repeat' (first | refine And.intro ?_ ?_ | exact trivial | exact rfl))))
    all_goals exact Nat.le_refl _
  rintro _ _ _ ⟨rfl, rfl, rfl⟩
  obtain ⟨r1, r2, r3, r4, r5⟩ := valid_range hv
  have hl := pairsF_len s 0 0 n m r5 (by omega) (by omega)
  repeat' (first | refine And.intro (by first | omega | (dsimp only; omega) | (show (_ : Bool) = true; kernel_rfl) | decide | (repeat' (first | refine And.intro ?_ ?_ | exact trivial | exact rfl))) ?_ | refine bcs_dec (fun h => ?_) (fun h => ?_) | refine bcs_ndec (fun h => ?_) (fun h => ?_) | refine bcs_not ?_ | refine bcs_intro (fun h => ?_) (fun h => ?_) | refine And.intro ?_ ?_ | refine reg_tail (by kernel_rfl) ?_)
  · omega
  refine call_rule [.at 0 0] (pairsR_con hs hv) hG ?_ ?_
  · (refine ⟨?_, ?_, rfl, rfl, rfl⟩ <;> repeat' (first | refine And.intro ?_ ?_ | exact trivial | exact rfl | refine lt0 | refine lt1 ?_ | refine lt2 ?_ ?_ | refine lt3 ?_ ?_ ?_ | refine lt4 ?_ ?_ ?_ ?_ | exact veq_refl _ | decide | (intro i hi; repeat' (first | refine And.intro ?_ ?_ | exact trivial | exact rfl))))
    all_goals exact Nat.le_refl _
  rintro _ _ _ ⟨rfl, rfl, rfl⟩
  repeat' (first | refine And.intro (by first | omega | (dsimp only; omega) | (show (_ : Bool) = true; kernel_rfl) | decide | (repeat' (first | refine And.intro ?_ ?_ | exact trivial | exact rfl))) ?_ | refine bcs_dec (fun h => ?_) (fun h => ?_) | refine bcs_ndec (fun h => ?_) (fun h => ?_) | refine bcs_not ?_ | refine bcs_intro (fun h => ?_) (fun h => ?_) | refine And.intro ?_ ?_ | refine reg_tail (by kernel_rfl) ?_)
  refine call_rule [.at 1 0] (ofR_con (l := pairsF s 0 0 n) (n := n) (m := m) (by omega)) hG ?_ ?_
  · (refine ⟨?_, ?_, rfl, rfl, rfl⟩ <;> repeat' (first | refine And.intro ?_ ?_ | exact trivial | exact rfl | refine lt0 | refine lt1 ?_ | refine lt2 ?_ ?_ | refine lt3 ?_ ?_ ?_ | refine lt4 ?_ ?_ ?_ ?_ | exact veq_refl _ | decide | (intro i hi; repeat' (first | refine And.intro ?_ ?_ | exact trivial | exact rfl))))
    all_goals first | exact Nat.le_refl _ | skip
  rintro _ _ _ ⟨rfl, rfl, rfl⟩
  repeat' (first | refine And.intro (by first | omega | (dsimp only; omega) | (show (_ : Bool) = true; kernel_rfl) | decide | (repeat' (first | refine And.intro ?_ ?_ | exact trivial | exact rfl))) ?_ | refine bcs_dec (fun h => ?_) (fun h => ?_) | refine bcs_ndec (fun h => ?_) (fun h => ?_) | refine bcs_not ?_ | refine bcs_intro (fun h => ?_) (fun h => ?_) | refine And.intro ?_ ?_ | refine reg_tail (by kernel_rfl) ?_)
  refine ret_mem [.at 2 0] rfl rfl ?_ ?_
  · repeat' (first | refine And.intro ?_ ?_ | exact trivial)
    all_goals exact rfl
  · repeat' (first | refine And.intro ?_ ?_ | exact trivial)
    · exact rfl
    · intro i hi
      repeat' (first | refine And.intro ?_ ?_ | exact trivial)
      all_goals exact rfl
end Go.Proofs.YtlmjkphiicmclaaDoor

namespace Go.Proofs.YtlmjkphiicmclaaDoor
open Go Go.RowKit Vc

theorem of_diag {n m : Int} (L : List (Int × Int)) : ∀ (c : Nat) (a b pa pb : Int) (O : List Chg), 0 < c → pa ≤ a → pb ≤ b → a + c ≤ n → b + c ≤ m →
    ofF (diag a b c ++ L) pa pb n m O = ofF L (a + c) (b + c) n m (if a > pa ∨ b > pb then O ++ [⟨pa, a - pa, pb, b - pb⟩] else O)
  | 0, a, b, pa, pb, O, h, _, _, _, _ => absurd h (Nat.lt_irrefl 0)
  | 1, a, b, pa, pb, O, _, h1, h2, h3, h4 => by
    simp only [diag, List.cons_append, List.nil_append, ofF]
    rw [if_neg (by omega)]
    rfl
  | c + 2, a, b, pa, pb, O, _, h1, h2, h3, h4 => by
    obtain ⟨O', hO⟩ : ∃ O', O' = if a > pa ∨ b > pb then O ++ [⟨pa, a - pa, pb, b - pb⟩] else O := ⟨_, rfl⟩
    have ih := of_diag (n := n) (m := m) L (c + 1) (a + 1) (b + 1) (a + 1) (b + 1) O' (by omega) (by omega) (by omega) (by omega) (by omega)
    rw [if_neg (by omega)] at ih
    rw [diag, List.cons_append, ofF, if_neg (by omega), ← hO, ih, show a + 1 + ((c + 1 : Nat) : Int) = a + ((c + 2 : Nat) : Int) from by omega, show b + 1 + ((c + 1 : Nat) : Int) = b + ((c + 2 : Nat) : Int) from by omega]

theorem set_last {O : List Chg} {x y : Chg} : (O ++ [x]).set ((O ++ [x]).length - 1) y = O ++ [y] := by
  simp
theorem last_app {O : List Chg} {x : Chg} : lastC (O ++ [x]) = x := by
  simp [lastC]

theorem of_merge {n m : Int} : ∀ (s : List Chg) (a b pa pb : Int) (O out : List Chg), validF s a b n m = 0 → pa ≤ a → pb ≤ b → a ≤ n → b ≤ m →
    (((pa < a ∨ pb < b) ∧ out = O ++ [⟨pa, a - pa, pb, b - pb⟩]) ∨ (a = pa ∧ b = pb ∧ out = O ∧ (O ≠ [] → (lastC O).A + (lastC O).N < a))) →
    ofF (pairsF s a b n) pa pb n m O = (mergeF out s, 0)
  | [], a, b, pa, pb, O, out, hv, h1, h2, h3, h4, h5 => by
    have hn := valid_nil hv
    have hout : out = if a > pa ∨ b > pb then O ++ [⟨pa, a - pa, pb, b - pb⟩] else O := by
      rcases h5 with ⟨h, rfl⟩ | ⟨h, h', rfl, _⟩
      · rw [if_pos (by omega)]
      · rw [if_neg (by omega)]
    simp only [pairsF, mergeF]
    by_cases hz : a = n
    · have hz2 : b = m := by omega
      rw [diag_done (by omega), hout, ← hz, ← hz2]
      rfl
    · have h := of_diag (n := n) (m := m) [] (n - a).toNat a b pa pb O (by omega) h1 h2 (by omega) (by omega)
      rw [List.append_nil] at h
      rw [h, hout, ofF, if_neg (by omega)]
  | c :: r, a, b, pa, pb, O, out, hv, h1, h2, h3, h4, h5 => by
    obtain ⟨hb, hv'⟩ := valid_cons hv
    unfold bad at hb
    have hout : out = if a > pa ∨ b > pb then O ++ [⟨pa, a - pa, pb, b - pb⟩] else O := by
      rcases h5 with ⟨h, rfl⟩ | ⟨h, h', rfl, _⟩
      · rw [if_pos (by omega)]
      · rw [if_neg (by omega)]
    simp only [pairsF]
    by_cases hz : a = c.A
    · have hz2 : b = c.B := by omega
      rw [diag_done (by omega), List.nil_append]
      rcases h5 with ⟨h, ho⟩ | ⟨h, h', ho, h6⟩
      · have e : mergeF out (c :: r) = mergeF (O ++ [⟨pa, (c.A + c.N) - pa, pb, (c.B + c.M) - pb⟩]) r := by
          rw [ho]
          simp only [mergeF]
          rw [if_pos ⟨by simp, by rw [last_app]; dsimp only; omega⟩, set_last, last_app]
          congr 3
          unfold Chg.plus
          dsimp only
          congr 1 <;> omega
        rw [e]
        exact of_merge r _ _ pa pb O _ hv' (by omega) (by omega) (by omega) (by omega) (.inl ⟨by omega, rfl⟩)
      · have e : mergeF out (c :: r) = mergeF (O ++ [⟨pa, (c.A + c.N) - pa, pb, (c.B + c.M) - pb⟩]) r := by
          rw [ho]
          simp only [mergeF]
          rw [if_neg (by rintro ⟨e1, e2⟩; have := h6 e1; omega)]
          congr 3
          cases c
          dsimp only at *
          congr 1 <;> omega
        rw [e]
        exact of_merge r _ _ pa pb O _ hv' (by omega) (by omega) (by omega) (by omega) (.inl ⟨by omega, rfl⟩)
    · have h := of_diag (n := n) (m := m) (pairsF r (c.A + c.N) (c.B + c.M) n) (c.A - a).toNat a b pa pb O (by omega) h1 h2 (by omega) (by omega)
      rw [h, ← hout, show a + ((c.A - a).toNat : Int) = c.A from by omega, show b + ((c.A - a).toNat : Int) = c.B from by omega]
      have e : mergeF out (c :: r) = mergeF (out ++ [⟨c.A, (c.A + c.N) - c.A, c.B, (c.B + c.M) - c.B⟩]) r := by
        simp only [mergeF]
        rw [if_neg]
        · congr 3
          cases c
          dsimp only at *
          congr 1 <;> omega
        · rintro ⟨e1, e2⟩
          rcases h5 with ⟨h, ho⟩ | ⟨h, h', ho, h6⟩
          · rw [ho, last_app] at e2; dsimp only at e2; omega
          · rw [ho] at e1 e2; have := h6 e1; omega
      rw [e]
      exact of_merge r _ _ c.A c.B out _ hv' (by omega) (by omega) (by omega) (by omega) (.inl ⟨by omega, rfl⟩)

theorem of_pairs {s : List Chg} {n m : Int} (hv : validE s n m = 0) : ofE (pairsF s 0 0 n) n m = (normF s, 0) := by
  obtain ⟨r1, r2, r3, r4, r5⟩ := valid_range hv
  unfold ofE
  rw [if_neg (by omega)]
  exact of_merge s 0 0 0 0 [] [] r5 (by omega) (by omega) (by omega) (by omega) (.inr ⟨rfl, rfl, rfl, fun h => absurd rfl h⟩)
end Go.Proofs.YtlmjkphiicmclaaDoor

namespace Go.Proofs.YtlmjkphiicmclaaDoor
open Go Go.RowKit Vc

theorem diag_snoc : ∀ (c : Nat) (a b : Int), diag a b (c + 1) = diag a b c ++ [(a + c, b + c)]
  | 0, a, b => by simp [diag]
  | c + 1, a, b => by
    rw [diag, diag_snoc c (a + 1) (b + 1)]
    simp only [diag, List.cons_append]
    congr 3
    · rw [show a + 1 + (c : Int) = a + ((c + 1 : Nat) : Int) from by push_cast; omega, show b + 1 + (c : Int) = b + ((c + 1 : Nat) : Int) from by push_cast; omega]

set_option maxRecDepth 100000 in
set_option maxHeartbeats 4000000 in
theorem run_con {out : List (Int × Int)} {a b c : Int} (ha : 0 ≤ a ∧ a ≤ 4194304) (hb : 0 ≤ b ∧ b ≤ 4194304) (hc : c ≤ 4194304) (ho : out.length ≤ 4194304) :
    Con Tryd.prog glob 82 [.v (.int .i64 a), .v (.int .i64 b), .v (.int .i64 c), .p 0 0 0] [(0, .box 57 [.o 1]), (1, prOwn out)] 2
    (retM (.t []) [(0, .box 57 [.o 2]), (2, prOwn (out ++ diag a b c.toNat))] 3) := by
  refine spec_intro (tab := tab) (N := 23) Tryd.func82 rfl rfl tab_ok mix rfl rfl _ rfl ?_
  intro B hG
  repeat' (first | refine And.intro (by first | omega | (dsimp only; omega) | (show (_ : Bool) = true; kernel_rfl) | decide | (repeat' (first | refine And.intro ?_ ?_ | exact trivial | exact rfl))) ?_ | refine bcs_dec (fun h => ?_) (fun h => ?_) | refine bcs_ndec (fun h => ?_) (fun h => ?_) | refine bcs_not ?_ | refine bcs_intro (fun h => ?_) (fun h => ?_) | refine And.intro ?_ ?_ | refine reg_tail (by kernel_rfl) ?_)
  refine loop_rule (α := Nat × List (Int × Int)) (fun (k, o) => ⟨[(0, .v (.int .i64 a)), (1, .v (.int .i64 b)), (3, .p 0 0 0), (8, .v (.int .i64 c)), (9, .v (.int .i64 k))], [(0, .box 57 [.o 2]), (2, prOwn o)], 3⟩)
    (fun (k, o) => (k : Int) ≤ max c 0 ∧ o = out ++ diag a b k) (fun (k, o) => (c - k).toNat) (0, out) [.at 1 0] ?_ ?_ ?_
  · exact ⟨by omega, by simp [diag]⟩
  · (refine ⟨rfl, rfl, ?_, ?_⟩ <;> repeat' (first | refine And.intro ?_ ?_ | exact trivial | exact rfl | refine lt0 | refine lt1 ?_ | refine lt2 ?_ ?_ | refine lt3 ?_ ?_ ?_ | refine lt4 ?_ ?_ ?_ ?_ | exact veq_refl _ | decide | (intro i hi; repeat' (first | refine And.intro ?_ ?_ | exact trivial | exact rfl))))
    all_goals first | omega | trace_state
  · rintro ⟨k, o⟩ ⟨h1, h2⟩
    have hl : o.length = out.length + k := by rw [h2, List.length_append, diag_len]
    repeat' (first | refine And.intro (by first | omega | (dsimp only; omega) | (show (_ : Bool) = true; kernel_rfl) | decide | (repeat' (first | refine And.intro ?_ ?_ | exact trivial | exact rfl))) ?_ | refine bcs_dec (fun h => ?_) (fun h => ?_) | refine bcs_ndec (fun h => ?_) (fun h => ?_) | refine bcs_not ?_ | refine bcs_intro (fun h => ?_) (fun h => ?_) | refine And.intro ?_ ?_ | refine reg_tail (by kernel_rfl) ?_)
    · refine app1 prEnc (0, 0) o (a + k, b + k) rfl (by simp; rfl) ?_
      repeat' (first | refine And.intro (by first | omega | (dsimp only; omega) | (show (_ : Bool) = true; kernel_rfl) | decide | (repeat' (first | refine And.intro ?_ ?_ | exact trivial | exact rfl))) ?_ | refine bcs_dec (fun h => ?_) (fun h => ?_) | refine bcs_ndec (fun h => ?_) (fun h => ?_) | refine bcs_not ?_ | refine bcs_intro (fun h => ?_) (fun h => ?_) | refine And.intro ?_ ?_ | refine reg_tail (by kernel_rfl) ?_)
      refine ⟨(k + 1, o ++ [(a + k, b + k)]), [.at 4 0], ?_, ?_, ?_⟩
      · exact ⟨by omega, by rw [diag_snoc, h2, List.append_assoc]⟩
      · show (c - ((k + 1 : Nat) : Int)).toNat < (c - k).toNat
        omega
      · (refine ⟨rfl, rfl, ?_, ?_⟩ <;> repeat' (first | refine And.intro ?_ ?_ | exact trivial | exact rfl | refine lt0 | refine lt1 ?_ | refine lt2 ?_ ?_ | refine lt3 ?_ ?_ ?_ | refine lt4 ?_ ?_ ?_ ?_ | exact veq_refl _ | decide | (intro i hi; repeat' (first | refine And.intro ?_ ?_ | exact trivial | exact rfl))))
        all_goals first | omega | (simp; done)
    · have e : o = out ++ diag a b c.toNat := by rw [h2, show c.toNat = k from by omega]
      rw [← e]
      refine ret_mem [.at 2 0] rfl rfl ?_ ?_
      · repeat' (first | refine And.intro ?_ ?_ | exact trivial)
      · repeat' (first | refine And.intro ?_ ?_ | exact trivial)
        · exact rfl
        · intro i hi
          repeat' (first | refine And.intro ?_ ?_ | exact trivial)
          all_goals exact rfl
end Go.Proofs.YtlmjkphiicmclaaDoor

namespace Go.Proofs.YtlmjkphiicmclaaDoor
open Go Go.RowKit Vc

set_option maxRecDepth 100000 in
set_option maxHeartbeats 4000000 in
theorem stay_con {s : List Chg} {n m : Int} (hs : s.length ≤ 9223372036854775807 - 1) (hv : validE s n m = 0) :
    Con Tryd.prog glob 81 [.s 0 0 s.length, .v (.int .i64 n), .f 82 [.p 1 0 0]] [(0, chRo s), (1, .box 57 [.v (.slice none 0 0)])] 2
    (retM (.t []) [(1, .box 57 [.o 2]), (2, prOwn (pairsF s 0 0 n))] 3) := by
  refine spec_intro (tab := tab) (N := 42) Tryd.func81 rfl rfl tab_ok mix rfl rfl _ rfl ?_
  intro B hG
  repeat' (first | refine And.intro (by first | omega | (dsimp only; omega) | (show (_ : Bool) = true; kernel_rfl) | decide | (repeat' (first | refine And.intro ?_ ?_ | exact trivial | exact rfl))) ?_ | refine bcs_dec (fun h => ?_) (fun h => ?_) | refine bcs_ndec (fun h => ?_) (fun h => ?_) | refine bcs_not ?_ | refine bcs_intro (fun h => ?_) (fun h => ?_) | refine And.intro ?_ ?_ | refine reg_tail (by kernel_rfl) ?_)
  obtain ⟨r1, r2, r3, r4, r5⟩ := valid_range hv
  refine loop_rule (α := Nat × Int × Int × List (Int × Int)) (fun (k, a, b, o) => ⟨[(10, .s 0 0 s.length), (11, .v (.int .i64 s.length)), (12, .v (.int .i64 k)), (1, .v (.int .i64 n)), (2, .f 82 [.p 1 0 0]), (6, .v (.int .i64 a)), (7, .v (.int .i64 b))], [(0, chRo s), (1, .box 57 [.o 2]), (2, prOwn o)], 3⟩)
    (fun (k, a, b, o) => k ≤ s.length ∧ 0 ≤ a ∧ a ≤ n ∧ 0 ≤ b ∧ b ≤ m ∧ (o.length : Int) ≤ a ∧ validF (s.drop k) a b n m = 0 ∧ o ++ pairsF (s.drop k) a b n = pairsF s 0 0 n)
    (fun (k, a, b, o) => s.length - k) (0, 0, 0, []) [.nil 2] ?_ ?_ ?_
  · exact ⟨by omega, by omega, by omega, by omega, by omega, by simp, r5, rfl⟩
  · (refine ⟨rfl, rfl, ?_, ?_⟩ <;> repeat' (first | refine And.intro ?_ ?_ | exact trivial | exact rfl | refine lt0 | refine lt1 ?_ | refine lt2 ?_ ?_ | refine lt3 ?_ ?_ ?_ | refine lt4 ?_ ?_ ?_ ?_ | exact veq_refl _ | decide | (intro i hi; repeat' (first | refine And.intro ?_ ?_ | exact trivial | exact rfl))))
    all_goals first | omega | trace_state
  · rintro ⟨k, a, b, o⟩ ⟨h1, h2, h3, h4, h5, h6, h7, h8⟩
    have hb : k < s.length → ¬ bad (s.getD (0 + (k : Int).toNat) Chg.d) a b n m ∧ validF (s.drop (k + 1)) ((s.getD k Chg.d).A + (s.getD k Chg.d).N) ((s.getD k Chg.d).B + (s.getD k Chg.d).M) n m = 0 := fun h => by
      simpa using valid_at h7 h
    unfold bad at hb
    repeat' (first | refine And.intro (by first | omega | (dsimp only; omega) | (show (_ : Bool) = true; kernel_rfl) | decide | (repeat' (first | refine And.intro ?_ ?_ | exact trivial | exact rfl))) ?_ | refine bcs_dec (fun h => ?_) (fun h => ?_) | refine bcs_ndec (fun h => ?_) (fun h => ?_) | refine bcs_not ?_ | refine bcs_intro (fun h => ?_) (fun h => ?_) | refine And.intro ?_ ?_ | refine reg_tail (by kernel_rfl) ?_)
    · have hb1 := (hb (by omega)).1
      have hv' := (hb (by omega)).2
      refine call_rule [.at 1 0, .at 2 0] (run_con (out := o) (a := a) (b := b) (c := (s.getD (0 + (k : Int).toNat) Chg.d).A - a) ⟨by omega, by omega⟩ ⟨by omega, by omega⟩ (by omega) (by omega)) hG ?_ ?_
      · (refine ⟨?_, ?_, rfl, rfl, rfl⟩ <;> repeat' (first | refine And.intro ?_ ?_ | exact trivial | exact rfl | refine lt0 | refine lt1 ?_ | refine lt2 ?_ ?_ | refine lt3 ?_ ?_ ?_ | refine lt4 ?_ ?_ ?_ ?_ | exact veq_refl _ | decide | (intro i hi; repeat' (first | refine And.intro ?_ ?_ | exact trivial | exact rfl))))
        all_goals first | exact Nat.le_refl _ | trace_state
      rintro _ _ _ ⟨rfl, rfl, rfl⟩
      repeat' (first | refine And.intro (by first | omega | (dsimp only; omega) | (show (_ : Bool) = true; kernel_rfl) | decide | (repeat' (first | refine And.intro ?_ ?_ | exact trivial | exact rfl))) ?_ | refine bcs_dec (fun h => ?_) (fun h => ?_) | refine bcs_ndec (fun h => ?_) (fun h => ?_) | refine bcs_not ?_ | refine bcs_intro (fun h => ?_) (fun h => ?_) | refine And.intro ?_ ?_ | refine reg_tail (by kernel_rfl) ?_)
      refine ⟨(k + 1, (s.getD (0 + (k : Int).toNat) Chg.d).A + (s.getD (0 + (k : Int).toNat) Chg.d).N, (s.getD (0 + (k : Int).toNat) Chg.d).B + (s.getD (0 + (k : Int).toNat) Chg.d).M, o ++ diag a b ((s.getD (0 + (k : Int).toNat) Chg.d).A - a).toNat), [.at 4 0], ?_, ?_, ?_⟩
      · have ek : 0 + (k : Int).toNat = k := by simp
        rw [ek] at hb1 ⊢
        rw [drop_get Chg.d s k (by omega)] at h8
        simp only [pairsF] at h8
        refine ⟨by omega, by omega, by omega, by omega, by omega, by rw [List.length_append, diag_len]; omega, hv', ?_⟩
        rw [← h8, List.append_assoc]
      · show s.length - (k + 1) < s.length - k
        omega
      · (refine ⟨rfl, rfl, ?_, ?_⟩ <;> repeat' (first | refine And.intro ?_ ?_ | exact trivial | exact rfl | refine lt0 | refine lt1 ?_ | refine lt2 ?_ ?_ | refine lt3 ?_ ?_ ?_ | refine lt4 ?_ ?_ ?_ ?_ | exact veq_refl _ | decide | (intro i hi; repeat' (first | refine And.intro ?_ ?_ | exact trivial | exact rfl))))
        all_goals first | omega | (simp; done)
    · have hk : k = s.length := by omega
      have h9 : o ++ diag a b (n - a).toNat = pairsF s 0 0 n := by
        rw [← h8, hk, List.drop_length]; rfl
      refine call_rule [.at 1 0, .at 2 0] (run_con (out := o) (a := a) (b := b) (c := n - a) ⟨by omega, by omega⟩ ⟨by omega, by omega⟩ (by omega) (by omega)) hG ?_ ?_
      · (refine ⟨?_, ?_, rfl, rfl, rfl⟩ <;> repeat' (first | refine And.intro ?_ ?_ | exact trivial | exact rfl | refine lt0 | refine lt1 ?_ | refine lt2 ?_ ?_ | refine lt3 ?_ ?_ ?_ | refine lt4 ?_ ?_ ?_ ?_ | exact veq_refl _ | decide | (intro i hi; repeat' (first | refine And.intro ?_ ?_ | exact trivial | exact rfl))))
        all_goals first | exact Nat.le_refl _ | trace_state
      rintro _ _ _ ⟨rfl, rfl, rfl⟩
      repeat' (first | refine And.intro (by first | omega | (dsimp only; omega) | (show (_ : Bool) = true; kernel_rfl) | decide | (repeat' (first | refine And.intro ?_ ?_ | exact trivial | exact rfl))) ?_ | refine bcs_dec (fun h => ?_) (fun h => ?_) | refine bcs_ndec (fun h => ?_) (fun h => ?_) | refine bcs_not ?_ | refine bcs_intro (fun h => ?_) (fun h => ?_) | refine And.intro ?_ ?_ | refine reg_tail (by kernel_rfl) ?_)
      rw [← h9]
      refine ret_mem [.at 3 0] rfl rfl ?_ ?_
      · repeat' (first | refine And.intro ?_ ?_ | exact trivial)
      · repeat' (first | refine And.intro ?_ ?_ | exact trivial)
        · exact rfl
        · intro i hi
          repeat' (first | refine And.intro ?_ ?_ | exact trivial)
          all_goals exact rfl

set_option maxRecDepth 100000 in
set_option maxHeartbeats 4000000 in
theorem pairs_no {s : List Chg} {n m : Int} (hs : s.length ≤ 9223372036854775807 - 1) (hv : validE s n m ≠ 0) : Con Tryd.prog glob 68 [.s 0 0 s.length, .v (.int .i64 n), .v (.int .i64 m)] [(0, chRo s)] 1
    (retM (.t [.o 1, .v (.iface 67 (.int .i64 (validE s n m)))]) [(1, prOwn [])] 2) := by
  refine spec_intro (tab := tab) (N := 22) Tryd.func68 rfl rfl tab_ok mix rfl rfl _ rfl ?_
  intro B hG
  repeat' (first | refine And.intro (by first | omega | (dsimp only; omega) | (show (_ : Bool) = true; kernel_rfl) | decide | (repeat' (first | refine And.intro ?_ ?_ | exact trivial | exact rfl))) ?_ | refine bcs_dec (fun h => ?_) (fun h => ?_) | refine bcs_ndec (fun h => ?_) (fun h => ?_) | refine bcs_not ?_ | refine bcs_intro (fun h => ?_) (fun h => ?_) | refine And.intro ?_ ?_ | refine reg_tail (by kernel_rfl) ?_)
  refine call_rule [.at 0 0] (valid_no (by omega) hv) hG ?_ ?_
  · (refine ⟨?_, ?_, rfl, rfl, rfl⟩ <;> repeat' (first | refine And.intro ?_ ?_ | exact trivial | exact rfl | refine lt0 | refine lt1 ?_ | refine lt2 ?_ ?_ | refine lt3 ?_ ?_ ?_ | refine lt4 ?_ ?_ ?_ ?_ | exact veq_refl _ | decide | (intro i hi; repeat' (first | refine And.intro ?_ ?_ | exact trivial | exact rfl))))
    all_goals exact Nat.le_refl _
  rintro _ _ _ ⟨rfl, rfl, rfl⟩
  repeat' (first | refine And.intro (by first | omega | (dsimp only; omega) | (show (_ : Bool) = true; kernel_rfl) | decide | (repeat' (first | refine And.intro ?_ ?_ | exact trivial | exact rfl))) ?_ | refine bcs_dec (fun h => ?_) (fun h => ?_) | refine bcs_ndec (fun h => ?_) (fun h => ?_) | refine bcs_not ?_ | refine bcs_intro (fun h => ?_) (fun h => ?_) | refine And.intro ?_ ?_ | refine reg_tail (by kernel_rfl) ?_)
  refine ret_mem [.nil 2] rfl rfl ?_ ?_
  · repeat' (first | refine And.intro ?_ ?_ | exact trivial)
    all_goals exact rfl
  · repeat' (first | refine And.intro ?_ ?_ | exact trivial)
    all_goals exact rfl

set_option maxRecDepth 100000 in
set_option maxHeartbeats 4000000 in
theorem pairs_ok {s : List Chg} {n m : Int} (hs : s.length ≤ 9223372036854775807 - 1) (hv : validE s n m = 0) : Con Tryd.prog glob 68 [.s 0 0 s.length, .v (.int .i64 n), .v (.int .i64 m)] [(0, chRo s)] 1
    (retM (.t [.o 1, .v .nilIface]) [(1, prOwn (pairsF s 0 0 n))] 2) := by
  refine spec_intro (tab := tab) (N := 22) Tryd.func68 rfl rfl tab_ok mix rfl rfl _ rfl ?_
  intro B hG
  repeat' (first | refine And.intro (by first | omega | (dsimp only; omega) | (show (_ : Bool) = true; kernel_rfl) | decide | (repeat' (first | refine And.intro ?_ ?_ | exact trivial | exact rfl))) ?_ | refine bcs_dec (fun h => ?_) (fun h => ?_) | refine bcs_ndec (fun h => ?_) (fun h => ?_) | refine bcs_not ?_ | refine bcs_intro (fun h => ?_) (fun h => ?_) | refine And.intro ?_ ?_ | refine reg_tail (by kernel_rfl) ?_)
  refine call_rule [.at 0 0] (valid_ok (by omega) hv) hG ?_ ?_
  · (refine ⟨?_, ?_, rfl, rfl, rfl⟩ <;> repeat' (first | refine And.intro ?_ ?_ | exact trivial | exact rfl | refine lt0 | refine lt1 ?_ | refine lt2 ?_ ?_ | refine lt3 ?_ ?_ ?_ | refine lt4 ?_ ?_ ?_ ?_ | exact veq_refl _ | decide | (intro i hi; repeat' (first | refine And.intro ?_ ?_ | exact trivial | exact rfl))))
    all_goals exact Nat.le_refl _
  rintro _ _ _ ⟨rfl, rfl, rfl⟩
  repeat' (first | refine And.intro (by first | omega | (dsimp only; omega) | (show (_ : Bool) = true; kernel_rfl) | decide | (repeat' (first | refine And.intro ?_ ?_ | exact trivial | exact rfl))) ?_ | refine bcs_dec (fun h => ?_) (fun h => ?_) | refine bcs_ndec (fun h => ?_) (fun h => ?_) | refine bcs_not ?_ | refine bcs_intro (fun h => ?_) (fun h => ?_) | refine And.intro ?_ ?_ | refine reg_tail (by kernel_rfl) ?_)
  refine call_rule [.at 0 0, .at 1 0] (stay_con hs hv) hG ?_ ?_
  · (refine ⟨?_, ?_, rfl, rfl, rfl⟩ <;> repeat' (first | refine And.intro ?_ ?_ | exact trivial | exact rfl | refine lt0 | refine lt1 ?_ | refine lt2 ?_ ?_ | refine lt3 ?_ ?_ ?_ | refine lt4 ?_ ?_ ?_ ?_ | exact veq_refl _ | decide | (intro i hi; repeat' (first | refine And.intro ?_ ?_ | exact trivial | exact rfl))))
    all_goals first | exact Nat.le_refl _ | trace_state
  rintro _ _ _ ⟨rfl, rfl, rfl⟩
  repeat' (first | refine And.intro (by first | omega | (dsimp only; omega) | (show (_ : Bool) = true; kernel_rfl) | decide | (repeat' (first | refine And.intro ?_ ?_ | exact trivial | exact rfl))) ?_ | refine bcs_dec (fun h => ?_) (fun h => ?_) | refine bcs_ndec (fun h => ?_) (fun h => ?_) | refine bcs_not ?_ | refine bcs_intro (fun h => ?_) (fun h => ?_) | refine And.intro ?_ ?_ | refine reg_tail (by kernel_rfl) ?_)
  refine ret_mem [.at 2 0] rfl rfl ?_ ?_
  · repeat' (first | refine And.intro ?_ ?_ | exact trivial)
    all_goals exact rfl
  · repeat' (first | refine And.intro ?_ ?_ | exact trivial)
    · exact rfl
    · intro i hi
      repeat' (first | refine And.intro ?_ ?_ | exact trivial)
      all_goals exact rfl
end Go.Proofs.YtlmjkphiicmclaaDoor
