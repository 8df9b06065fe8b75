/- Chapter 7: what the document's chapter 6 says of a script: its cost, whether it is one, what stays. Turned from the texts of chapter 6. -/
import Derived.Test.YtdabahipeepheaaS14
namespace Go.Proofs.Ytdabahipeepheaa
open Go Go.RowKit Vc
abbrev prEnc : Int × Int → List SV := fun p => [.v (.int .i64 p.1), .v (.int .i64 p.2)]
abbrev prOwn (l : List (Int × Int)) : Ch := .own 43 2 l.length (fun i => prEnc (l.getD i (0, 0)))
abbrev inRo (l : List Int) : Ch := .ro 1 l.length (fun e => [.v (.int .i64 (l.getD e 0))])
def costF : List Chg → Int → Int → Int × Int
  | [], n, m => (n, m)
  | c :: r, n, m => if c.A < 0 ∨ c.B < 0 ∨ c.N < 0 ∨ c.M < 0 ∨ c.N > 4611686018427387904 - n ∨ c.M > 4611686018427387904 - m then (0, 0) else costF r (n + c.N) (m + c.M)

set_option maxRecDepth 100000 in
set_option maxHeartbeats 4000000 in
theorem costR_con (s : List Chg) (hs : s.length ≤ 9223372036854775807) : Con Try.prog glob 14 [.s 0 0 s.length] [(0, chRo s)] 1 (retV 1 (.t [.v (.int .i64 (costF s 0 0).1), .v (.int .i64 (costF s 0 0).2)])) := by
  refine spec_intro (tab := tab) (N := 60) Try.func14 rfl rfl tab_ok mix rfl rfl _ rfl ?_
  intro B hG
  refine loop_rule (α := Nat × Int × Int) (fun (k, n, m) => ⟨[(0, .s 0 0 s.length), (6, .v (.int .i64 k)), (4, .v (.int .i64 n)), (5, .v (.int .i64 m))], [(0, chRo s)], 1⟩)
    (fun (k, n, m) => k ≤ s.length ∧ 0 ≤ n ∧ n ≤ 4611686018427387904 ∧ 0 ≤ m ∧ m ≤ 4611686018427387904 ∧ costF (s.drop k) n m = costF s 0 0) (fun (k, n, m) => s.length - k) (0, 0, 0) [] ?_ ?_ ?_
  · simp
  · (refine ⟨rfl, rfl, ?_, ?_⟩ <;> repeat' (first | refine And.intro ?_ ?_ | exact trivial | exact rfl | refine lt0 | refine lt1 ?_ | refine lt2 ?_ ?_ | refine lt3 ?_ ?_ ?_ | refine lt4 ?_ ?_ ?_ ?_ | exact veq_refl _ | decide | (intro i hi; repeat' (first | refine And.intro ?_ ?_ | exact trivial | exact rfl))))
    exact Nat.le_refl _
  · rintro ⟨k, n, m⟩ ⟨h1, h2, h3, h4, h5, h6⟩
    repeat' (first | refine And.intro (by first | omega | (dsimp only; omega) | (show (_ : Bool) = true; kernel_rfl) | decide | (repeat' (first | refine And.intro ?_ ?_ | exact trivial | exact rfl))) ?_ | refine bcs_dec (fun h => ?_) (fun h => ?_) | refine bcs_ndec (fun h => ?_) (fun h => ?_) | refine bcs_not ?_ | refine bcs_intro (fun h => ?_) (fun h => ?_) | refine And.intro ?_ ?_ | refine reg_tail (by kernel_rfl) ?_)
    all_goals first
      | omega
      | (refine ret_plain ?_
         repeat' (first | refine And.intro ?_ ?_ | exact trivial)
         all_goals show @Eq Int _ _
         all_goals simp only [nm] at *
         all_goals (rw [← h6, drop_get Chg.d s k (by omega)])
         all_goals simp only [costF]
         all_goals (rw [if_pos (by omega)])
         done)
      | skip
    · refine ⟨(k + 1, n + (s.getD k Chg.d).N, m + (s.getD k Chg.d).M), [], ?_, ?_, ?_⟩
      · simp only [nm] at *
        refine ⟨by omega, by omega, by omega, by omega, by omega, ?_⟩
        rw [← h6, drop_get Chg.d s k (by omega)]
        simp only [costF]
        rw [if_neg (by omega)]
      · show s.length - (k + 1) < s.length - k
        omega
      · (refine ⟨rfl, rfl, ?_, ?_⟩ <;> repeat' (first | refine And.intro ?_ ?_ | exact trivial | exact rfl | refine lt0 | refine lt1 ?_ | refine lt2 ?_ ?_ | refine lt3 ?_ ?_ ?_ | refine lt4 ?_ ?_ ?_ ?_ | exact veq_refl _ | decide | (intro i hi; repeat' (first | refine And.intro ?_ ?_ | exact trivial | exact rfl))))
        · simp only [nm] at *; rfl
        · simp only [nm] at *; rfl
        · exact Nat.le_refl _
    · refine ret_plain ?_
      repeat' (first | refine And.intro ?_ ?_ | exact trivial)
      all_goals show @Eq Int _ _
      all_goals (rw [← h6, List.drop_of_length_le (by omega)])
      all_goals (simp only [costF])

def bad (c : Chg) (a b n m : Int) : Prop := c.N < 0 ∨ c.M < 0 ∨ (c.N = 0 ∧ c.M = 0) ∨ c.A < a ∨ c.A > n ∨ c.B < b ∨ c.B > m ∨ c.A - a ≠ c.B - b ∨ c.N > n - c.A ∨ c.M > m - c.B

instance (c : Chg) (a b n m : Int) : Decidable (bad c a b n m) := by unfold bad; infer_instance

def validF : List Chg → Int → Int → Int → Int → Int
  | [], a, b, n, m => if n - a ≠ m - b then 60 else 0
  | c :: r, a, b, n, m => if bad c a b n m then 60 else validF r (c.A + c.N) (c.B + c.M) n m

def validE (s : List Chg) (n m : Int) : Int := if n < 0 ∨ n > 4194304 ∨ m < 0 ∨ m > 4194304 then 1 else validF s 0 0 n m

set_option maxRecDepth 100000 in
set_option maxHeartbeats 4000000 in
theorem validR_con (s : List Chg) (n m : Int) (hs : s.length ≤ 9223372036854775807) : Con Try.prog glob 18 [.s 0 0 s.length, .v (.int .i64 n), .v (.int .i64 m)] [(0, chRo s)] 1 (retV 1 (.v (.int .i64 (validE s n m)))) := by
  refine spec_intro (tab := tab) (N := 123) Try.func18 rfl rfl tab_ok mix rfl rfl _ rfl ?_
  intro B hG
  repeat' (first | refine And.intro (by first | omega | (dsimp only; omega) | (show (_ : Bool) = true; kernel_rfl) | decide | (repeat' (first | refine And.intro ?_ ?_ | exact trivial | exact rfl))) ?_ | refine bcs_dec (fun h => ?_) (fun h => ?_) | refine bcs_ndec (fun h => ?_) (fun h => ?_) | refine bcs_not ?_ | refine bcs_intro (fun h => ?_) (fun h => ?_) | refine And.intro ?_ ?_ | refine reg_tail (by kernel_rfl) ?_)
  all_goals first
    | (refine ret_plain ?_
       show @Eq Int _ _
       unfold validE
       rw [if_pos (by omega)]
       done)
    | skip
  have h0 : ¬ (n < 0 ∨ n > 4194304 ∨ m < 0 ∨ m > 4194304) := by omega
  refine loop_rule (α := Nat × Int × Int) (fun (k, a, b) => ⟨[(0, .s 0 0 s.length), (1, .v (.int .i64 n)), (2, .v (.int .i64 m)), (9, .v (.int .i64 k)), (7, .v (.int .i64 a)), (8, .v (.int .i64 b))], [(0, chRo s)], 1⟩)
    (fun (k, a, b) => k ≤ s.length ∧ 0 ≤ a ∧ a ≤ n ∧ 0 ≤ b ∧ b ≤ m ∧ validF (s.drop k) a b n m = validE s n m) (fun (k, a, b) => s.length - k) (0, 0, 0) [] ?_ ?_ ?_
  · refine ⟨by omega, by omega, by omega, by omega, by omega, ?_⟩
    unfold validE; rw [if_neg h0]; rfl
  · (refine ⟨rfl, rfl, ?_, ?_⟩ <;> repeat' (first | refine And.intro ?_ ?_ | exact trivial | exact rfl | refine lt0 | refine lt1 ?_ | refine lt2 ?_ ?_ | refine lt3 ?_ ?_ ?_ | refine lt4 ?_ ?_ ?_ ?_ | exact veq_refl _ | decide | (intro i hi; repeat' (first | refine And.intro ?_ ?_ | exact trivial | exact rfl))))
    exact Nat.le_refl _
  · rintro ⟨k, a, b⟩ ⟨h1, h2, h3, h4, h5, h6⟩
    repeat' (first | refine And.intro (by first | omega | (dsimp only; omega) | (show (_ : Bool) = true; kernel_rfl) | decide | (repeat' (first | refine And.intro ?_ ?_ | exact trivial | exact rfl))) ?_ | refine bcs_dec (fun h => ?_) (fun h => ?_) | refine bcs_ndec (fun h => ?_) (fun h => ?_) | refine bcs_not ?_ | refine bcs_intro (fun h => ?_) (fun h => ?_) | refine And.intro ?_ ?_ | refine reg_tail (by kernel_rfl) ?_)
    all_goals first
      | omega
      | (refine ret_plain ?_
         show @Eq Int _ _
         simp only [nm] at *
         rw [← h6, drop_get Chg.d s k (by omega)]
         simp only [validF]
         rw [if_pos (by unfold bad; omega)]
         done)
      | skip
    all_goals first
      | (refine ⟨(k + 1, (s.getD k Chg.d).A + (s.getD k Chg.d).N, (s.getD k Chg.d).B + (s.getD k Chg.d).M), [], ?_, ?_, ?_⟩
         · simp only [nm] at *
           refine ⟨by omega, by omega, by omega, by omega, by omega, ?_⟩
           rw [← h6, drop_get Chg.d s k (by omega)]
           simp only [validF]
           rw [if_neg (by unfold bad; omega)]
         · show s.length - (k + 1) < s.length - k
           omega
         · (refine ⟨rfl, rfl, ?_, ?_⟩ <;> repeat' (first | refine And.intro ?_ ?_ | exact trivial | exact rfl | refine lt0 | refine lt1 ?_ | refine lt2 ?_ ?_ | refine lt3 ?_ ?_ ?_ | refine lt4 ?_ ?_ ?_ ?_ | exact veq_refl _ | decide | (intro i hi; repeat' (first | refine And.intro ?_ ?_ | exact trivial | exact rfl))))
           · simp only [nm] at *; rfl
           · simp only [nm] at *; rfl
           · exact Nat.le_refl _
         done)
      | (refine ret_plain ?_
         show @Eq Int _ _
         rw [← h6, List.drop_of_length_le (by omega)]
         simp only [validF]
         first | rw [if_pos (by omega)] | rw [if_neg (by omega)])

theorem valid_range {s : List Chg} {n m : Int} (h : validE s n m = 0) : 0 ≤ n ∧ n ≤ 4194304 ∧ 0 ≤ m ∧ m ≤ 4194304 ∧ validF s 0 0 n m = 0 := by
  unfold validE at h
  by_cases hc : n < 0 ∨ n > 4194304 ∨ m < 0 ∨ m > 4194304
  · rw [if_pos hc] at h; omega
  · rw [if_neg hc] at h; exact ⟨by omega, by omega, by omega, by omega, h⟩

theorem valid_cons {c : Chg} {r : List Chg} {a b n m : Int} (h : validF (c :: r) a b n m = 0) : ¬ bad c a b n m ∧ validF r (c.A + c.N) (c.B + c.M) n m = 0 := by
  simp only [validF] at h
  by_cases hc : bad c a b n m
  · rw [if_pos hc] at h; omega
  · rw [if_neg hc] at h; exact ⟨hc, h⟩

theorem valid_nil {a b n m : Int} (h : validF [] a b n m = 0) : n - a = m - b := by
  simp only [validF] at h
  by_cases hc : n - a ≠ m - b
  · rw [if_pos hc] at h; omega
  · omega

theorem valid_at {s : List Chg} {k : Nat} {a b n m : Int} (h : validF (s.drop k) a b n m = 0) (hk : k < s.length) :
    ¬ bad (s.getD k Chg.d) a b n m ∧ validF (s.drop (k + 1)) ((s.getD k Chg.d).A + (s.getD k Chg.d).N) ((s.getD k Chg.d).B + (s.getD k Chg.d).M) n m = 0 := by
  rw [drop_get Chg.d s k hk] at h
  exact valid_cons h

def diag : Int → Int → Nat → List (Int × Int)
  | _, _, 0 => []
  | a, b, c + 1 => (a, b) :: diag (a + 1) (b + 1) c

def pairsF : List Chg → Int → Int → Int → List (Int × Int)
  | [], a, b, n => diag a b (n - a).toNat
  | c :: r, a, b, n => diag a b (c.A - a).toNat ++ pairsF r (c.A + c.N) (c.B + c.M) n

theorem diag_step {a b to : Int} (h : a < to) : diag a b (to - a).toNat = (a, b) :: diag (a + 1) (b + 1) (to - (a + 1)).toNat := by
  rw [show (to - a).toNat = (to - (a + 1)).toNat + 1 from by omega]; rfl

theorem diag_done {a b to : Int} (h : to ≤ a) : diag a b (to - a).toNat = [] := by
  rw [show (to - a).toNat = 0 from by omega]; rfl

set_option maxRecDepth 100000 in
set_option maxHeartbeats 4000000 in
theorem pairsR_con {s : List Chg} {n m : Int} (hs : s.length ≤ 9223372036854775807 - 1) (hv : validE s n m = 0) : Con Try.prog glob 19 [.s 0 0 s.length, .v (.int .i64 n)] [(0, chRo s)] 1 (retM (.o 1) [(1, prOwn (pairsF s 0 0 n))] 2) := by
  refine spec_intro (tab := tab) (N := 66) Try.func19 rfl rfl tab_ok mix rfl rfl _ rfl ?_
  intro B hG
  repeat' (first | refine And.intro (by first | omega | (dsimp only; omega) | (show (_ : Bool) = true; kernel_rfl) | decide | (repeat' (first | refine And.intro ?_ ?_ | exact trivial | exact rfl))) ?_ | refine bcs_dec (fun h => ?_) (fun h => ?_) | refine bcs_ndec (fun h => ?_) (fun h => ?_) | refine bcs_not ?_ | refine bcs_intro (fun h => ?_) (fun h => ?_) | refine And.intro ?_ ?_ | refine reg_tail (by kernel_rfl) ?_)
  obtain ⟨r1, r2, r3, r4, r5⟩ := valid_range hv
  refine loop_rule (α := Nat × Int × Int × List (Int × Int)) (fun (k, a, b, out) => ⟨[(0, .s 0 0 s.length), (1, .v (.int .i64 n)), (8, .v (.int .i64 k)), (6, .v (.int .i64 a)), (7, .v (.int .i64 b)), (5, .o 1)], [(0, chRo s), (1, prOwn out)], 2⟩)
    (fun (k, a, b, out) => 0 ≤ a ∧ a ≤ n ∧ 0 ≤ b ∧ b ≤ m ∧ (out.length : Int) ≤ a ∧ ((k ≤ s.length ∧ validF (s.drop k) a b n m = 0 ∧ out ++ pairsF (s.drop k) a b n = pairsF s 0 0 n) ∨ (k = s.length + 1 ∧ out = pairsF s 0 0 n)))
    (fun (k, a, b, out) => s.length + 1 - k) (0, 0, 0, []) [.nil 2] ?_ ?_ ?_
  · exact ⟨by omega, by omega, by omega, by omega, by simp, .inl ⟨by omega, r5, rfl⟩⟩
  · (refine ⟨rfl, rfl, ?_, ?_⟩ <;> repeat' (first | refine And.intro ?_ ?_ | exact trivial | exact rfl | refine lt0 | refine lt1 ?_ | refine lt2 ?_ ?_ | refine lt3 ?_ ?_ ?_ | refine lt4 ?_ ?_ ?_ ?_ | exact veq_refl _ | decide | (intro i hi; repeat' (first | refine And.intro ?_ ?_ | exact trivial | exact rfl))))
    all_goals omega
  · rintro ⟨k, a, b, out⟩ ⟨h1, h2, h3, h4, h5, h6⟩
    have hb : k < s.length → ¬ bad (s.getD (0 + (k : Int).toNat) Chg.d) a b n m ∧ validF (s.drop (k + 1)) ((s.getD k Chg.d).A + (s.getD k Chg.d).N) ((s.getD k Chg.d).B + (s.getD k Chg.d).M) n m = 0 := fun h => by
      rcases h6 with ⟨_, h7, _⟩ | ⟨h7, _⟩
      · simpa using valid_at h7 h
      · omega
    have hn : k = s.length → n - a = m - b := fun h => by
      rcases h6 with ⟨_, h7, _⟩ | ⟨h7, _⟩
      · rw [h, List.drop_length] at h7; exact valid_nil h7
      · omega
    unfold bad at hb
    repeat' (first | refine And.intro (by first | omega | (dsimp only; omega) | (show (_ : Bool) = true; kernel_rfl) | decide | (repeat' (first | refine And.intro ?_ ?_ | exact trivial | exact rfl))) ?_ | refine bcs_dec (fun h => ?_) (fun h => ?_) | refine bcs_ndec (fun h => ?_) (fun h => ?_) | refine bcs_not ?_ | refine bcs_intro (fun h => ?_) (fun h => ?_) | refine And.intro ?_ ?_ | refine reg_tail (by kernel_rfl) ?_)
    · have hb1 := (hb (by omega)).1
      obtain ⟨X, hX⟩ : ∃ X : Chg, X = s.getD (0 + (k : Int).toNat) Chg.d := ⟨_, rfl⟩
      refine loop_rule (α := Int × Int × List (Int × Int)) (fun (a', b', out') => ⟨[(0, .s 0 0 s.length), (1, .v (.int .i64 n)), (8, .v (.int .i64 k)), (9, .v (.int .i64 (s.getD (0 + (k : Int).toNat) Chg.d).A)), (6, .v (.int .i64 a')), (7, .v (.int .i64 b')), (5, .o 1)], [(0, chRo s), (1, prOwn out')], 2⟩)
        (fun (a', b', out') => a ≤ a' ∧ a' ≤ (s.getD (0 + (k : Int).toNat) Chg.d).A ∧ a' - a = b' - b ∧ (out'.length : Int) ≤ a' ∧ out' ++ diag a' b' ((s.getD (0 + (k : Int).toNat) Chg.d).A - a').toNat = out ++ diag a b ((s.getD (0 + (k : Int).toNat) Chg.d).A - a).toNat)
        (fun (a', b', out') => ((s.getD (0 + (k : Int).toNat) Chg.d).A - a').toNat) (a, b, out) [.at 1 0] ?_ ?_ ?_
      · refine ⟨by omega, by omega, by omega, by omega, ?_⟩; exact rfl
      · (refine ⟨rfl, rfl, ?_, ?_⟩ <;> repeat' (first | refine And.intro ?_ ?_ | exact trivial | exact rfl | refine lt0 | refine lt1 ?_ | refine lt2 ?_ ?_ | refine lt3 ?_ ?_ ?_ | refine lt4 ?_ ?_ ?_ ?_ | exact veq_refl _ | decide | (intro i hi; repeat' (first | refine And.intro ?_ ?_ | exact trivial | exact rfl))))
        all_goals first | omega | skip
      · rintro ⟨a', b', out'⟩ ⟨i1, i2, i3, i4, i5⟩
        repeat' (first | refine And.intro (by first | omega | (dsimp only; omega) | (show (_ : Bool) = true; kernel_rfl) | decide | (repeat' (first | refine And.intro ?_ ?_ | exact trivial | exact rfl))) ?_ | refine bcs_dec (fun h => ?_) (fun h => ?_) | refine bcs_ndec (fun h => ?_) (fun h => ?_) | refine bcs_not ?_ | refine bcs_intro (fun h => ?_) (fun h => ?_) | refine And.intro ?_ ?_ | refine reg_tail (by kernel_rfl) ?_)
        · refine app1 prEnc (0, 0) out' (a', b') rfl (by simp; rfl) ?_
          repeat' (first | refine And.intro (by first | omega | (dsimp only; omega) | (show (_ : Bool) = true; kernel_rfl) | decide | (repeat' (first | refine And.intro ?_ ?_ | exact trivial | exact rfl))) ?_ | refine bcs_dec (fun h => ?_) (fun h => ?_) | refine bcs_ndec (fun h => ?_) (fun h => ?_) | refine bcs_not ?_ | refine bcs_intro (fun h => ?_) (fun h => ?_) | refine And.intro ?_ ?_ | refine reg_tail (by kernel_rfl) ?_)
          refine ⟨(a' + 1, b' + 1, out' ++ [(a', b')]), [.at 3 0], ?_, ?_, ?_⟩
          · refine ⟨by omega, by omega, by omega, by rw [List.length_append]; simp only [List.length_singleton]; omega, ?_⟩
            rw [← i5, diag_step (a := a') (b := b') (to := (s.getD (0 + (k : Int).toNat) Chg.d).A) (by omega), List.append_assoc]; rfl
          · show ((s.getD (0 + (k : Int).toNat) Chg.d).A - (a' + 1)).toNat < ((s.getD (0 + (k : Int).toNat) Chg.d).A - a').toNat
            omega
          · (refine ⟨rfl, rfl, ?_, ?_⟩ <;> repeat' (first | refine And.intro ?_ ?_ | exact trivial | exact rfl | refine lt0 | refine lt1 ?_ | refine lt2 ?_ ?_ | refine lt3 ?_ ?_ ?_ | refine lt4 ?_ ?_ ?_ ?_ | exact veq_refl _ | decide | (intro i hi; repeat' (first | refine And.intro ?_ ?_ | exact trivial | exact rfl))))
            all_goals first | omega | (simp; done)
        all_goals first
          | (exfalso; omega)
          | (refine ⟨(k + 1, (s.getD (0 + (k : Int).toNat) Chg.d).A + (s.getD (0 + (k : Int).toNat) Chg.d).N, (s.getD (0 + (k : Int).toNat) Chg.d).B + (s.getD (0 + (k : Int).toNat) Chg.d).M, out'), [.at 1 0], ?_, ?_, ?_⟩
             · have hk : k < s.length := by omega
               have hv' := (hb hk).2
               rcases h6 with ⟨_, _, h8⟩ | ⟨h7, _⟩
               · rw [diag_done (by omega), List.append_nil] at i5
                 rw [drop_get Chg.d s k hk] at h8
                 simp only [pairsF] at h8
                 simp only [nm] at *
                 refine ⟨by omega, by omega, by omega, by omega, by omega, .inl ⟨by omega, hv', ?_⟩⟩
                 rw [← h8, i5, List.append_assoc]
               · omega
             · show s.length + 1 - (k + 1) < s.length + 1 - k
               omega
             · (refine ⟨rfl, rfl, ?_, ?_⟩ <;> repeat' (first | refine And.intro ?_ ?_ | exact trivial | exact rfl | refine lt0 | refine lt1 ?_ | refine lt2 ?_ ?_ | refine lt3 ?_ ?_ ?_ | refine lt4 ?_ ?_ ?_ ?_ | exact veq_refl _ | decide | (intro i hi; repeat' (first | refine And.intro ?_ ?_ | exact trivial | exact rfl))))
               all_goals first | omega | (simp; done)
             done)
    · refine loop_rule (α := Int × Int × List (Int × Int)) (fun (a', b', out') => ⟨[(0, .s 0 0 s.length), (1, .v (.int .i64 n)), (8, .v (.int .i64 k)), (9, .v (.int .i64 n)), (6, .v (.int .i64 a')), (7, .v (.int .i64 b')), (5, .o 1)], [(0, chRo s), (1, prOwn out')], 2⟩)
        (fun (a', b', out') => a ≤ a' ∧ a' ≤ n ∧ a' - a = b' - b ∧ (out'.length : Int) ≤ a' ∧ out' ++ diag a' b' (n - a').toNat = out ++ diag a b (n - a).toNat)
        (fun (a', b', out') => (n - a').toNat) (a, b, out) [.at 1 0] ?_ ?_ ?_
      · refine ⟨by omega, by omega, by omega, by omega, ?_⟩; exact rfl
      · (refine ⟨rfl, rfl, ?_, ?_⟩ <;> repeat' (first | refine And.intro ?_ ?_ | exact trivial | exact rfl | refine lt0 | refine lt1 ?_ | refine lt2 ?_ ?_ | refine lt3 ?_ ?_ ?_ | refine lt4 ?_ ?_ ?_ ?_ | exact veq_refl _ | decide | (intro i hi; repeat' (first | refine And.intro ?_ ?_ | exact trivial | exact rfl))))
        all_goals first | omega | skip
      · rintro ⟨a', b', out'⟩ ⟨i1, i2, i3, i4, i5⟩
        repeat' (first | refine And.intro (by first | omega | (dsimp only; omega) | (show (_ : Bool) = true; kernel_rfl) | decide | (repeat' (first | refine And.intro ?_ ?_ | exact trivial | exact rfl))) ?_ | refine bcs_dec (fun h => ?_) (fun h => ?_) | refine bcs_ndec (fun h => ?_) (fun h => ?_) | refine bcs_not ?_ | refine bcs_intro (fun h => ?_) (fun h => ?_) | refine And.intro ?_ ?_ | refine reg_tail (by kernel_rfl) ?_)
        · refine app1 prEnc (0, 0) out' (a', b') rfl (by simp; rfl) ?_
          repeat' (first | refine And.intro (by first | omega | (dsimp only; omega) | (show (_ : Bool) = true; kernel_rfl) | decide | (repeat' (first | refine And.intro ?_ ?_ | exact trivial | exact rfl))) ?_ | refine bcs_dec (fun h => ?_) (fun h => ?_) | refine bcs_ndec (fun h => ?_) (fun h => ?_) | refine bcs_not ?_ | refine bcs_intro (fun h => ?_) (fun h => ?_) | refine And.intro ?_ ?_ | refine reg_tail (by kernel_rfl) ?_)
          refine ⟨(a' + 1, b' + 1, out' ++ [(a', b')]), [.at 3 0], ?_, ?_, ?_⟩
          · refine ⟨by omega, by omega, by omega, by rw [List.length_append]; simp only [List.length_singleton]; omega, ?_⟩
            rw [← i5, diag_step (a := a') (b := b') (to := n) (by omega), List.append_assoc]; rfl
          · show (n - (a' + 1)).toNat < (n - a').toNat
            omega
          · (refine ⟨rfl, rfl, ?_, ?_⟩ <;> repeat' (first | refine And.intro ?_ ?_ | exact trivial | exact rfl | refine lt0 | refine lt1 ?_ | refine lt2 ?_ ?_ | refine lt3 ?_ ?_ ?_ | refine lt4 ?_ ?_ ?_ ?_ | exact veq_refl _ | decide | (intro i hi; repeat' (first | refine And.intro ?_ ?_ | exact trivial | exact rfl))))
            all_goals first | omega | (simp; done)
        all_goals first
          | (exfalso; omega)
          | (refine ⟨(k + 1, a', b', out'), [.at 1 0], ?_, ?_, ?_⟩
             · have hk : k = s.length := by omega
               have hn' := hn hk
               rcases h6 with ⟨_, _, h8⟩ | ⟨h7, _⟩
               · rw [diag_done (by omega), List.append_nil] at i5
                 rw [hk, List.drop_length] at h8
                 simp only [pairsF] at h8
                 refine ⟨by omega, by omega, by omega, by omega, by omega, .inr ⟨by omega, ?_⟩⟩
                 rw [← h8, i5]
               · omega
             · show s.length + 1 - (k + 1) < s.length + 1 - k
               omega
             · (refine ⟨rfl, rfl, ?_, ?_⟩ <;> repeat' (first | refine And.intro ?_ ?_ | exact trivial | exact rfl | refine lt0 | refine lt1 ?_ | refine lt2 ?_ ?_ | refine lt3 ?_ ?_ ?_ | refine lt4 ?_ ?_ ?_ ?_ | exact veq_refl _ | decide | (intro i hi; repeat' (first | refine And.intro ?_ ?_ | exact trivial | exact rfl))))
               all_goals first | omega | (simp; done)
             done)
    · rcases h6 with ⟨_, _, _⟩ | ⟨_, h8⟩
      · omega
      · refine ret_mem [.at 1 0] (by rfl) (by rfl) ?_ ?_
        · repeat' (first | refine And.intro ?_ ?_ | exact trivial)
          all_goals exact rfl
        · repeat' (first | refine And.intro ?_ ?_ | exact trivial)
          · rw [h8]
          · intro i hi
            rw [h8]
            repeat' (first | refine And.intro ?_ ?_ | exact trivial)
            all_goals exact rfl

theorem diag_len : ∀ (c : Nat) (a b : Int), (diag a b c).length = c
  | 0, _, _ => rfl
  | c + 1, a, b => by simp [diag, diag_len c]

theorem pairsF_len : ∀ (s : List Chg) (a b n m : Int), validF s a b n m = 0 → 0 ≤ a → a ≤ n → ((pairsF s a b n).length : Int) ≤ n - a
  | [], a, b, n, m, _, _, _ => by simp only [pairsF, diag_len]; omega
  | c :: r, a, b, n, m, h, h0, h1 => by
    obtain ⟨hb, hv⟩ := valid_cons h
    unfold bad at hb
    have := pairsF_len r (c.A + c.N) (c.B + c.M) n m hv (by omega) (by omega)
    simp only [pairsF, List.length_append, diag_len]
    omega

abbrev sameAt (a b : List Int) (p : Int × Int) : Prop := a.getD p.1.toNat 0 = b.getD p.2.toNat 0

def fitsF (s : List Chg) (a b : List Int) : Int := if validE s a.length b.length ≠ 0 then validE s a.length b.length else if ∀ p ∈ pairsF s 0 0 a.length, sameAt a b p then 0 else 61

theorem diag_mem : ∀ (c : Nat) (a b : Int) (p : Int × Int), p ∈ diag a b c → a ≤ p.1 ∧ p.1 < a + c ∧ p.2 - b = p.1 - a
  | 0, a, b, p, h => by simp [diag] at h
  | c + 1, a, b, p, h => by
    simp only [diag, List.mem_cons] at h
    rcases h with rfl | h
    · dsimp only; omega
    · have := diag_mem c _ _ p h
      omega

theorem pairsF_mem : ∀ (s : List Chg) (a b n m : Int) (p : Int × Int), validF s a b n m = 0 → p ∈ pairsF s a b n → a ≤ p.1 ∧ p.1 < n ∧ b ≤ p.2 ∧ p.2 < m
  | [], a, b, n, m, p, hv, h => by
    have := valid_nil hv
    have := diag_mem _ _ _ _ h
    omega
  | c :: r, a, b, n, m, p, hv, h => by
    obtain ⟨hb, hv'⟩ := valid_cons hv
    unfold bad at hb
    simp only [pairsF, List.mem_append] at h
    rcases h with h | h
    · have := diag_mem _ _ _ _ h
      omega
    · have := pairsF_mem r _ _ n m p hv' h
      omega

theorem getD_mem {l : List (Int × Int)} {k : Nat} (h : k < l.length) : l.getD k (0, 0) ∈ l := by
  rw [List.getD_eq_getElem?_getD, List.getElem?_eq_getElem h]; exact List.getElem_mem h

theorem take_all_snoc {l : List (Int × Int)} {k : Nat} {P : Int × Int → Prop} (h : k < l.length) (h1 : ∀ p ∈ l.take k, P p) (h2 : P (l.getD k (0, 0))) : ∀ p ∈ l.take (k + 1), P p := by
  intro p hp
  rw [List.take_succ_eq_append_getElem h] at hp
  rcases List.mem_append.1 hp with hp | hp
  · exact h1 p hp
  · rw [List.mem_singleton.1 hp]
    rwa [List.getD_eq_getElem?_getD, List.getElem?_eq_getElem h] at h2

set_option maxRecDepth 100000 in
set_option maxHeartbeats 4000000 in
theorem rFits_con {s : List Chg} {a b : List Int} (hs : s.length ≤ 9223372036854775807 - 1) : Con Try.prog glob 15 [.s 0 0 s.length, .s 1 0 a.length, .s 2 0 b.length] [(0, chRo s), (1, inRo a), (2, inRo b)] 3
    (retV 3 (.v (.int .i64 (fitsF s a b)))) := by
  refine spec_intro (tab := tab) (N := 46) Try.func15 rfl rfl tab_ok mix rfl rfl _ rfl ?_
  intro B hG
  repeat' (first | refine And.intro (by first | omega | (dsimp only; omega) | (show (_ : Bool) = true; kernel_rfl) | decide | (repeat' (first | refine And.intro ?_ ?_ | exact trivial | exact rfl))) ?_ | refine bcs_dec (fun h => ?_) (fun h => ?_) | refine bcs_ndec (fun h => ?_) (fun h => ?_) | refine bcs_not ?_ | refine bcs_intro (fun h => ?_) (fun h => ?_) | refine And.intro ?_ ?_ | refine reg_tail (by kernel_rfl) ?_)
  refine call_rule [.at 0 0] (validR_con s a.length b.length (by omega)) hG ?_ ?_
  · (refine ⟨?_, ?_, rfl, rfl, rfl⟩ <;> repeat' (first | refine And.intro ?_ ?_ | exact trivial | exact rfl | refine lt0 | refine lt1 ?_ | refine lt2 ?_ ?_ | refine lt3 ?_ ?_ ?_ | refine lt4 ?_ ?_ ?_ ?_ | exact veq_refl _ | decide | (intro i hi; repeat' (first | refine And.intro ?_ ?_ | exact trivial | exact rfl))))
    all_goals first | exact Nat.le_refl _ | omega
  rintro _ _ _ ⟨rfl, rfl, rfl⟩
  repeat' (first | refine And.intro (by first | omega | (dsimp only; omega) | (show (_ : Bool) = true; kernel_rfl) | decide | (repeat' (first | refine And.intro ?_ ?_ | exact trivial | exact rfl))) ?_ | refine bcs_dec (fun h => ?_) (fun h => ?_) | refine bcs_ndec (fun h => ?_) (fun h => ?_) | refine bcs_not ?_ | refine bcs_intro (fun h => ?_) (fun h => ?_) | refine And.intro ?_ ?_ | refine reg_tail (by kernel_rfl) ?_)
  · have e : fitsF s a b = validE s a.length b.length := by unfold fitsF; rw [if_pos (by omega)]
    rw [e]
    refine ret_plain ?_
    exact rfl
  have hv : validE s a.length b.length = 0 := by omega
  obtain ⟨r1, r2, r3, r4, r5⟩ := valid_range hv
  have hpl := pairsF_len s 0 0 a.length b.length r5 (by omega) (by omega)
  refine call_rule [.at 0 0] (pairsR_con hs hv) hG ?_ ?_
  · (refine ⟨?_, ?_, rfl, rfl, rfl⟩ <;> repeat' (first | refine And.intro ?_ ?_ | exact trivial | exact rfl | refine lt0 | refine lt1 ?_ | refine lt2 ?_ ?_ | refine lt3 ?_ ?_ ?_ | refine lt4 ?_ ?_ ?_ ?_ | exact veq_refl _ | decide | (intro i hi; repeat' (first | refine And.intro ?_ ?_ | exact trivial | exact rfl))))
    all_goals first | exact Nat.le_refl _ | omega
  rintro _ _ _ ⟨rfl, rfl, rfl⟩
  repeat' (first | refine And.intro (by first | omega | (dsimp only; omega) | (show (_ : Bool) = true; kernel_rfl) | decide | (repeat' (first | refine And.intro ?_ ?_ | exact trivial | exact rfl))) ?_ | refine bcs_dec (fun h => ?_) (fun h => ?_) | refine bcs_ndec (fun h => ?_) (fun h => ?_) | refine bcs_not ?_ | refine bcs_intro (fun h => ?_) (fun h => ?_) | refine And.intro ?_ ?_ | refine reg_tail (by kernel_rfl) ?_)
  obtain ⟨l, hl⟩ : ∃ l, l = pairsF s 0 0 (a.length : Int) := ⟨_, rfl⟩
  have hm : ∀ p ∈ l, 0 ≤ p.1 ∧ p.1 < a.length ∧ 0 ≤ p.2 ∧ p.2 < b.length := fun p hp => pairsF_mem s 0 0 a.length b.length p r5 (by rw [← hl]; exact hp)
  rw [← hl] at hpl
  refine loop_rule (α := Nat) (fun k => ⟨[(1, .s 1 0 a.length), (2, .s 2 0 b.length), (8, .o 3), (9, .v (.int .i64 k))], [(0, chRo s), (1, inRo a), (2, inRo b), (3, prOwn l)], 4⟩)
    (fun k => k ≤ l.length ∧ ∀ p ∈ l.take k, sameAt a b p) (fun k => l.length - k) 0 [.at 3 0] ?_ ?_ ?_
  · exact ⟨by omega, fun p hp => by simp at hp⟩
  · rw [hl]
    (refine ⟨rfl, rfl, ?_, ?_⟩ <;> repeat' (first | refine And.intro ?_ ?_ | exact trivial | exact rfl | refine lt0 | refine lt1 ?_ | refine lt2 ?_ ?_ | refine lt3 ?_ ?_ ?_ | refine lt4 ?_ ?_ ?_ ?_ | exact veq_refl _ | decide | (intro i hi; repeat' (first | refine And.intro ?_ ?_ | exact trivial | exact rfl))))
    all_goals omega
  · rintro k ⟨h1, h2⟩
    have hk : k < l.length → 0 ≤ (l.getD (k : Int).toNat (0, 0)).1 ∧ (l.getD (k : Int).toNat (0, 0)).1 < a.length ∧ 0 ≤ (l.getD (k : Int).toNat (0, 0)).2 ∧ (l.getD (k : Int).toNat (0, 0)).2 < b.length := fun h => by
      have := hm _ (getD_mem h)
      simpa using this
    repeat' (first | refine And.intro (by first | omega | (dsimp only; omega) | (show (_ : Bool) = true; kernel_rfl) | decide | (repeat' (first | refine And.intro ?_ ?_ | exact trivial | exact rfl))) ?_ | refine bcs_dec (fun h => ?_) (fun h => ?_) | refine bcs_ndec (fun h => ?_) (fun h => ?_) | refine bcs_not ?_ | refine bcs_intro (fun h => ?_) (fun h => ?_) | refine And.intro ?_ ?_ | refine reg_tail (by kernel_rfl) ?_)
    · have hp := getD_mem (l := l) (k := (k : Int).toNat) (by omega)
      have e : fitsF s a b = 61 := by
        unfold fitsF
        rw [if_neg (by omega), ← hl, if_neg]
        intro h'
        have := h' _ hp
        apply h
        unfold sameAt at this
        rw [Nat.zero_add, Nat.zero_add]
        exact this
      repeat' (first | refine And.intro (by first | omega | (dsimp only; omega) | (show (_ : Bool) = true; kernel_rfl) | decide | (repeat' (first | refine And.intro ?_ ?_ | exact trivial | exact rfl))) ?_ | refine bcs_dec (fun h => ?_) (fun h => ?_) | refine bcs_ndec (fun h => ?_) (fun h => ?_) | refine bcs_not ?_ | refine bcs_intro (fun h => ?_) (fun h => ?_) | refine And.intro ?_ ?_ | refine reg_tail (by kernel_rfl) ?_)
      rw [e]
      refine ret_plain ?_
      exact rfl
    · repeat' (first | refine And.intro (by first | omega | (dsimp only; omega) | (show (_ : Bool) = true; kernel_rfl) | decide | (repeat' (first | refine And.intro ?_ ?_ | exact trivial | exact rfl))) ?_ | refine bcs_dec (fun h => ?_) (fun h => ?_) | refine bcs_ndec (fun h => ?_) (fun h => ?_) | refine bcs_not ?_ | refine bcs_intro (fun h => ?_) (fun h => ?_) | refine And.intro ?_ ?_ | refine reg_tail (by kernel_rfl) ?_)
      refine ⟨k + 1, [.at 3 0], ?_, ?_, ?_⟩
      · have hkl : k < l.length := by omega
        refine ⟨by omega, take_all_snoc hkl h2 ?_⟩
        unfold sameAt
        simp only [Int.toNat_natCast, Nat.zero_add] at h
        exact h
      · show l.length - (k + 1) < l.length - k
        omega
      · (refine ⟨rfl, rfl, ?_, ?_⟩ <;> repeat' (first | refine And.intro ?_ ?_ | exact trivial | exact rfl | refine lt0 | refine lt1 ?_ | refine lt2 ?_ ?_ | refine lt3 ?_ ?_ ?_ | refine lt4 ?_ ?_ ?_ ?_ | exact veq_refl _ | decide | (intro i hi; repeat' (first | refine And.intro ?_ ?_ | exact trivial | exact rfl))))
        all_goals first | omega | (simp; done)
    · have e : fitsF s a b = 0 := by
        unfold fitsF
        rw [if_neg (by omega), ← hl, if_pos]
        intro p hp
        exact h2 p (by rw [List.take_of_length_le (by omega)]; exact hp)
      repeat' (first | refine And.intro (by first | omega | (dsimp only; omega) | (show (_ : Bool) = true; kernel_rfl) | decide | (repeat' (first | refine And.intro ?_ ?_ | exact trivial | exact rfl))) ?_ | refine bcs_dec (fun h => ?_) (fun h => ?_) | refine bcs_ndec (fun h => ?_) (fun h => ?_) | refine bcs_not ?_ | refine bcs_intro (fun h => ?_) (fun h => ?_) | refine And.intro ?_ ?_ | refine reg_tail (by kernel_rfl) ?_)
      rw [e]
      refine ret_plain ?_
      exact rfl
end Go.Proofs.Ytdabahipeepheaa
