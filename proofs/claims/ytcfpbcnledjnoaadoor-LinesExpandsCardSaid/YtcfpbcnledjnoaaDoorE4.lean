/- Chapter 1: the document's blanks in the place of tabulators, walked. -/
import Derived.Test.YtcfpbcnledjnoaaDoorE2
namespace Go.Proofs.YtcfpbcnledjnoaaDoor
open Go Go.RowKit Vc

def rR : Option Byt → SV
  | none => .t [str [], .v (.int .i64 2)]
  | some t => .t [str t, .v (.int .i64 0)]
theorem mod_end {w col j : Nat} (h1 : 1 ≤ j) (h2 : j ≤ w - col % w) (hw : 1 ≤ w) : (col + j) % w = 0 ↔ j = w - col % w := by
  have hm : col % w < w := Nat.mod_lt _ hw
  rw [← Nat.mod_add_mod]
  constructor
  · intro h
    rcases Nat.lt_or_ge (col % w + j) w with hlt | hge
    · rw [Nat.mod_eq_of_lt hlt] at h; omega
    · omega
  · intro h
    rw [show col % w + j = w by omega, Nat.mod_self]
set_option maxRecDepth 100000 in
set_option maxHeartbeats 8000000 in
theorem rexp_con (s : Byt) (w : Nat) (hw1 : 1 ≤ w) (hw2 : w ≤ 255) (hs : s.length ≤ 4194304) : Con Tryd.prog glob 5 [str s, .v (.int .i64 w)] [] 0 (retV 0 (rR (expG w s [] 0))) := by
  have hb : (bs s).size = s.length := bs_size s
  obtain ⟨E, hE⟩ : ∃ E, E = expG w s [] 0 := ⟨_, rfl⟩
  rw [← hE]
  refine spec_intro (tab := tab) (N := 61) Tryd.func5 rfl rfl tab_ok mix rfl rfl _ rfl ?_
  intro B hG
  repeat' (first | refine And.intro (by first | omega | (dsimp only; omega) | (show (_ : Bool) = true; kernel_rfl) | decide | (repeat' (first | refine And.intro ?_ ?_ | exact trivial | exact rfl))) ?_ | refine bcs_dec (fun h => ?_) (fun h => False.elim (by first | omega | exact h rfl)) | refine bcs_dec (fun h => False.elim (by omega)) (fun h => ?_) | refine bcs_dec (fun h => ?_) (fun h => ?_) | refine bcs_ndec (fun h => ?_) (fun h => ?_) | refine bcs_not ?_ | refine bcs_intro (fun h => ?_) (fun h => ?_) | refine And.intro ?_ ?_ | refine reg_tail (by kernel_rfl) ?_)
  refine loop_rule (α := Nat × Nat × Byt) (fun (k, col, out) => ⟨[(0, str s), (1, .v (.int .i64 w)), (6, .o 0), (7, .v (.int .i64 col)), (8, .v (.int .i64 k))], [(0, byOwn out)], 1⟩)
    (fun (k, col, out) => k ≤ s.length ∧ col ≤ out.length ∧ out.length ≤ 4194304 ∧ expG w (s.drop k) out col = E) (fun (k, _) => s.length - k) (0, 0, []) [.nil 1] ?_ ?_ ?_
  · exact ⟨by omega, by simp, by simp, hE.symm⟩
  · (refine ⟨rfl, rfl, ?_, ?_⟩ <;> repeat' (first | refine And.intro ?_ ?_ | exact trivial | exact rfl | refine lt0 | refine lt1 ?_ | refine lt2 ?_ ?_ | refine lt3 ?_ ?_ ?_ | refine lt4 ?_ ?_ ?_ ?_ | exact veq_refl _ | decide | (intro i hi; repeat' (first | refine And.intro ?_ ?_ | exact trivial | exact rfl))))
  rintro ⟨k, col, out⟩ ⟨h1, h2, h3, h4⟩
  have hbt : bt (bs s) (k : Int) = ((s.getD k 0).toNat : Int) := bs_bt s k
  obtain ⟨X, hX⟩ : ∃ X, X = (expN w out col (s.getD k 0)).1 := ⟨_, rfl⟩
  obtain ⟨Y, hY⟩ : ∃ Y, Y = (expN w out col (s.getD k 0)).2 := ⟨_, rfl⟩
  have hst : k < s.length → (if X.length > 4194304 then none else expG w (s.drop (k + 1)) X Y) = E := fun h => by
    rw [← h4, drop_get 0 s k h, hX, hY]
    rfl
  have hxl := expN_len hw1 out col (s.getD k 0) h2
  rw [← hX, ← hY] at hxl
  have hmw : col % w < w := Nat.mod_lt _ (by omega)
  repeat' (first | refine And.intro (by first | omega | (dsimp only; omega) | (show (_ : Bool) = true; kernel_rfl) | decide | (repeat' (first | refine And.intro ?_ ?_ | exact trivial | exact rfl))) ?_ | refine bcs_dec (fun h => ?_) (fun h => ?_) | refine bcs_ndec (fun h => ?_) (fun h => ?_) | refine bcs_not ?_ | refine bcs_intro (fun h => ?_) (fun h => ?_) | refine And.intro ?_ ?_ | refine reg_tail (by kernel_rfl) ?_)
  · have ec : s.getD k 0 = 10 := (u8_iff (y := 10)).1 (by rw [← hbt]; exact h)
    have e1 : out ++ [10] = X := by rw [hX, ec]; rfl
    have e2 : Y = 0 := by rw [hY, ec]; rfl
    have e3 : out.length + 1 = X.length := by rw [← e1]; simp
    refine app1 byEnc 0 out 10 rfl rfl ?_
    rw [e1]
    repeat' (first | refine And.intro (by first | omega | (dsimp only; omega) | (show (_ : Bool) = true; kernel_rfl) | decide | (repeat' (first | refine And.intro ?_ ?_ | exact trivial | exact rfl))) ?_ | refine bcs_dec (fun h => ?_) (fun h => ?_) | refine bcs_ndec (fun h => ?_) (fun h => ?_) | refine bcs_not ?_ | refine bcs_intro (fun h => ?_) (fun h => ?_) | refine And.intro ?_ ?_ | refine reg_tail (by kernel_rfl) ?_)
    · have e : E = none := by
        rw [← hst (by omega), if_pos (by omega)]
      subst e
      refine ret_plain ?_
      repeat' (first | refine And.intro ?_ ?_ | exact trivial)
      all_goals exact rfl
    · refine ⟨(k + 1, Y, X), [.at 2 0], ?_, ?_, ?_⟩
      · refine ⟨by omega, by omega, by omega, ?_⟩
        rw [← hst (by omega), if_neg (by omega)]
      · show s.length - (k + 1) < s.length - k
        omega
      · (refine ⟨rfl, rfl, ?_, ?_⟩ <;> repeat' (first | refine And.intro ?_ ?_ | exact trivial | exact rfl | refine lt0 | refine lt1 ?_ | refine lt2 ?_ ?_ | refine lt3 ?_ ?_ ?_ | refine lt4 ?_ ?_ ?_ ?_ | exact veq_refl _ | decide | (intro i hi; repeat' (first | refine And.intro ?_ ?_ | exact trivial | exact rfl))))
        all_goals first | omega | (refine veq_of_eq (congrArg (Value.int .i64) ?_); omega)
  · have n10 : ¬ s.getD k 0 = 10 := fun e => absurd ((u8_iff (y := 10)).2 e) (by rw [← hbt]; assumption)
    have ec : s.getD k 0 = 9 := (u8_iff (y := 9)).1 (by rw [← hbt]; exact h)
    have e1 : X = out ++ List.replicate (w - col % w) 32 := by rw [hX, ec]; rfl
    have e2 : Y = col + (w - col % w) := by rw [hY, ec]; rfl
    refine app1 byEnc 0 out 32 rfl rfl ?_
    repeat' (first | refine And.intro (by first | omega | (dsimp only; omega) | (show (_ : Bool) = true; kernel_rfl) | decide | (repeat' (first | refine And.intro ?_ ?_ | exact trivial | exact rfl))) ?_ | refine bcs_dec (fun h => ?_) (fun h => ?_) | refine bcs_ndec (fun h => ?_) (fun h => ?_) | refine bcs_not ?_ | refine bcs_intro (fun h => ?_) (fun h => ?_) | refine And.intro ?_ ?_ | refine reg_tail (by kernel_rfl) ?_)
    refine loop_rule (α := Nat) (fun j => ⟨[(0, str s), (1, .v (.int .i64 w)), (6, .o 0), (7, .v (.int .i64 (col + j : Nat))), (8, .v (.int .i64 k))], [(0, byOwn (out ++ List.replicate j 32))], 1⟩)
      (fun j => 1 ≤ j ∧ j ≤ w - col % w) (fun j => w - j) 1 [.at 2 0] ?_ ?_ ?_
    · exact ⟨by omega, by omega⟩
    · (refine ⟨rfl, rfl, ?_, ?_⟩ <;> repeat' (first | refine And.intro ?_ ?_ | exact trivial | exact rfl | refine lt0 | refine lt1 ?_ | refine lt2 ?_ ?_ | refine lt3 ?_ ?_ ?_ | refine lt4 ?_ ?_ ?_ ?_ | exact veq_refl _ | decide | (intro i hi; repeat' (first | refine And.intro ?_ ?_ | exact trivial | exact rfl))))
      all_goals simp
    rintro j ⟨j1, j2⟩
    have htm : ((col + j : Nat) : Int).tmod w = (((col + j) % w : Nat) : Int) := (Int.ofNat_tmod (col + j) w).symm
    have hme := mod_end j1 j2 hw1
    have hlen : (out ++ List.replicate j 32).length = out.length + j := by simp
    have happ : out ++ List.replicate j 32 ++ [32] = out ++ List.replicate (j + 1) 32 := by rw [List.replicate_succ', List.append_assoc]
    repeat' (first | refine And.intro (by first | omega | (dsimp only; omega) | (show (_ : Bool) = true; kernel_rfl) | decide | (repeat' (first | refine And.intro ?_ ?_ | exact trivial | exact rfl))) ?_ | refine bcs_dec (fun h => ?_) (fun h => ?_) | refine bcs_ndec (fun h => ?_) (fun h => ?_) | refine bcs_not ?_ | refine bcs_intro (fun h => ?_) (fun h => ?_) | refine And.intro ?_ ?_ | refine reg_tail (by kernel_rfl) ?_)
    · refine app1 byEnc 0 (out ++ List.replicate j 32) 32 rfl rfl ?_
      rw [happ]
      repeat' (first | refine And.intro (by first | omega | (dsimp only; omega) | (show (_ : Bool) = true; kernel_rfl) | decide | (repeat' (first | refine And.intro ?_ ?_ | exact trivial | exact rfl))) ?_ | refine bcs_dec (fun h => ?_) (fun h => ?_) | refine bcs_ndec (fun h => ?_) (fun h => ?_) | refine bcs_not ?_ | refine bcs_intro (fun h => ?_) (fun h => ?_) | refine And.intro ?_ ?_ | refine reg_tail (by kernel_rfl) ?_)
      refine ⟨j + 1, [.at 2 0], ?_, ?_, ?_⟩
      · exact ⟨by omega, by omega⟩
      · show w - (j + 1) < w - j
        omega
      · (refine ⟨rfl, rfl, ?_, ?_⟩ <;> repeat' (first | refine And.intro ?_ ?_ | exact trivial | exact rfl | refine lt0 | refine lt1 ?_ | refine lt2 ?_ ?_ | refine lt3 ?_ ?_ ?_ | refine lt4 ?_ ?_ ?_ ?_ | exact veq_refl _ | decide | (intro i hi; repeat' (first | refine And.intro ?_ ?_ | exact trivial | exact rfl))))
        all_goals first | omega | (refine veq_of_eq (congrArg (Value.int .i64) ?_); omega) | (simp; omega)
    · have hj : j = w - col % w := by omega
      have e : E = none := by
        rw [← hst (by omega), if_pos (by rw [e1, ← hj]; omega)]
      subst e
      refine ret_plain ?_
      repeat' (first | refine And.intro ?_ ?_ | exact trivial)
      all_goals exact rfl
    · have hj : j = w - col % w := by omega
      rw [← hj] at e1 e2
      have hX2 : X.length = out.length + j := by rw [e1]; exact hlen
      rw [← e1] at *
      refine ⟨(k + 1, Y, X), [.at 0 0], ?_, ?_, ?_⟩
      · refine ⟨by omega, by omega, by omega, ?_⟩
        rw [← hst (by omega), if_neg (by omega)]
      · show s.length - (k + 1) < s.length - k
        omega
      · (refine ⟨rfl, rfl, ?_, ?_⟩ <;> repeat' (first | refine And.intro ?_ ?_ | exact trivial | exact rfl | refine lt0 | refine lt1 ?_ | refine lt2 ?_ ?_ | refine lt3 ?_ ?_ ?_ | refine lt4 ?_ ?_ ?_ ?_ | exact veq_refl _ | decide | (intro i hi; repeat' (first | refine And.intro ?_ ?_ | exact trivial | exact rfl))))
        all_goals first | omega | (refine veq_of_eq (congrArg (Value.int .i64) ?_); omega)
  · have n10 : ¬ s.getD k 0 = 10 := fun e => absurd ((u8_iff (y := 10)).2 e) (by rw [← hbt]; assumption)
    have n9 : ¬ s.getD k 0 = 9 := fun e => absurd ((u8_iff (y := 9)).2 e) (by rw [← hbt]; assumption)
    have e1 : out ++ [s.getD k 0] = X := by rw [hX]; unfold expN; rw [if_neg n10, if_neg n9]
    have e2 : Y = col + 1 := by rw [hY]; unfold expN; rw [if_neg n10, if_neg n9]
    have e3 : out.length + 1 = X.length := by rw [← e1]; simp
    refine app1 byEnc 0 out (s.getD k 0) rfl (congrArg (fun z => [SV.v (.int .u8 z)]) hbt) ?_
    rw [e1]
    repeat' (first | refine And.intro (by first | omega | (dsimp only; omega) | (show (_ : Bool) = true; kernel_rfl) | decide | (repeat' (first | refine And.intro ?_ ?_ | exact trivial | exact rfl))) ?_ | refine bcs_dec (fun h => ?_) (fun h => ?_) | refine bcs_ndec (fun h => ?_) (fun h => ?_) | refine bcs_not ?_ | refine bcs_intro (fun h => ?_) (fun h => ?_) | refine And.intro ?_ ?_ | refine reg_tail (by kernel_rfl) ?_)
    · have e : E = none := by
        rw [← hst (by omega), if_pos (by omega)]
      subst e
      refine ret_plain ?_
      repeat' (first | refine And.intro ?_ ?_ | exact trivial)
      all_goals exact rfl
    · refine ⟨(k + 1, Y, X), [.at 2 0], ?_, ?_, ?_⟩
      · refine ⟨by omega, by omega, by omega, ?_⟩
        rw [← hst (by omega), if_neg (by omega)]
      · show s.length - (k + 1) < s.length - k
        omega
      · (refine ⟨rfl, rfl, ?_, ?_⟩ <;> repeat' (first | refine And.intro ?_ ?_ | exact trivial | exact rfl | refine lt0 | refine lt1 ?_ | refine lt2 ?_ ?_ | refine lt3 ?_ ?_ ?_ | refine lt4 ?_ ?_ ?_ ?_ | exact veq_refl _ | decide | (intro i hi; repeat' (first | refine And.intro ?_ ?_ | exact trivial | exact rfl))))
        all_goals first | omega | (refine veq_of_eq (congrArg (Value.int .i64) ?_); omega)
  · have e : E = some out := by
      rw [← h4, List.drop_of_length_le (by omega)]
      rfl
    subst e
    refine ext_b2s Tryd.underlying33 Tryd.underlying5 Tryd.underlying9 ?_
    refine ⟨out, rfl, fun j hj => by rw [Nat.zero_add], ?_⟩
    repeat' (first | refine And.intro (by first | omega | (dsimp only; omega) | (show (_ : Bool) = true; kernel_rfl) | decide | (repeat' (first | refine And.intro ?_ ?_ | exact trivial | exact rfl))) ?_ | refine bcs_dec (fun h => ?_) (fun h => ?_) | refine bcs_ndec (fun h => ?_) (fun h => ?_) | refine bcs_not ?_ | refine bcs_intro (fun h => ?_) (fun h => ?_) | refine And.intro ?_ ?_ | refine reg_tail (by kernel_rfl) ?_)
    refine ret_plain ?_
    repeat' (first | refine And.intro ?_ ?_ | exact trivial)
    all_goals exact rfl
end Go.Proofs.YtcfpbcnledjnoaaDoor
