/- Chapter 1: blanks in the place of tabulators: what is computed, and the walk. -/
import Derived.Test.YtcfpbcnledjnoaaDoorS7
import Derived.Test.YtcfpbcnledjnoaaDoorBld
namespace Go.Proofs.YtcfpbcnledjnoaaDoor
open Go Go.RowKit Vc

def expN (w : Nat) (out : Byt) (col : Nat) (c : UInt8) : Byt × Nat :=
  if c = 10 then (out ++ [10], 0) else if c = 9 then (out ++ List.replicate (w - col % w) 32, col + (w - col % w)) else (out ++ [c], col + 1)
def expG (w : Nat) : Byt → Byt → Nat → Option Byt
  | [], out, _ => some out
  | c :: r, out, col => if (expN w out col c).1.length > 4194304 then none else expG w r (expN w out col c).1 (expN w out col c).2
def expR : Option Byt → SV
  | none => .t [str [], .v (.iface 31 (.int .i64 2))]
  | some t => .t [str t, .v .nilIface]

theorem repL : ∀ n : Nat, Lib.repeatL [32] n = List.replicate n (32 : UInt8)
  | 0 => rfl
  | n + 1 => by rw [Lib.repeatL, repL n]; rfl
theorem rep_con (n : Nat) (h : n ≤ 255) : Con Tryd.prog glob 10 [.v (.string ⟨#[32]⟩), .v (.int .i64 n)] [] 0 (retV 0 (str (List.replicate n 32))) :=
  con_plain ⟨_, Tryd.func10, rfl, rfl⟩ (args := [.string ⟨#[32]⟩, .int .i64 n]) fun w _ => (Tryd.strings_Repeat ⟨#[32]⟩ n w (by omega) (by show 1 * n ≤ _; omega)).mono fun e w' ⟨h1, h2⟩ => ⟨by
    rw [h1]
    show Ending.returned (Value.string ⟨(Lib.repeatL [32] n).toArray⟩) = _
    rw [repL]
    rfl, h2⟩
theorem expN_len {w : Nat} (hw : 1 ≤ w) (out : Byt) (col : Nat) (c : UInt8) (hc : col ≤ out.length) : out.length + 1 ≤ (expN w out col c).1.length ∧ (expN w out col c).1.length ≤ out.length + w ∧ (expN w out col c).2 ≤ (expN w out col c).1.length := by
  have h1 : col % w < w := Nat.mod_lt _ (by omega)
  unfold expN
  split
  · simp; omega
  · split
    · simp; omega
    · simp; omega

/-- Where the builder stands. -/
def eMem (s : Byt) : Option Byt → Mem
  | none => [(0, bF), (1, .ro 1 s.length (byRow s))]
  | some out => [(0, bV), (1, .ro 1 s.length (byRow s)), (2, byOwn out)]
def eNx : Option Byt → Nat
  | none => 2
  | some _ => 3
def eOut : Option Byt → Byt
  | none => []
  | some out => out
def eSt (s : Byt) (w : Nat) (k col : Nat) (o : Option Byt) : St := match o with
  | none => ⟨[(1, .v (.int .i64 w)), (6, .p 0 0 0), (7, .v (.int .i64 col)), (25, .s 1 0 s.length), (26, .v (.int .i64 s.length)), (27, .v (.int .i64 k))], [(0, bF), (1, .ro 1 s.length (byRow s))], 2⟩
  | some out => ⟨[(1, .v (.int .i64 w)), (6, .p 0 0 0), (7, .v (.int .i64 col)), (25, .s 1 0 s.length), (26, .v (.int .i64 s.length)), (27, .v (.int .i64 k))], [(0, bV), (1, .ro 1 s.length (byRow s)), (2, byOwn out)], 3⟩
set_option maxRecDepth 100000 in
set_option maxHeartbeats 8000000 in
theorem exp_con (s : Byt) (w : Nat) (hw1 : 1 ≤ w) (hw2 : w ≤ 255) (hs : s.length ≤ 4194304) : Con Tryd.prog glob 4 [str s, .v (.int .i64 w)] [] 0 (retV 0 (expR (expG w s [] 0))) := by
  have hb : (bs s).size = s.length := bs_size s
  obtain ⟨E, hE⟩ : ∃ E, E = expG w s [] 0 := ⟨_, rfl⟩
  rw [← hE]
  refine spec_intro (tab := tab) (N := 58) Tryd.func4 rfl rfl tab_ok mix rfl rfl _ rfl ?_
  intro B hG
  repeat' (first | refine And.intro (by first | omega | (dsimp only; omega) | (show (_ : Bool) = true; kernel_rfl) | decide | (repeat' (first | refine And.intro ?_ ?_ | exact trivial | exact rfl))) ?_ | refine bcs_dec (fun h => ?_) (fun h => False.elim (by first | omega | exact h rfl)) | refine bcs_dec (fun h => False.elim (by omega)) (fun h => ?_) | refine bcs_dec (fun h => ?_) (fun h => ?_) | refine bcs_ndec (fun h => ?_) (fun h => ?_) | refine bcs_not ?_ | refine bcs_intro (fun h => ?_) (fun h => ?_) | refine And.intro ?_ ?_ | refine reg_tail (by kernel_rfl) ?_)
  refine ext_s2b Tryd.underlying9 Tryd.underlying33 Tryd.underlying5 rfl (by unfold maxLen; omega) ?_
  repeat' (first | refine And.intro (by first | omega | (dsimp only; omega) | (show (_ : Bool) = true; kernel_rfl) | decide | (repeat' (first | refine And.intro ?_ ?_ | exact trivial | exact rfl))) ?_ | refine bcs_dec (fun h => ?_) (fun h => False.elim (by first | omega | exact h rfl)) | refine bcs_dec (fun h => False.elim (by omega)) (fun h => ?_) | refine bcs_dec (fun h => ?_) (fun h => ?_) | refine bcs_ndec (fun h => ?_) (fun h => ?_) | refine bcs_not ?_ | refine bcs_intro (fun h => ?_) (fun h => ?_) | refine And.intro ?_ ?_ | refine reg_tail (by kernel_rfl) ?_)
  refine loop_rule (α := Nat × Nat × Option Byt) (fun (k, col, o) => eSt s w k col o)
    (fun (k, col, o) => k ≤ s.length ∧ col ≤ (eOut o).length ∧ (eOut o).length ≤ 4194304 ∧ expG w (s.drop k) (eOut o) col = E) (fun (k, _) => s.length - k) (0, 0, none) [.at 0 0, .at 1 0] ?_ ?_ ?_
  · exact ⟨by omega, by simp [eOut], by simp [eOut], hE.symm⟩
  · (refine ⟨rfl, rfl, ?_, ?_⟩ <;> repeat' (first | refine And.intro ?_ ?_ | exact trivial | exact rfl | refine lt0 | refine lt1 ?_ | refine lt2 ?_ ?_ | refine lt3 ?_ ?_ ?_ | refine lt4 ?_ ?_ ?_ ?_ | exact veq_refl _ | decide | (intro i hi; repeat' (first | refine And.intro ?_ ?_ | exact trivial | exact rfl))))
    all_goals omega
  rintro ⟨k, col, o⟩ ⟨h1, h2, h3, h4⟩
  have ek : (s.getD (0 + (k : Int).toNat) 0) = s.getD k 0 := by simp
  have htm : (col : Int).tmod w = ((col % w : Nat) : Int) := (Int.ofNat_tmod col w).symm
  have hmw : col % w < w := Nat.mod_lt _ (by omega)
  cases o with
  | none =>
    simp only [eOut, List.length_nil] at h2 h3 h4
    obtain ⟨X, hX⟩ : ∃ X, X = (expN w [] col (s.getD k 0)).1 := ⟨_, rfl⟩
    obtain ⟨Y, hY⟩ : ∃ Y, Y = (expN w [] col (s.getD k 0)).2 := ⟨_, rfl⟩
    have hst : k < s.length → (if X.length > 4194304 then none else expG w (s.drop (k + 1)) X Y) = E := fun h => by
      rw [← h4, drop_get 0 s k h, hX, hY]
      rfl
    have hxl := expN_len hw1 [] col (s.getD k 0) (by omega)
    rw [← hX, ← hY] at hxl
    repeat' (first | refine And.intro (by first | omega | (dsimp only; omega) | (show (_ : Bool) = true; kernel_rfl) | decide | (repeat' (first | refine And.intro ?_ ?_ | exact trivial | exact rfl))) ?_ | refine bcs_dec (fun h => ?_) (fun h => ?_) | refine bcs_ndec (fun h => ?_) (fun h => ?_) | refine bcs_not ?_ | refine bcs_intro (fun h => ?_) (fun h => ?_) | refine And.intro ?_ ?_ | refine reg_tail (by kernel_rfl) ?_)
    · have ec : s.getD k 0 = 10 := (u8_iff (y := 10)).1 (by rw [← ek]; exact h)
      have cw := wbF_con (s.getD (0 + (k : Int).toNat) 0)
      have e1 : [(s.getD (0 + (k : Int).toNat) 0)] = X := by rw [ek, hX, ec]; rfl
      have e2 : Y = 0 := by rw [hY, ec]; rfl
      rw [e1] at cw
      refine call_rule [.at 0 0] (cw) hG ?_ ?_
      · (refine ⟨?_, ?_, rfl, rfl, rfl⟩ <;> repeat' (first | refine And.intro ?_ ?_ | exact trivial | exact rfl | refine lt0 | refine lt1 ?_ | refine lt2 ?_ ?_ | refine lt3 ?_ ?_ ?_ | refine lt4 ?_ ?_ ?_ ?_ | exact veq_refl _ | decide | (intro i hi; repeat' (first | refine And.intro ?_ ?_ | exact trivial | exact rfl))))
        all_goals first | exact Nat.le_refl _ | omega
      rintro _ _ _ ⟨rfl, rfl, rfl⟩
      repeat' (first | refine And.intro (by first | omega | (dsimp only; omega) | (show (_ : Bool) = true; kernel_rfl) | decide | (repeat' (first | refine And.intro ?_ ?_ | exact trivial | exact rfl))) ?_ | refine bcs_dec (fun h => ?_) (fun h => ?_) | refine bcs_ndec (fun h => ?_) (fun h => ?_) | refine bcs_not ?_ | refine bcs_intro (fun h => ?_) (fun h => ?_) | refine And.intro ?_ ?_ | refine reg_tail (by kernel_rfl) ?_)
      refine call_rule [.at 0 0, .at 2 0] (lenU_con X) hG ?_ ?_
      · (refine ⟨?_, ?_, rfl, rfl, rfl⟩ <;> repeat' (first | refine And.intro ?_ ?_ | exact trivial | exact rfl | refine lt0 | refine lt1 ?_ | refine lt2 ?_ ?_ | refine lt3 ?_ ?_ ?_ | refine lt4 ?_ ?_ ?_ ?_ | exact veq_refl _ | decide | (intro i hi; repeat' (first | refine And.intro ?_ ?_ | exact trivial | exact rfl))))
        all_goals first | exact Nat.le_refl _ | omega
      rintro _ _ _ ⟨rfl, rfl, rfl⟩
      repeat' (first | refine And.intro (by first | omega | (dsimp only; omega) | (show (_ : Bool) = true; kernel_rfl) | decide | (repeat' (first | refine And.intro ?_ ?_ | exact trivial | exact rfl))) ?_ | refine bcs_dec (fun h => ?_) (fun h => ?_) | refine bcs_ndec (fun h => ?_) (fun h => ?_) | refine bcs_not ?_ | refine bcs_intro (fun h => ?_) (fun h => ?_) | refine And.intro ?_ ?_ | refine reg_tail (by kernel_rfl) ?_)
      · have e : E = none := by
          rw [← hst (by omega), if_pos (by omega)]
        subst e
        refine ret_plain ?_
        repeat' (first | refine And.intro ?_ ?_ | exact trivial)
        all_goals exact rfl
      · refine ⟨(k + 1, Y, some X), [.at 0 0, .at 1 0, .at 2 0], ?_, ?_, ?_⟩
        · refine ⟨by omega, by show Y ≤ X.length; omega, by show X.length ≤ 4194304; omega, ?_⟩
          show expG w (s.drop (k + 1)) X Y = E
          rw [← hst (by omega), if_neg (by omega)]
        · show s.length - (k + 1) < s.length - k
          omega
        · (refine ⟨rfl, rfl, ?_, ?_⟩ <;> repeat' (first | refine And.intro ?_ ?_ | exact trivial | exact rfl | refine lt0 | refine lt1 ?_ | refine lt2 ?_ ?_ | refine lt3 ?_ ?_ ?_ | refine lt4 ?_ ?_ ?_ ?_ | exact veq_refl _ | decide | (intro i hi; repeat' (first | refine And.intro ?_ ?_ | exact trivial | exact rfl))))
          all_goals first | omega | exact Nat.le_refl _ | (refine veq_of_eq (congrArg (Value.int .i64) ?_); omega)
    · have n10 : ¬ s.getD k 0 = 10 := fun e => absurd ((u8_iff (y := 10)).2 e) (by rw [← ek]; assumption)
      have ec : s.getD k 0 = 9 := (u8_iff (y := 9)).1 (by rw [← ek]; exact h)
      have hr := rep_con (w - col % w) (by omega)
      have cw := wsF_con (List.replicate (w - col % w) 32) (by rw [List.length_replicate]; omega)
      have e1 : List.replicate (w - col % w) 32 = X := by rw [hX, ec]; rfl
      have e2 : Y = col + (w - col % w) := by rw [hY, ec]; rfl
      have hn : (w : Int) - (col : Int).tmod w = ((w - col % w : Nat) : Int) := by omega
      rw [List.length_replicate, e1] at cw
      rw [← hn, e1] at hr
      refine call_rule [] (hr) hG ?_ ?_
      · (refine ⟨?_, ?_, rfl, rfl, rfl⟩ <;> repeat' (first | refine And.intro ?_ ?_ | exact trivial | exact rfl | refine lt0 | refine lt1 ?_ | refine lt2 ?_ ?_ | refine lt3 ?_ ?_ ?_ | refine lt4 ?_ ?_ ?_ ?_ | exact veq_refl _ | decide | (intro i hi; repeat' (first | refine And.intro ?_ ?_ | exact trivial | exact rfl))))
        all_goals first | exact Nat.le_refl _ | omega
      rintro _ _ _ ⟨rfl, rfl, rfl⟩
      repeat' (first | refine And.intro (by first | omega | (dsimp only; omega) | (show (_ : Bool) = true; kernel_rfl) | decide | (repeat' (first | refine And.intro ?_ ?_ | exact trivial | exact rfl))) ?_ | refine bcs_dec (fun h => ?_) (fun h => ?_) | refine bcs_ndec (fun h => ?_) (fun h => ?_) | refine bcs_not ?_ | refine bcs_intro (fun h => ?_) (fun h => ?_) | refine And.intro ?_ ?_ | refine reg_tail (by kernel_rfl) ?_)
      refine call_rule [.at 0 0] (cw) hG ?_ ?_
      · (refine ⟨?_, ?_, rfl, rfl, rfl⟩ <;> repeat' (first | refine And.intro ?_ ?_ | exact trivial | exact rfl | refine lt0 | refine lt1 ?_ | refine lt2 ?_ ?_ | refine lt3 ?_ ?_ ?_ | refine lt4 ?_ ?_ ?_ ?_ | exact veq_refl _ | decide | (intro i hi; repeat' (first | refine And.intro ?_ ?_ | exact trivial | exact rfl))))
        all_goals first | exact Nat.le_refl _ | omega
      rintro _ _ _ ⟨rfl, rfl, rfl⟩
      repeat' (first | refine And.intro (by first | omega | (dsimp only; omega) | (show (_ : Bool) = true; kernel_rfl) | decide | (repeat' (first | refine And.intro ?_ ?_ | exact trivial | exact rfl))) ?_ | refine bcs_dec (fun h => ?_) (fun h => ?_) | refine bcs_ndec (fun h => ?_) (fun h => ?_) | refine bcs_not ?_ | refine bcs_intro (fun h => ?_) (fun h => ?_) | refine And.intro ?_ ?_ | refine reg_tail (by kernel_rfl) ?_)
      refine call_rule [.at 0 0, .at 2 0] (lenU_con X) hG ?_ ?_
      · (refine ⟨?_, ?_, rfl, rfl, rfl⟩ <;> repeat' (first | refine And.intro ?_ ?_ | exact trivial | exact rfl | refine lt0 | refine lt1 ?_ | refine lt2 ?_ ?_ | refine lt3 ?_ ?_ ?_ | refine lt4 ?_ ?_ ?_ ?_ | exact veq_refl _ | decide | (intro i hi; repeat' (first | refine And.intro ?_ ?_ | exact trivial | exact rfl))))
        all_goals first | exact Nat.le_refl _ | omega
      rintro _ _ _ ⟨rfl, rfl, rfl⟩
      repeat' (first | refine And.intro (by first | omega | (dsimp only; omega) | (show (_ : Bool) = true; kernel_rfl) | decide | (repeat' (first | refine And.intro ?_ ?_ | exact trivial | exact rfl))) ?_ | refine bcs_dec (fun h => ?_) (fun h => ?_) | refine bcs_ndec (fun h => ?_) (fun h => ?_) | refine bcs_not ?_ | refine bcs_intro (fun h => ?_) (fun h => ?_) | refine And.intro ?_ ?_ | refine reg_tail (by kernel_rfl) ?_)
      · have e : E = none := by
          rw [← hst (by omega), if_pos (by omega)]
        subst e
        refine ret_plain ?_
        repeat' (first | refine And.intro ?_ ?_ | exact trivial)
        all_goals exact rfl
      · refine ⟨(k + 1, Y, some X), [.at 0 0, .at 1 0, .at 2 0], ?_, ?_, ?_⟩
        · refine ⟨by omega, by show Y ≤ X.length; omega, by show X.length ≤ 4194304; omega, ?_⟩
          show expG w (s.drop (k + 1)) X Y = E
          rw [← hst (by omega), if_neg (by omega)]
        · show s.length - (k + 1) < s.length - k
          omega
        · (refine ⟨rfl, rfl, ?_, ?_⟩ <;> repeat' (first | refine And.intro ?_ ?_ | exact trivial | exact rfl | refine lt0 | refine lt1 ?_ | refine lt2 ?_ ?_ | refine lt3 ?_ ?_ ?_ | refine lt4 ?_ ?_ ?_ ?_ | exact veq_refl _ | decide | (intro i hi; repeat' (first | refine And.intro ?_ ?_ | exact trivial | exact rfl))))
          all_goals first | omega | exact Nat.le_refl _ | (refine veq_of_eq (congrArg (Value.int .i64) ?_); omega)
    · have n10 : ¬ s.getD k 0 = 10 := fun e => absurd ((u8_iff (y := 10)).2 e) (by rw [← ek]; assumption)
      have n9 : ¬ s.getD k 0 = 9 := fun e => absurd ((u8_iff (y := 9)).2 e) (by rw [← ek]; assumption)
      have cw := wbF_con (s.getD (0 + (k : Int).toNat) 0)
      have e1 : [(s.getD (0 + (k : Int).toNat) 0)] = X := by rw [ek, hX]; unfold expN; rw [if_neg n10, if_neg n9]; rfl
      have e2 : Y = col + 1 := by rw [hY]; unfold expN; rw [if_neg n10, if_neg n9]
      rw [e1] at cw
      refine call_rule [.at 0 0] (cw) hG ?_ ?_
      · (refine ⟨?_, ?_, rfl, rfl, rfl⟩ <;> repeat' (first | refine And.intro ?_ ?_ | exact trivial | exact rfl | refine lt0 | refine lt1 ?_ | refine lt2 ?_ ?_ | refine lt3 ?_ ?_ ?_ | refine lt4 ?_ ?_ ?_ ?_ | exact veq_refl _ | decide | (intro i hi; repeat' (first | refine And.intro ?_ ?_ | exact trivial | exact rfl))))
        all_goals first | exact Nat.le_refl _ | omega
      rintro _ _ _ ⟨rfl, rfl, rfl⟩
      repeat' (first | refine And.intro (by first | omega | (dsimp only; omega) | (show (_ : Bool) = true; kernel_rfl) | decide | (repeat' (first | refine And.intro ?_ ?_ | exact trivial | exact rfl))) ?_ | refine bcs_dec (fun h => ?_) (fun h => ?_) | refine bcs_ndec (fun h => ?_) (fun h => ?_) | refine bcs_not ?_ | refine bcs_intro (fun h => ?_) (fun h => ?_) | refine And.intro ?_ ?_ | refine reg_tail (by kernel_rfl) ?_)
      refine call_rule [.at 0 0, .at 2 0] (lenU_con X) hG ?_ ?_
      · (refine ⟨?_, ?_, rfl, rfl, rfl⟩ <;> repeat' (first | refine And.intro ?_ ?_ | exact trivial | exact rfl | refine lt0 | refine lt1 ?_ | refine lt2 ?_ ?_ | refine lt3 ?_ ?_ ?_ | refine lt4 ?_ ?_ ?_ ?_ | exact veq_refl _ | decide | (intro i hi; repeat' (first | refine And.intro ?_ ?_ | exact trivial | exact rfl))))
        all_goals first | exact Nat.le_refl _ | omega
      rintro _ _ _ ⟨rfl, rfl, rfl⟩
      repeat' (first | refine And.intro (by first | omega | (dsimp only; omega) | (show (_ : Bool) = true; kernel_rfl) | decide | (repeat' (first | refine And.intro ?_ ?_ | exact trivial | exact rfl))) ?_ | refine bcs_dec (fun h => ?_) (fun h => ?_) | refine bcs_ndec (fun h => ?_) (fun h => ?_) | refine bcs_not ?_ | refine bcs_intro (fun h => ?_) (fun h => ?_) | refine And.intro ?_ ?_ | refine reg_tail (by kernel_rfl) ?_)
      · have e : E = none := by
          rw [← hst (by omega), if_pos (by omega)]
        subst e
        refine ret_plain ?_
        repeat' (first | refine And.intro ?_ ?_ | exact trivial)
        all_goals exact rfl
      · refine ⟨(k + 1, Y, some X), [.at 0 0, .at 1 0, .at 2 0], ?_, ?_, ?_⟩
        · refine ⟨by omega, by show Y ≤ X.length; omega, by show X.length ≤ 4194304; omega, ?_⟩
          show expG w (s.drop (k + 1)) X Y = E
          rw [← hst (by omega), if_neg (by omega)]
        · show s.length - (k + 1) < s.length - k
          omega
        · (refine ⟨rfl, rfl, ?_, ?_⟩ <;> repeat' (first | refine And.intro ?_ ?_ | exact trivial | exact rfl | refine lt0 | refine lt1 ?_ | refine lt2 ?_ ?_ | refine lt3 ?_ ?_ ?_ | refine lt4 ?_ ?_ ?_ ?_ | exact veq_refl _ | decide | (intro i hi; repeat' (first | refine And.intro ?_ ?_ | exact trivial | exact rfl))))
          all_goals first | omega | exact Nat.le_refl _ | (refine veq_of_eq (congrArg (Value.int .i64) ?_); omega)
    · have e : E = some [] := by
        rw [← h4, List.drop_of_length_le (by omega)]
        rfl
      subst e
      refine call_rule [.at 0 0] (strF_con (.v (.pointer none))) hG ?_ ?_
      · (refine ⟨?_, ?_, rfl, rfl, rfl⟩ <;> repeat' (first | refine And.intro ?_ ?_ | exact trivial | exact rfl | refine lt0 | refine lt1 ?_ | refine lt2 ?_ ?_ | refine lt3 ?_ ?_ ?_ | refine lt4 ?_ ?_ ?_ ?_ | exact veq_refl _ | decide | (intro i hi; repeat' (first | refine And.intro ?_ ?_ | exact trivial | exact rfl))))
        all_goals first | exact Nat.le_refl _ | omega
      rintro _ _ _ ⟨rfl, rfl, rfl⟩
      repeat' (first | refine And.intro (by first | omega | (dsimp only; omega) | (show (_ : Bool) = true; kernel_rfl) | decide | (repeat' (first | refine And.intro ?_ ?_ | exact trivial | exact rfl))) ?_ | refine bcs_dec (fun h => ?_) (fun h => ?_) | refine bcs_ndec (fun h => ?_) (fun h => ?_) | refine bcs_not ?_ | refine bcs_intro (fun h => ?_) (fun h => ?_) | refine And.intro ?_ ?_ | refine reg_tail (by kernel_rfl) ?_)
      refine ret_plain ?_
      repeat' (first | refine And.intro ?_ ?_ | exact trivial)
      all_goals exact rfl
  | some out =>
    simp only [eOut] at h2 h3 h4
    obtain ⟨X, hX⟩ : ∃ X, X = (expN w out col (s.getD k 0)).1 := ⟨_, rfl⟩
    obtain ⟨Y, hY⟩ : ∃ Y, Y = (expN w out col (s.getD k 0)).2 := ⟨_, rfl⟩
    have hst : k < s.length → (if X.length > 4194304 then none else expG w (s.drop (k + 1)) X Y) = E := fun h => by
      rw [← h4, drop_get 0 s k h, hX, hY]
      rfl
    have hxl := expN_len hw1 out col (s.getD k 0) h2
    rw [← hX, ← hY] at hxl
    repeat' (first | refine And.intro (by first | omega | (dsimp only; omega) | (show (_ : Bool) = true; kernel_rfl) | decide | (repeat' (first | refine And.intro ?_ ?_ | exact trivial | exact rfl))) ?_ | refine bcs_dec (fun h => ?_) (fun h => ?_) | refine bcs_ndec (fun h => ?_) (fun h => ?_) | refine bcs_not ?_ | refine bcs_intro (fun h => ?_) (fun h => ?_) | refine And.intro ?_ ?_ | refine reg_tail (by kernel_rfl) ?_)
    · have ec : s.getD k 0 = 10 := (u8_iff (y := 10)).1 (by rw [← ek]; exact h)
      have cw := wbU_con (s.getD (0 + (k : Int).toNat) 0) out (by omega)
      have e1 : out ++ [(s.getD (0 + (k : Int).toNat) 0)] = X := by rw [ek, hX, ec]; rfl
      have e2 : Y = 0 := by rw [hY, ec]; rfl
      rw [e1] at cw
      refine call_rule [.at 0 0, .at 2 0] (cw) hG ?_ ?_
      · (refine ⟨?_, ?_, rfl, rfl, rfl⟩ <;> repeat' (first | refine And.intro ?_ ?_ | exact trivial | exact rfl | refine lt0 | refine lt1 ?_ | refine lt2 ?_ ?_ | refine lt3 ?_ ?_ ?_ | refine lt4 ?_ ?_ ?_ ?_ | exact veq_refl _ | decide | (intro i hi; repeat' (first | refine And.intro ?_ ?_ | exact trivial | exact rfl))))
        all_goals first | exact Nat.le_refl _ | omega
      rintro _ _ _ ⟨rfl, rfl, rfl⟩
      repeat' (first | refine And.intro (by first | omega | (dsimp only; omega) | (show (_ : Bool) = true; kernel_rfl) | decide | (repeat' (first | refine And.intro ?_ ?_ | exact trivial | exact rfl))) ?_ | refine bcs_dec (fun h => ?_) (fun h => ?_) | refine bcs_ndec (fun h => ?_) (fun h => ?_) | refine bcs_not ?_ | refine bcs_intro (fun h => ?_) (fun h => ?_) | refine And.intro ?_ ?_ | refine reg_tail (by kernel_rfl) ?_)
      refine call_rule [.at 0 0, .at 3 0] (lenU_con X) hG ?_ ?_
      · (refine ⟨?_, ?_, rfl, rfl, rfl⟩ <;> repeat' (first | refine And.intro ?_ ?_ | exact trivial | exact rfl | refine lt0 | refine lt1 ?_ | refine lt2 ?_ ?_ | refine lt3 ?_ ?_ ?_ | refine lt4 ?_ ?_ ?_ ?_ | exact veq_refl _ | decide | (intro i hi; repeat' (first | refine And.intro ?_ ?_ | exact trivial | exact rfl))))
        all_goals first | exact Nat.le_refl _ | omega
      rintro _ _ _ ⟨rfl, rfl, rfl⟩
      repeat' (first | refine And.intro (by first | omega | (dsimp only; omega) | (show (_ : Bool) = true; kernel_rfl) | decide | (repeat' (first | refine And.intro ?_ ?_ | exact trivial | exact rfl))) ?_ | refine bcs_dec (fun h => ?_) (fun h => ?_) | refine bcs_ndec (fun h => ?_) (fun h => ?_) | refine bcs_not ?_ | refine bcs_intro (fun h => ?_) (fun h => ?_) | refine And.intro ?_ ?_ | refine reg_tail (by kernel_rfl) ?_)
      · have e : E = none := by
          rw [← hst (by omega), if_pos (by omega)]
        subst e
        refine ret_plain ?_
        repeat' (first | refine And.intro ?_ ?_ | exact trivial)
        all_goals exact rfl
      · refine ⟨(k + 1, Y, some X), [.at 0 0, .at 1 0, .at 3 0], ?_, ?_, ?_⟩
        · refine ⟨by omega, by show Y ≤ X.length; omega, by show X.length ≤ 4194304; omega, ?_⟩
          show expG w (s.drop (k + 1)) X Y = E
          rw [← hst (by omega), if_neg (by omega)]
        · show s.length - (k + 1) < s.length - k
          omega
        · (refine ⟨rfl, rfl, ?_, ?_⟩ <;> repeat' (first | refine And.intro ?_ ?_ | exact trivial | exact rfl | refine lt0 | refine lt1 ?_ | refine lt2 ?_ ?_ | refine lt3 ?_ ?_ ?_ | refine lt4 ?_ ?_ ?_ ?_ | exact veq_refl _ | decide | (intro i hi; repeat' (first | refine And.intro ?_ ?_ | exact trivial | exact rfl))))
          all_goals first | omega | exact Nat.le_refl _ | (refine veq_of_eq (congrArg (Value.int .i64) ?_); omega)
    · have n10 : ¬ s.getD k 0 = 10 := fun e => absurd ((u8_iff (y := 10)).2 e) (by rw [← ek]; assumption)
      have ec : s.getD k 0 = 9 := (u8_iff (y := 9)).1 (by rw [← ek]; exact h)
      have hr := rep_con (w - col % w) (by omega)
      have cw := wsU_con (List.replicate (w - col % w) 32) out (by rw [List.length_replicate]; omega)
      have e1 : out ++ List.replicate (w - col % w) 32 = X := by rw [hX, ec]; rfl
      have e2 : Y = col + (w - col % w) := by rw [hY, ec]; rfl
      have hn : (w : Int) - (col : Int).tmod w = ((w - col % w : Nat) : Int) := by omega
      rw [List.length_replicate, e1] at cw
      rw [← hn] at hr
      refine call_rule [] (hr) hG ?_ ?_
      · (refine ⟨?_, ?_, rfl, rfl, rfl⟩ <;> repeat' (first | refine And.intro ?_ ?_ | exact trivial | exact rfl | refine lt0 | refine lt1 ?_ | refine lt2 ?_ ?_ | refine lt3 ?_ ?_ ?_ | refine lt4 ?_ ?_ ?_ ?_ | exact veq_refl _ | decide | (intro i hi; repeat' (first | refine And.intro ?_ ?_ | exact trivial | exact rfl))))
        all_goals first | exact Nat.le_refl _ | omega
      rintro _ _ _ ⟨rfl, rfl, rfl⟩
      repeat' (first | refine And.intro (by first | omega | (dsimp only; omega) | (show (_ : Bool) = true; kernel_rfl) | decide | (repeat' (first | refine And.intro ?_ ?_ | exact trivial | exact rfl))) ?_ | refine bcs_dec (fun h => ?_) (fun h => ?_) | refine bcs_ndec (fun h => ?_) (fun h => ?_) | refine bcs_not ?_ | refine bcs_intro (fun h => ?_) (fun h => ?_) | refine And.intro ?_ ?_ | refine reg_tail (by kernel_rfl) ?_)
      refine call_rule [.at 0 0, .at 2 0] (cw) hG ?_ ?_
      · (refine ⟨?_, ?_, rfl, rfl, rfl⟩ <;> repeat' (first | refine And.intro ?_ ?_ | exact trivial | exact rfl | refine lt0 | refine lt1 ?_ | refine lt2 ?_ ?_ | refine lt3 ?_ ?_ ?_ | refine lt4 ?_ ?_ ?_ ?_ | exact veq_refl _ | decide | (intro i hi; repeat' (first | refine And.intro ?_ ?_ | exact trivial | exact rfl))))
        all_goals first | exact Nat.le_refl _ | omega
      rintro _ _ _ ⟨rfl, rfl, rfl⟩
      repeat' (first | refine And.intro (by first | omega | (dsimp only; omega) | (show (_ : Bool) = true; kernel_rfl) | decide | (repeat' (first | refine And.intro ?_ ?_ | exact trivial | exact rfl))) ?_ | refine bcs_dec (fun h => ?_) (fun h => ?_) | refine bcs_ndec (fun h => ?_) (fun h => ?_) | refine bcs_not ?_ | refine bcs_intro (fun h => ?_) (fun h => ?_) | refine And.intro ?_ ?_ | refine reg_tail (by kernel_rfl) ?_)
      refine call_rule [.at 0 0, .at 3 0] (lenU_con X) hG ?_ ?_
      · (refine ⟨?_, ?_, rfl, rfl, rfl⟩ <;> repeat' (first | refine And.intro ?_ ?_ | exact trivial | exact rfl | refine lt0 | refine lt1 ?_ | refine lt2 ?_ ?_ | refine lt3 ?_ ?_ ?_ | refine lt4 ?_ ?_ ?_ ?_ | exact veq_refl _ | decide | (intro i hi; repeat' (first | refine And.intro ?_ ?_ | exact trivial | exact rfl))))
        all_goals first | exact Nat.le_refl _ | omega
      rintro _ _ _ ⟨rfl, rfl, rfl⟩
      repeat' (first | refine And.intro (by first | omega | (dsimp only; omega) | (show (_ : Bool) = true; kernel_rfl) | decide | (repeat' (first | refine And.intro ?_ ?_ | exact trivial | exact rfl))) ?_ | refine bcs_dec (fun h => ?_) (fun h => ?_) | refine bcs_ndec (fun h => ?_) (fun h => ?_) | refine bcs_not ?_ | refine bcs_intro (fun h => ?_) (fun h => ?_) | refine And.intro ?_ ?_ | refine reg_tail (by kernel_rfl) ?_)
      · have e : E = none := by
          rw [← hst (by omega), if_pos (by omega)]
        subst e
        refine ret_plain ?_
        repeat' (first | refine And.intro ?_ ?_ | exact trivial)
        all_goals exact rfl
      · refine ⟨(k + 1, Y, some X), [.at 0 0, .at 1 0, .at 3 0], ?_, ?_, ?_⟩
        · refine ⟨by omega, by show Y ≤ X.length; omega, by show X.length ≤ 4194304; omega, ?_⟩
          show expG w (s.drop (k + 1)) X Y = E
          rw [← hst (by omega), if_neg (by omega)]
        · show s.length - (k + 1) < s.length - k
          omega
        · (refine ⟨rfl, rfl, ?_, ?_⟩ <;> repeat' (first | refine And.intro ?_ ?_ | exact trivial | exact rfl | refine lt0 | refine lt1 ?_ | refine lt2 ?_ ?_ | refine lt3 ?_ ?_ ?_ | refine lt4 ?_ ?_ ?_ ?_ | exact veq_refl _ | decide | (intro i hi; repeat' (first | refine And.intro ?_ ?_ | exact trivial | exact rfl))))
          all_goals first | omega | exact Nat.le_refl _ | (refine veq_of_eq (congrArg (Value.int .i64) ?_); omega)
    · have n10 : ¬ s.getD k 0 = 10 := fun e => absurd ((u8_iff (y := 10)).2 e) (by rw [← ek]; assumption)
      have n9 : ¬ s.getD k 0 = 9 := fun e => absurd ((u8_iff (y := 9)).2 e) (by rw [← ek]; assumption)
      have cw := wbU_con (s.getD (0 + (k : Int).toNat) 0) out (by omega)
      have e1 : out ++ [(s.getD (0 + (k : Int).toNat) 0)] = X := by rw [ek, hX]; unfold expN; rw [if_neg n10, if_neg n9]
      have e2 : Y = col + 1 := by rw [hY]; unfold expN; rw [if_neg n10, if_neg n9]
      rw [e1] at cw
      refine call_rule [.at 0 0, .at 2 0] (cw) hG ?_ ?_
      · (refine ⟨?_, ?_, rfl, rfl, rfl⟩ <;> repeat' (first | refine And.intro ?_ ?_ | exact trivial | exact rfl | refine lt0 | refine lt1 ?_ | refine lt2 ?_ ?_ | refine lt3 ?_ ?_ ?_ | refine lt4 ?_ ?_ ?_ ?_ | exact veq_refl _ | decide | (intro i hi; repeat' (first | refine And.intro ?_ ?_ | exact trivial | exact rfl))))
        all_goals first | exact Nat.le_refl _ | omega
      rintro _ _ _ ⟨rfl, rfl, rfl⟩
      repeat' (first | refine And.intro (by first | omega | (dsimp only; omega) | (show (_ : Bool) = true; kernel_rfl) | decide | (repeat' (first | refine And.intro ?_ ?_ | exact trivial | exact rfl))) ?_ | refine bcs_dec (fun h => ?_) (fun h => ?_) | refine bcs_ndec (fun h => ?_) (fun h => ?_) | refine bcs_not ?_ | refine bcs_intro (fun h => ?_) (fun h => ?_) | refine And.intro ?_ ?_ | refine reg_tail (by kernel_rfl) ?_)
      refine call_rule [.at 0 0, .at 3 0] (lenU_con X) hG ?_ ?_
      · (refine ⟨?_, ?_, rfl, rfl, rfl⟩ <;> repeat' (first | refine And.intro ?_ ?_ | exact trivial | exact rfl | refine lt0 | refine lt1 ?_ | refine lt2 ?_ ?_ | refine lt3 ?_ ?_ ?_ | refine lt4 ?_ ?_ ?_ ?_ | exact veq_refl _ | decide | (intro i hi; repeat' (first | refine And.intro ?_ ?_ | exact trivial | exact rfl))))
        all_goals first | exact Nat.le_refl _ | omega
      rintro _ _ _ ⟨rfl, rfl, rfl⟩
      repeat' (first | refine And.intro (by first | omega | (dsimp only; omega) | (show (_ : Bool) = true; kernel_rfl) | decide | (repeat' (first | refine And.intro ?_ ?_ | exact trivial | exact rfl))) ?_ | refine bcs_dec (fun h => ?_) (fun h => ?_) | refine bcs_ndec (fun h => ?_) (fun h => ?_) | refine bcs_not ?_ | refine bcs_intro (fun h => ?_) (fun h => ?_) | refine And.intro ?_ ?_ | refine reg_tail (by kernel_rfl) ?_)
      · have e : E = none := by
          rw [← hst (by omega), if_pos (by omega)]
        subst e
        refine ret_plain ?_
        repeat' (first | refine And.intro ?_ ?_ | exact trivial)
        all_goals exact rfl
      · refine ⟨(k + 1, Y, some X), [.at 0 0, .at 1 0, .at 3 0], ?_, ?_, ?_⟩
        · refine ⟨by omega, by show Y ≤ X.length; omega, by show X.length ≤ 4194304; omega, ?_⟩
          show expG w (s.drop (k + 1)) X Y = E
          rw [← hst (by omega), if_neg (by omega)]
        · show s.length - (k + 1) < s.length - k
          omega
        · (refine ⟨rfl, rfl, ?_, ?_⟩ <;> repeat' (first | refine And.intro ?_ ?_ | exact trivial | exact rfl | refine lt0 | refine lt1 ?_ | refine lt2 ?_ ?_ | refine lt3 ?_ ?_ ?_ | refine lt4 ?_ ?_ ?_ ?_ | exact veq_refl _ | decide | (intro i hi; repeat' (first | refine And.intro ?_ ?_ | exact trivial | exact rfl))))
          all_goals first | omega | exact Nat.le_refl _ | (refine veq_of_eq (congrArg (Value.int .i64) ?_); omega)
    · have e : E = some out := by
        rw [← h4, List.drop_of_length_le (by omega)]
        rfl
      subst e
      refine call_rule [.at 0 0, .at 2 0] (strU_con (.p 0 0 0) out) hG ?_ ?_
      · (refine ⟨?_, ?_, rfl, rfl, rfl⟩ <;> repeat' (first | refine And.intro ?_ ?_ | exact trivial | exact rfl | refine lt0 | refine lt1 ?_ | refine lt2 ?_ ?_ | refine lt3 ?_ ?_ ?_ | refine lt4 ?_ ?_ ?_ ?_ | exact veq_refl _ | decide | (intro i hi; repeat' (first | refine And.intro ?_ ?_ | exact trivial | exact rfl))))
        all_goals first | exact Nat.le_refl _ | omega
      rintro _ _ _ ⟨rfl, rfl, rfl⟩
      repeat' (first | refine And.intro (by first | omega | (dsimp only; omega) | (show (_ : Bool) = true; kernel_rfl) | decide | (repeat' (first | refine And.intro ?_ ?_ | exact trivial | exact rfl))) ?_ | refine bcs_dec (fun h => ?_) (fun h => ?_) | refine bcs_ndec (fun h => ?_) (fun h => ?_) | refine bcs_not ?_ | refine bcs_intro (fun h => ?_) (fun h => ?_) | refine And.intro ?_ ?_ | refine reg_tail (by kernel_rfl) ?_)
      refine ret_plain ?_
      repeat' (first | refine And.intro ?_ ?_ | exact trivial)
      all_goals exact rfl
end Go.Proofs.YtcfpbcnledjnoaaDoor
