/- Chapter 15: what of a line fits: what is computed; the program's walked. Printed by gen_c1.py. -/
import Derived.Test.YtjlobgcmhnkgnaaDoorP1
import Derived.Test.YtjlobgcmhnkgnaaDoorBld
namespace Go.Proofs.YtjlobgcmhnkgnaaDoor
open Go Go.RowKit Vc

def wdt (col a : Nat) (c : UInt8) : Nat := if c = 9 then 8 - (col % 8 + a) % 8 else 1
def cellF (col a : Nat) (c : UInt8) : Byt := if c = 9 then List.replicate (wdt col a c) 32 else [c]
def cutG (col : Nat) (w : Int) : Byt → Byt → Byt
  | [], out => out
  | c :: r, out => if (wdt col out.length c : Int) > w - out.length then out else cutG col w r (out ++ cellF col out.length c)
def cutF (l : Byt) (column w : Int) : Byt := cutG (max column 0).toNat w (bareF l) []
theorem cell_len (col a : Nat) (c : UInt8) : (cellF col a c).length = wdt col a c := by
  unfold cellF
  split
  · simp
  · rename_i h; simp [wdt, h]
theorem wdt_range (col a : Nat) (c : UInt8) : 1 ≤ wdt col a c ∧ wdt col a c ≤ 8 := by
  unfold wdt
  split <;> omega
theorem cutG_le {col : Nat} {w : Int} : ∀ (s out : Byt), (out.length = 0 ∨ (out.length : Int) ≤ w) → ((cutG col w s out).length = 0 ∨ ((cutG col w s out).length : Int) ≤ w)
  | [], _, h => h
  | c :: r, out, h => by
    unfold cutG
    split
    · exact h
    · refine cutG_le r _ (.inr ?_)
      rw [List.length_append, cell_len]
      omega
theorem cutF_le (l : Byt) (column w : Int) : (cutF l column w).length = 0 ∨ ((cutF l column w).length : Int) ≤ w := cutG_le _ _ (.inl rfl)
theorem repL : ∀ n : Nat, Lib.repeatL [32] n = List.replicate n (32 : UInt8)
  | 0 => rfl
  | n + 1 => by rw [Lib.repeatL, repL n]; rfl
theorem rep_con (n : Nat) (h : n ≤ 4096) : Con Tryd.prog glob 42 [.v (.string ⟨#[32]⟩), .v (.int .i64 n)] [] 0 (retV 0 (str (List.replicate n 32))) :=
  con_plain ⟨_, Tryd.func42, rfl, rfl⟩ (args := [.string ⟨#[32]⟩, .int .i64 n]) fun w _ => (Tryd.strings_Repeat ⟨#[32]⟩ n w (by omega) (by show 1 * n ≤ _; omega)).mono fun e w' ⟨h1, h2⟩ => ⟨by
    rw [h1]
    show Ending.returned (Value.string ⟨(Lib.repeatL [32] n).toArray⟩) = _
    rw [repL]
    rfl, h2⟩
theorem bare_len (l : Byt) : (bareF l).length ≤ l.length := by
  rw [bare_eq]
  split
  · simp
  · exact Nat.le_refl _
theorem wdt_tab {column : Int} (a : Nat) : (8 : Int) - ((max column 0).tmod 8 + (a : Int)).tmod 8 = ((wdt (max column 0).toNat a 9 : Nat) : Int) := by
  have e : max column 0 = (((max column 0).toNat : Nat) : Int) := by omega
  rw [e]
  have h1 : ((((max column 0).toNat : Nat) : Int)).tmod 8 = (((max column 0).toNat % 8 : Nat) : Int) := (Int.ofNat_tmod _ 8).symm
  rw [h1]
  have h2 : ((((max column 0).toNat % 8 : Nat) : Int) + (a : Int)).tmod 8 = ((((max column 0).toNat % 8 + a) % 8 : Nat) : Int) := by
    rw [← Int.natCast_add]; exact (Int.ofNat_tmod _ 8).symm
  rw [h2]
  simp only [wdt, if_true, Int.toNat_natCast]
  omega
theorem wdt_one {col a : Nat} {c : UInt8} (h : ¬ c = 9) : wdt col a c = 1 := if_neg h

def cOut : Option Byt → Byt
  | none => []
  | some out => out
def cSt (s : Byt) (column w : Int) (k : Nat) (o : Option Byt) : St := match o with
  | none => ⟨[(1, .v (.int .i64 (max column 0))), (2, .v (.int .i64 w)), (8, .p 0 0 0), (9, .v (.int .i64 0)), (17, .s 1 0 s.length), (18, .v (.int .i64 s.length)), (19, .v (.int .i64 k))], [(0, bF), (1, .ro 1 s.length (byRow s))], 2⟩
  | some out => ⟨[(1, .v (.int .i64 (max column 0))), (2, .v (.int .i64 w)), (8, .p 0 0 0), (9, .v (.int .i64 out.length)), (17, .s 1 0 s.length), (18, .v (.int .i64 s.length)), (19, .v (.int .i64 k))], [(0, bV), (1, .ro 1 s.length (byRow s)), (2, byOwn out)], 3⟩
set_option maxRecDepth 100000 in
set_option maxHeartbeats 16000000 in
theorem cut_con (l : Byt) (column w : Int) (hl : l.length ≤ 4194304) (hc1 : -9223372036854775808 ≤ column) (hc2 : column ≤ 9223372036854775807) (hw1 : -9223372036854775808 ≤ w) (hw2 : w ≤ 9223372036854775807) :
    Con Tryd.prog glob 20 [str l, .v (.int .i64 column), .v (.int .i64 w)] [] 0 (retV 0 (.t [str (cutF l column w), .v (.int .i64 (cutF l column w).length)])) := by
  have hbr := bare_con l (by omega)
  have hbl := bare_len l
  obtain ⟨s, hs⟩ : ∃ s, s = bareF l := ⟨_, rfl⟩
  obtain ⟨T, hT⟩ : ∃ T, T = cutF l column w := ⟨_, rfl⟩
  rw [← hT]
  unfold cutF at hT
  rw [← hs] at hbr hbl hT
  have hb : (bs s).size = s.length := bs_size s
  refine spec_intro (tab := tab) (N := 49) Tryd.func20 rfl rfl tab_ok mix rfl rfl _ rfl ?_
  intro B hG
  repeat' (first | refine And.intro (by first | omega | (dsimp only; omega) | (show (_ : Bool) = true; kernel_rfl) | decide | (repeat' (first | refine And.intro ?_ ?_ | exact trivial | exact rfl))) ?_ | refine bcs_dec (fun h => ?_) (fun h => False.elim (by first | omega | exact h rfl)) | refine bcs_dec (fun h => False.elim (by omega)) (fun h => ?_) | refine bcs_dec (fun h => ?_) (fun h => ?_) | refine bcs_ndec (fun h => ?_) (fun h => ?_) | refine bcs_not ?_ | refine bcs_intro (fun h => ?_) (fun h => ?_) | refine And.intro ?_ ?_ | refine reg_tail (by kernel_rfl) ?_)
  refine call_rule [] (hbr) hG ?_ ?_
  · (refine ⟨?_, ?_, rfl, rfl, rfl⟩ <;> repeat' (first | refine And.intro ?_ ?_ | exact trivial | exact rfl | refine lt0 | refine lt1 ?_ | refine lt2 ?_ ?_ | refine lt3 ?_ ?_ ?_ | refine lt4 ?_ ?_ ?_ ?_ | exact veq_refl _ | decide | (intro i hi; repeat' (first | refine And.intro ?_ ?_ | exact trivial | exact rfl))))
    all_goals first | exact Nat.le_refl _ | omega
  rintro _ _ _ ⟨rfl, rfl, rfl⟩
  repeat' (first | refine And.intro (by first | omega | (dsimp only; omega) | (show (_ : Bool) = true; kernel_rfl) | decide | (repeat' (first | refine And.intro ?_ ?_ | exact trivial | exact rfl))) ?_ | refine bcs_dec (fun h => ?_) (fun h => False.elim (by first | omega | exact h rfl)) | refine bcs_dec (fun h => False.elim (by omega)) (fun h => ?_) | refine bcs_dec (fun h => ?_) (fun h => ?_) | refine bcs_ndec (fun h => ?_) (fun h => ?_) | refine bcs_not ?_ | refine bcs_intro (fun h => ?_) (fun h => ?_) | refine And.intro ?_ ?_ | refine reg_tail (by kernel_rfl) ?_)
  refine ext_s2b Tryd.underlying9 Tryd.underlying55 Tryd.underlying5 rfl (by unfold maxLen; omega) ?_
  repeat' (first | refine And.intro (by first | omega | (dsimp only; omega) | (show (_ : Bool) = true; kernel_rfl) | decide | (repeat' (first | refine And.intro ?_ ?_ | exact trivial | exact rfl))) ?_ | refine bcs_dec (fun h => ?_) (fun h => False.elim (by first | omega | exact h rfl)) | refine bcs_dec (fun h => False.elim (by omega)) (fun h => ?_) | refine bcs_dec (fun h => ?_) (fun h => ?_) | refine bcs_ndec (fun h => ?_) (fun h => ?_) | refine bcs_not ?_ | refine bcs_intro (fun h => ?_) (fun h => ?_) | refine And.intro ?_ ?_ | refine reg_tail (by kernel_rfl) ?_)
  refine loop_rule (α := Nat × Option Byt) (fun (k, o) => cSt s column w k o)
    (fun (k, o) => k ≤ s.length ∧ (cOut o).length ≤ 8 * k ∧ ((cOut o).length = 0 ∨ ((cOut o).length : Int) ≤ w) ∧ cutG (max column 0).toNat w (s.drop k) (cOut o) = T) (fun (k, _) => s.length - k) (0, none) [.at 0 0, .at 1 0] ?_ ?_ ?_
  · exact ⟨by omega, by simp [cOut], .inl rfl, hT.symm⟩
  · (refine ⟨rfl, rfl, ?_, ?_⟩ <;> repeat' (first | refine And.intro ?_ ?_ | exact trivial | exact rfl | refine lt0 | refine lt1 ?_ | refine lt2 ?_ ?_ | refine lt3 ?_ ?_ ?_ | refine lt4 ?_ ?_ ?_ ?_ | exact veq_refl _ | decide | (intro i hi; repeat' (first | refine And.intro ?_ ?_ | exact trivial | exact rfl))))
    all_goals omega
  rintro ⟨k, o⟩ ⟨h1, h2, h3, h4⟩
  have ek : (s.getD (0 + (k : Int).toNat) 0) = s.getD k 0 := by simp
  have e9 : ((s.getD (0 + (k : Int).toNat) 0).toNat : Int) = 9 ↔ (s.getD (0 + (k : Int).toNat) 0) = 9 := u8_iff (y := 9)
  by_cases hk : k < s.length
  · rw [drop_get 0 s k hk, ← ek] at h4
    simp only [cutG] at h4
    have htr : 0 ≤ (max column 0).tmod 8 ∧ (max column 0).tmod 8 < 8 := ⟨Int.tmod_nonneg _ (by omega), Int.tmod_lt_of_pos _ (by omega)⟩
    have htab := wdt_tab (column := column) (cOut o).length
    have hwr := wdt_range (max column 0).toNat (cOut o).length (s.getD (0 + (k : Int).toNat) 0)
    have hcl := cell_len (max column 0).toNat (cOut o).length (s.getD (0 + (k : Int).toNat) 0)
    cases o with
    | none =>
      simp only [cOut] at h2 h3 h4 htab hwr hcl
      simp only [List.length_nil, Int.natCast_zero] at htab
      have h4 : (if (wdt (max column 0).toNat 0 (s.getD (0 + (k : Int).toNat) 0) : Int) > w - 0 then ([] : Byt) else cutG (max column 0).toNat w (s.drop (k + 1)) ([] ++ cellF (max column 0).toNat 0 (s.getD (0 + (k : Int).toNat) 0))) = T := h4
      have hcl : (cellF (max column 0).toNat 0 (s.getD (0 + (k : Int).toNat) 0)).length = wdt (max column 0).toNat 0 (s.getD (0 + (k : Int).toNat) 0) := hcl
      have hwr : 1 ≤ wdt (max column 0).toNat 0 (s.getD (0 + (k : Int).toNat) 0) ∧ wdt (max column 0).toNat 0 (s.getD (0 + (k : Int).toNat) 0) ≤ 8 := hwr
      by_cases hc : (s.getD (0 + (k : Int).toNat) 0) = 9
      · have g9 := e9.2 hc
        rw [hc] at h4 hwr hcl
        have ecell : cellF (max column 0).toNat 0 9 = List.replicate (wdt (max column 0).toNat 0 9) 32 := rfl
        by_cases hq : (wdt (max column 0).toNat 0 9 : Int) > w - 0
        · rw [if_pos hq] at h4
          subst h4
          repeat' (first | refine And.intro (by first | omega | (dsimp only; omega) | (show (_ : Bool) = true; kernel_rfl) | decide | (repeat' (first | refine And.intro ?_ ?_ | exact trivial | exact rfl))) ?_ | refine bcs_dec (fun h => ?_) (fun h => False.elim (by first | omega | exact h rfl)) | refine bcs_dec (fun h => False.elim (by omega)) (fun h => ?_) | refine bcs_dec (fun h => ?_) (fun h => ?_) | refine bcs_ndec (fun h => ?_) (fun h => ?_) | refine bcs_not ?_ | refine bcs_intro (fun h => ?_) (fun h => ?_) | refine And.intro ?_ ?_ | refine reg_tail (by kernel_rfl) ?_)
          · skip
            refine call_rule [.at 0 0] (strF_con (.v (.pointer none))) hG ?_ ?_
            · (refine ⟨?_, ?_, rfl, rfl, rfl⟩ <;> repeat' (first | refine And.intro ?_ ?_ | exact trivial | exact rfl | refine lt0 | refine lt1 ?_ | refine lt2 ?_ ?_ | refine lt3 ?_ ?_ ?_ | refine lt4 ?_ ?_ ?_ ?_ | exact veq_refl _ | decide | (intro i hi; repeat' (first | refine And.intro ?_ ?_ | exact trivial | exact rfl))))
              all_goals first | exact Nat.le_refl _ | omega
            rintro _ _ _ ⟨rfl, rfl, rfl⟩
            repeat' (first | refine And.intro (by first | omega | (dsimp only; omega) | (show (_ : Bool) = true; kernel_rfl) | decide | (repeat' (first | refine And.intro ?_ ?_ | exact trivial | exact rfl))) ?_ | refine bcs_dec (fun h => ?_) (fun h => False.elim (by first | omega | exact h rfl)) | refine bcs_dec (fun h => False.elim (by omega)) (fun h => ?_) | refine bcs_dec (fun h => ?_) (fun h => ?_) | refine bcs_ndec (fun h => ?_) (fun h => ?_) | refine bcs_not ?_ | refine bcs_intro (fun h => ?_) (fun h => ?_) | refine And.intro ?_ ?_ | refine reg_tail (by kernel_rfl) ?_)
            refine ret_plain ?_
            repeat' (first | refine And.intro ?_ ?_ | exact trivial)
            all_goals exact rfl
        · rw [if_neg hq, ecell] at h4
          have hr := rep_con (wdt (max column 0).toNat 0 9) (by omega)
          rw [← htab] at hr
          have cw := wsF_con (List.replicate (wdt (max column 0).toNat 0 9) 32) (by rw [List.length_replicate]; omega)
          have hX : ((List.replicate (wdt (max column 0).toNat 0 9) 32 : Byt)).length = 0 + wdt (max column 0).toNat 0 9 := by simp
          repeat' (first | refine And.intro (by first | omega | (dsimp only; omega) | (show (_ : Bool) = true; kernel_rfl) | decide | (repeat' (first | refine And.intro ?_ ?_ | exact trivial | exact rfl))) ?_ | refine bcs_dec (fun h => ?_) (fun h => False.elim (by first | omega | exact h rfl)) | refine bcs_dec (fun h => False.elim (by omega)) (fun h => ?_) | refine bcs_dec (fun h => ?_) (fun h => ?_) | refine bcs_ndec (fun h => ?_) (fun h => ?_) | refine bcs_not ?_ | refine bcs_intro (fun h => ?_) (fun h => ?_) | refine And.intro ?_ ?_ | refine reg_tail (by kernel_rfl) ?_)
          refine call_rule [] (hr) hG ?_ ?_
          · (refine ⟨?_, ?_, rfl, rfl, rfl⟩ <;> repeat' (first | refine And.intro ?_ ?_ | exact trivial | exact rfl | refine lt0 | refine lt1 ?_ | refine lt2 ?_ ?_ | refine lt3 ?_ ?_ ?_ | refine lt4 ?_ ?_ ?_ ?_ | exact veq_refl _ | decide | (intro i hi; repeat' (first | refine And.intro ?_ ?_ | exact trivial | exact rfl))))
            all_goals first | exact Nat.le_refl _ | omega
          rintro _ _ _ ⟨rfl, rfl, rfl⟩
          repeat' (first | refine And.intro (by first | omega | (dsimp only; omega) | (show (_ : Bool) = true; kernel_rfl) | decide | (repeat' (first | refine And.intro ?_ ?_ | exact trivial | exact rfl))) ?_ | refine bcs_dec (fun h => ?_) (fun h => False.elim (by first | omega | exact h rfl)) | refine bcs_dec (fun h => False.elim (by omega)) (fun h => ?_) | refine bcs_dec (fun h => ?_) (fun h => ?_) | refine bcs_ndec (fun h => ?_) (fun h => ?_) | refine bcs_not ?_ | refine bcs_intro (fun h => ?_) (fun h => ?_) | refine And.intro ?_ ?_ | refine reg_tail (by kernel_rfl) ?_)
          refine call_rule [.at 0 0] (cw) hG ?_ ?_
          · (refine ⟨?_, ?_, rfl, rfl, rfl⟩ <;> repeat' (first | refine And.intro ?_ ?_ | exact trivial | exact rfl | refine lt0 | refine lt1 ?_ | refine lt2 ?_ ?_ | refine lt3 ?_ ?_ ?_ | refine lt4 ?_ ?_ ?_ ?_ | exact veq_refl _ | decide | (intro i hi; repeat' (first | refine And.intro ?_ ?_ | exact trivial | exact rfl))))
            all_goals first | exact Nat.le_refl _ | omega
          rintro _ _ _ ⟨rfl, rfl, rfl⟩
          repeat' (first | refine And.intro (by first | omega | (dsimp only; omega) | (show (_ : Bool) = true; kernel_rfl) | decide | (repeat' (first | refine And.intro ?_ ?_ | exact trivial | exact rfl))) ?_ | refine bcs_dec (fun h => ?_) (fun h => False.elim (by first | omega | exact h rfl)) | refine bcs_dec (fun h => False.elim (by omega)) (fun h => ?_) | refine bcs_dec (fun h => ?_) (fun h => ?_) | refine bcs_ndec (fun h => ?_) (fun h => ?_) | refine bcs_not ?_ | refine bcs_intro (fun h => ?_) (fun h => ?_) | refine And.intro ?_ ?_ | refine reg_tail (by kernel_rfl) ?_)
          refine ⟨(k + 1, some ((List.replicate (wdt (max column 0).toNat 0 9) 32 : Byt))), [.at 0 0, .at 1 0, .at 2 0], ?_, ?_, ?_⟩
          · refine ⟨hk, ?_, .inr ?_, ?_⟩
            · show ((List.replicate (wdt (max column 0).toNat 0 9) 32 : Byt)).length ≤ 8 * (k + 1)
              rw [hX]; omega
            · show (((List.replicate (wdt (max column 0).toNat 0 9) 32 : Byt)).length : Int) ≤ w
              rw [hX]; omega
            · exact h4
          · show s.length - (k + 1) < s.length - k
            omega
          · (refine ⟨rfl, rfl, ?_, ?_⟩ <;> repeat' (first | refine And.intro ?_ ?_ | exact trivial | exact rfl | refine lt0 | refine lt1 ?_ | refine lt2 ?_ ?_ | refine lt3 ?_ ?_ ?_ | refine lt4 ?_ ?_ ?_ ?_ | exact veq_refl _ | decide | (intro i hi; repeat' (first | refine And.intro ?_ ?_ | exact trivial | exact rfl))))
            all_goals first | omega | (refine veq_of_eq (congrArg (Value.int .i64) ?_); rw [hX]; omega)

      · have n9 : ¬ ((s.getD (0 + (k : Int).toNat) 0).toNat : Int) = 9 := fun h => hc (e9.1 h)
        have ew : wdt (max column 0).toNat 0 (s.getD (0 + (k : Int).toNat) 0) = 1 := wdt_one hc
        have ecell : cellF (max column 0).toNat 0 (s.getD (0 + (k : Int).toNat) 0) = [(s.getD (0 + (k : Int).toNat) 0)] := if_neg hc
        rw [ew] at h4 hcl
        by_cases hq : ((1 : Nat) : Int) > w - 0
        · rw [if_pos hq] at h4
          subst h4
          repeat' (first | refine And.intro (by first | omega | (dsimp only; omega) | (show (_ : Bool) = true; kernel_rfl) | decide | (repeat' (first | refine And.intro ?_ ?_ | exact trivial | exact rfl))) ?_ | refine bcs_dec (fun h => ?_) (fun h => False.elim (by first | omega | exact h rfl)) | refine bcs_dec (fun h => False.elim (by omega)) (fun h => ?_) | refine bcs_dec (fun h => ?_) (fun h => ?_) | refine bcs_ndec (fun h => ?_) (fun h => ?_) | refine bcs_not ?_ | refine bcs_intro (fun h => ?_) (fun h => ?_) | refine And.intro ?_ ?_ | refine reg_tail (by kernel_rfl) ?_)
          · skip
            refine call_rule [.at 0 0] (strF_con (.v (.pointer none))) hG ?_ ?_
            · (refine ⟨?_, ?_, rfl, rfl, rfl⟩ <;> repeat' (first | refine And.intro ?_ ?_ | exact trivial | exact rfl | refine lt0 | refine lt1 ?_ | refine lt2 ?_ ?_ | refine lt3 ?_ ?_ ?_ | refine lt4 ?_ ?_ ?_ ?_ | exact veq_refl _ | decide | (intro i hi; repeat' (first | refine And.intro ?_ ?_ | exact trivial | exact rfl))))
              all_goals first | exact Nat.le_refl _ | omega
            rintro _ _ _ ⟨rfl, rfl, rfl⟩
            repeat' (first | refine And.intro (by first | omega | (dsimp only; omega) | (show (_ : Bool) = true; kernel_rfl) | decide | (repeat' (first | refine And.intro ?_ ?_ | exact trivial | exact rfl))) ?_ | refine bcs_dec (fun h => ?_) (fun h => False.elim (by first | omega | exact h rfl)) | refine bcs_dec (fun h => False.elim (by omega)) (fun h => ?_) | refine bcs_dec (fun h => ?_) (fun h => ?_) | refine bcs_ndec (fun h => ?_) (fun h => ?_) | refine bcs_not ?_ | refine bcs_intro (fun h => ?_) (fun h => ?_) | refine And.intro ?_ ?_ | refine reg_tail (by kernel_rfl) ?_)
            refine ret_plain ?_
            repeat' (first | refine And.intro ?_ ?_ | exact trivial)
            all_goals exact rfl
        · rw [if_neg hq, ecell] at h4
          have cw := wbF_con (s.getD (0 + (k : Int).toNat) 0) 
          have hX : ([(s.getD (0 + (k : Int).toNat) 0)]).length = 0 + 1 := by simp
          repeat' (first | refine And.intro (by first | omega | (dsimp only; omega) | (show (_ : Bool) = true; kernel_rfl) | decide | (repeat' (first | refine And.intro ?_ ?_ | exact trivial | exact rfl))) ?_ | refine bcs_dec (fun h => ?_) (fun h => False.elim (by first | omega | exact h rfl)) | refine bcs_dec (fun h => False.elim (by omega)) (fun h => ?_) | refine bcs_dec (fun h => ?_) (fun h => ?_) | refine bcs_ndec (fun h => ?_) (fun h => ?_) | refine bcs_not ?_ | refine bcs_intro (fun h => ?_) (fun h => ?_) | refine And.intro ?_ ?_ | refine reg_tail (by kernel_rfl) ?_)
          refine call_rule [.at 0 0] (cw) hG ?_ ?_
          · (refine ⟨?_, ?_, rfl, rfl, rfl⟩ <;> repeat' (first | refine And.intro ?_ ?_ | exact trivial | exact rfl | refine lt0 | refine lt1 ?_ | refine lt2 ?_ ?_ | refine lt3 ?_ ?_ ?_ | refine lt4 ?_ ?_ ?_ ?_ | exact veq_refl _ | decide | (intro i hi; repeat' (first | refine And.intro ?_ ?_ | exact trivial | exact rfl))))
            all_goals first | exact Nat.le_refl _ | omega
          rintro _ _ _ ⟨rfl, rfl, rfl⟩
          repeat' (first | refine And.intro (by first | omega | (dsimp only; omega) | (show (_ : Bool) = true; kernel_rfl) | decide | (repeat' (first | refine And.intro ?_ ?_ | exact trivial | exact rfl))) ?_ | refine bcs_dec (fun h => ?_) (fun h => False.elim (by first | omega | exact h rfl)) | refine bcs_dec (fun h => False.elim (by omega)) (fun h => ?_) | refine bcs_dec (fun h => ?_) (fun h => ?_) | refine bcs_ndec (fun h => ?_) (fun h => ?_) | refine bcs_not ?_ | refine bcs_intro (fun h => ?_) (fun h => ?_) | refine And.intro ?_ ?_ | refine reg_tail (by kernel_rfl) ?_)
          refine ⟨(k + 1, some ([(s.getD (0 + (k : Int).toNat) 0)])), [.at 0 0, .at 1 0, .at 2 0], ?_, ?_, ?_⟩
          · refine ⟨hk, ?_, .inr ?_, ?_⟩
            · show ([(s.getD (0 + (k : Int).toNat) 0)]).length ≤ 8 * (k + 1)
              rw [hX]; omega
            · show (([(s.getD (0 + (k : Int).toNat) 0)]).length : Int) ≤ w
              rw [hX]; omega
            · exact h4
          · show s.length - (k + 1) < s.length - k
            omega
          · (refine ⟨rfl, rfl, ?_, ?_⟩ <;> repeat' (first | refine And.intro ?_ ?_ | exact trivial | exact rfl | refine lt0 | refine lt1 ?_ | refine lt2 ?_ ?_ | refine lt3 ?_ ?_ ?_ | refine lt4 ?_ ?_ ?_ ?_ | exact veq_refl _ | decide | (intro i hi; repeat' (first | refine And.intro ?_ ?_ | exact trivial | exact rfl))))
            all_goals first | omega | (refine veq_of_eq (congrArg (Value.int .i64) ?_); rw [hX]; omega)
    | some out =>
      simp only [cOut] at h2 h3 h4 htab hwr hcl
      have h4 : (if (wdt (max column 0).toNat out.length (s.getD (0 + (k : Int).toNat) 0) : Int) > w - (out.length : Int) then out else cutG (max column 0).toNat w (s.drop (k + 1)) (out ++ cellF (max column 0).toNat out.length (s.getD (0 + (k : Int).toNat) 0))) = T := h4
      by_cases hc : (s.getD (0 + (k : Int).toNat) 0) = 9
      · have g9 := e9.2 hc
        rw [hc] at h4 hwr hcl
        have ecell : cellF (max column 0).toNat out.length 9 = List.replicate (wdt (max column 0).toNat out.length 9) 32 := rfl
        by_cases hq : (wdt (max column 0).toNat out.length 9 : Int) > w - (out.length : Int)
        · rw [if_pos hq] at h4
          subst h4
          repeat' (first | refine And.intro (by first | omega | (dsimp only; omega) | (show (_ : Bool) = true; kernel_rfl) | decide | (repeat' (first | refine And.intro ?_ ?_ | exact trivial | exact rfl))) ?_ | refine bcs_dec (fun h => ?_) (fun h => False.elim (by first | omega | exact h rfl)) | refine bcs_dec (fun h => False.elim (by omega)) (fun h => ?_) | refine bcs_dec (fun h => ?_) (fun h => ?_) | refine bcs_ndec (fun h => ?_) (fun h => ?_) | refine bcs_not ?_ | refine bcs_intro (fun h => ?_) (fun h => ?_) | refine And.intro ?_ ?_ | refine reg_tail (by kernel_rfl) ?_)
          · skip
            refine call_rule [.at 0 0, .at 2 0] (strU_con (.p 0 0 0) out) hG ?_ ?_
            · (refine ⟨?_, ?_, rfl, rfl, rfl⟩ <;> repeat' (first | refine And.intro ?_ ?_ | exact trivial | exact rfl | refine lt0 | refine lt1 ?_ | refine lt2 ?_ ?_ | refine lt3 ?_ ?_ ?_ | refine lt4 ?_ ?_ ?_ ?_ | exact veq_refl _ | decide | (intro i hi; repeat' (first | refine And.intro ?_ ?_ | exact trivial | exact rfl))))
              all_goals first | exact Nat.le_refl _ | omega
            rintro _ _ _ ⟨rfl, rfl, rfl⟩
            repeat' (first | refine And.intro (by first | omega | (dsimp only; omega) | (show (_ : Bool) = true; kernel_rfl) | decide | (repeat' (first | refine And.intro ?_ ?_ | exact trivial | exact rfl))) ?_ | refine bcs_dec (fun h => ?_) (fun h => False.elim (by first | omega | exact h rfl)) | refine bcs_dec (fun h => False.elim (by omega)) (fun h => ?_) | refine bcs_dec (fun h => ?_) (fun h => ?_) | refine bcs_ndec (fun h => ?_) (fun h => ?_) | refine bcs_not ?_ | refine bcs_intro (fun h => ?_) (fun h => ?_) | refine And.intro ?_ ?_ | refine reg_tail (by kernel_rfl) ?_)
            refine ret_plain ?_
            repeat' (first | refine And.intro ?_ ?_ | exact trivial)
            all_goals exact rfl
        · rw [if_neg hq, ecell] at h4
          have hr := rep_con (wdt (max column 0).toNat out.length 9) (by omega)
          rw [← htab] at hr
          have cw := wsU_con (List.replicate (wdt (max column 0).toNat out.length 9) 32) out (by rw [List.length_replicate]; omega)
          have hX : (out ++ (List.replicate (wdt (max column 0).toNat out.length 9) 32 : Byt)).length = out.length + wdt (max column 0).toNat out.length 9 := by simp
          repeat' (first | refine And.intro (by first | omega | (dsimp only; omega) | (show (_ : Bool) = true; kernel_rfl) | decide | (repeat' (first | refine And.intro ?_ ?_ | exact trivial | exact rfl))) ?_ | refine bcs_dec (fun h => ?_) (fun h => False.elim (by first | omega | exact h rfl)) | refine bcs_dec (fun h => False.elim (by omega)) (fun h => ?_) | refine bcs_dec (fun h => ?_) (fun h => ?_) | refine bcs_ndec (fun h => ?_) (fun h => ?_) | refine bcs_not ?_ | refine bcs_intro (fun h => ?_) (fun h => ?_) | refine And.intro ?_ ?_ | refine reg_tail (by kernel_rfl) ?_)
          refine call_rule [] (hr) hG ?_ ?_
          · (refine ⟨?_, ?_, rfl, rfl, rfl⟩ <;> repeat' (first | refine And.intro ?_ ?_ | exact trivial | exact rfl | refine lt0 | refine lt1 ?_ | refine lt2 ?_ ?_ | refine lt3 ?_ ?_ ?_ | refine lt4 ?_ ?_ ?_ ?_ | exact veq_refl _ | decide | (intro i hi; repeat' (first | refine And.intro ?_ ?_ | exact trivial | exact rfl))))
            all_goals first | exact Nat.le_refl _ | omega
          rintro _ _ _ ⟨rfl, rfl, rfl⟩
          repeat' (first | refine And.intro (by first | omega | (dsimp only; omega) | (show (_ : Bool) = true; kernel_rfl) | decide | (repeat' (first | refine And.intro ?_ ?_ | exact trivial | exact rfl))) ?_ | refine bcs_dec (fun h => ?_) (fun h => False.elim (by first | omega | exact h rfl)) | refine bcs_dec (fun h => False.elim (by omega)) (fun h => ?_) | refine bcs_dec (fun h => ?_) (fun h => ?_) | refine bcs_ndec (fun h => ?_) (fun h => ?_) | refine bcs_not ?_ | refine bcs_intro (fun h => ?_) (fun h => ?_) | refine And.intro ?_ ?_ | refine reg_tail (by kernel_rfl) ?_)
          refine call_rule [.at 0 0, .at 2 0] (cw) hG ?_ ?_
          · (refine ⟨?_, ?_, rfl, rfl, rfl⟩ <;> repeat' (first | refine And.intro ?_ ?_ | exact trivial | exact rfl | refine lt0 | refine lt1 ?_ | refine lt2 ?_ ?_ | refine lt3 ?_ ?_ ?_ | refine lt4 ?_ ?_ ?_ ?_ | exact veq_refl _ | decide | (intro i hi; repeat' (first | refine And.intro ?_ ?_ | exact trivial | exact rfl))))
            all_goals first | exact Nat.le_refl _ | omega
          rintro _ _ _ ⟨rfl, rfl, rfl⟩
          repeat' (first | refine And.intro (by first | omega | (dsimp only; omega) | (show (_ : Bool) = true; kernel_rfl) | decide | (repeat' (first | refine And.intro ?_ ?_ | exact trivial | exact rfl))) ?_ | refine bcs_dec (fun h => ?_) (fun h => False.elim (by first | omega | exact h rfl)) | refine bcs_dec (fun h => False.elim (by omega)) (fun h => ?_) | refine bcs_dec (fun h => ?_) (fun h => ?_) | refine bcs_ndec (fun h => ?_) (fun h => ?_) | refine bcs_not ?_ | refine bcs_intro (fun h => ?_) (fun h => ?_) | refine And.intro ?_ ?_ | refine reg_tail (by kernel_rfl) ?_)
          refine ⟨(k + 1, some (out ++ (List.replicate (wdt (max column 0).toNat out.length 9) 32 : Byt))), [.at 0 0, .at 1 0, .at 3 0], ?_, ?_, ?_⟩
          · refine ⟨hk, ?_, .inr ?_, ?_⟩
            · show (out ++ (List.replicate (wdt (max column 0).toNat out.length 9) 32 : Byt)).length ≤ 8 * (k + 1)
              rw [hX]; omega
            · show ((out ++ (List.replicate (wdt (max column 0).toNat out.length 9) 32 : Byt)).length : Int) ≤ w
              rw [hX]; omega
            · exact h4
          · show s.length - (k + 1) < s.length - k
            omega
          · (refine ⟨rfl, rfl, ?_, ?_⟩ <;> repeat' (first | refine And.intro ?_ ?_ | exact trivial | exact rfl | refine lt0 | refine lt1 ?_ | refine lt2 ?_ ?_ | refine lt3 ?_ ?_ ?_ | refine lt4 ?_ ?_ ?_ ?_ | exact veq_refl _ | decide | (intro i hi; repeat' (first | refine And.intro ?_ ?_ | exact trivial | exact rfl))))
            all_goals first | omega | (refine veq_of_eq (congrArg (Value.int .i64) ?_); rw [hX]; omega)

      · have n9 : ¬ ((s.getD (0 + (k : Int).toNat) 0).toNat : Int) = 9 := fun h => hc (e9.1 h)
        have ew : wdt (max column 0).toNat out.length (s.getD (0 + (k : Int).toNat) 0) = 1 := wdt_one hc
        have ecell : cellF (max column 0).toNat out.length (s.getD (0 + (k : Int).toNat) 0) = [(s.getD (0 + (k : Int).toNat) 0)] := if_neg hc
        rw [ew] at h4 hcl
        by_cases hq : ((1 : Nat) : Int) > w - (out.length : Int)
        · rw [if_pos hq] at h4
          subst h4
          repeat' (first | refine And.intro (by first | omega | (dsimp only; omega) | (show (_ : Bool) = true; kernel_rfl) | decide | (repeat' (first | refine And.intro ?_ ?_ | exact trivial | exact rfl))) ?_ | refine bcs_dec (fun h => ?_) (fun h => False.elim (by first | omega | exact h rfl)) | refine bcs_dec (fun h => False.elim (by omega)) (fun h => ?_) | refine bcs_dec (fun h => ?_) (fun h => ?_) | refine bcs_ndec (fun h => ?_) (fun h => ?_) | refine bcs_not ?_ | refine bcs_intro (fun h => ?_) (fun h => ?_) | refine And.intro ?_ ?_ | refine reg_tail (by kernel_rfl) ?_)
          · skip
            refine call_rule [.at 0 0, .at 2 0] (strU_con (.p 0 0 0) out) hG ?_ ?_
            · (refine ⟨?_, ?_, rfl, rfl, rfl⟩ <;> repeat' (first | refine And.intro ?_ ?_ | exact trivial | exact rfl | refine lt0 | refine lt1 ?_ | refine lt2 ?_ ?_ | refine lt3 ?_ ?_ ?_ | refine lt4 ?_ ?_ ?_ ?_ | exact veq_refl _ | decide | (intro i hi; repeat' (first | refine And.intro ?_ ?_ | exact trivial | exact rfl))))
              all_goals first | exact Nat.le_refl _ | omega
            rintro _ _ _ ⟨rfl, rfl, rfl⟩
            repeat' (first | refine And.intro (by first | omega | (dsimp only; omega) | (show (_ : Bool) = true; kernel_rfl) | decide | (repeat' (first | refine And.intro ?_ ?_ | exact trivial | exact rfl))) ?_ | refine bcs_dec (fun h => ?_) (fun h => False.elim (by first | omega | exact h rfl)) | refine bcs_dec (fun h => False.elim (by omega)) (fun h => ?_) | refine bcs_dec (fun h => ?_) (fun h => ?_) | refine bcs_ndec (fun h => ?_) (fun h => ?_) | refine bcs_not ?_ | refine bcs_intro (fun h => ?_) (fun h => ?_) | refine And.intro ?_ ?_ | refine reg_tail (by kernel_rfl) ?_)
            refine ret_plain ?_
            repeat' (first | refine And.intro ?_ ?_ | exact trivial)
            all_goals exact rfl
        · rw [if_neg hq, ecell] at h4
          have cw := wbU_con (s.getD (0 + (k : Int).toNat) 0) out (by omega)
          have hX : (out ++ [(s.getD (0 + (k : Int).toNat) 0)]).length = out.length + 1 := by simp
          repeat' (first | refine And.intro (by first | omega | (dsimp only; omega) | (show (_ : Bool) = true; kernel_rfl) | decide | (repeat' (first | refine And.intro ?_ ?_ | exact trivial | exact rfl))) ?_ | refine bcs_dec (fun h => ?_) (fun h => False.elim (by first | omega | exact h rfl)) | refine bcs_dec (fun h => False.elim (by omega)) (fun h => ?_) | refine bcs_dec (fun h => ?_) (fun h => ?_) | refine bcs_ndec (fun h => ?_) (fun h => ?_) | refine bcs_not ?_ | refine bcs_intro (fun h => ?_) (fun h => ?_) | refine And.intro ?_ ?_ | refine reg_tail (by kernel_rfl) ?_)
          refine call_rule [.at 0 0, .at 2 0] (cw) hG ?_ ?_
          · (refine ⟨?_, ?_, rfl, rfl, rfl⟩ <;> repeat' (first | refine And.intro ?_ ?_ | exact trivial | exact rfl | refine lt0 | refine lt1 ?_ | refine lt2 ?_ ?_ | refine lt3 ?_ ?_ ?_ | refine lt4 ?_ ?_ ?_ ?_ | exact veq_refl _ | decide | (intro i hi; repeat' (first | refine And.intro ?_ ?_ | exact trivial | exact rfl))))
            all_goals first | exact Nat.le_refl _ | omega
          rintro _ _ _ ⟨rfl, rfl, rfl⟩
          repeat' (first | refine And.intro (by first | omega | (dsimp only; omega) | (show (_ : Bool) = true; kernel_rfl) | decide | (repeat' (first | refine And.intro ?_ ?_ | exact trivial | exact rfl))) ?_ | refine bcs_dec (fun h => ?_) (fun h => False.elim (by first | omega | exact h rfl)) | refine bcs_dec (fun h => False.elim (by omega)) (fun h => ?_) | refine bcs_dec (fun h => ?_) (fun h => ?_) | refine bcs_ndec (fun h => ?_) (fun h => ?_) | refine bcs_not ?_ | refine bcs_intro (fun h => ?_) (fun h => ?_) | refine And.intro ?_ ?_ | refine reg_tail (by kernel_rfl) ?_)
          refine ⟨(k + 1, some (out ++ [(s.getD (0 + (k : Int).toNat) 0)])), [.at 0 0, .at 1 0, .at 3 0], ?_, ?_, ?_⟩
          · refine ⟨hk, ?_, .inr ?_, ?_⟩
            · show (out ++ [(s.getD (0 + (k : Int).toNat) 0)]).length ≤ 8 * (k + 1)
              rw [hX]; omega
            · show ((out ++ [(s.getD (0 + (k : Int).toNat) 0)]).length : Int) ≤ w
              rw [hX]; omega
            · exact h4
          · show s.length - (k + 1) < s.length - k
            omega
          · (refine ⟨rfl, rfl, ?_, ?_⟩ <;> repeat' (first | refine And.intro ?_ ?_ | exact trivial | exact rfl | refine lt0 | refine lt1 ?_ | refine lt2 ?_ ?_ | refine lt3 ?_ ?_ ?_ | refine lt4 ?_ ?_ ?_ ?_ | exact veq_refl _ | decide | (intro i hi; repeat' (first | refine And.intro ?_ ?_ | exact trivial | exact rfl))))
            all_goals first | omega | (refine veq_of_eq (congrArg (Value.int .i64) ?_); rw [hX]; omega)
  · rw [List.drop_of_length_le (by omega)] at h4
    simp only [cutG] at h4
    cases o with
    | none =>
      simp only [cOut] at h4
      subst h4
      repeat' (first | refine And.intro (by first | omega | (dsimp only; omega) | (show (_ : Bool) = true; kernel_rfl) | decide | (repeat' (first | refine And.intro ?_ ?_ | exact trivial | exact rfl))) ?_ | refine bcs_dec (fun h => ?_) (fun h => False.elim (by first | omega | exact h rfl)) | refine bcs_dec (fun h => False.elim (by omega)) (fun h => ?_) | refine bcs_dec (fun h => ?_) (fun h => ?_) | refine bcs_ndec (fun h => ?_) (fun h => ?_) | refine bcs_not ?_ | refine bcs_intro (fun h => ?_) (fun h => ?_) | refine And.intro ?_ ?_ | refine reg_tail (by kernel_rfl) ?_)
      refine call_rule [.at 0 0] (strF_con (.v (.pointer none))) hG ?_ ?_
      · (refine ⟨?_, ?_, rfl, rfl, rfl⟩ <;> repeat' (first | refine And.intro ?_ ?_ | exact trivial | exact rfl | refine lt0 | refine lt1 ?_ | refine lt2 ?_ ?_ | refine lt3 ?_ ?_ ?_ | refine lt4 ?_ ?_ ?_ ?_ | exact veq_refl _ | decide | (intro i hi; repeat' (first | refine And.intro ?_ ?_ | exact trivial | exact rfl))))
        all_goals first | exact Nat.le_refl _ | omega
      rintro _ _ _ ⟨rfl, rfl, rfl⟩
      repeat' (first | refine And.intro (by first | omega | (dsimp only; omega) | (show (_ : Bool) = true; kernel_rfl) | decide | (repeat' (first | refine And.intro ?_ ?_ | exact trivial | exact rfl))) ?_ | refine bcs_dec (fun h => ?_) (fun h => False.elim (by first | omega | exact h rfl)) | refine bcs_dec (fun h => False.elim (by omega)) (fun h => ?_) | refine bcs_dec (fun h => ?_) (fun h => ?_) | refine bcs_ndec (fun h => ?_) (fun h => ?_) | refine bcs_not ?_ | refine bcs_intro (fun h => ?_) (fun h => ?_) | refine And.intro ?_ ?_ | refine reg_tail (by kernel_rfl) ?_)
      refine ret_plain ?_
      repeat' (first | refine And.intro ?_ ?_ | exact trivial)
      all_goals exact rfl
    | some out =>
      simp only [cOut] at h4
      subst h4
      repeat' (first | refine And.intro (by first | omega | (dsimp only; omega) | (show (_ : Bool) = true; kernel_rfl) | decide | (repeat' (first | refine And.intro ?_ ?_ | exact trivial | exact rfl))) ?_ | refine bcs_dec (fun h => ?_) (fun h => False.elim (by first | omega | exact h rfl)) | refine bcs_dec (fun h => False.elim (by omega)) (fun h => ?_) | refine bcs_dec (fun h => ?_) (fun h => ?_) | refine bcs_ndec (fun h => ?_) (fun h => ?_) | refine bcs_not ?_ | refine bcs_intro (fun h => ?_) (fun h => ?_) | refine And.intro ?_ ?_ | refine reg_tail (by kernel_rfl) ?_)
      refine call_rule [.at 0 0, .at 2 0] (strU_con (.p 0 0 0) out) hG ?_ ?_
      · (refine ⟨?_, ?_, rfl, rfl, rfl⟩ <;> repeat' (first | refine And.intro ?_ ?_ | exact trivial | exact rfl | refine lt0 | refine lt1 ?_ | refine lt2 ?_ ?_ | refine lt3 ?_ ?_ ?_ | refine lt4 ?_ ?_ ?_ ?_ | exact veq_refl _ | decide | (intro i hi; repeat' (first | refine And.intro ?_ ?_ | exact trivial | exact rfl))))
        all_goals first | exact Nat.le_refl _ | omega
      rintro _ _ _ ⟨rfl, rfl, rfl⟩
      repeat' (first | refine And.intro (by first | omega | (dsimp only; omega) | (show (_ : Bool) = true; kernel_rfl) | decide | (repeat' (first | refine And.intro ?_ ?_ | exact trivial | exact rfl))) ?_ | refine bcs_dec (fun h => ?_) (fun h => False.elim (by first | omega | exact h rfl)) | refine bcs_dec (fun h => False.elim (by omega)) (fun h => ?_) | refine bcs_dec (fun h => ?_) (fun h => ?_) | refine bcs_ndec (fun h => ?_) (fun h => ?_) | refine bcs_not ?_ | refine bcs_intro (fun h => ?_) (fun h => ?_) | refine And.intro ?_ ?_ | refine reg_tail (by kernel_rfl) ?_)
      refine ret_plain ?_
      repeat' (first | refine And.intro ?_ ?_ | exact trivial)
      all_goals exact rfl
end Go.Proofs.YtjlobgcmhnkgnaaDoor
