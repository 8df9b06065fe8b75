/- Chapter 6: contracts: the pairs of lines that stay. -/
import Derived.Test.YtjlobgcmhnkgnaaDoorB4
namespace Go.Proofs.YtjlobgcmhnkgnaaDoor
open Go Go.RowKit Vc

def diag : Int → Int → Nat → List (Int × Int)
  | _, _, 0 => []
  | a, b, c + 1 => (a, b) :: diag (a + 1) (b + 1) c
def pairsF : List Chg → Int → Int → Int → List (Int × Int)
  | [], a, b, n => diag a b (n - a).toNat
  | c :: r, a, b, n => diag a b (c.A - a).toNat ++ pairsF r (c.A + c.N) (c.B + c.M) n

theorem diag_step {a b tw : Int} (h : a < tw) : diag a b (tw - a).toNat = (a, b) :: diag (a + 1) (b + 1) (tw - (a + 1)).toNat := by
  rw [show (tw - a).toNat = (tw - (a + 1)).toNat + 1 from by omega]; rfl
theorem diag_done {a b tw : Int} (h : tw ≤ a) : diag a b (tw - a).toNat = [] := by
  rw [show (tw - a).toNat = 0 from by omega]; rfl

set_option maxRecDepth 100000 in
set_option maxHeartbeats 4000000 in
theorem pairsR_con {s : List Chg} {n m : Int} (hs : s.length ≤ 9223372036854775807 - 1) (hv : validE s n m = 0) : Con Tryd.prog glob 34 [.s 0 0 s.length, .v (.int .i64 n)] [(0, chRo s)] 1 (retM (.o 1) [(1, prOwn (pairsF s 0 0 n))] 2) := by
  refine spec_intro (tab := tab) (N := 66) Tryd.func34 rfl rfl tab_ok mix rfl rfl _ rfl ?_
  intro B hG
  repeat' (first | refine And.intro (by first | omega | (dsimp only; omega) | (show (_ : Bool) = true; kernel_rfl) | decide | (repeat' (first | refine And.intro ?_ ?_ | exact trivial | exact rfl))) ?_ | refine bcs_dec (fun h => ?_) (fun h => ?_) | refine bcs_ndec (fun h => ?_) (fun h => ?_) | refine bcs_not ?_ | refine bcs_intro (fun h => ?_) (fun h => ?_) | refine And.intro ?_ ?_ | refine reg_tail (by kernel_rfl) ?_)
  obtain ⟨r1, r2, r3, r4, r5⟩ := valid_range hv
  refine loop_rule (α := Nat × Int × Int × List (Int × Int)) (fun (k, a, b, out) => ⟨[(0, .s 0 0 s.length), (1, .v (.int .i64 n)), (8, .v (.int .i64 k)), (6, .v (.int .i64 a)), (7, .v (.int .i64 b)), (5, .o 1)], [(0, chRo s), (1, prOwn out)], 2⟩)
    (fun (k, a, b, out) => 0 ≤ a ∧ a ≤ n ∧ 0 ≤ b ∧ b ≤ m ∧ (out.length : Int) ≤ a ∧ ((k ≤ s.length ∧ validF (s.drop k) a b n m = 0 ∧ out ++ pairsF (s.drop k) a b n = pairsF s 0 0 n) ∨ (k = s.length + 1 ∧ out = pairsF s 0 0 n)))
    (fun (k, a, b, out) => s.length + 1 - k) (0, 0, 0, []) [.nil 2] ?_ ?_ ?_
  · exact ⟨by omega, by omega, by omega, by omega, by simp, .inl ⟨by omega, r5, rfl⟩⟩
  · (refine ⟨rfl, rfl, ?_, ?_⟩ <;> repeat' (first | refine And.intro ?_ ?_ | exact trivial | exact rfl | refine lt0 | refine lt1 ?_ | refine lt2 ?_ ?_ | refine lt3 ?_ ?_ ?_ | refine lt4 ?_ ?_ ?_ ?_ | exact veq_refl _ | decide | (intro i hi; repeat' (first | refine And.intro ?_ ?_ | exact trivial | exact rfl))))
    all_goals omega
  · rintro ⟨k, a, b, out⟩ ⟨h1, h2, h3, h4, h5, h6⟩
    have hb : k < s.length → ¬ bad (s.getD (0 + (k : Int).toNat) Chg.d) a b n m ∧ validF (s.drop (k + 1)) ((s.getD k Chg.d).A + (s.getD k Chg.d).N) ((s.getD k Chg.d).B + (s.getD k Chg.d).M) n m = 0 := fun h => by
      rcases h6 with ⟨_, h7, _⟩ | ⟨h7, _⟩
      · simpa using valid_at h7 h
      · omega
    have hn : k = s.length → n - a = m - b := fun h => by
      rcases h6 with ⟨_, h7, _⟩ | ⟨h7, _⟩
      · rw [h, List.drop_length] at h7; exact valid_nil h7
      · omega
    unfold bad at hb
    repeat' (first | refine And.intro (by first | omega | (dsimp only; omega) | (show (_ : Bool) = true; kernel_rfl) | decide | (repeat' (first | refine And.intro ?_ ?_ | exact trivial | exact rfl))) ?_ | refine bcs_dec (fun h => ?_) (fun h => ?_) | refine bcs_ndec (fun h => ?_) (fun h => ?_) | refine bcs_not ?_ | refine bcs_intro (fun h => ?_) (fun h => ?_) | refine And.intro ?_ ?_ | refine reg_tail (by kernel_rfl) ?_)
    · have hb1 := (hb (by omega)).1
      obtain ⟨X, hX⟩ : ∃ X : Chg, X = s.getD (0 + (k : Int).toNat) Chg.d := ⟨_, rfl⟩
      refine loop_rule (α := Int × Int × List (Int × Int)) (fun (a', b', out') => ⟨[(0, .s 0 0 s.length), (1, .v (.int .i64 n)), (8, .v (.int .i64 k)), (9, .v (.int .i64 (s.getD (0 + (k : Int).toNat) Chg.d).A)), (6, .v (.int .i64 a')), (7, .v (.int .i64 b')), (5, .o 1)], [(0, chRo s), (1, prOwn out')], 2⟩)
        (fun (a', b', out') => a ≤ a' ∧ a' ≤ (s.getD (0 + (k : Int).toNat) Chg.d).A ∧ a' - a = b' - b ∧ (out'.length : Int) ≤ a' ∧ out' ++ diag a' b' ((s.getD (0 + (k : Int).toNat) Chg.d).A - a').toNat = out ++ diag a b ((s.getD (0 + (k : Int).toNat) Chg.d).A - a).toNat)
        (fun (a', b', out') => ((s.getD (0 + (k : Int).toNat) Chg.d).A - a').toNat) (a, b, out) [.at 1 0] ?_ ?_ ?_
      · refine ⟨by omega, by omega, by omega, by omega, ?_⟩; exact rfl
      · (refine ⟨rfl, rfl, ?_, ?_⟩ <;> repeat' (first | refine And.intro ?_ ?_ | exact trivial | exact rfl | refine lt0 | refine lt1 ?_ | refine lt2 ?_ ?_ | refine lt3 ?_ ?_ ?_ | refine lt4 ?_ ?_ ?_ ?_ | exact veq_refl _ | decide | (intro i hi; repeat' (first | refine And.intro ?_ ?_ | exact trivial | exact rfl))))
        all_goals first | omega | skip
      · rintro ⟨a', b', out'⟩ ⟨i1, i2, i3, i4, i5⟩
        repeat' (first | refine And.intro (by first | omega | (dsimp only; omega) | (show (_ : Bool) = true; kernel_rfl) | decide | (repeat' (first | refine And.intro ?_ ?_ | exact trivial | exact rfl))) ?_ | refine bcs_dec (fun h => ?_) (fun h => ?_) | refine bcs_ndec (fun h => ?_) (fun h => ?_) | refine bcs_not ?_ | refine bcs_intro (fun h => ?_) (fun h => ?_) | refine And.intro ?_ ?_ | refine reg_tail (by kernel_rfl) ?_)
        · refine app1 prEnc (0, 0) out' (a', b') rfl (by simp; rfl) ?_
          repeat' (first | refine And.intro (by first | omega | (dsimp only; omega) | (show (_ : Bool) = true; kernel_rfl) | decide | (repeat' (first | refine And.intro ?_ ?_ | exact trivial | exact rfl))) ?_ | refine bcs_dec (fun h => ?_) (fun h => ?_) | refine bcs_ndec (fun h => ?_) (fun h => ?_) | refine bcs_not ?_ | refine bcs_intro (fun h => ?_) (fun h => ?_) | refine And.intro ?_ ?_ | refine reg_tail (by kernel_rfl) ?_)
          refine ⟨(a' + 1, b' + 1, out' ++ [(a', b')]), [.at 3 0], ?_, ?_, ?_⟩
          · refine ⟨by omega, by omega, by omega, by rw [List.length_append]; simp only [List.length_singleton]; omega, ?_⟩
            rw [← i5, diag_step (a := a') (b := b') (tw := (s.getD (0 + (k : Int).toNat) Chg.d).A) (by omega), List.append_assoc]; rfl
          · show ((s.getD (0 + (k : Int).toNat) Chg.d).A - (a' + 1)).toNat < ((s.getD (0 + (k : Int).toNat) Chg.d).A - a').toNat
            omega
          · (refine ⟨rfl, rfl, ?_, ?_⟩ <;> repeat' (first | refine And.intro ?_ ?_ | exact trivial | exact rfl | refine lt0 | refine lt1 ?_ | refine lt2 ?_ ?_ | refine lt3 ?_ ?_ ?_ | refine lt4 ?_ ?_ ?_ ?_ | exact veq_refl _ | decide | (intro i hi; repeat' (first | refine And.intro ?_ ?_ | exact trivial | exact rfl))))
            all_goals first | omega | (simp; done)
        all_goals first
          | (exfalso; omega)
          | (refine ⟨(k + 1, (s.getD (0 + (k : Int).toNat) Chg.d).A + (s.getD (0 + (k : Int).toNat) Chg.d).N, (s.getD (0 + (k : Int).toNat) Chg.d).B + (s.getD (0 + (k : Int).toNat) Chg.d).M, out'), [.at 1 0], ?_, ?_, ?_⟩
             · have hk : k < s.length := by omega
               have hv' := (hb hk).2
               rcases h6 with ⟨_, _, h8⟩ | ⟨h7, _⟩
               · rw [diag_done (by omega), List.append_nil] at i5
                 rw [drop_get Chg.d s k hk] at h8
                 simp only [pairsF] at h8
                 simp only [nm] at *
                 refine ⟨by omega, by omega, by omega, by omega, by omega, .inl ⟨by omega, hv', ?_⟩⟩
                 rw [← h8, i5, List.append_assoc]
               · omega
             · show s.length + 1 - (k + 1) < s.length + 1 - k
               omega
             · (refine ⟨rfl, rfl, ?_, ?_⟩ <;> repeat' (first | refine And.intro ?_ ?_ | exact trivial | exact rfl | refine lt0 | refine lt1 ?_ | refine lt2 ?_ ?_ | refine lt3 ?_ ?_ ?_ | refine lt4 ?_ ?_ ?_ ?_ | exact veq_refl _ | decide | (intro i hi; repeat' (first | refine And.intro ?_ ?_ | exact trivial | exact rfl))))
               all_goals first | omega | (simp; done)
             done)
    · refine loop_rule (α := Int × Int × List (Int × Int)) (fun (a', b', out') => ⟨[(0, .s 0 0 s.length), (1, .v (.int .i64 n)), (8, .v (.int .i64 k)), (9, .v (.int .i64 n)), (6, .v (.int .i64 a')), (7, .v (.int .i64 b')), (5, .o 1)], [(0, chRo s), (1, prOwn out')], 2⟩)
        (fun (a', b', out') => a ≤ a' ∧ a' ≤ n ∧ a' - a = b' - b ∧ (out'.length : Int) ≤ a' ∧ out' ++ diag a' b' (n - a').toNat = out ++ diag a b (n - a).toNat)
        (fun (a', b', out') => (n - a').toNat) (a, b, out) [.at 1 0] ?_ ?_ ?_
      · refine ⟨by omega, by omega, by omega, by omega, ?_⟩; exact rfl
      · (refine ⟨rfl, rfl, ?_, ?_⟩ <;> repeat' (first | refine And.intro ?_ ?_ | exact trivial | exact rfl | refine lt0 | refine lt1 ?_ | refine lt2 ?_ ?_ | refine lt3 ?_ ?_ ?_ | refine lt4 ?_ ?_ ?_ ?_ | exact veq_refl _ | decide | (intro i hi; repeat' (first | refine And.intro ?_ ?_ | exact trivial | exact rfl))))
        all_goals first | omega | skip
      · rintro ⟨a', b', out'⟩ ⟨i1, i2, i3, i4, i5⟩
        repeat' (first | refine And.intro (by first | omega | (dsimp only; omega) | (show (_ : Bool) = true; kernel_rfl) | decide | (repeat' (first | refine And.intro ?_ ?_ | exact trivial | exact rfl))) ?_ | refine bcs_dec (fun h => ?_) (fun h => ?_) | refine bcs_ndec (fun h => ?_) (fun h => ?_) | refine bcs_not ?_ | refine bcs_intro (fun h => ?_) (fun h => ?_) | refine And.intro ?_ ?_ | refine reg_tail (by kernel_rfl) ?_)
        · refine app1 prEnc (0, 0) out' (a', b') rfl (by simp; rfl) ?_
          repeat' (first | refine And.intro (by first | omega | (dsimp only; omega) | (show (_ : Bool) = true; kernel_rfl) | decide | (repeat' (first | refine And.intro ?_ ?_ | exact trivial | exact rfl))) ?_ | refine bcs_dec (fun h => ?_) (fun h => ?_) | refine bcs_ndec (fun h => ?_) (fun h => ?_) | refine bcs_not ?_ | refine bcs_intro (fun h => ?_) (fun h => ?_) | refine And.intro ?_ ?_ | refine reg_tail (by kernel_rfl) ?_)
          refine ⟨(a' + 1, b' + 1, out' ++ [(a', b')]), [.at 3 0], ?_, ?_, ?_⟩
          · refine ⟨by omega, by omega, by omega, by rw [List.length_append]; simp only [List.length_singleton]; omega, ?_⟩
            rw [← i5, diag_step (a := a') (b := b') (tw := n) (by omega), List.append_assoc]; rfl
          · show (n - (a' + 1)).toNat < (n - a').toNat
            omega
          · (refine ⟨rfl, rfl, ?_, ?_⟩ <;> repeat' (first | refine And.intro ?_ ?_ | exact trivial | exact rfl | refine lt0 | refine lt1 ?_ | refine lt2 ?_ ?_ | refine lt3 ?_ ?_ ?_ | refine lt4 ?_ ?_ ?_ ?_ | exact veq_refl _ | decide | (intro i hi; repeat' (first | refine And.intro ?_ ?_ | exact trivial | exact rfl))))
            all_goals first | omega | (simp; done)
        all_goals first
          | (exfalso; omega)
          | (refine ⟨(k + 1, a', b', out'), [.at 1 0], ?_, ?_, ?_⟩
             · have hk : k = s.length := by omega
               have hn' := hn hk
               rcases h6 with ⟨_, _, h8⟩ | ⟨h7, _⟩
               · rw [diag_done (by omega), List.append_nil] at i5
                 rw [hk, List.drop_length] at h8
                 simp only [pairsF] at h8
                 refine ⟨by omega, by omega, by omega, by omega, by omega, .inr ⟨by omega, ?_⟩⟩
                 rw [← h8, i5]
               · omega
             · show s.length + 1 - (k + 1) < s.length + 1 - k
               omega
             · (refine ⟨rfl, rfl, ?_, ?_⟩ <;> repeat' (first | refine And.intro ?_ ?_ | exact trivial | exact rfl | refine lt0 | refine lt1 ?_ | refine lt2 ?_ ?_ | refine lt3 ?_ ?_ ?_ | refine lt4 ?_ ?_ ?_ ?_ | exact veq_refl _ | decide | (intro i hi; repeat' (first | refine And.intro ?_ ?_ | exact trivial | exact rfl))))
               all_goals first | omega | (simp; done)
             done)
    · rcases h6 with ⟨_, _, _⟩ | ⟨_, h8⟩
      · omega
      · refine ret_mem [.at 1 0] (by rfl) (by rfl) ?_ ?_
        · repeat' (first | refine And.intro ?_ ?_ | exact trivial)
          all_goals exact rfl
        · repeat' (first | refine And.intro ?_ ?_ | exact trivial)
          · rw [h8]
          · intro i hi
            rw [h8]
            repeat' (first | refine And.intro ?_ ?_ | exact trivial)
            all_goals exact rfl
end Go.Proofs.YtjlobgcmhnkgnaaDoor
