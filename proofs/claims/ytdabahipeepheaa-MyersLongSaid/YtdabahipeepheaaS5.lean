/- Chapter 7: the common beginning and end are left out. -/
import Derived.Test.YtdabahipeepheaaS1
import Derived.Test.YtdabahipeepheaaY6
namespace Go.Proofs.Ytdabahipeepheaa
open Go Go.RowKit Vc

abbrev bxEnc (b : Bx) : List SV := [.s 0 b.x b.n, .s 1 b.y b.m, .v (.int .i64 b.x), .v (.int .i64 b.y)]
def tSt (A C : Nat → Int) (N M : Nat) (b : Bx) : St := ⟨[(1, .p 2 0 0), (2, .p 3 0 0)], [(0, iRo N A), (1, iRo M C), (2, .box 45 (bxEnc b)), (3, .box 45 [.v (.slice none 0 0), .v (.slice none 0 0), .v (.int .i64 0), .v (.int .i64 0)])], 4⟩

set_option maxRecDepth 100000 in
set_option maxHeartbeats 64000000 in
theorem trim_con (A C : Nat → Int) (N M : Nat) (hN : N ≤ 1048576) (hM : M ≤ 1048576) (b0 : Bx) (hx : b0.x + b0.n ≤ N) (hy : b0.y + b0.m ≤ M) : Con Try.prog glob 20 [.a (bxEnc b0)] [(0, iRo N A), (1, iRo M C)] 2 (retV 2 (.a (bxEnc (trimF A C b0)))) := by
  obtain ⟨p, s1, s2, s3, s4, _, _⟩ := tfF_spec A C b0.n b0 rfl
  obtain ⟨b1, hb1⟩ : ∃ b, b = tfF A C b0.n b0 := ⟨_, rfl⟩
  obtain ⟨b2, hb2⟩ : ∃ b, b = trimF A C b0 := ⟨_, rfl⟩
  have hb3 : tbF A C b1.n b1 = b2 := by rw [hb2, hb1]; rfl
  rw [← hb1] at s1 s2 s3 s4
  rw [← hb2]
  clear hb2
  refine spec_intro (tab := tab) (N := 86) Try.func20 rfl rfl tab_ok mix rfl rfl _ rfl ?_
  intro B hG
  repeat' (first | refine And.intro (by first | omega | (dsimp only; omega) | (show (_ : Bool) = true; kernel_rfl) | decide | (repeat' (first | refine And.intro ?_ ?_ | exact trivial | exact rfl))) ?_ | refine bcs_dec (fun h => ?_) (fun h => False.elim (by first | omega | exact h rfl)) | refine bcs_dec (fun h => False.elim (by omega)) (fun h => ?_) | refine bcs_dec (fun h => ?_) (fun h => ?_) | refine bcs_ndec (fun h => ?_) (fun h => ?_) | refine bcs_not ?_ | refine bcs_intro (fun h => ?_) (fun h => ?_) | refine And.intro ?_ ?_ | refine reg_tail (by kernel_rfl) ?_)
  refine loop_out (fun b : Bx => tSt A C N M b) (fun b => b = b1) (loop_rule (α := Bx) (fun b => tSt A C N M b) (fun b => tfF A C b.n b = b1 ∧ b.x + b.n ≤ N ∧ b.y + b.m ≤ M) (fun b => b.n) b0 [.at 2 0, .at 3 0] ⟨hb1.symm, hx, hy⟩ ?_ ?_) ?_
  · (refine ⟨rfl, rfl, ?_, ?_⟩ <;> repeat' (first | refine And.intro ?_ ?_ | exact trivial | exact rfl | refine lt0 | refine lt1 ?_ | refine lt2 ?_ ?_ | refine lt3 ?_ ?_ ?_ | refine lt4 ?_ ?_ ?_ ?_ | exact veq_refl _ | decide | (intro i hi; repeat' (first | refine And.intro ?_ ?_ | exact trivial | exact rfl))))
    all_goals first | exact Nat.le_refl _ | omega
  · rintro b ⟨c1, c2, c3⟩
    have hid := Hd.mk c1
    clear c1 hb1 hb3 s1 s2 s3 s4
    repeat' (first | refine And.intro (by first | omega | (dsimp only; omega) | (show (_ : Bool) = true; kernel_rfl) | decide | (repeat' (first | refine And.intro ?_ ?_ | exact trivial | exact rfl))) ?_ | refine bcs_dec (fun h => ?_) (fun h => False.elim (by first | omega | exact h rfl)) | refine bcs_dec (fun h => False.elim (by omega)) (fun h => ?_) | refine bcs_dec (fun h => ?_) (fun h => ?_) | refine bcs_ndec (fun h => ?_) (fun h => ?_) | refine bcs_not ?_ | refine bcs_intro (fun h => ?_) (fun h => ?_) | refine And.intro ?_ ?_ | refine reg_tail (by kernel_rfl) ?_)
    all_goals first
      | omega
      | (refine ⟨⟨b.x + 1, b.n - 1, b.y + 1, b.m - 1⟩, [.at 2 0, .at 3 0], ⟨?_, by dsimp only; omega, by dsimp only; omega⟩, ?_, ?_⟩
         · have c1 := hid.out
           rw [show b.n = (b.n - 1) + 1 by omega] at c1
           unfold tfF at c1
           rw [if_pos ⟨by omega, h⟩] at c1
           exact c1
         · show b.n - 1 < b.n
           omega
         · (refine ⟨rfl, rfl, ?_, ?_⟩ <;> repeat' (first | refine And.intro ?_ ?_ | exact trivial | exact rfl | refine lt0 | refine lt1 ?_ | refine lt2 ?_ ?_ | refine lt3 ?_ ?_ ?_ | refine lt4 ?_ ?_ ?_ ?_ | exact veq_refl _ | decide | (intro i hi; repeat' (first | refine And.intro ?_ ?_ | exact trivial | exact rfl))))
           all_goals first | exact Nat.le_refl _ | omega | (dsimp only; omega) | (show @Eq Int _ _; omega)
         done)
      | (refine ⟨b, [.at 2 0, .at 3 0], ?_, ?_⟩
         · have c1 := hid.out
           cases hn : b.n with
           | zero => rw [hn] at c1; exact c1
           | succ k =>
             rw [hn] at c1
             unfold tfF at c1
             rw [if_neg (fun hq => ?_)] at c1
             · exact c1
             · first
                 | omega
                 | exact h hq.2
         · (refine ⟨rfl, rfl, ?_, ?_⟩ <;> repeat' (first | refine And.intro ?_ ?_ | exact trivial | exact rfl | refine lt0 | refine lt1 ?_ | refine lt2 ?_ ?_ | refine lt3 ?_ ?_ ?_ | refine lt4 ?_ ?_ ?_ ?_ | exact veq_refl _ | decide | (intro i hi; repeat' (first | refine And.intro ?_ ?_ | exact trivial | exact rfl))))
           all_goals first | exact Nat.le_refl _ | omega | (dsimp only; omega) | (show @Eq Int _ _; omega)
         done)
  rintro b rfl
  clear hb1
  repeat' (first | refine And.intro (by first | omega | (dsimp only; omega) | (show (_ : Bool) = true; kernel_rfl) | decide | (repeat' (first | refine And.intro ?_ ?_ | exact trivial | exact rfl))) ?_ | refine bcs_dec (fun h => ?_) (fun h => False.elim (by first | omega | exact h rfl)) | refine bcs_dec (fun h => False.elim (by omega)) (fun h => ?_) | refine bcs_dec (fun h => ?_) (fun h => ?_) | refine bcs_ndec (fun h => ?_) (fun h => ?_) | refine bcs_not ?_ | refine bcs_intro (fun h => ?_) (fun h => ?_) | refine And.intro ?_ ?_ | refine reg_tail (by kernel_rfl) ?_)
  refine loop_out (fun b : Bx => tSt A C N M b) (fun b => b = b2) (loop_rule (α := Bx) (fun b => tSt A C N M b) (fun b => tbF A C b.n b = b2 ∧ b.x + b.n ≤ N ∧ b.y + b.m ≤ M) (fun b => b.n) b [.at 2 0, .at 3 0] ⟨hb3, by omega, by omega⟩ ?_ ?_) ?_
  · (refine ⟨rfl, rfl, ?_, ?_⟩ <;> repeat' (first | refine And.intro ?_ ?_ | exact trivial | exact rfl | refine lt0 | refine lt1 ?_ | refine lt2 ?_ ?_ | refine lt3 ?_ ?_ ?_ | refine lt4 ?_ ?_ ?_ ?_ | exact veq_refl _ | decide | (intro i hi; repeat' (first | refine And.intro ?_ ?_ | exact trivial | exact rfl))))
    all_goals first | exact Nat.le_refl _ | omega
  · rintro b ⟨c1, c2, c3⟩
    have hid := Hd.mk c1
    clear c1 hb3 s1 s2 s3 s4
    have e1 : 0 < b.n → b.x + ((b.n : Int) - 1).toNat = b.x + (b.n - 1) := fun _ => by omega
    have e2 : 0 < b.m → b.y + ((b.m : Int) - 1).toNat = b.y + (b.m - 1) := fun _ => by omega
    repeat' (first | refine And.intro (by first | omega | (dsimp only; omega) | (show (_ : Bool) = true; kernel_rfl) | decide | (repeat' (first | refine And.intro ?_ ?_ | exact trivial | exact rfl))) ?_ | refine bcs_dec (fun h => ?_) (fun h => False.elim (by first | omega | exact h rfl)) | refine bcs_dec (fun h => False.elim (by omega)) (fun h => ?_) | refine bcs_dec (fun h => ?_) (fun h => ?_) | refine bcs_ndec (fun h => ?_) (fun h => ?_) | refine bcs_not ?_ | refine bcs_intro (fun h => ?_) (fun h => ?_) | refine And.intro ?_ ?_ | refine reg_tail (by kernel_rfl) ?_)
    all_goals first
      | omega
      | skip
    · refine ⟨⟨b.x, b.n - 1, b.y, b.m - 1⟩, [.at 2 0, .at 3 0], ⟨?_, by dsimp only; omega, by dsimp only; omega⟩, ?_, ?_⟩
      · have c1 := hid.out
        rw [e1 (by omega), e2 (by omega)] at h
        rw [show b.n = (b.n - 1) + 1 by omega] at c1
        unfold tbF at c1
        rw [if_pos ⟨by omega, h⟩] at c1
        exact c1
      · show b.n - 1 < b.n
        omega
      · (refine ⟨rfl, rfl, ?_, ?_⟩ <;> repeat' (first | refine And.intro ?_ ?_ | exact trivial | exact rfl | refine lt0 | refine lt1 ?_ | refine lt2 ?_ ?_ | refine lt3 ?_ ?_ ?_ | refine lt4 ?_ ?_ ?_ ?_ | exact veq_refl _ | decide | (intro i hi; repeat' (first | refine And.intro ?_ ?_ | exact trivial | exact rfl))))
        all_goals first | exact Nat.le_refl _ | omega | (dsimp only; omega) | (show @Eq Int _ _; omega)
    all_goals first
      | (refine ⟨b, [.at 2 0, .at 3 0], ?_, ?_⟩
         · have c1 := hid.out
           cases hn : b.n with
           | zero => rw [hn] at c1; exact c1
           | succ k =>
             have hn' : 0 < b.n := by omega
             rw [hn] at c1
             unfold tbF at c1
             rw [if_neg (fun hq => ?_)] at c1
             · exact c1
             · first
                 | omega
                 | (rw [e1 (by omega), e2 (by omega)] at h
                    exact h hq.2)
         · (refine ⟨rfl, rfl, ?_, ?_⟩ <;> repeat' (first | refine And.intro ?_ ?_ | exact trivial | exact rfl | refine lt0 | refine lt1 ?_ | refine lt2 ?_ ?_ | refine lt3 ?_ ?_ ?_ | refine lt4 ?_ ?_ ?_ ?_ | exact veq_refl _ | decide | (intro i hi; repeat' (first | refine And.intro ?_ ?_ | exact trivial | exact rfl))))
           all_goals first | exact Nat.le_refl _ | omega | (dsimp only; omega) | (show @Eq Int _ _; omega)
         done)
  rintro b rfl
  repeat' (first | refine And.intro (by first | omega | (dsimp only; omega) | (show (_ : Bool) = true; kernel_rfl) | decide | (repeat' (first | refine And.intro ?_ ?_ | exact trivial | exact rfl))) ?_ | refine bcs_dec (fun h => ?_) (fun h => False.elim (by first | omega | exact h rfl)) | refine bcs_dec (fun h => False.elim (by omega)) (fun h => ?_) | refine bcs_dec (fun h => ?_) (fun h => ?_) | refine bcs_ndec (fun h => ?_) (fun h => ?_) | refine bcs_not ?_ | refine bcs_intro (fun h => ?_) (fun h => ?_) | refine And.intro ?_ ?_ | refine reg_tail (by kernel_rfl) ?_)
  refine ret_plain ?_
  repeat' (first | refine And.intro ?_ ?_ | exact trivial)
  all_goals first | exact Nat.le_refl _ | omega | (dsimp only; omega) | (show @Eq Int _ _; omega)
end Go.Proofs.Ytdabahipeepheaa
