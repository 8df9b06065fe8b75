/- Chapter 7: what goes and what comes is marked. -/
import Derived.Test.YtdabahipeepheaaS4
import Derived.Test.YtdabahipeepheaaS5
namespace Go.Proofs.Ytdabahipeepheaa
open Go Go.RowKit Vc

abbrev bEnc : Bool → List SV := fun b => [.v (.bool b)]
abbrev bOwn (l : List Bool) : Ch := .own 4 1 l.length (fun e => bEnc (l.getD e false))
abbrev bxOwn (l : List Bx) : Ch := .own 45 4 l.length (fun e => bxEnc (l.getD e Bx.d))
def mMem (A C : Nat → Int) (N M : Nat) (g c : List Bool) : Mem := [(0, iRo N A), (1, iRo M C), (2, .box 38 [.v (.slice none 0 0), .v (.slice none 0 0)]), (3, bOwn g), (4, bOwn c), (5, .box 38 [.o 3, .o 4])]
def mSt (A C : Nat → Int) (N M : Nat) (s : MS) : St := ⟨[(4, .p 2 0 0), (5, .p 5 0 0), (6, .o 6)], (6, bxOwn s.st) :: mMem A C N M s.g s.c, 7⟩
/-- .. while a box's marks are made. -/
def nSt (A C : Nat → Int) (N M : Nat) (r : List Bx) (b : Bx) (g c : List Bool) (l1 l2 i1 i2 : Nat) : St :=
  ⟨[(l1, .v (.int .i64 i1)), (l2, .v (.int .i64 i2)), (4, .p 2 0 0), (5, .p 5 0 0), (6, .o 8), (7, .p 7 0 0)], (7, .box 45 (bxEnc b)) :: (8, bxOwn r) :: mMem A C N M g c, 9⟩

set_option maxRecDepth 100000 in
set_option maxHeartbeats 64000000 in
theorem gone_loop (A C : Nat → Int) (N M : Nat) (hN : N ≤ 1048576) (r : List Bx) (b : Bx) (hx : b.x + b.n ≤ N) (g c : List Bool) (lg : g.length = N) (B : Bs) (E : Nat → St → Prop) (U : St → Prop) (s0 : St) (new0 : List Kp)
    (hs : Sub 2 new0 s0 (nSt A C N M r b g c 52 53 b.n 0)) :
    LoopP ⟨Try.prog, tab, B, 122, 2⟩ (loopOf 2 Try.f17) s0 (fun i s' => bif Nat.beq i 2 then (∃ (_ : Unit) (new : List Kp), True ∧ Sub 2 new s' (nSt A C N M r b (mkF g b.x b.n) c 52 53 b.n b.n)) else E i s') U := by
  refine loop_rule (α := Nat) (fun i => nSt A C N M r b (mkF g b.x i) c 52 53 b.n i) (fun i => i ≤ b.n) (fun i => b.n - i) 0 new0 (by omega) hs ?_
  rintro i hi
  have hl := mkF_len g b.x i
  obtain ⟨G, hG⟩ : ∃ G, G = mkF g b.x i := ⟨_, rfl⟩
  have hG1 : mkF g b.x (i + 1) = G.set (b.x + i) true := by rw [hG]; rfl
  rw [← hG] at hl ⊢
  have e1 : (((b.x : Int) + i).toNat) = b.x + i := by omega
  repeat' (first | refine And.intro (by first | omega | (dsimp only; omega) | (show (_ : Bool) = true; kernel_rfl) | decide | (repeat' (first | refine And.intro ?_ ?_ | exact trivial | exact rfl))) ?_ | refine bcs_dec (fun h => ?_) (fun h => False.elim (by first | omega | exact h rfl)) | refine bcs_dec (fun h => False.elim (by omega)) (fun h => ?_) | refine bcs_dec (fun h => ?_) (fun h => ?_) | refine bcs_ndec (fun h => ?_) (fun h => ?_) | refine bcs_not ?_ | refine bcs_intro (fun h => ?_) (fun h => ?_) | refine And.intro ?_ ?_ | refine reg_tail (by kernel_rfl) ?_)
  all_goals first
    | omega
    | skip
  · refine sto1 bEnc false G true rfl (by omega) rfl ?_
    repeat' (first | refine And.intro (by first | omega | (dsimp only; omega) | (show (_ : Bool) = true; kernel_rfl) | decide | (repeat' (first | refine And.intro ?_ ?_ | exact trivial | exact rfl))) ?_ | refine bcs_dec (fun h => ?_) (fun h => False.elim (by first | omega | exact h rfl)) | refine bcs_dec (fun h => False.elim (by omega)) (fun h => ?_) | refine bcs_dec (fun h => ?_) (fun h => ?_) | refine bcs_ndec (fun h => ?_) (fun h => ?_) | refine bcs_not ?_ | refine bcs_intro (fun h => ?_) (fun h => ?_) | refine And.intro ?_ ?_ | refine reg_tail (by kernel_rfl) ?_)
    all_goals first
      | omega
      | skip
    refine ⟨i + 1, [.at 2 0, .at 3 0, .at 4 0, .at 5 0, .at 6 0, .at 7 0, .at 8 0], by omega, by omega, ?_⟩
    rw [hG1, ← e1]
    (refine ⟨rfl, rfl, ?_, ?_⟩ <;> repeat' (first | refine And.intro ?_ ?_ | exact trivial | exact rfl | refine lt0 | refine lt1 ?_ | refine lt2 ?_ ?_ | refine lt3 ?_ ?_ ?_ | refine lt4 ?_ ?_ ?_ ?_ | exact veq_refl _ | decide | (intro i hi; repeat' (first | refine And.intro ?_ ?_ | exact trivial | exact rfl))))
    all_goals first | exact Nat.le_refl _ | omega | (dsimp only; omega) | (simp; done) | (show @Eq Int _ _; omega)
  · refine ⟨(), [.at 2 0, .at 3 0, .at 4 0, .at 5 0, .at 6 0, .at 7 0, .at 8 0], trivial, ?_⟩
    have : i = b.n := by omega
    subst this
    rw [← hG]
    (refine ⟨rfl, rfl, ?_, ?_⟩ <;> repeat' (first | refine And.intro ?_ ?_ | exact trivial | exact rfl | refine lt0 | refine lt1 ?_ | refine lt2 ?_ ?_ | refine lt3 ?_ ?_ ?_ | refine lt4 ?_ ?_ ?_ ?_ | exact veq_refl _ | decide | (intro i hi; repeat' (first | refine And.intro ?_ ?_ | exact trivial | exact rfl))))
    all_goals first | exact Nat.le_refl _ | omega | (dsimp only; omega) | (simp; done) | (show @Eq Int _ _; omega)
set_option maxRecDepth 100000 in
set_option maxHeartbeats 64000000 in
theorem come_loop (A C : Nat → Int) (N M : Nat) (hM : M ≤ 1048576) (r : List Bx) (b : Bx) (hy : b.y + b.m ≤ M) (g c : List Bool) (lc : c.length = M) (B : Bs) (E : Nat → St → Prop) (U : St → Prop) (s0 : St) (new0 : List Kp)
    (hs : Sub 2 new0 s0 (nSt A C N M r b g c 66 67 b.m 0)) :
    LoopP ⟨Try.prog, tab, B, 122, 2⟩ (loopOf 4 Try.f17) s0 (fun i s' => bif Nat.beq i 4 then (∃ (_ : Unit) (new : List Kp), True ∧ Sub 2 new s' (nSt A C N M r b g (mkF c b.y b.m) 66 67 b.m b.m)) else E i s') U := by
  refine loop_rule (α := Nat) (fun i => nSt A C N M r b g (mkF c b.y i) 66 67 b.m i) (fun i => i ≤ b.m) (fun i => b.m - i) 0 new0 (by omega) hs ?_
  rintro i hi
  have hl := mkF_len c b.y i
  obtain ⟨G, hG⟩ : ∃ G, G = mkF c b.y i := ⟨_, rfl⟩
  have hG1 : mkF c b.y (i + 1) = G.set (b.y + i) true := by rw [hG]; rfl
  rw [← hG] at hl ⊢
  have e1 : (((b.y : Int) + i).toNat) = b.y + i := by omega
  repeat' (first | refine And.intro (by first | omega | (dsimp only; omega) | (show (_ : Bool) = true; kernel_rfl) | decide | (repeat' (first | refine And.intro ?_ ?_ | exact trivial | exact rfl))) ?_ | refine bcs_dec (fun h => ?_) (fun h => False.elim (by first | omega | exact h rfl)) | refine bcs_dec (fun h => False.elim (by omega)) (fun h => ?_) | refine bcs_dec (fun h => ?_) (fun h => ?_) | refine bcs_ndec (fun h => ?_) (fun h => ?_) | refine bcs_not ?_ | refine bcs_intro (fun h => ?_) (fun h => ?_) | refine And.intro ?_ ?_ | refine reg_tail (by kernel_rfl) ?_)
  all_goals first
    | omega
    | skip
  · refine sto1 bEnc false G true rfl (by omega) rfl ?_
    repeat' (first | refine And.intro (by first | omega | (dsimp only; omega) | (show (_ : Bool) = true; kernel_rfl) | decide | (repeat' (first | refine And.intro ?_ ?_ | exact trivial | exact rfl))) ?_ | refine bcs_dec (fun h => ?_) (fun h => False.elim (by first | omega | exact h rfl)) | refine bcs_dec (fun h => False.elim (by omega)) (fun h => ?_) | refine bcs_dec (fun h => ?_) (fun h => ?_) | refine bcs_ndec (fun h => ?_) (fun h => ?_) | refine bcs_not ?_ | refine bcs_intro (fun h => ?_) (fun h => ?_) | refine And.intro ?_ ?_ | refine reg_tail (by kernel_rfl) ?_)
    all_goals first
      | omega
      | skip
    refine ⟨i + 1, [.at 2 0, .at 3 0, .at 4 0, .at 5 0, .at 6 0, .at 7 0, .at 8 0], by omega, by omega, ?_⟩
    rw [hG1, ← e1]
    (refine ⟨rfl, rfl, ?_, ?_⟩ <;> repeat' (first | refine And.intro ?_ ?_ | exact trivial | exact rfl | refine lt0 | refine lt1 ?_ | refine lt2 ?_ ?_ | refine lt3 ?_ ?_ ?_ | refine lt4 ?_ ?_ ?_ ?_ | exact veq_refl _ | decide | (intro i hi; repeat' (first | refine And.intro ?_ ?_ | exact trivial | exact rfl))))
    all_goals first | exact Nat.le_refl _ | omega | (dsimp only; omega) | (simp; done) | (show @Eq Int _ _; omega)
  · refine ⟨(), [.at 2 0, .at 3 0, .at 4 0, .at 5 0, .at 6 0, .at 7 0, .at 8 0], trivial, ?_⟩
    have : i = b.m := by omega
    subst this
    rw [← hG]
    (refine ⟨rfl, rfl, ?_, ?_⟩ <;> repeat' (first | refine And.intro ?_ ?_ | exact trivial | exact rfl | refine lt0 | refine lt1 ?_ | refine lt2 ?_ ?_ | refine lt3 ?_ ?_ ?_ | refine lt4 ?_ ?_ ?_ ?_ | exact veq_refl _ | decide | (intro i hi; repeat' (first | refine And.intro ?_ ?_ | exact trivial | exact rfl))))
    all_goals first | exact Nat.le_refl _ | omega | (dsimp only; omega) | (simp; done) | (show @Eq Int _ _; omega)
end Go.Proofs.Ytdabahipeepheaa
