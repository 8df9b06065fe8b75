/- Chapter 7: the script. -/
import Derived.Test.YtdabahipeepheaaS8
import Derived.Test.YtdabahipeepheaaY7
namespace Go.Proofs.Ytdabahipeepheaa
open Go Go.RowKit Vc

abbrev Chg.enc (c : Chg) : List SV := [.v (.int .i64 c.A), .v (.int .i64 c.N), .v (.int .i64 c.B), .v (.int .i64 c.M)]
abbrev chRow (l : List Chg) : Nat → List SV := fun i => Chg.enc (l.getD i Chg.d)
abbrev chRo (l : List Chg) : Ch := .ro 4 l.length (chRow l)
abbrev chOwn (l : List Chg) : Ch := .own 30 4 l.length (chRow l)
def dMem (A C : Nat → Int) (n m : Nat) (g c : List Bool) (out : List Chg) : Mem := [(0, iRo n A), (1, iRo m C), (2, bOwn g), (3, bOwn c), (4, .box 38 [.o 2, .o 3]), (5, chOwn out)]
def dSt (A C : Nat → Int) (n m : Nat) (g c : List Bool) (out : List Chg) (x y : Nat) : St :=
  ⟨[(0, .s 0 0 n), (1, .s 1 0 m), (5, .p 4 0 0), (6, .o 5), (7, .v (.int .i64 x)), (8, .v (.int .i64 y))], dMem A C n m g c out, 6⟩
/-- .. within a change that began at (x0, y0). -/
def eSt (A C : Nat → Int) (n m : Nat) (g c : List Bool) (out : List Chg) (x0 y0 x y : Nat) : St :=
  ⟨[(0, .s 0 0 n), (1, .s 1 0 m), (5, .p 4 0 0), (6, .o 5), (7, .v (.int .i64 x)), (8, .v (.int .i64 y)), (9, .p 6 0 0)], (6, .box 30 [.v (.int .i64 x0), .v (.int .i64 0), .v (.int .i64 y0), .v (.int .i64 0)]) :: dMem A C n m g c out, 7⟩

set_option maxRecDepth 100000 in
set_option maxHeartbeats 64000000 in
theorem g_loop (A C : Nat → Int) (n m : Nat) (hn : n ≤ 1048576) (g c : List Bool) (lg : g.length = n) (out : List Chg) (x0 y0 x y : Nat) (hx : x ≤ n) (B : Bs) (E : Nat → St → Prop) (U : St → Prop) (s0 : St) (new0 : List Kp)
    (hs : Sub 2 new0 s0 (eSt A C n m g c out x0 y0 x y)) :
    LoopP ⟨Try.prog, tab, B, 77, 2⟩ (loopOf 2 Try.f13) s0 (fun i s' => bif Nat.beq i 2 then (∃ (_ : Unit) (new : List Kp), True ∧ Sub 2 new s' (eSt A C n m g c out x0 y0 (skF g n (n - x) x) y)) else E i s') U := by
  obtain ⟨t, ht⟩ : ∃ t, t = skF g n (n - x) x := ⟨_, rfl⟩
  rw [← ht]
  refine loop_rule (α := Nat) (fun x => eSt A C n m g c out x0 y0 x y) (fun x => x ≤ n ∧ t = skF g n (n - x) x) (fun x => n - x) x new0 ⟨hx, ht⟩ hs ?_
  clear ht hs hx
  rintro x ⟨hx, ht⟩
  repeat' (first | refine And.intro (by first | (show (_ : Bool) = true; kernel_rfl) | omega | (dsimp only; omega) | decide | (repeat' (first | refine And.intro ?_ ?_ | exact trivial | exact rfl))) ?_ | refine bcs_dec (fun h => ?_) (fun h => False.elim (by first | omega | exact h rfl)) | refine bcs_dec (fun h => False.elim (by omega)) (fun h => ?_) | refine bcs_dec (fun h => ?_) (fun h => ?_) | refine bcs_ndec (fun h => ?_) (fun h => ?_) | refine bcs_not ?_ | refine bcs_intro (fun h => ?_) (fun h => ?_) | refine And.intro ?_ ?_ | refine reg_tail (by kernel_rfl) ?_)
  all_goals first
    | omega
    | skip
  · refine ⟨x + 1, [.at 2 0, .at 3 0, .at 4 0, .at 5 0, .at 6 0], ⟨by omega, ?_⟩, by omega, ?_⟩
    · rw [ht, show n - x = (n - (x + 1)) + 1 by omega]
      conv => lhs; unfold skF
      rw [if_pos ⟨by omega, h⟩]
    · (refine ⟨rfl, rfl, ?_, ?_⟩ <;> repeat' (first | refine And.intro ?_ ?_ | exact trivial | exact rfl | refine lt0 | refine lt1 ?_ | refine lt2 ?_ ?_ | refine lt3 ?_ ?_ ?_ | refine lt4 ?_ ?_ ?_ ?_ | exact veq_refl _ | decide | (intro i hi; repeat' (first | refine And.intro ?_ ?_ | exact trivial | exact rfl))))
      all_goals first | exact Nat.le_refl _ | omega | (dsimp only; omega) | (simp; done) | (show @Eq Int _ _; omega)
  all_goals
    refine ⟨(), [.at 2 0, .at 3 0, .at 4 0, .at 5 0, .at 6 0], trivial, ?_⟩
    have : t = x := by
      rw [ht]
      cases hk : n - x with
      | zero => rfl
      | succ k =>
        unfold skF
        rw [if_neg]
        rintro ⟨h1, h2⟩
        first
          | omega
          | (have h3 : g.getD (x : Int).toNat false = true := h2
             rw [h3] at h
             cases h)
    rw [this]
    (refine ⟨rfl, rfl, ?_, ?_⟩ <;> repeat' (first | refine And.intro ?_ ?_ | exact trivial | exact rfl | refine lt0 | refine lt1 ?_ | refine lt2 ?_ ?_ | refine lt3 ?_ ?_ ?_ | refine lt4 ?_ ?_ ?_ ?_ | exact veq_refl _ | decide | (intro i hi; repeat' (first | refine And.intro ?_ ?_ | exact trivial | exact rfl))))
    all_goals first | exact Nat.le_refl _ | omega | (dsimp only; omega) | (simp; done) | (show @Eq Int _ _; omega)
set_option maxRecDepth 100000 in
set_option maxHeartbeats 64000000 in
theorem c_loop (A C : Nat → Int) (n m : Nat) (hm : m ≤ 1048576) (g c : List Bool) (lc : c.length = m) (out : List Chg) (x0 y0 x y : Nat) (hy : y ≤ m) (B : Bs) (E : Nat → St → Prop) (U : St → Prop) (s0 : St) (new0 : List Kp)
    (hs : Sub 2 new0 s0 (eSt A C n m g c out x0 y0 x y)) :
    LoopP ⟨Try.prog, tab, B, 77, 2⟩ (loopOf 4 Try.f13) s0 (fun i s' => bif Nat.beq i 4 then (∃ (_ : Unit) (new : List Kp), True ∧ Sub 2 new s' (eSt A C n m g c out x0 y0 x (skF c m (m - y) y))) else E i s') U := by
  obtain ⟨t, ht⟩ : ∃ t, t = skF c m (m - y) y := ⟨_, rfl⟩
  rw [← ht]
  refine loop_rule (α := Nat) (fun y => eSt A C n m g c out x0 y0 x y) (fun y => y ≤ m ∧ t = skF c m (m - y) y) (fun y => m - y) y new0 ⟨hy, ht⟩ hs ?_
  clear ht hs hy
  rintro y ⟨hy, ht⟩
  repeat' (first | refine And.intro (by first | (show (_ : Bool) = true; kernel_rfl) | omega | (dsimp only; omega) | decide | (repeat' (first | refine And.intro ?_ ?_ | exact trivial | exact rfl))) ?_ | refine bcs_dec (fun h => ?_) (fun h => False.elim (by first | omega | exact h rfl)) | refine bcs_dec (fun h => False.elim (by omega)) (fun h => ?_) | refine bcs_dec (fun h => ?_) (fun h => ?_) | refine bcs_ndec (fun h => ?_) (fun h => ?_) | refine bcs_not ?_ | refine bcs_intro (fun h => ?_) (fun h => ?_) | refine And.intro ?_ ?_ | refine reg_tail (by kernel_rfl) ?_)
  all_goals first
    | omega
    | skip
  · refine ⟨y + 1, [.at 2 0, .at 3 0, .at 4 0, .at 5 0, .at 6 0], ⟨by omega, ?_⟩, by omega, ?_⟩
    · rw [ht, show m - y = (m - (y + 1)) + 1 by omega]
      conv => lhs; unfold skF
      rw [if_pos ⟨by omega, h⟩]
    · (refine ⟨rfl, rfl, ?_, ?_⟩ <;> repeat' (first | refine And.intro ?_ ?_ | exact trivial | exact rfl | refine lt0 | refine lt1 ?_ | refine lt2 ?_ ?_ | refine lt3 ?_ ?_ ?_ | refine lt4 ?_ ?_ ?_ ?_ | exact veq_refl _ | decide | (intro i hi; repeat' (first | refine And.intro ?_ ?_ | exact trivial | exact rfl))))
      all_goals first | exact Nat.le_refl _ | omega | (dsimp only; omega) | (simp; done) | (show @Eq Int _ _; omega)
  all_goals
    refine ⟨(), [.at 2 0, .at 3 0, .at 4 0, .at 5 0, .at 6 0], trivial, ?_⟩
    have : t = y := by
      rw [ht]
      cases hk : m - y with
      | zero => rfl
      | succ k =>
        unfold skF
        rw [if_neg]
        rintro ⟨h1, h2⟩
        first
          | omega
          | (have h3 : c.getD (y : Int).toNat false = true := h2
             rw [h3] at h
             cases h)
    rw [this]
    (refine ⟨rfl, rfl, ?_, ?_⟩ <;> repeat' (first | refine And.intro ?_ ?_ | exact trivial | exact rfl | refine lt0 | refine lt1 ?_ | refine lt2 ?_ ?_ | refine lt3 ?_ ?_ ?_ | refine lt4 ?_ ?_ ?_ ?_ | exact veq_refl _ | decide | (intro i hi; repeat' (first | refine And.intro ?_ ?_ | exact trivial | exact rfl))))
    all_goals first | exact Nat.le_refl _ | omega | (dsimp only; omega) | (simp; done) | (show @Eq Int _ _; omega)
end Go.Proofs.Ytdabahipeepheaa
