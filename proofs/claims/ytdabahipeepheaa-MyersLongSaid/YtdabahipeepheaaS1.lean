/- Chapter 7: the loops of a function as texts of their own; 'wrap'. -/
import Derived.Test.YtdabahipeepheaaTab07
import Derived.Test.YtdabahipeepheaaVc29
import Derived.Test.YtdabahipeepheaaY3
namespace Go.Proofs.Ytdabahipeepheaa.Vc
open Go Go.RowKit
/-- The code of a loop, found by its block. -/
def blkOf (n : Nat) : Code → Option Code
  | .seq a b => match blkOf n a with | some c => some c | none => blkOf n b
  | .block m c => bif Nat.beq m n then some c else blkOf n c
  | .loop c => blkOf n c
  | .cond _ a b => match blkOf n a with | some c => some c | none => blkOf n b
  | _ => none
def loopOf (n : Nat) (f : Func) : Code := match f.body with
  | some b => (match blkOf n b with | some (.loop c) => c | _ => .skip)
  | none => .skip
/-- The code behind a block. -/
def isBlk (n : Nat) : Code → Bool
  | .block m _ => Nat.beq m n
  | _ => false
def aftO (n : Nat) : Code → Option Code
  | .seq a b => match isBlk n a with | true => some b | false => (match aftO n a with | some c => some c | none => aftO n b)
  | .block _ c => aftO n c
  | .loop c => aftO n c
  | .cond _ a b => match aftO n a with | some c => some c | none => aftO n b
  | _ => none
def aftOf (n : Nat) (f : Func) : Code := match f.body with
  | some b => (match aftO n b with | some c => c | _ => .skip)
  | none => .skip
/-- Behind a loop: the state in which it is left, as one of a family. -/
theorem loop_out {Γ : Cx} {c : Code} {s : St} {E : Nat → St → Prop} {R K : St → Prop} {id : Nat} {β : Type} (J : β → St) (D : β → Prop)
    (h : LoopP Γ c s (fun i s' => bif Nat.beq i id then (∃ y new, D y ∧ Sub Γ.n0 new s' (J y)) else E i s') R) (hk : ∀ y, D y → K (J y)) : LoopP Γ c s (fun i s => bif Nat.beq i id then K s else E i s) R := by
  refine ⟨fun ok ρ a w H => wp_mono (h.run ok ρ a w H) ?_⟩
  intro e a' w' hq
  cases e with
  | exit i =>
    obtain ⟨s', ρ', he, H'⟩ := hq
    cases hb : Nat.beq i id with
    | true =>
      rw [hb] at he
      obtain ⟨y, new, hD, hs⟩ := he
      obtain ⟨ρ'', H''⟩ := hs.sound ok H'
      exact ⟨J y, ρ'', by simp only [hb]; exact hk y hD, H''⟩
    | false =>
      rw [hb] at he
      exact ⟨s', ρ', by simp only [hb]; exact he, H'⟩
  | _ => exact hq
end Go.Proofs.Ytdabahipeepheaa.Vc
namespace Go.Proofs.Ytdabahipeepheaa
open Go Go.RowKit Vc
/-- What is kept out of sight for a while. -/
structure Hd (p : Prop) : Prop where
  out : p
abbrev nEnc : Int → List SV := fun v => [.v (.int .i64 v)]
abbrev glob : List (Nat × Value) := []
abbrev iRow (A : Nat → Int) : Nat → List SV := fun e => [.v (.int .i64 (A e))]
abbrev iRo (n : Nat) (A : Nat → Int) : Ch := .ro 1 n (iRow A)
abbrev iOwn (F : List Int) : Ch := .own 3 1 F.length (fun e => [.v (.int .i64 (F.getD e 0))])

set_option maxRecDepth 100000 in
set_option maxHeartbeats 4000000 in
theorem wrap_con (k z : Int) (hz : 0 < z) (hz1 : z ≤ 4611686018427387904) : Con Try.prog glob 22 [.v (.int .i64 k), .v (.int .i64 z)] [] 0 (retV 0 (.v (.int .i64 (k % z)))) := by
  have e := rem_eq k z hz
  have h1 := Int.tmod_lt_of_pos k hz
  have h2 := Int.lt_tmod_of_pos k hz
  refine spec_intro (tab := tab) (N := 12) Try.func22 rfl rfl tab_ok mix rfl rfl _ rfl ?_
  intro B hG
  repeat' (first | refine And.intro (by first | omega | (dsimp only; omega) | (show (_ : Bool) = true; kernel_rfl) | decide | (repeat' (first | refine And.intro ?_ ?_ | exact trivial | exact rfl))) ?_ | refine bcs_dec (fun h => ?_) (fun h => False.elim (by first | omega | exact h rfl)) | refine bcs_dec (fun h => False.elim (by omega)) (fun h => ?_) | refine bcs_dec (fun h => ?_) (fun h => ?_) | refine bcs_ndec (fun h => ?_) (fun h => ?_) | refine bcs_not ?_ | refine bcs_intro (fun h => ?_) (fun h => ?_) | refine And.intro ?_ ?_ | refine reg_tail (by kernel_rfl) ?_)
  refine ret_plain ?_
  show @Eq Int _ _
  exact e.symm
end Go.Proofs.Ytdabahipeepheaa
