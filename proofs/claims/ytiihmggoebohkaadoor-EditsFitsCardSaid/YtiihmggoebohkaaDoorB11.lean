/- Chapter 6: contracts: a run of pairs, put behind those that are there. -/
import Derived.Test.YtiihmggoebohkaaDoorB10
namespace Go.Proofs.YtiihmggoebohkaaDoor
open Go Go.RowKit Vc

theorem diag_snoc : ∀ (c : Nat) (a b : Int), diag a b (c + 1) = diag a b c ++ [(a + c, b + c)]
  | 0, a, b => by simp [diag]
  | c + 1, a, b => by
    rw [diag, diag_snoc c (a + 1) (b + 1)]
    simp only [diag, List.cons_append]
    congr 3
    · rw [show a + 1 + (c : Int) = a + ((c + 1 : Nat) : Int) from by push_cast; omega, show b + 1 + (c : Int) = b + ((c + 1 : Nat) : Int) from by push_cast; omega]

set_option maxRecDepth 100000 in
set_option maxHeartbeats 4000000 in
theorem run_con {out : List (Int × Int)} {a b c : Int} (ha : 0 ≤ a ∧ a ≤ 4194304) (hb : 0 ≤ b ∧ b ≤ 4194304) (hc : c ≤ 4194304) (ho : out.length ≤ 4194304) :
    Con Tryd.prog glob 45 [.v (.int .i64 a), .v (.int .i64 b), .v (.int .i64 c), .p 0 0 0] [(0, .box 32 [.o 1]), (1, prOwn out)] 2
    (retM (.t []) [(0, .box 32 [.o 2]), (2, prOwn (out ++ diag a b c.toNat))] 3) := by
  refine spec_intro (tab := tab) (N := 23) Tryd.func45 rfl rfl tab_ok mix rfl rfl _ rfl ?_
  intro B hG
  repeat' (first | refine And.intro (by first | omega | (dsimp only; omega) | (show (_ : Bool) = true; kernel_rfl) | decide | (repeat' (first | refine And.intro ?_ ?_ | exact trivial | exact rfl))) ?_ | refine bcs_dec (fun h => ?_) (fun h => ?_) | refine bcs_ndec (fun h => ?_) (fun h => ?_) | refine bcs_not ?_ | refine bcs_intro (fun h => ?_) (fun h => ?_) | refine And.intro ?_ ?_ | refine reg_tail (by kernel_rfl) ?_)
  refine loop_rule (α := Nat × List (Int × Int)) (fun (k, o) => ⟨[(0, .v (.int .i64 a)), (1, .v (.int .i64 b)), (3, .p 0 0 0), (8, .v (.int .i64 c)), (9, .v (.int .i64 k))], [(0, .box 32 [.o 2]), (2, prOwn o)], 3⟩)
    (fun (k, o) => (k : Int) ≤ max c 0 ∧ o = out ++ diag a b k) (fun (k, o) => (c - k).toNat) (0, out) [.at 1 0] ?_ ?_ ?_
  · exact ⟨by omega, by simp [diag]⟩
  · (refine ⟨rfl, rfl, ?_, ?_⟩ <;> repeat' (first | refine And.intro ?_ ?_ | exact trivial | exact rfl | refine lt0 | refine lt1 ?_ | refine lt2 ?_ ?_ | refine lt3 ?_ ?_ ?_ | refine lt4 ?_ ?_ ?_ ?_ | exact veq_refl _ | decide | (intro i hi; repeat' (first | refine And.intro ?_ ?_ | exact trivial | exact rfl))))
    all_goals first | omega | trace_state
  · rintro ⟨k, o⟩ ⟨h1, h2⟩
    have hl : o.length = out.length + k := by rw [h2, List.length_append, diag_len]
    repeat' (first | refine And.intro (by first | omega | (dsimp only; omega) | (show (_ : Bool) = true; kernel_rfl) | decide | (repeat' (first | refine And.intro ?_ ?_ | exact trivial | exact rfl))) ?_ | refine bcs_dec (fun h => ?_) (fun h => ?_) | refine bcs_ndec (fun h => ?_) (fun h => ?_) | refine bcs_not ?_ | refine bcs_intro (fun h => ?_) (fun h => ?_) | refine And.intro ?_ ?_ | refine reg_tail (by kernel_rfl) ?_)
    · refine app1 prEnc (0, 0) o (a + k, b + k) rfl (by simp; rfl) ?_
      repeat' (first | refine And.intro (by first | omega | (dsimp only; omega) | (show (_ : Bool) = true; kernel_rfl) | decide | (repeat' (first | refine And.intro ?_ ?_ | exact trivial | exact rfl))) ?_ | refine bcs_dec (fun h => ?_) (fun h => ?_) | refine bcs_ndec (fun h => ?_) (fun h => ?_) | refine bcs_not ?_ | refine bcs_intro (fun h => ?_) (fun h => ?_) | refine And.intro ?_ ?_ | refine reg_tail (by kernel_rfl) ?_)
      refine ⟨(k + 1, o ++ [(a + k, b + k)]), [.at 4 0], ?_, ?_, ?_⟩
      · exact ⟨by omega, by rw [diag_snoc, h2, List.append_assoc]⟩
      · show (c - ((k + 1 : Nat) : Int)).toNat < (c - k).toNat
        omega
      · (refine ⟨rfl, rfl, ?_, ?_⟩ <;> repeat' (first | refine And.intro ?_ ?_ | exact trivial | exact rfl | refine lt0 | refine lt1 ?_ | refine lt2 ?_ ?_ | refine lt3 ?_ ?_ ?_ | refine lt4 ?_ ?_ ?_ ?_ | exact veq_refl _ | decide | (intro i hi; repeat' (first | refine And.intro ?_ ?_ | exact trivial | exact rfl))))
        all_goals first | omega | (simp; done)
    · have e : o = out ++ diag a b c.toNat := by rw [h2, show c.toNat = k from by omega]
      rw [← e]
      refine ret_mem [.at 2 0] rfl rfl ?_ ?_
      · repeat' (first | refine And.intro ?_ ?_ | exact trivial)
      · repeat' (first | refine And.intro ?_ ?_ | exact trivial)
        · exact rfl
        · intro i hi
          repeat' (first | refine And.intro ?_ ?_ | exact trivial)
          all_goals exact rfl
end Go.Proofs.YtiihmggoebohkaaDoor
