/- Chapter 18: folded together: parts E18, Eq50. -/
import Derived.Test.YtlmjkphiicmclaaDoorM9b
import Derived.Test.YtlmjkphiicmclaaDoorTab18
namespace Go.Proofs.YtlmjkphiicmclaaDoor
open Go Go.RowKit Vc

set_option maxRecDepth 100000 in
set_option maxHeartbeats 8000000 in
theorem same18_con (a b : List Byt) (ga gb : Nat → Byt) (ha : a.length ≤ 4194304) (hga : ∀ k, k < a.length → ga k = a.getD k []) (hgb : ∀ k, k < b.length → gb k = b.getD k []) :
    Con Tryd.prog glob 18 [.s 0 0 a.length, .s 1 0 b.length] [(0, .ro 1 a.length fun i => stEnc (ga i)), (1, .ro 1 b.length fun i => stEnc (gb i))] 2 (retV 2 (.v (.bool (decide (a = b))))) := by
  refine spec_intro (tab := tab) (N := 26) Tryd.func18 rfl rfl tab_ok mix rfl rfl _ rfl ?_
  intro B hG
  by_cases hl : a.length = b.length
  · repeat' (first | refine And.intro (by first | omega | (dsimp only; omega) | (show (_ : Bool) = true; kernel_rfl) | decide | (repeat' (first | refine And.intro ?_ ?_ | exact trivial | exact rfl))) ?_ | refine bcs_dec (fun h => ?_) (fun h => False.elim (by first | omega | exact h rfl)) | refine bcs_dec (fun h => False.elim (by omega)) (fun h => ?_) | refine bcs_dec (fun h => ?_) (fun h => ?_) | refine bcs_ndec (fun h => ?_) (fun h => ?_) | refine bcs_not ?_ | refine bcs_intro (fun h => ?_) (fun h => ?_) | refine And.intro ?_ ?_ | refine reg_tail (by kernel_rfl) ?_)
    · omega
    refine loop_rule (α := Nat) (fun i => ⟨[(0, .s 0 0 a.length), (1, .s 1 0 b.length), (5, .v (.int .i64 i))], [(0, .ro 1 a.length fun i => stEnc (ga i)), (1, .ro 1 b.length fun i => stEnc (gb i))], 2⟩)
      (fun i => i ≤ a.length ∧ ∀ j, j < i → a.getD j [] = b.getD j []) (fun i => a.length - i) 0 [] ?_ ?_ ?_
    · exact ⟨Nat.zero_le _, fun j hj => absurd hj (by omega)⟩
    · (refine ⟨rfl, rfl, ?_, ?_⟩ <;> repeat' (first | refine And.intro ?_ ?_ | exact trivial | exact rfl | refine lt0 | refine lt1 ?_ | refine lt2 ?_ ?_ | refine lt3 ?_ ?_ ?_ | refine lt4 ?_ ?_ ?_ ?_ | exact veq_refl _ | decide | (intro i hi; repeat' (first | refine And.intro ?_ ?_ | exact trivial | exact rfl))))
      all_goals first | exact Nat.le_refl _ | omega
    rintro i ⟨h1, h2⟩
    by_cases hi : i < a.length
    · have e1 : ga (0 + (i : Int).toNat) = a.getD i [] := by rw [Nat.zero_add, Int.toNat_natCast, hga i hi]
      have e2 : gb (0 + (i : Int).toNat) = b.getD i [] := by rw [Nat.zero_add, Int.toNat_natCast, hgb i (by omega)]
      by_cases he : ga (0 + (i : Int).toNat) = gb (0 + (i : Int).toNat)
      · repeat' (first | refine And.intro (by first | omega | (dsimp only; omega) | (show (_ : Bool) = true; kernel_rfl) | (simp; done) | decide | (repeat' (first | refine And.intro ?_ ?_ | exact trivial | exact rfl | (simp; done)))) ?_ | refine bcs_dec (fun h => ?_) (fun h => False.elim (by first | omega | exact h rfl)) | refine bcs_dec (fun h => False.elim (by omega)) (fun h => ?_) | refine bcs_dec (fun h => ?_) (fun h => ?_) | refine bcs_ndec (fun h => ?_) (fun h => ?_) | refine bcs_not ?_ | refine And.intro ?_ ?_ | refine reg_tail (by kernel_rfl) ?_)
        refine bcs_t (by rw [bs_eq]; simpa using he) ?_
        repeat' (first | refine And.intro (by first | omega | (dsimp only; omega) | (show (_ : Bool) = true; kernel_rfl) | (simp; done) | decide | (repeat' (first | refine And.intro ?_ ?_ | exact trivial | exact rfl | (simp; done)))) ?_ | refine bcs_dec (fun h => ?_) (fun h => False.elim (by first | omega | exact h rfl)) | refine bcs_dec (fun h => False.elim (by omega)) (fun h => ?_) | refine bcs_dec (fun h => ?_) (fun h => ?_) | refine bcs_ndec (fun h => ?_) (fun h => ?_) | refine bcs_not ?_ | refine And.intro ?_ ?_ | refine reg_tail (by kernel_rfl) ?_)
        refine ⟨i + 1, [], ?_, ?_, ?_⟩
        · refine ⟨hi, fun j hj => ?_⟩
          rcases Nat.lt_succ_iff_lt_or_eq.1 hj with hj | rfl
          · exact h2 j hj
          · rw [e1, e2] at he; exact he
        · show a.length - (i + 1) < a.length - i
          omega
        · (refine ⟨rfl, rfl, ?_, ?_⟩ <;> repeat' (first | refine And.intro ?_ ?_ | exact trivial | exact rfl | refine lt0 | refine lt1 ?_ | refine lt2 ?_ ?_ | refine lt3 ?_ ?_ ?_ | refine lt4 ?_ ?_ ?_ ?_ | exact veq_refl _ | decide | (intro i hi; repeat' (first | refine And.intro ?_ ?_ | exact trivial | exact rfl))))
          all_goals first | exact Nat.le_refl _ | omega
      · have hne : ¬ a = b := fun e => he (by rw [e1, e2, e])
        repeat' (first | refine And.intro (by first | omega | (dsimp only; omega) | (show (_ : Bool) = true; kernel_rfl) | (simp; done) | decide | (repeat' (first | refine And.intro ?_ ?_ | exact trivial | exact rfl | (simp; done)))) ?_ | refine bcs_dec (fun h => ?_) (fun h => False.elim (by first | omega | exact h rfl)) | refine bcs_dec (fun h => False.elim (by omega)) (fun h => ?_) | refine bcs_dec (fun h => ?_) (fun h => ?_) | refine bcs_ndec (fun h => ?_) (fun h => ?_) | refine bcs_not ?_ | refine And.intro ?_ ?_ | refine reg_tail (by kernel_rfl) ?_)
        refine bcs_f (by rw [bs_eq]; simpa using he) ?_
        repeat' (first | refine And.intro (by first | omega | (dsimp only; omega) | (show (_ : Bool) = true; kernel_rfl) | (simp; done) | decide | (repeat' (first | refine And.intro ?_ ?_ | exact trivial | exact rfl | (simp; done)))) ?_ | refine bcs_dec (fun h => ?_) (fun h => False.elim (by first | omega | exact h rfl)) | refine bcs_dec (fun h => False.elim (by omega)) (fun h => ?_) | refine bcs_dec (fun h => ?_) (fun h => ?_) | refine bcs_ndec (fun h => ?_) (fun h => ?_) | refine bcs_not ?_ | refine And.intro ?_ ?_ | refine reg_tail (by kernel_rfl) ?_)
        rw [decide_eq_false hne]
        refine ret_plain ?_
        exact rfl
    · have heq : a = b := by
        refine List.ext_getElem hl fun j hj hk => ?_
        have := h2 j (by omega)
        simpa [List.getD_eq_getElem?_getD, hj, hk] using this
      repeat' (first | refine And.intro (by first | omega | (dsimp only; omega) | (show (_ : Bool) = true; kernel_rfl) | decide | (repeat' (first | refine And.intro ?_ ?_ | exact trivial | exact rfl))) ?_ | refine bcs_dec (fun h => ?_) (fun h => False.elim (by first | omega | exact h rfl)) | refine bcs_dec (fun h => False.elim (by omega)) (fun h => ?_) | refine bcs_dec (fun h => ?_) (fun h => ?_) | refine bcs_ndec (fun h => ?_) (fun h => ?_) | refine bcs_not ?_ | refine bcs_intro (fun h => ?_) (fun h => ?_) | refine And.intro ?_ ?_ | refine reg_tail (by kernel_rfl) ?_)
      rw [decide_eq_true heq]
      refine ret_plain ?_
      exact rfl
  · have hne : ¬ a = b := fun e => hl (by rw [e])
    repeat' (first | refine And.intro (by first | omega | (dsimp only; omega) | (show (_ : Bool) = true; kernel_rfl) | decide | (repeat' (first | refine And.intro ?_ ?_ | exact trivial | exact rfl))) ?_ | refine bcs_dec (fun h => ?_) (fun h => False.elim (by first | omega | exact h rfl)) | refine bcs_dec (fun h => False.elim (by omega)) (fun h => ?_) | refine bcs_dec (fun h => ?_) (fun h => ?_) | refine bcs_ndec (fun h => ?_) (fun h => ?_) | refine bcs_not ?_ | refine bcs_intro (fun h => ?_) (fun h => ?_) | refine And.intro ?_ ?_ | refine reg_tail (by kernel_rfl) ?_)
    · rw [decide_eq_false hne]
      refine ret_plain ?_
      exact rfl
    · omega
end Go.Proofs.YtlmjkphiicmclaaDoor

namespace Go.Proofs.YtlmjkphiicmclaaDoor
open Go Go.RowKit Vc
theorem eq50 (a0 a1 a2 a3 b0 b1 b2 b3 : Int) (w : World) : (Op.equalIn 10000 50 (.agg #[.int .i64 a0, .int .i64 a1, .int .i64 a2, .int .i64 a3]) (.agg #[.int .i64 b0, .int .i64 b1, .int .i64 b2, .int .i64 b3])).run Tryd.prog w = .ok (decide (a0 = b0 ∧ a1 = b1 ∧ a2 = b2 ∧ a3 = b3)) w := by
  have u3 := Tryd.underlying3
  have ag3 := fun w => run_isAgg tab_ok (t := 3) rfl w
  have z3 := fun w => tab_size tab_ok (t := 3) rfl w
  simp only [TD.agg] at ag3
  have hS : Tryd.prog.underlying 50 = some (.struct (Tryd.prog.fieldsOf 50)) := by kernel_rfl
  rw [show (10000 : Nat) = 9999 + 1 from rfl, run_equalIn_agg w 9999 50 _ _ hS (by kernel_rfl)]
  simp only [Program.fieldsOf, Tryd.underlying50]
  by_cases h0 : a0 = b0 <;> by_cases h1 : a1 = b1 <;> by_cases h2 : a2 = b2 <;> by_cases h3 : a3 = b3 <;> simp [Op.eqFields, part, ag3, run_equalIn_int w _ _ _ _ _ _ u3, h0, h1, h2, h3]
theorem ext50n {s : St} {x y : Operand} {T2 : Nat} {dst : Option Nat} {ty : TypeId} {pos : String} {after : Array Edge} {guard : Option (Nat × Bool)} {K : SV → Prop} {a0 a1 a2 a3 b0 b1 b2 b3 : Int} (hx : ev s x = .a [.v (.int .i64 a0), .v (.int .i64 a1), .v (.int .i64 a2), .v (.int .i64 a3)]) (hy : ev s y = .a [.v (.int .i64 b0), .v (.int .i64 b1), .v (.int .i64 b2), .v (.int .i64 b3)]) (hk : K (.v (.bool (!decide (a0 = b0 ∧ a1 = b1 ∧ a2 = b2 ∧ a3 = b3))))) :
    ExtV Tryd.prog s ⟨dst, .binOp .neq 50 x y T2, ty, pos, after, guard⟩ K := ext_aggN (vl := [.int .i64 a0, .int .i64 a1, .int .i64 a2, .int .i64 a3]) (vr := [.int .i64 b0, .int .i64 b1, .int .i64 b2, .int .i64 b3]) (by kernel_rfl) (eq50 a0 a1 a2 a3 b0 b1 b2 b3) hx hy rfl rfl hk
end Go.Proofs.YtlmjkphiicmclaaDoor
