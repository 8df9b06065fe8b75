/- How the model finds two structs or arrays of integers equal. Printed by eqs.py. -/
import Derived.Test.YtlmjkphiicmclaaDoorTab18
namespace Go.Proofs.YtlmjkphiicmclaaDoor
open Go Go.RowKit Vc
set_option maxHeartbeats 8000000 in
theorem eq37 (a0 a1 a2 a3 a4 a5 a6 b0 b1 b2 b3 b4 b5 b6 : Int) (w : World) : (Op.equalIn 10000 37 (.agg #[.int .i64 a0, .int .i64 a1, .int .i64 a2, .int .i64 a3, .int .i64 a4, .int .i64 a5, .int .i64 a6]) (.agg #[.int .i64 b0, .int .i64 b1, .int .i64 b2, .int .i64 b3, .int .i64 b4, .int .i64 b5, .int .i64 b6])).run Tryd.prog w = .ok (decide (a0 = b0 ∧ a1 = b1 ∧ a2 = b2 ∧ a3 = b3 ∧ a4 = b4 ∧ a5 = b5 ∧ a6 = b6)) w := by
  have u3 := Tryd.underlying3
  have ag3 := fun w => run_isAgg tab_ok (t := 3) rfl w
  have z3 := fun w => tab_size tab_ok (t := 3) rfl w
  simp only [TD.agg] at ag3
  have hS : Tryd.prog.underlying 37 = some (.struct (Tryd.prog.fieldsOf 37)) := by kernel_rfl
  rw [show (10000 : Nat) = 9999 + 1 from rfl, run_equalIn_agg w 9999 37 _ _ hS (by kernel_rfl)]
  simp only [Program.fieldsOf, Tryd.underlying37]
  by_cases h0 : a0 = b0
  · by_cases h1 : a1 = b1
    · by_cases h2 : a2 = b2
      · by_cases h3 : a3 = b3
        · by_cases h4 : a4 = b4
          · by_cases h5 : a5 = b5
            · by_cases h6 : a6 = b6
              · simp [Op.eqFields, part, ag3, run_equalIn_int w _ _ _ _ _ _ u3, h0, h1, h2, h3, h4, h5, h6]
              · simp [Op.eqFields, part, ag3, run_equalIn_int w _ _ _ _ _ _ u3, h0, h1, h2, h3, h4, h5, h6]
            · simp [Op.eqFields, part, ag3, run_equalIn_int w _ _ _ _ _ _ u3, h0, h1, h2, h3, h4, h5]
          · simp [Op.eqFields, part, ag3, run_equalIn_int w _ _ _ _ _ _ u3, h0, h1, h2, h3, h4]
        · simp [Op.eqFields, part, ag3, run_equalIn_int w _ _ _ _ _ _ u3, h0, h1, h2, h3]
      · simp [Op.eqFields, part, ag3, run_equalIn_int w _ _ _ _ _ _ u3, h0, h1, h2]
    · simp [Op.eqFields, part, ag3, run_equalIn_int w _ _ _ _ _ _ u3, h0, h1]
  · simp [Op.eqFields, part, ag3, run_equalIn_int w _ _ _ _ _ _ u3, h0]
theorem ext37 {s : St} {x y : Operand} {T2 : Nat} {dst : Option Nat} {ty : TypeId} {pos : String} {after : Array Edge} {guard : Option (Nat × Bool)} {K : SV → Prop} {a0 a1 a2 a3 a4 a5 a6 b0 b1 b2 b3 b4 b5 b6 : Int} (hx : ev s x = .a [.v (.int .i64 a0), .v (.int .i64 a1), .v (.int .i64 a2), .v (.int .i64 a3), .v (.int .i64 a4), .v (.int .i64 a5), .v (.int .i64 a6)]) (hy : ev s y = .a [.v (.int .i64 b0), .v (.int .i64 b1), .v (.int .i64 b2), .v (.int .i64 b3), .v (.int .i64 b4), .v (.int .i64 b5), .v (.int .i64 b6)]) (hk : K (.v (.bool (decide (a0 = b0 ∧ a1 = b1 ∧ a2 = b2 ∧ a3 = b3 ∧ a4 = b4 ∧ a5 = b5 ∧ a6 = b6))))) :
    ExtV Tryd.prog s ⟨dst, .binOp .eql 37 x y T2, ty, pos, after, guard⟩ K := ext_agg (vl := [.int .i64 a0, .int .i64 a1, .int .i64 a2, .int .i64 a3, .int .i64 a4, .int .i64 a5, .int .i64 a6]) (vr := [.int .i64 b0, .int .i64 b1, .int .i64 b2, .int .i64 b3, .int .i64 b4, .int .i64 b5, .int .i64 b6]) (by kernel_rfl) (eq37 a0 a1 a2 a3 a4 a5 a6 b0 b1 b2 b3 b4 b5 b6) hx hy rfl rfl hk
theorem ext37n {s : St} {x y : Operand} {T2 : Nat} {dst : Option Nat} {ty : TypeId} {pos : String} {after : Array Edge} {guard : Option (Nat × Bool)} {K : SV → Prop} {a0 a1 a2 a3 a4 a5 a6 b0 b1 b2 b3 b4 b5 b6 : Int} (hx : ev s x = .a [.v (.int .i64 a0), .v (.int .i64 a1), .v (.int .i64 a2), .v (.int .i64 a3), .v (.int .i64 a4), .v (.int .i64 a5), .v (.int .i64 a6)]) (hy : ev s y = .a [.v (.int .i64 b0), .v (.int .i64 b1), .v (.int .i64 b2), .v (.int .i64 b3), .v (.int .i64 b4), .v (.int .i64 b5), .v (.int .i64 b6)]) (hk : K (.v (.bool (!decide (a0 = b0 ∧ a1 = b1 ∧ a2 = b2 ∧ a3 = b3 ∧ a4 = b4 ∧ a5 = b5 ∧ a6 = b6))))) :
    ExtV Tryd.prog s ⟨dst, .binOp .neq 37 x y T2, ty, pos, after, guard⟩ K := ext_aggN (vl := [.int .i64 a0, .int .i64 a1, .int .i64 a2, .int .i64 a3, .int .i64 a4, .int .i64 a5, .int .i64 a6]) (vr := [.int .i64 b0, .int .i64 b1, .int .i64 b2, .int .i64 b3, .int .i64 b4, .int .i64 b5, .int .i64 b6]) (by kernel_rfl) (eq37 a0 a1 a2 a3 a4 a5 a6 b0 b1 b2 b3 b4 b5 b6) hx hy rfl rfl hk
end Go.Proofs.YtlmjkphiicmclaaDoor
