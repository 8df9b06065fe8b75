/- How the model finds two structs or arrays of integers equal. Printed by eqs.py. -/
import Derived.Test.YtdabahipeepheaaTab07
namespace Go.Proofs.Ytdabahipeepheaa
open Go Go.RowKit Vc
theorem eq30 (a0 a1 a2 a3 b0 b1 b2 b3 : Int) (w : World) : (Op.equalIn 10000 30 (.agg #[.int .i64 a0, .int .i64 a1, .int .i64 a2, .int .i64 a3]) (.agg #[.int .i64 b0, .int .i64 b1, .int .i64 b2, .int .i64 b3])).run Try.prog w = .ok (decide (a0 = b0 ∧ a1 = b1 ∧ a2 = b2 ∧ a3 = b3)) w := by
  have u3 := Try.underlying3
  have ag3 := fun w => run_isAgg tab_ok (t := 3) rfl w
  have z3 := fun w => tab_size tab_ok (t := 3) rfl w
  simp only [TD.agg] at ag3
  have hS : Try.prog.underlying 30 = some (.struct (Try.prog.fieldsOf 30)) := by kernel_rfl
  rw [show (10000 : Nat) = 9999 + 1 from rfl, run_equalIn_agg w 9999 30 _ _ hS (by kernel_rfl)]
  simp only [Program.fieldsOf, Try.underlying30]
  by_cases h0 : a0 = b0 <;> by_cases h1 : a1 = b1 <;> by_cases h2 : a2 = b2 <;> by_cases h3 : a3 = b3 <;> simp [Op.eqFields, part, ag3, run_equalIn_int w _ _ _ _ _ _ u3, h0, h1, h2, h3]
theorem ext30 {s : St} {x y : Operand} {T2 : Nat} {dst : Option Nat} {ty : TypeId} {pos : String} {after : Array Edge} {guard : Option (Nat × Bool)} {K : SV → Prop} {a0 a1 a2 a3 b0 b1 b2 b3 : Int} (hx : ev s x = .a [.v (.int .i64 a0), .v (.int .i64 a1), .v (.int .i64 a2), .v (.int .i64 a3)]) (hy : ev s y = .a [.v (.int .i64 b0), .v (.int .i64 b1), .v (.int .i64 b2), .v (.int .i64 b3)]) (hk : K (.v (.bool (decide (a0 = b0 ∧ a1 = b1 ∧ a2 = b2 ∧ a3 = b3))))) :
    ExtV Try.prog s ⟨dst, .binOp .eql 30 x y T2, ty, pos, after, guard⟩ K := ext_agg (vl := [.int .i64 a0, .int .i64 a1, .int .i64 a2, .int .i64 a3]) (vr := [.int .i64 b0, .int .i64 b1, .int .i64 b2, .int .i64 b3]) (by kernel_rfl) (eq30 a0 a1 a2 a3 b0 b1 b2 b3) hx hy rfl rfl hk
theorem ext30n {s : St} {x y : Operand} {T2 : Nat} {dst : Option Nat} {ty : TypeId} {pos : String} {after : Array Edge} {guard : Option (Nat × Bool)} {K : SV → Prop} {a0 a1 a2 a3 b0 b1 b2 b3 : Int} (hx : ev s x = .a [.v (.int .i64 a0), .v (.int .i64 a1), .v (.int .i64 a2), .v (.int .i64 a3)]) (hy : ev s y = .a [.v (.int .i64 b0), .v (.int .i64 b1), .v (.int .i64 b2), .v (.int .i64 b3)]) (hk : K (.v (.bool (!decide (a0 = b0 ∧ a1 = b1 ∧ a2 = b2 ∧ a3 = b3))))) :
    ExtV Try.prog s ⟨dst, .binOp .neq 30 x y T2, ty, pos, after, guard⟩ K := ext_aggN (vl := [.int .i64 a0, .int .i64 a1, .int .i64 a2, .int .i64 a3]) (vr := [.int .i64 b0, .int .i64 b1, .int .i64 b2, .int .i64 b3]) (by kernel_rfl) (eq30 a0 a1 a2 a3 b0 b1 b2 b3) hx hy rfl rfl hk
end Go.Proofs.Ytdabahipeepheaa
