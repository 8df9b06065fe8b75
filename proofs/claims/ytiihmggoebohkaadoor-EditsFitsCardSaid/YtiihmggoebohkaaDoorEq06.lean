/- How the model finds two structs or arrays of integers equal. Printed by eqs.py. -/
import Derived.Test.YtiihmggoebohkaaDoorTab06
namespace Go.Proofs.YtiihmggoebohkaaDoor
open Go Go.RowKit Vc
theorem eq48 (a0 a1 a2 a3 b0 b1 b2 b3 : Int) (w : World) : (Op.equalIn 10000 48 (.agg #[.int .i64 a0, .int .i64 a1, .int .i64 a2, .int .i64 a3]) (.agg #[.int .i64 b0, .int .i64 b1, .int .i64 b2, .int .i64 b3])).run Tryd.prog w = .ok (decide (a0 = b0 ∧ a1 = b1 ∧ a2 = b2 ∧ a3 = b3)) w := by
  have u3 := Tryd.underlying3
  have ag3 := fun w => run_isAgg tab_ok (t := 3) rfl w
  have z3 := fun w => tab_size tab_ok (t := 3) rfl w
  simp only [TD.agg] at ag3
  have hS : Tryd.prog.underlying 48 = some (.struct (Tryd.prog.fieldsOf 48)) := by kernel_rfl
  rw [show (10000 : Nat) = 9999 + 1 from rfl, run_equalIn_agg w 9999 48 _ _ hS (by kernel_rfl)]
  simp only [Program.fieldsOf, Tryd.underlying48]
  by_cases h0 : a0 = b0 <;> by_cases h1 : a1 = b1 <;> by_cases h2 : a2 = b2 <;> by_cases h3 : a3 = b3 <;> simp [Op.eqFields, part, ag3, run_equalIn_int w _ _ _ _ _ _ u3, h0, h1, h2, h3]
theorem ext48 {s : St} {x y : Operand} {T2 : Nat} {dst : Option Nat} {ty : TypeId} {pos : String} {after : Array Edge} {guard : Option (Nat × Bool)} {K : SV → Prop} {a0 a1 a2 a3 b0 b1 b2 b3 : Int} (hx : ev s x = .a [.v (.int .i64 a0), .v (.int .i64 a1), .v (.int .i64 a2), .v (.int .i64 a3)]) (hy : ev s y = .a [.v (.int .i64 b0), .v (.int .i64 b1), .v (.int .i64 b2), .v (.int .i64 b3)]) (hk : K (.v (.bool (decide (a0 = b0 ∧ a1 = b1 ∧ a2 = b2 ∧ a3 = b3))))) :
    ExtV Tryd.prog s ⟨dst, .binOp .eql 48 x y T2, ty, pos, after, guard⟩ K := ext_agg (vl := [.int .i64 a0, .int .i64 a1, .int .i64 a2, .int .i64 a3]) (vr := [.int .i64 b0, .int .i64 b1, .int .i64 b2, .int .i64 b3]) (by kernel_rfl) (eq48 a0 a1 a2 a3 b0 b1 b2 b3) hx hy rfl rfl hk
theorem ext48n {s : St} {x y : Operand} {T2 : Nat} {dst : Option Nat} {ty : TypeId} {pos : String} {after : Array Edge} {guard : Option (Nat × Bool)} {K : SV → Prop} {a0 a1 a2 a3 b0 b1 b2 b3 : Int} (hx : ev s x = .a [.v (.int .i64 a0), .v (.int .i64 a1), .v (.int .i64 a2), .v (.int .i64 a3)]) (hy : ev s y = .a [.v (.int .i64 b0), .v (.int .i64 b1), .v (.int .i64 b2), .v (.int .i64 b3)]) (hk : K (.v (.bool (!decide (a0 = b0 ∧ a1 = b1 ∧ a2 = b2 ∧ a3 = b3))))) :
    ExtV Tryd.prog s ⟨dst, .binOp .neq 48 x y T2, ty, pos, after, guard⟩ K := ext_aggN (vl := [.int .i64 a0, .int .i64 a1, .int .i64 a2, .int .i64 a3]) (vr := [.int .i64 b0, .int .i64 b1, .int .i64 b2, .int .i64 b3]) (by kernel_rfl) (eq48 a0 a1 a2 a3 b0 b1 b2 b3) hx hy rfl rfl hk
theorem eq49 (a0 a1 b0 b1 : Int) (w : World) : (Op.equalIn 10000 49 (.agg #[.int .i64 a0, .int .i64 a1]) (.agg #[.int .i64 b0, .int .i64 b1])).run Tryd.prog w = .ok (decide (a0 = b0 ∧ a1 = b1)) w := by
  have u3 := Tryd.underlying3
  have ag3 := fun w => run_isAgg tab_ok (t := 3) rfl w
  have z3 := fun w => tab_size tab_ok (t := 3) rfl w
  simp only [TD.agg] at ag3
  rw [show (10000 : Nat) = 9999 + 1 from rfl, Op.equalIn]
  simp only [Sem.run_bind, run_underlying Tryd.underlying49, Result.andThen_ok]
  simp only [Std.Legacy.Range.forIn_eq_forIn_range', Std.Legacy.Range.size, Nat.sub_zero, Nat.add_sub_cancel, Nat.div_one, List.range'_succ, List.range'_zero, List.forIn_cons, List.forIn_nil]
  by_cases h0 : a0 = b0 <;> by_cases h1 : a1 = b1 <;> simp [part, ag3, z3, run_equalIn_int w _ _ _ _ _ _ u3, h0, h1]
theorem ext49 {s : St} {x y : Operand} {T2 : Nat} {dst : Option Nat} {ty : TypeId} {pos : String} {after : Array Edge} {guard : Option (Nat × Bool)} {K : SV → Prop} {a0 a1 b0 b1 : Int} (hx : ev s x = .a [.v (.int .i64 a0), .v (.int .i64 a1)]) (hy : ev s y = .a [.v (.int .i64 b0), .v (.int .i64 b1)]) (hk : K (.v (.bool (decide (a0 = b0 ∧ a1 = b1))))) :
    ExtV Tryd.prog s ⟨dst, .binOp .eql 49 x y T2, ty, pos, after, guard⟩ K := ext_agg (vl := [.int .i64 a0, .int .i64 a1]) (vr := [.int .i64 b0, .int .i64 b1]) (by kernel_rfl) (eq49 a0 a1 b0 b1) hx hy rfl rfl hk
theorem ext49n {s : St} {x y : Operand} {T2 : Nat} {dst : Option Nat} {ty : TypeId} {pos : String} {after : Array Edge} {guard : Option (Nat × Bool)} {K : SV → Prop} {a0 a1 b0 b1 : Int} (hx : ev s x = .a [.v (.int .i64 a0), .v (.int .i64 a1)]) (hy : ev s y = .a [.v (.int .i64 b0), .v (.int .i64 b1)]) (hk : K (.v (.bool (!decide (a0 = b0 ∧ a1 = b1))))) :
    ExtV Tryd.prog s ⟨dst, .binOp .neq 49 x y T2, ty, pos, after, guard⟩ K := ext_aggN (vl := [.int .i64 a0, .int .i64 a1]) (vr := [.int .i64 b0, .int .i64 b1]) (by kernel_rfl) (eq49 a0 a1 b0 b1) hx hy rfl rfl hk
theorem eq80 (a0 a1 a2 b0 b1 b2 : Int) (w : World) : (Op.equalIn 10000 80 (.agg #[.int .i64 a0, .int .i64 a1, .int .i64 a2]) (.agg #[.int .i64 b0, .int .i64 b1, .int .i64 b2])).run Tryd.prog w = .ok (decide (a0 = b0 ∧ a1 = b1 ∧ a2 = b2)) w := by
  have u3 := Tryd.underlying3
  have ag3 := fun w => run_isAgg tab_ok (t := 3) rfl w
  have z3 := fun w => tab_size tab_ok (t := 3) rfl w
  simp only [TD.agg] at ag3
  have hS : Tryd.prog.underlying 80 = some (.struct (Tryd.prog.fieldsOf 80)) := by kernel_rfl
  rw [show (10000 : Nat) = 9999 + 1 from rfl, run_equalIn_agg w 9999 80 _ _ hS (by kernel_rfl)]
  simp only [Program.fieldsOf, Tryd.underlying80]
  by_cases h0 : a0 = b0 <;> by_cases h1 : a1 = b1 <;> by_cases h2 : a2 = b2 <;> simp [Op.eqFields, part, ag3, run_equalIn_int w _ _ _ _ _ _ u3, h0, h1, h2]
theorem ext80 {s : St} {x y : Operand} {T2 : Nat} {dst : Option Nat} {ty : TypeId} {pos : String} {after : Array Edge} {guard : Option (Nat × Bool)} {K : SV → Prop} {a0 a1 a2 b0 b1 b2 : Int} (hx : ev s x = .a [.v (.int .i64 a0), .v (.int .i64 a1), .v (.int .i64 a2)]) (hy : ev s y = .a [.v (.int .i64 b0), .v (.int .i64 b1), .v (.int .i64 b2)]) (hk : K (.v (.bool (decide (a0 = b0 ∧ a1 = b1 ∧ a2 = b2))))) :
    ExtV Tryd.prog s ⟨dst, .binOp .eql 80 x y T2, ty, pos, after, guard⟩ K := ext_agg (vl := [.int .i64 a0, .int .i64 a1, .int .i64 a2]) (vr := [.int .i64 b0, .int .i64 b1, .int .i64 b2]) (by kernel_rfl) (eq80 a0 a1 a2 b0 b1 b2) hx hy rfl rfl hk
theorem ext80n {s : St} {x y : Operand} {T2 : Nat} {dst : Option Nat} {ty : TypeId} {pos : String} {after : Array Edge} {guard : Option (Nat × Bool)} {K : SV → Prop} {a0 a1 a2 b0 b1 b2 : Int} (hx : ev s x = .a [.v (.int .i64 a0), .v (.int .i64 a1), .v (.int .i64 a2)]) (hy : ev s y = .a [.v (.int .i64 b0), .v (.int .i64 b1), .v (.int .i64 b2)]) (hk : K (.v (.bool (!decide (a0 = b0 ∧ a1 = b1 ∧ a2 = b2))))) :
    ExtV Tryd.prog s ⟨dst, .binOp .neq 80 x y T2, ty, pos, after, guard⟩ K := ext_aggN (vl := [.int .i64 a0, .int .i64 a1, .int .i64 a2]) (vr := [.int .i64 b0, .int .i64 b1, .int .i64 b2]) (by kernel_rfl) (eq80 a0 a1 a2 b0 b1 b2) hx hy rfl rfl hk
theorem eq81 (a0 a1 a2 b0 b1 b2 : Int) (w : World) : (Op.equalIn 10000 81 (.agg #[.int .i64 a0, .int .i64 a1, .int .i64 a2]) (.agg #[.int .i64 b0, .int .i64 b1, .int .i64 b2])).run Tryd.prog w = .ok (decide (a0 = b0 ∧ a1 = b1 ∧ a2 = b2)) w := by
  have u3 := Tryd.underlying3
  have ag3 := fun w => run_isAgg tab_ok (t := 3) rfl w
  have z3 := fun w => tab_size tab_ok (t := 3) rfl w
  simp only [TD.agg] at ag3
  have hS : Tryd.prog.underlying 81 = some (.struct (Tryd.prog.fieldsOf 81)) := by kernel_rfl
  rw [show (10000 : Nat) = 9999 + 1 from rfl, run_equalIn_agg w 9999 81 _ _ hS (by kernel_rfl)]
  simp only [Program.fieldsOf, Tryd.underlying81]
  by_cases h0 : a0 = b0 <;> by_cases h1 : a1 = b1 <;> by_cases h2 : a2 = b2 <;> simp [Op.eqFields, part, ag3, run_equalIn_int w _ _ _ _ _ _ u3, h0, h1, h2]
theorem ext81 {s : St} {x y : Operand} {T2 : Nat} {dst : Option Nat} {ty : TypeId} {pos : String} {after : Array Edge} {guard : Option (Nat × Bool)} {K : SV → Prop} {a0 a1 a2 b0 b1 b2 : Int} (hx : ev s x = .a [.v (.int .i64 a0), .v (.int .i64 a1), .v (.int .i64 a2)]) (hy : ev s y = .a [.v (.int .i64 b0), .v (.int .i64 b1), .v (.int .i64 b2)]) (hk : K (.v (.bool (decide (a0 = b0 ∧ a1 = b1 ∧ a2 = b2))))) :
    ExtV Tryd.prog s ⟨dst, .binOp .eql 81 x y T2, ty, pos, after, guard⟩ K := ext_agg (vl := [.int .i64 a0, .int .i64 a1, .int .i64 a2]) (vr := [.int .i64 b0, .int .i64 b1, .int .i64 b2]) (by kernel_rfl) (eq81 a0 a1 a2 b0 b1 b2) hx hy rfl rfl hk
theorem ext81n {s : St} {x y : Operand} {T2 : Nat} {dst : Option Nat} {ty : TypeId} {pos : String} {after : Array Edge} {guard : Option (Nat × Bool)} {K : SV → Prop} {a0 a1 a2 b0 b1 b2 : Int} (hx : ev s x = .a [.v (.int .i64 a0), .v (.int .i64 a1), .v (.int .i64 a2)]) (hy : ev s y = .a [.v (.int .i64 b0), .v (.int .i64 b1), .v (.int .i64 b2)]) (hk : K (.v (.bool (!decide (a0 = b0 ∧ a1 = b1 ∧ a2 = b2))))) :
    ExtV Tryd.prog s ⟨dst, .binOp .neq 81 x y T2, ty, pos, after, guard⟩ K := ext_aggN (vl := [.int .i64 a0, .int .i64 a1, .int .i64 a2]) (vr := [.int .i64 b0, .int .i64 b1, .int .i64 b2]) (by kernel_rfl) (eq81 a0 a1 a2 b0 b1 b2) hx hy rfl rfl hk
end Go.Proofs.YtiihmggoebohkaaDoor
