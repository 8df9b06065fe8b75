/- The openings of the struct arguments of this seat. -/
import Derived.Test.YtiihmggoebohkaaDoorR0
namespace Go.Proofs.YtiihmggoebohkaaDoor
open Go Go.RowKit Go.ChangeShapes Go.WideShapes Vc
section
variable {H : Type} {enc : TypeId × Value → H} {w : World} {base : Nat} {spare : Nat → Bool} {held : Bool}
set_option maxRecDepth 100000 in
theorem open_three {r : Reach} {b0 : Nat} {v : Value} {d : DataW H} {p : List MemPlace} (hv : Value.okWide Tryd.prog w r b0 65 v) (h : DataW.Trod enc Tryd.prog w base spare held 65 v d p) (hz : (DataW.weights Tryd.prog 65 d).all (· ≤ reachBytes) = true) :
    ∃ (x0 : List Chg) (x1 : List Chg) (x2 : List Chg) (x3 x4 x5 x6 : Int) (c0 c1 c2 : Value) (L0 L1 L2 : Vc.Loc), v = .agg [c0, c1, c2, .int .i64 x3, .int .i64 x4, .int .i64 x5, .int .i64 x6].toArray ∧ x0.length * 32 ≤ 140737488355328 ∧ x1.length * 32 ≤ 140737488355328 ∧ x2.length * 32 ≤ 140737488355328 ∧ RowAt w c0 4 x0.length (chRow x0) L0 ∧ RowAt w c1 4 x1.length (chRow x1) L1 ∧ RowAt w c2 4 x2.length (chRow x2) L2 := by
  obtain ⟨cs, ys, n, rfl, rfl, hl, _, hf⟩ := open_fields Tryd.underlying65 (by kernel_rfl) (by kernel_rfl) hv h
  obtain ⟨c0, y0, e0, g0, t0⟩ := hf 0 _ rfl
  obtain ⟨c1, y1, e1, g1, t1⟩ := hf 1 _ rfl
  obtain ⟨c2, y2, e2, g2, t2⟩ := hf 2 _ rfl
  obtain ⟨c3, y3, e3, g3, t3⟩ := hf 3 _ rfl
  obtain ⟨c4, y4, e4, g4, t4⟩ := hf 4 _ rfl
  obtain ⟨c5, y5, e5, g5, t5⟩ := hf 5 _ rfl
  obtain ⟨c6, y6, e6, g6, t6⟩ := hf 6 _ rfl
  obtain ⟨x0, L0, _, h0, z0⟩ := open_chg t0
  obtain ⟨x1, L1, _, h1, z1⟩ := open_chg t1
  obtain ⟨x2, L2, _, h2, z2⟩ := open_chg t2
  obtain ⟨x3, rfl⟩ := open_i t3
  obtain ⟨x4, rfl⟩ := open_i t4
  obtain ⟨x5, rfl⟩ := open_i t5
  obtain ⟨x6, rfl⟩ := open_i t6
  refine ⟨x0, x1, x2, x3, x4, x5, x6, c0, c1, c2, L0, L1, L2, ?_, z0 (sized_field Tryd.underlying65 hz (j := 0) rfl g0), z1 (sized_field Tryd.underlying65 hz (j := 1) rfl g1), z2 (sized_field Tryd.underlying65 hz (j := 2) rfl g2), h0, h1, h2⟩
  match cs, hl with
  | [a0, a1, a2, a3, a4, a5, a6], _ =>
    simp at e0 e1 e2 e3 e4 e5 e6
    rw [e0, e1, e2, e3, e4, e5, e6]

set_option maxRecDepth 100000 in
theorem open_lists {r : Reach} {b0 : Nat} {v : Value} {d : DataW H} {p : List MemPlace} (hv : Value.okWide Tryd.prog w r b0 68 v) (h : DataW.Trod enc Tryd.prog w base spare held 68 v d p) (hz : (DataW.weights Tryd.prog 68 d).all (· ≤ reachBytes) = true) :
    ∃ (x0 : List Int) (x1 : List Int) (x2 : List Int) (x3 : List (Int × Int)) (x4 : List (Int × Int)) (c0 c1 c2 c3 c4 : Value) (L0 L1 L2 L3 L4 : Vc.Loc), v = .agg [c0, c1, c2, c3, c4].toArray ∧ x0.length * 8 ≤ 140737488355328 ∧ x1.length * 8 ≤ 140737488355328 ∧ x2.length * 8 ≤ 140737488355328 ∧ x3.length * 16 ≤ 140737488355328 ∧ x4.length * 16 ≤ 140737488355328 ∧ RowAt w c0 1 x0.length (inRow x0) L0 ∧ RowAt w c1 1 x1.length (inRow x1) L1 ∧ RowAt w c2 1 x2.length (inRow x2) L2 ∧ RowAt w c3 2 x3.length (prRow x3) L3 ∧ RowAt w c4 2 x4.length (prRow x4) L4 := by
  obtain ⟨cs, ys, n, rfl, rfl, hl, _, hf⟩ := open_fields Tryd.underlying68 (by kernel_rfl) (by kernel_rfl) hv h
  obtain ⟨c0, y0, e0, g0, t0⟩ := hf 0 _ rfl
  obtain ⟨c1, y1, e1, g1, t1⟩ := hf 1 _ rfl
  obtain ⟨c2, y2, e2, g2, t2⟩ := hf 2 _ rfl
  obtain ⟨c3, y3, e3, g3, t3⟩ := hf 3 _ rfl
  obtain ⟨c4, y4, e4, g4, t4⟩ := hf 4 _ rfl
  obtain ⟨x0, L0, _, h0, z0⟩ := open_in t0
  obtain ⟨x1, L1, _, h1, z1⟩ := open_in t1
  obtain ⟨x2, L2, _, h2, z2⟩ := open_in t2
  obtain ⟨x3, L3, _, h3, z3⟩ := open_pr t3
  obtain ⟨x4, L4, _, h4, z4⟩ := open_pr t4
  refine ⟨x0, x1, x2, x3, x4, c0, c1, c2, c3, c4, L0, L1, L2, L3, L4, ?_, z0 (sized_field Tryd.underlying68 hz (j := 0) rfl g0), z1 (sized_field Tryd.underlying68 hz (j := 1) rfl g1), z2 (sized_field Tryd.underlying68 hz (j := 2) rfl g2), z3 (sized_field Tryd.underlying68 hz (j := 3) rfl g3), z4 (sized_field Tryd.underlying68 hz (j := 4) rfl g4), h0, h1, h2, h3, h4⟩
  match cs, hl with
  | [a0, a1, a2, a3, a4], _ =>
    simp at e0 e1 e2 e3 e4
    rw [e0, e1, e2, e3, e4]

set_option maxRecDepth 100000 in
theorem open_moved {r : Reach} {b0 : Nat} {v : Value} {d : DataW H} {p : List MemPlace} (hv : Value.okWide Tryd.prog w r b0 72 v) (h : DataW.Trod enc Tryd.prog w base spare held 72 v d p) (hz : (DataW.weights Tryd.prog 72 d).all (· ≤ reachBytes) = true) :
    ∃ (x0 : List Chg) (x1 : List Int) (x2 : List Int) (x3 x4 : Int) (c0 c1 c2 : Value) (L0 L1 L2 : Vc.Loc), v = .agg [c0, c1, c2, .int .i64 x3, .int .i64 x4].toArray ∧ x0.length * 32 ≤ 140737488355328 ∧ x1.length * 8 ≤ 140737488355328 ∧ x2.length * 8 ≤ 140737488355328 ∧ RowAt w c0 4 x0.length (chRow x0) L0 ∧ RowAt w c1 1 x1.length (inRow x1) L1 ∧ RowAt w c2 1 x2.length (inRow x2) L2 := by
  obtain ⟨cs, ys, n, rfl, rfl, hl, _, hf⟩ := open_fields Tryd.underlying72 (by kernel_rfl) (by kernel_rfl) hv h
  obtain ⟨c0, y0, e0, g0, t0⟩ := hf 0 _ rfl
  obtain ⟨c1, y1, e1, g1, t1⟩ := hf 1 _ rfl
  obtain ⟨c2, y2, e2, g2, t2⟩ := hf 2 _ rfl
  obtain ⟨c3, y3, e3, g3, t3⟩ := hf 3 _ rfl
  obtain ⟨c4, y4, e4, g4, t4⟩ := hf 4 _ rfl
  obtain ⟨x0, L0, _, h0, z0⟩ := open_chg t0
  obtain ⟨x1, L1, _, h1, z1⟩ := open_in t1
  obtain ⟨x2, L2, _, h2, z2⟩ := open_in t2
  obtain ⟨x3, rfl⟩ := open_i t3
  obtain ⟨x4, rfl⟩ := open_i t4
  refine ⟨x0, x1, x2, x3, x4, c0, c1, c2, L0, L1, L2, ?_, z0 (sized_field Tryd.underlying72 hz (j := 0) rfl g0), z1 (sized_field Tryd.underlying72 hz (j := 1) rfl g1), z2 (sized_field Tryd.underlying72 hz (j := 2) rfl g2), h0, h1, h2⟩
  match cs, hl with
  | [a0, a1, a2, a3, a4], _ =>
    simp at e0 e1 e2 e3 e4
    rw [e0, e1, e2, e3, e4]

end
end Go.Proofs.YtiihmggoebohkaaDoor
