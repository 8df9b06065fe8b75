/- Chapter 15: the opening of a case: a script between two lists, a width. -/
import Derived.Test.YtjlobgcmhnkgnaaDoorU0
namespace Go.Proofs.YtjlobgcmhnkgnaaDoor
open Go Go.RowKit Go.ChangeShapes Go.WideShapes Vc

theorem wf_range {n : Int} (h : (Lit.int .i64 n).wf = true) : -9223372036854775808 ≤ n ∧ n ≤ 9223372036854775807 := by
  simp only [Lit.wf, Bool.and_eq_true, decide_eq_true_eq] at h
  exact h
section
variable {H : Type} {enc : TypeId × Value → H} {w : World} {base : Nat} {spare : Nat → Bool} {held : Bool}
theorem open_i {fuel : Nat} {v : Value} {x : DataW H × List MemPlace} (h : DataW.trod enc Tryd.prog w base spare held fuel 3 [v] = some x) : ∃ n, v = .int .i64 n := by
  obtain ⟨n, hn, _⟩ := DataW.trod_int Tryd.underlying3 h
  exact ⟨n, by simpa using hn⟩
set_option maxRecDepth 100000 in
theorem open_case {r : Reach} {b0 : Nat} {v : Value} {d : DataW H} {p : List MemPlace} (hv : Value.okWide Tryd.prog w r b0 34 v) (h : DataW.Trod enc Tryd.prog w base spare held 34 v d p) :
    ∃ (s : List Chg) (a b : List Byt) (n : Int) (c0 c1 c2 : Value) (L0 L1 L2 : Vc.Loc), v = .agg [c0, c1, c2, .int .i64 n].toArray ∧ (s.length * 5 + (a.length + a.flatten.length) + (b.length + b.flatten.length) ≤ Rows.uptoBulk d) ∧
      RowAt w c0 4 s.length (chRow s) L0 ∧ RowAt w c1 1 a.length (stRow a) L1 ∧ RowAt w c2 1 b.length (stRow b) L2 := by
  obtain ⟨cs, ys, m, rfl, rfl, hl, hly, hf⟩ := open_fields Tryd.underlying34 (by kernel_rfl) (by kernel_rfl) hv h
  obtain ⟨c0, y0, e0, g0, t0⟩ := hf 0 _ rfl
  obtain ⟨c1, y1, e1, g1, t1⟩ := hf 1 _ rfl
  obtain ⟨c2, y2, e2, g2, t2⟩ := hf 2 _ rfl
  obtain ⟨c3, y3, e3, g3, t3⟩ := hf 3 _ rfl
  obtain ⟨s, L0, _, h0, _⟩ := open_chg t0
  have q0 : _ ≤ Rows.uptoBulk y0.1 := bulk_chg t0 h0
  obtain ⟨a, L1, _, _, h1, d1⟩ := open_st t1
  have q1 : _ ≤ Rows.uptoBulk y1.1 := bulk_st d1
  obtain ⟨b, L2, _, _, h2, d2⟩ := open_st t2
  have q2 : _ ≤ Rows.uptoBulk y2.1 := bulk_st d2
  obtain ⟨n, rfl⟩ := open_i t3
  refine ⟨s, a, b, n, c0, c1, c2, L0, L1, L2, ?_, ?_, h0, h1, h2⟩
  · match cs, hl with
    | [x0, x1, x2, x3], _ =>
      simp at e0 e1 e2 e3
      rw [e0, e1, e2, e3]
  · match ys, hly with
    | [x0, x1, x2, x3], _ =>
      simp at g0 g1 g2 g3
      subst g0 g1 g2 g3
      simp only [List.map_cons, List.map_nil, Rows.uptoBulk, Rows.uptoBulkAll]
      omega
end
end Go.Proofs.YtjlobgcmhnkgnaaDoor
