/- What all rows of this seat share: the laid variable, a world that meets the condition, the openings. -/
import Derived.Test.YtiihmggoebohkaaDoorB4
import Derived.Test.YtiihmggoebohkaaDoorVc24
import Derived.Test.YtiihmggoebohkaaDoorRows
import Derived.Test.YtiihmggoebohkaaDoorTie
import Derived.Test.YtiihmggoebohkaaDoorCards
import Derived.LaidLaws
import Derived.LaidHandle
import Derived.Stop.Joined
import Derived.SevenTiedAt
namespace Go.Proofs.YtiihmggoebohkaaDoor
open Go Go.RowKit Go.ChangeShapes Go.WideShapes Vc

theorem Tryd.own : ownKnob Tryd.prog.godebug = none := by kernel_rfl
theorem Tryd.et : Tryd.prog.globalNamed "errors.errorType" = some 0 := by kernel_rfl
theorem Tryd.rt : (Tryd.prog.cutTypes.find? (·.1 == "internal/reflectlite.rtype")).map (·.2) = some 116 := by kernel_rfl
theorem Tryd.oneRow : ((List.range 178).filter fun t => Tryd.prog.rowNamed t [101, 114, 114, 111, 114]) = [27] := by kernel_rfl
theorem Tryd.tsize : Tryd.prog.types.size = 178 := by kernel_rfl
/-- All of these types can be read in again. -/
theorem readAll (ts : List TypeId) (h : ts.all (fun t => Tryd.prog.readableRec t && decide (t < Tryd.prog.types.size)) = true) : ∀ t ∈ ts, Tryd.prog.readableRec t = true ∧ t < Tryd.prog.types.size := by
  intro t ht
  have := List.all_eq_true.1 h t ht
  simpa using this
theorem noStand (ts : Array TypeId) (h : ts.toList.all (fun t => Tryd.prog.wantsStandIn t == false) = true) : ∀ (j : Nat) (t : TypeId), ts[j]? = some t → Tryd.prog.wantsStandIn t = false := by
  intro j t ht
  have hm : t ∈ ts.toList := by
    obtain ⟨hj, rfl⟩ := Array.getElem?_eq_some_iff.1 ht
    exact Array.getElem_mem_toList hj
  simpa using List.all_eq_true.1 h t hm
theorem Tryd.laidOut : laidOutB Tryd.prog = true := by kernel_rfl

/-- What the condition gives a walk: the variable's one cell. -/
theorem handle_of_laid {W : World} (h : laidMetH Tryd.prog [("errors.errorType", Rows.laid_errors_errorType)] W) : W.cell? ⟨0, 0, none⟩ = some (.iface 116 (.agg #[.pointer (some ⟨1, 27, none⟩)])) := by
  have h' : laidMet Tryd.prog [] W ∧ handlesMet Tryd.prog [("errors.errorType", Rows.laid_errors_errorType)] W := h
  obtain ⟨name, u, ty, e1, e2, e3, e4, e5⟩ := h'.2 _ (List.mem_singleton.2 rfl)
  have en : name = [101, 114, 114, 111, 114] := (Option.some.inj e1).symm
  subst en
  obtain rfl := Option.some.inj (Tryd.rt.symm.trans e2)
  have hm : ty ∈ (List.range 178).filter fun t => Tryd.prog.rowNamed t [101, 114, 114, 111, 114] := List.mem_filter.2 ⟨List.mem_range.2 (by rw [← Tryd.tsize]; exact e3), e4⟩
  rw [Tryd.oneRow] at hm
  obtain rfl := List.mem_singleton.1 hm
  have hh : typeHandle Tryd.prog 27 = .pointer (some ⟨1, 27, none⟩) := by kernel_rfl
  rw [hh] at e5
  simpa using World.var?_cell Tryd.et e5 0

/-- A world that meets the condition: the settled one, the variable's cell laid. -/
noncomputable def laidWorld (os : Os) : World :=
  let w0 := World.holding Tryd.prog os ⟨#[], #[], []⟩
  { w0 with heap := w0.heap.modify 0 fun
      | .cells _ t frozen => .cells #[.iface 116 (.agg #[.pointer (some ⟨1, 27, none⟩)])] t frozen
      | o => o }
theorem laidWorld_met (os : Os) (args : Array Value) : laidMetH Tryd.prog [("errors.errorType", Rows.laid_errors_errorType)] ((laidWorld os).forCall (fun _ _ => 0) ⟨#[], args, []⟩).memory :=
  laidMetH_of_parts (laidMet_nil _ _) (by kernel_rfl)

theorem glob_of {W : World} (h : laidMetH Tryd.prog [("errors.errorType", Rows.laid_errors_errorType)] W) : ∀ (g : Nat) (v : Value), (g, v) ∈ glob → W.cell? ⟨g, 0, none⟩ = some v := by
  intro g v hm
  obtain ⟨rfl, rfl⟩ : g = 0 ∧ v = _ := by simpa [glob] using hm
  exact handle_of_laid h

section
variable {H : Type} {enc : TypeId × Value → H} {w : World} {base : Nat} {spare : Nat → Bool} {held : Bool}
/-- A row of changes. -/
theorem open_chg {fuel : Nat} {v : Value} {x : DataW H × List MemPlace} (h : DataW.trod enc Tryd.prog w base spare held fuel 22 [v] = some x) :
    ∃ (l : List Chg) (L : Vc.Loc), l.length ≤ 9223372036854775807 ∧ RowAt w v 4 l.length (chRow l) L ∧ ((DataW.weights Tryd.prog 22 x.1).all (· ≤ reachBytes) = true → l.length * 32 ≤ 140737488355328) := by
  obtain ⟨l, L, h1, _, h3, h4⟩ := open_row (fun c : Chg => [.int .i64 c.A, .int .i64 c.N, .int .i64 c.B, .int .i64 c.M]) Chg.d (fun _ => True) (sz := 4) (by omega) (fun _ => rfl) (fun y x hx => by
      simp at hx; rcases hx with rfl | rfl | rfl | rfl <;> rfl) Tryd.underlying22 (by kernel_rfl)
    (fun n cs x h => by
      obtain ⟨a, b, c, d, rfl, _⟩ := get_ints4 (P := Tryd.prog) Tryd.underlying48 (by kernel_rfl) ⟨rfl, by kernel_rfl, by kernel_rfl⟩ ⟨rfl, by kernel_rfl, by kernel_rfl⟩ ⟨rfl, by kernel_rfl, by kernel_rfl⟩ ⟨rfl, by kernel_rfl, by kernel_rfl⟩ h
      exact ⟨⟨a, b, c, d⟩, rfl, trivial⟩) h
  exact ⟨l, L, Nat.le_trans h1 (by decide), h3, fun hw => Nat.le_trans (by rw [show Tryd.prog.bytesOf 48 = 32 by kernel_rfl] at h4; exact h4 hw) (by decide)⟩
/-- A row of ints. -/
theorem open_in {fuel : Nat} {v : Value} {x : DataW H × List MemPlace} (h : DataW.trod enc Tryd.prog w base spare held fuel 50 [v] = some x) :
    ∃ (l : List Int) (L : Vc.Loc), l.length ≤ 9223372036854775807 ∧ RowAt w v 1 l.length (inRow l) L ∧ ((DataW.weights Tryd.prog 50 x.1).all (· ≤ reachBytes) = true → l.length * 8 ≤ 140737488355328) := by
  obtain ⟨l, L, h1, _, h3, h4⟩ := open_row_ints Tryd.underlying50 Tryd.underlying3 (by kernel_rfl) h
  exact ⟨l, L, Nat.le_trans h1 (by decide), h3, fun hw => Nat.le_trans (by rw [show Tryd.prog.bytesOf 3 = 8 by kernel_rfl] at h4; exact h4 hw) (by decide)⟩
/-- A row of pairs. -/
theorem open_pr {fuel : Nat} {v : Value} {x : DataW H × List MemPlace} (h : DataW.trod enc Tryd.prog w base spare held fuel 32 [v] = some x) :
    ∃ (l : List (Int × Int)) (L : Vc.Loc), l.length ≤ 9223372036854775807 ∧ RowAt w v 2 l.length (prRow l) L ∧ ((DataW.weights Tryd.prog 32 x.1).all (· ≤ reachBytes) = true → l.length * 16 ≤ 140737488355328) := by
  obtain ⟨l, L, h1, _, h3, h4⟩ := open_row (fun c : Int × Int => [.int .i64 c.1, .int .i64 c.2]) (0, 0) (fun _ => True) (sz := 2) (by omega) (fun _ => rfl) (fun y x hx => by
      simp at hx; rcases hx with rfl | rfl <;> rfl) Tryd.underlying32 (by kernel_rfl)
    (fun n cs x h => by
      obtain ⟨a, b, rfl, _⟩ := get_arr2 (P := Tryd.prog) (i := 3) Tryd.underlying49 (by kernel_rfl) Tryd.underlying3 (by kernel_rfl) h
      exact ⟨(a, b), rfl, trivial⟩) h
  exact ⟨l, L, Nat.le_trans h1 (by decide), h3, fun hw => Nat.le_trans (by rw [show Tryd.prog.bytesOf 49 = 16 by kernel_rfl] at h4; exact h4 hw) (by decide)⟩
theorem open_i {fuel : Nat} {v : Value} {x : DataW H × List MemPlace} (h : DataW.trod enc Tryd.prog w base spare held fuel 3 [v] = some x) : ∃ n, v = .int .i64 n := by
  obtain ⟨n, hn, _⟩ := DataW.trod_int Tryd.underlying3 h
  exact ⟨n, by simpa using hn⟩

set_option maxRecDepth 100000 in
/-- Two scripts and three numbers. -/
theorem open_two {r : Reach} {b0 : Nat} {v : Value} {d : DataW H} {p : List MemPlace} (hv : Value.okWide Tryd.prog w r b0 60 v) (h : DataW.Trod enc Tryd.prog w base spare held 60 v d p) (hz : (DataW.weights Tryd.prog 60 d).all (· ≤ reachBytes) = true) :
    ∃ (s t : List Chg) (n m k : Int) (c0 c1 : Value) (L0 L1 : Vc.Loc), v = .agg [c0, c1, .int .i64 n, .int .i64 m, .int .i64 k].toArray ∧ s.length * 32 ≤ 140737488355328 ∧ t.length * 32 ≤ 140737488355328 ∧ RowAt w c0 4 s.length (chRow s) L0 ∧ RowAt w c1 4 t.length (chRow t) L1 := by
  obtain ⟨cs, ys, n, rfl, rfl, hl, _, hf⟩ := open_fields Tryd.underlying60 (by kernel_rfl) (by kernel_rfl) hv h
  obtain ⟨c0, y0, e0, g0, t0⟩ := hf 0 _ rfl
  obtain ⟨c1, y1, e1, g1, t1⟩ := hf 1 _ rfl
  obtain ⟨c2, y2, e2, g2, t2⟩ := hf 2 _ rfl
  obtain ⟨c3, y3, e3, g3, t3⟩ := hf 3 _ rfl
  obtain ⟨c4, y4, e4, g4, t4⟩ := hf 4 _ rfl
  obtain ⟨s, L0, _, h0, z0⟩ := open_chg t0
  obtain ⟨t, L1, _, h1, z1⟩ := open_chg t1
  obtain ⟨a, rfl⟩ := open_i t2
  obtain ⟨b, rfl⟩ := open_i t3
  obtain ⟨c, rfl⟩ := open_i t4
  refine ⟨s, t, a, b, c, c0, c1, L0, L1, ?_, z0 (sized_field Tryd.underlying60 hz (j := 0) rfl g0), z1 (sized_field Tryd.underlying60 hz (j := 1) rfl g1), h0, h1⟩
  match cs, hl with
  | [x0, x1, x2, x3, x4], _ =>
    simp at e0 e1 e2 e3 e4
    rw [e0, e1, e2, e3, e4]
end
end Go.Proofs.YtiihmggoebohkaaDoor
