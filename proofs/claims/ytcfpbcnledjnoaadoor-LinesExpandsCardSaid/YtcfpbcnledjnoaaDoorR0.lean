/- What the row of this seat needs: the laid variable, a world that meets the condition, the openings. -/
import Derived.Test.YtcfpbcnledjnoaaDoorE5
import Derived.Test.YtcfpbcnledjnoaaDoorVc24
import Derived.Test.YtcfpbcnledjnoaaDoorRows
import Derived.Test.YtcfpbcnledjnoaaDoorTie
import Derived.Test.YtcfpbcnledjnoaaDoorCards
import Derived.LaidLaws
import Derived.LaidHandle
import Derived.Stop.Joined
import Derived.SevenTiedAt
namespace Go.Proofs.YtcfpbcnledjnoaaDoor
open Go Go.RowKit Go.ChangeShapes Go.WideShapes Vc

theorem Tryd.own : ownKnob Tryd.prog.godebug = none := by kernel_rfl
theorem Tryd.et : Tryd.prog.globalNamed "errors.errorType" = some 0 := by kernel_rfl
theorem Tryd.rt : (Tryd.prog.cutTypes.find? (·.1 == "internal/reflectlite.rtype")).map (·.2) = some 83 := by kernel_rfl
theorem Tryd.oneRow : ((List.range 125).filter fun t => Tryd.prog.rowNamed t [101, 114, 114, 111, 114]) = [23] := by kernel_rfl
theorem Tryd.tsize : Tryd.prog.types.size = 125 := by kernel_rfl
/-- All of these types can be read in again. -/
theorem readAll (ts : List TypeId) (h : ts.all (fun t => Tryd.prog.readableRec t && decide (t < Tryd.prog.types.size)) = true) : ∀ t ∈ ts, Tryd.prog.readableRec t = true ∧ t < Tryd.prog.types.size := by
  intro t ht
  have := List.all_eq_true.1 h t ht
  simpa using this
theorem noStand (ts : Array TypeId) (h : ts.toList.all (fun t => Tryd.prog.wantsStandIn t == false) = true) : ∀ (j : Nat) (t : TypeId), ts[j]? = some t → Tryd.prog.wantsStandIn t = false := by
  intro j t ht
  have hm : t ∈ ts.toList := by
    obtain ⟨hj, rfl⟩ := Array.getElem?_eq_some_iff.1 ht
    exact Array.getElem_mem_toList hj
  simpa using List.all_eq_true.1 h t hm
theorem Tryd.laidOut : laidOutB Tryd.prog = true := by kernel_rfl

/-- What the condition gives a walk: the variable's one cell. -/
theorem handle_of_laid {W : World} (h : laidMetH Tryd.prog [("errors.errorType", Rows.laid_errors_errorType)] W) : W.cell? ⟨0, 0, none⟩ = some (.iface 83 (.agg #[.pointer (some ⟨2, 23, none⟩)])) := by
  have h' : laidMet Tryd.prog [] W ∧ handlesMet Tryd.prog [("errors.errorType", Rows.laid_errors_errorType)] W := h
  obtain ⟨name, u, ty, e1, e2, e3, e4, e5⟩ := h'.2 _ (List.mem_singleton.2 rfl)
  have en : name = [101, 114, 114, 111, 114] := (Option.some.inj e1).symm
  subst en
  obtain rfl := Option.some.inj (Tryd.rt.symm.trans e2)
  have hm : ty ∈ (List.range 125).filter fun t => Tryd.prog.rowNamed t [101, 114, 114, 111, 114] := List.mem_filter.2 ⟨List.mem_range.2 (by rw [← Tryd.tsize]; exact e3), e4⟩
  rw [Tryd.oneRow] at hm
  obtain rfl := List.mem_singleton.1 hm
  have hh : typeHandle Tryd.prog 23 = .pointer (some ⟨2, 23, none⟩) := by kernel_rfl
  rw [hh] at e5
  simpa using World.var?_cell Tryd.et e5 0

/-- A world that meets the condition: the settled one, the variable's cell laid. -/
noncomputable def laidWorld (os : Os) : World :=
  let w0 := World.holding Tryd.prog os ⟨#[], #[], []⟩
  { w0 with heap := w0.heap.modify 0 fun
      | .cells _ t frozen => .cells #[.iface 83 (.agg #[.pointer (some ⟨2, 23, none⟩)])] t frozen
      | o => o }
theorem laidWorld_met (os : Os) (args : Array Value) : laidMetH Tryd.prog [("errors.errorType", Rows.laid_errors_errorType)] ((laidWorld os).forCall (fun _ _ => 0) ⟨#[], args, []⟩).memory :=
  laidMetH_of_parts (laidMet_nil _ _) (by kernel_rfl)

theorem glob_of {W : World} (h : laidMetH Tryd.prog [("errors.errorType", Rows.laid_errors_errorType)] W) : ∀ (g : Nat) (v : Value), (g, v) ∈ glob → W.cell? ⟨g, 0, none⟩ = some v := by
  intro g v hm
  obtain ⟨rfl, rfl⟩ : g = 0 ∧ v = _ := by simpa [glob] using hm
  exact handle_of_laid h

section
variable {H : Type} {enc : TypeId × Value → H} {w : World} {base : Nat} {spare : Nat → Bool} {held : Bool}

set_option maxRecDepth 100000 in
/-- A string. -/
theorem open_s {r : Reach} {b0 : Nat} {v : Value} {d : DataW H} {ps : List MemPlace} (hval : Value.okWide Tryd.prog w r b0 9 v) (hd : DataW.Trod enc Tryd.prog w base spare held 9 v d ps) :
    ∃ l : Byt, v = .string (bs l) ∧ d = .lit (.string l) ∧ ps = [] ∧ l.length ≤ maxLen := by
  obtain ⟨s, rfl, rfl, rfl, hs⟩ := Go.ChangeMaps.open_string Tryd.underlying9 hval hd
  refine ⟨s.data.toList, by rw [bs_of], rfl, rfl, ?_⟩
  rw [Array.length_toList]
  exact hs
end
end Go.Proofs.YtcfpbcnledjnoaaDoor
