/- What all rows of this seat share: readings, the openings, what the bound gives. -/
import Derived.Test.YtjlobgcmhnkgnaaL2
import Derived.Test.YtjlobgcmhnkgnaaVc24
import Derived.Test.YtjlobgcmhnkgnaaRows
import Derived.SizedLaws
import Derived.JoinedCond
import Derived.Deep.CondSized
namespace Go.Proofs.Ytjlobgcmhnkgnaa
open Go Go.RowKit Go.ChangeShapes Go.WideShapes Vc

theorem Try.own : ownKnob Try.prog.godebug = none := by kernel_rfl
/-- All of these types can be read in again. -/
theorem readAll (ts : List TypeId) (h : ts.all (fun t => Try.prog.readableRec t && decide (t < Try.prog.types.size)) = true) : ∀ t ∈ ts, Try.prog.readableRec t = true ∧ t < Try.prog.types.size := by
  intro t ht
  have := List.all_eq_true.1 h t ht
  simpa using this
theorem Try.laidOut : laidOutB Try.prog = true := by kernel_rfl

section
variable {H : Type} {enc : TypeId × Value → H} {w : World} {base : Nat} {spare : Nat → Bool} {held : Bool}

/-- A string. -/
theorem open_s {r : Reach} {b0 : Nat} {v : Value} {d : DataW H} {ps : List MemPlace} (hval : Value.okWide Try.prog w r b0 9 v) (hd : DataW.Trod enc Try.prog w base spare held 9 v d ps) :
    ∃ l : Byt, v = .string (bs l) ∧ d = .lit (.string l) ∧ ps = [] ∧ l.length ≤ maxLen := by
  obtain ⟨s, rfl, rfl, rfl, hs⟩ := Go.ChangeMaps.open_string Try.underlying9 hval hd
  refine ⟨s.data.toList, by rw [bs_of], rfl, rfl, ?_⟩
  rw [Array.length_toList]
  exact hs
theorem s_sized {l : Byt} (h : (DataW.weights (H := H) Try.prog 9 (.lit (.string l))).all (· ≤ reachBytes) = true) : l.length ≤ 140737488355328 := by
  simp only [DataW.weights, List.all_cons, Bool.and_eq_true, decide_eq_true_eq] at h
  exact Nat.le_trans h.1 (by decide)

/-- What the bound gives. -/
theorem up_s {l : Byt} {r : List (DataW H)} {m : Nat} (h : Rows.uptoBulkAll (DataW.lit (.string l) :: r) ≤ m) : l.length + 1 ≤ m ∧ Rows.uptoBulkAll r ≤ m := by
  simp only [Rows.uptoBulkAll, Rows.uptoBulk] at h
  omega
end
end Go.Proofs.Ytjlobgcmhnkgnaa
