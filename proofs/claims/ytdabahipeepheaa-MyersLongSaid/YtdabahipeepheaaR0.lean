/- What all rows of this seat share: readings, the openings, what the bound gives. -/
import Derived.Test.YtdabahipeepheaaS14
import Derived.Test.YtdabahipeepheaaVc24
import Derived.Test.YtdabahipeepheaaRows
import Derived.SliceStrings
import Derived.SizedLaws
import Derived.JoinedCond
import Derived.Deep.CondSized
namespace Go.Proofs.Ytdabahipeepheaa
open Go Go.RowKit Go.ChangeShapes Go.WideShapes Vc

theorem Try.own : ownKnob Try.prog.godebug = none := by kernel_rfl
/-- All of these types can be read in again. -/
theorem readAll (ts : List TypeId) (h : ts.all (fun t => Try.prog.readableRec t && decide (t < Try.prog.types.size)) = true) : ∀ t ∈ ts, Try.prog.readableRec t = true ∧ t < Try.prog.types.size := by
  intro t ht
  have := List.all_eq_true.1 h t ht
  simpa using this
theorem Try.laidOut : laidOutB Try.prog = true := by kernel_rfl

section
variable {H : Type} {enc : TypeId × Value → H} {w : World} {base : Nat} {spare : Nat → Bool} {held : Bool}

theorem bulk_pos (d : DataW H) : 1 ≤ Rows.uptoBulk d := by
  cases d with
  | lit l => cases l <;> simp [Rows.uptoBulk]
  | _ => simp [Rows.uptoBulk]
theorem bulk_all : ∀ L : List (DataW H), L.length ≤ Rows.uptoBulkAll L
  | [] => Nat.zero_le _
  | x :: r => by
    have h1 := bulk_pos x
    have h2 := bulk_all r
    simp only [Rows.uptoBulkAll, List.length_cons]
    omega
/-- A row of ints. -/
theorem open_it {fuel : Nat} {v : Value} {x : DataW H × List MemPlace} (h : DataW.trod enc Try.prog w base spare held fuel 22 [v] = some x) :
    ∃ (l : List Int) (K : Vc.Loc), l.length ≤ 9223372036854775807 ∧ (∀ y ∈ l, (Lit.int .i64 y).wf = true) ∧ Vc.RowAt w v 1 l.length (iRow (lA l)) K ∧ l.length ≤ Rows.uptoBulk x.1 := by
  obtain ⟨l, L, h1, h2, h3, _⟩ := open_row_ints (P := Try.prog) Try.underlying22 Try.underlying3 (by kernel_rfl) h
  refine ⟨l, L, Nat.le_trans h1 (by decide), h2, h3, ?_⟩
  obtain ⟨_, A, k, _, hv, _⟩ := rel_s (h3.rel (c := 0) (ρ := [L]) rfl)
  rcases Go.Deep.open_slice Try.underlying22 h with ⟨h0, _⟩ | ⟨a, len, cap, m, n, D, Pl, hcs, _, _, _, _, rfl, _⟩
  · have h0 : v = .slice none 0 0 := by simpa using h0
    rw [hv] at h0
    have : l.length = 0 := by injection h0
    omega
  · have h0 : v = .slice (some a) len cap := by simpa using hcs
    rw [hv] at h0
    have : l.length = len := by injection h0
    have h4 := bulk_all ((List.range len).map D)
    simp only [List.length_map, List.length_range] at h4
    simp only [Rows.uptoBulk]
    omega
theorem up_it {d : DataW H} {L : List Int} (hd : L.length ≤ Rows.uptoBulk d) {r : List (DataW H)} {m : Nat} (h : Rows.uptoBulkAll (d :: r) ≤ m) : L.length ≤ m ∧ Rows.uptoBulkAll r ≤ m := by
  simp only [Rows.uptoBulkAll] at h
  omega
end
end Go.Proofs.Ytdabahipeepheaa
