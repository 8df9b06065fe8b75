/- PROVED: the given statement 'LinesPlacesSaid' of this seat: for every string and every offset LinesPlaces answers true and leaves all as it was. Its conditions are the given statement's own. -/
import Derived.Test.YtcfpbcnledjnoaaR0
import Derived.Test.YtcfpbcnledjnoaaS8
namespace Go.Proofs.Ytcfpbcnledjnoaa
open Go Go.RowKit Go.ChangeShapes Go.WideShapes Vc

set_option maxRecDepth 100000 in
theorem linesPlaces_lifted (os : Os) (started : os.Started) (H : Type) (enc : TypeId × Value → H) :
    ReturnsInHanded {} Try.checked os 6 .any (Rows.linesPlacesSpec.pre6 enc Try.prog Try.f6 Rows.linesPlacesRow.domain false) (Rows.linesPlacesSpec.post enc Try.prog Try.f6 false true false false) := by
  refine returnsInHanded_of_change_sized (C := Try.checked) Try.own started (by kernel_rfl) Try.func6
    (ChangeSpec.witness6 (enc := enc) (C := Try.checked) false ⟨#[], #[.string .empty, .int .i64 0], []⟩ 8 (by kernel_rfl) (by kernel_rfl) (by kernel_rfl) (by kernel_rfl)) ?_
  intro W base args ds gs before hval0 hW _ hsz _
  have hval : ∀ (j : Nat) t v, Try.f6.params[j]? = some t → args[j]? = some v → Value.okWide Try.prog W .any base t v := hval0
  have hA := hW
  obtain ⟨p, q, hA, _⟩ := hA
  have hA : DataW.TrodAll enc Try.prog W 0 (fun _ => true) true Try.f6.params.toList args.toList ds p := hA
  rw [Try.params6] at hA hval
  obtain ⟨v0, v1, d0, d1, p0, p1, rfl, rfl, rfl, h0, h1⟩ := trodAll_two hA
  have hpar : Try.f6.params.toList = [9, 3] := by rw [Try.params6]
  have hgs : gs = [] := by
    obtain ⟨_, _, _, hV, _⟩ := hW
    cases gs with
    | nil => rfl
    | cons g r => exact absurd hV (by intro h; cases h)
  subst hgs
  rw [hpar] at hsz
  obtain ⟨l, rfl, rfl, rfl, hi0⟩ := open_s (hval 0 9 v0 rfl rfl) h0
  have z0 := s_sized (sized_at (P := Try.prog) 0 (t := 9) (d := .lit (.string l)) hsz rfl rfl)
  obtain ⟨o, rfl, rfl, rfl, hi1⟩ := open_int Try.underlying3 (hval 1 3 v1 rfl rfl) h1
  have hr : Try.f6.resultTypes = #[4] := by kernel_rfl
  refine (con_close (ρ := []) (W := W) (vs := [.string (bs l), .int .i64 o]) (lawPlaces_con l o z0) (fun _ _ _ h => h.1) rfl (msat_ro (fun _ _ h => by cases h) ?_ ?_) ?_).mono fun e W' ⟨he, hb⟩ => ⟨_, he, post_true Try.laidOut (by rw [Try.params6]; exact readAll _ (by kernel_rfl)) rfl hr Try.underlying4 hW rfl hb⟩
  · intro c
    exact trivial
  · intro c
    rfl
  · exact ⟨_, _, rfl, rfl, ⟨_, _, rfl, rfl, rfl⟩⟩

theorem linesPlaces_holds : Rows.LinesPlacesSaid :=
  OpenClaim.holds_of_wide 6 Try.f6 rfl rfl rfl rfl rfl rfl rfl ⟨rfl, rfl, rfl, rfl, rfl⟩ rfl rfl rfl rfl rfl (by kernel_rfl) Try.func6 (by kernel_rfl)
    (of_decide_eq_true (by kernel_rfl)) (by unfold Func.isWrapper; rw [if_neg (of_decide_eq_false (by kernel_rfl))]; exact ⟨rfl, rfl⟩)
    (fun os started H enc _ => linesPlaces_lifted os started H enc)
#print axioms linesPlaces_holds
end Go.Proofs.Ytcfpbcnledjnoaa
