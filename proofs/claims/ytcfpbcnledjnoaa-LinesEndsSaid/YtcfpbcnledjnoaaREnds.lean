/- PROVED: the given statement 'LinesEndsSaid' of this seat: for every string LinesEnds answers true and leaves all as it was. Its conditions are the given statement's own. -/
import Derived.Test.YtcfpbcnledjnoaaR0
import Derived.Test.YtcfpbcnledjnoaaS8
namespace Go.Proofs.Ytcfpbcnledjnoaa
open Go Go.RowKit Go.ChangeShapes Go.WideShapes Vc

set_option maxRecDepth 100000 in
theorem linesEnds_lifted (os : Os) (started : os.Started) (H : Type) (enc : TypeId × Value → H) :
    ReturnsInHanded {} Try.checked os 5 .any (Rows.linesEndsSpec.pre6 enc Try.prog Try.f5 Rows.linesEndsRow.domain false) (Rows.linesEndsSpec.post enc Try.prog Try.f5 false true false false) := by
  refine returnsInHanded_of_change_sized (C := Try.checked) Try.own started (by kernel_rfl) Try.func5
    (ChangeSpec.witness6 (enc := enc) (C := Try.checked) false ⟨#[], #[.string .empty], []⟩ 8 (by kernel_rfl) (by kernel_rfl) (by kernel_rfl) (by kernel_rfl)) ?_
  intro W base args ds gs before hval0 hW _ hsz _
  have hval : ∀ (j : Nat) t v, Try.f5.params[j]? = some t → args[j]? = some v → Value.okWide Try.prog W .any base t v := hval0
  have hA := hW
  obtain ⟨p, q, hA, _⟩ := hA
  have hA : DataW.TrodAll enc Try.prog W 0 (fun _ => true) true Try.f5.params.toList args.toList ds p := hA
  rw [Try.params5] at hA hval
  obtain ⟨v0, d0, rfl, rfl, h0⟩ := trodAll_one hA
  have hpar : Try.f5.params.toList = [9] := by rw [Try.params5]
  have hgs : gs = [] := by
    obtain ⟨_, _, _, hV, _⟩ := hW
    cases gs with
    | nil => rfl
    | cons g r => exact absurd hV (by intro h; cases h)
  subst hgs
  rw [hpar] at hsz
  obtain ⟨l, rfl, rfl, rfl, hi0⟩ := open_s (hval 0 9 v0 rfl rfl) h0
  have z0 := s_sized (sized_at (P := Try.prog) 0 (t := 9) (d := .lit (.string l)) hsz rfl rfl)
  have hr : Try.f5.resultTypes = #[4] := by kernel_rfl
  refine (con_close (ρ := []) (W := W) (vs := [.string (bs l)]) (lawEnds_con l z0) (fun _ _ _ h => h.1) rfl (msat_ro (fun _ _ h => by cases h) ?_ ?_) ?_).mono fun e W' ⟨he, hb⟩ => ⟨_, he, post_true Try.laidOut (by rw [Try.params5]; exact readAll _ (by kernel_rfl)) rfl hr Try.underlying4 hW rfl hb⟩
  · intro c
    exact trivial
  · intro c
    rfl
  · exact ⟨_, _, rfl, rfl, rfl⟩

theorem linesEnds_holds : Rows.LinesEndsSaid :=
  OpenClaim.holds_of_wide 5 Try.f5 rfl rfl rfl rfl rfl rfl rfl ⟨rfl, rfl, rfl, rfl, rfl⟩ rfl rfl rfl rfl rfl (by kernel_rfl) Try.func5 (by kernel_rfl)
    (of_decide_eq_true (by kernel_rfl)) (by unfold Func.isWrapper; rw [if_neg (of_decide_eq_false (by kernel_rfl))]; exact ⟨rfl, rfl⟩)
    (fun os started H enc _ => linesEnds_lifted os started H enc)
#print axioms linesEnds_holds
end Go.Proofs.Ytcfpbcnledjnoaa
