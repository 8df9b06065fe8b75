/- PROVED: the given statement 'LinesPlainUptoSaid' of this seat: for every string and every width LinesPlain answers true and leaves all as it was. Its conditions are the given statement's own (what is handed in is of bulk at most 1048576). -/
import Derived.Test.YtcfpbcnledjnoaaR0
import Derived.Test.YtcfpbcnledjnoaaE3
namespace Go.Proofs.Ytcfpbcnledjnoaa
open Go Go.RowKit Go.ChangeShapes Go.WideShapes Vc

set_option maxRecDepth 100000 in
theorem linesPlain_lifted (os : Os) (started : os.Started) (H : Type) (enc : TypeId × Value → H) (F : Stop.Interp) :
    ReturnsInHanded {} Try.checked os 9 .any ((Rows.OpenSpec.upto Rows.linesPlainSpec).pre6 enc Try.prog Try.f9 Rows.linesPlainUptoRow.domain false) (((Rows.OpenSpec.upto Rows.linesPlainSpec).at F).post enc Try.prog Try.f9 false true false false) := by
  refine returnsInHanded_of_cond (C := Try.checked) (s := Rows.OpenSpec.upto Rows.linesPlainSpec) (k := Rows.uptoSmall) rfl Try.own started (by kernel_rfl) Try.func9
    (OpenSpec.witness (enc := enc) (C := Try.checked) (s := Rows.OpenSpec.upto Rows.linesPlainSpec) (k := Rows.uptoSmall) rfl false ⟨#[], #[.string .empty, .int .i64 0], []⟩ 8 (by kernel_rfl) (by kernel_rfl) (by kernel_rfl)
      (x := ([.lit (.string []), .lit (.int .i64 0)], [], [])) (by kernel_rfl) rfl (by kernel_rfl)) ?_
  intro W base args ds gs before hval0 hW _ hk _
  have hval : ∀ (j : Nat) t v, Try.f9.params[j]? = some t → args[j]? = some v → Value.okWide Try.prog W .any base t v := hval0
  have hA := hW
  obtain ⟨p, q, hA, _⟩ := hA
  have hA : DataW.TrodAll enc Try.prog W 0 (fun _ => true) true Try.f9.params.toList args.toList ds p := hA
  rw [Try.params9] at hA hval
  obtain ⟨v0, v1, d0, d1, p0, p1, rfl, rfl, rfl, h0, h1⟩ := trodAll_two hA
  have hpar : Try.f9.params.toList = [9, 3] := by rw [Try.params9]
  have hgs : gs = [] := by
    obtain ⟨_, _, _, hV, _⟩ := hW
    cases gs with
    | nil => rfl
    | cons g r => exact absurd hV (by intro h; cases h)
  subst hgs
  obtain ⟨s, rfl, rfl, rfl, hi0⟩ := open_s (hval 0 9 v0 rfl rfl) h0
  obtain ⟨w, rfl, rfl, rfl, hi1⟩ := open_int Try.underlying3 (hval 1 3 v1 rfl rfl) h1
  have hk0 : Rows.uptoBulkAll _ ≤ 1048576 := of_decide_eq_true hk
  simp only [List.append_nil] at hk0
  obtain ⟨b0, hk1⟩ := up_s hk0
  have hk2 := up_i hk1
  have hr : Try.f9.resultTypes = #[4] := by kernel_rfl
  refine (con_close (ρ := []) (W := W) (vs := [.string (bs s), .int .i64 w]) (lawPlain_con s w (by omega)) (fun _ _ _ h => h.1) rfl (msat_ro (fun _ _ h => by cases h) ?_ ?_) ?_).mono fun e W' ⟨he, hb⟩ => ⟨_, he, post_true Try.laidOut (by rw [Try.params9]; exact readAll _ (by kernel_rfl)) rfl hr Try.underlying4 hW rfl hb⟩
  · intro c
    exact trivial
  · intro c
    rfl
  · exact ⟨_, _, rfl, rfl, ⟨_, _, rfl, rfl, rfl⟩⟩

theorem linesPlain_upto_holds : Rows.LinesPlainUptoSaid :=
  OpenClaim.holds_of_cond 9 Try.f9 rfl rfl rfl rfl rfl rfl rfl ⟨rfl, rfl, rfl, rfl, rfl⟩ rfl rfl rfl rfl rfl (by kernel_rfl) Try.func9 (by kernel_rfl)
    (of_decide_eq_true (by kernel_rfl)) (by unfold Func.isWrapper; rw [if_neg (of_decide_eq_false (by kernel_rfl))]; exact ⟨rfl, rfl⟩)
    (fun os started H enc _ F => linesPlain_lifted os started H enc F)
#print axioms linesPlain_upto_holds
end Go.Proofs.Ytcfpbcnledjnoaa
