/- PROVED: the given statement 'LinesJoinsUptoSaid' of this seat: for every list of strings LinesJoins answers true and leaves all as it was. Its conditions are the given statement's own (what is handed in is of bulk at most 1048576). -/
import Derived.Test.YtcfpbcnledjnoaaR0
import Derived.Test.YtcfpbcnledjnoaaS8
namespace Go.Proofs.Ytcfpbcnledjnoaa
open Go Go.RowKit Go.ChangeShapes Go.WideShapes Vc

set_option maxRecDepth 100000 in
theorem linesJoins_lifted (os : Os) (started : os.Started) (H : Type) (enc : TypeId × Value → H) (F : Stop.Interp) :
    ReturnsInHanded {} Try.checked os 4 .any ((Rows.OpenSpec.upto Rows.linesJoinsSpec).pre6 enc Try.prog Try.f4 Rows.linesJoinsUptoRow.domain false) (((Rows.OpenSpec.upto Rows.linesJoinsSpec).at F).post enc Try.prog Try.f4 false true false false) := by
  refine returnsInHanded_of_cond (C := Try.checked) (s := Rows.OpenSpec.upto Rows.linesJoinsSpec) (k := Rows.uptoSmall) rfl Try.own started (by kernel_rfl) Try.func4
    (OpenSpec.witness (enc := enc) (C := Try.checked) (s := Rows.OpenSpec.upto Rows.linesJoinsSpec) (k := Rows.uptoSmall) rfl false ⟨#[], #[.slice none 0 0], []⟩ 8 (by kernel_rfl) (by kernel_rfl) (by kernel_rfl)
      (x := ([.nil], [], [])) (by kernel_rfl) rfl (by kernel_rfl)) ?_
  intro W base args ds gs before hval0 hW _ hk _
  have hval : ∀ (j : Nat) t v, Try.f4.params[j]? = some t → args[j]? = some v → Value.okWide Try.prog W .any base t v := hval0
  have hA := hW
  obtain ⟨p, q, hA, _⟩ := hA
  have hA : DataW.TrodAll enc Try.prog W 0 (fun _ => true) true Try.f4.params.toList args.toList ds p := hA
  rw [Try.params4] at hA hval
  obtain ⟨v0, d0, rfl, rfl, h0⟩ := trodAll_one hA
  have hpar : Try.f4.params.toList = [23] := by rw [Try.params4]
  have hgs : gs = [] := by
    obtain ⟨_, _, _, hV, _⟩ := hW
    cases gs with
    | nil => rfl
    | cons g r => exact absurd hV (by intro h; cases h)
  subst hgs
  obtain ⟨fuel0, h0⟩ := trod_slice_cell Try.underlying23 (hval 0 23 v0 rfl rfl) h0
  obtain ⟨L, K0, hn0, hx0, hR0, hd0⟩ := open_st h0
  have hk0 : Rows.uptoBulkAll _ ≤ 1048576 := of_decide_eq_true hk
  simp only [List.append_nil] at hk0
  obtain ⟨b0, hk1⟩ := up_st hd0 hk0
  have hr : Try.f4.resultTypes = #[4] := by kernel_rfl
  refine (con_close (ρ := [K0]) (W := W) (vs := [v0]) (lawJoins_con L (by omega) (by omega) (fun x h => by have := len_flat h; omega)) (fun _ _ _ h => h.1) rfl (msat_ro (fun _ _ h => by cases h) ?_ ?_) ?_).mono fun e W' ⟨he, hb⟩ => ⟨_, he, post_true Try.laidOut (by rw [Try.params4]; exact readAll _ (by kernel_rfl)) rfl hr Try.underlying4 hW rfl hb⟩
  · intro c
    match c with
    | 0 => exact (hR0 0 [K0] rfl).2 _
    | c + 1 => exact trivial
  · intro c
    match c with
    | 0 => rfl
    | c + 1 => rfl
  · exact ⟨_, _, rfl, (hR0 0 [K0] rfl).1, rfl⟩

theorem linesJoins_upto_holds : Rows.LinesJoinsUptoSaid :=
  OpenClaim.holds_of_cond 4 Try.f4 rfl rfl rfl rfl rfl rfl rfl ⟨rfl, rfl, rfl, rfl, rfl⟩ rfl rfl rfl rfl rfl (by kernel_rfl) Try.func4 (by kernel_rfl)
    (of_decide_eq_true (by kernel_rfl)) (by unfold Func.isWrapper; rw [if_neg (of_decide_eq_false (by kernel_rfl))]; exact ⟨rfl, rfl⟩)
    (fun os started H enc _ F => linesJoins_lifted os started H enc F)
#print axioms linesJoins_upto_holds
end Go.Proofs.Ytcfpbcnledjnoaa
