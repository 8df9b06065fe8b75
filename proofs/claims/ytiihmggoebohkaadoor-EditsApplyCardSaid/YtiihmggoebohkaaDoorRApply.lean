/- PROVED: the given statement 'EditsApplyCardSaid' of this seat: for every row of changes and every two rows of ints EditsApply answers true and leaves all as it was. Its conditions are the given statement's own: the variable errors.errorType reads as it is laid, and what is handed in is no more than a machine can hold. -/
import Derived.Test.YtiihmggoebohkaaDoorR0
import Derived.Test.YtiihmggoebohkaaDoorB20
namespace Go.Proofs.YtiihmggoebohkaaDoor
open Go Go.RowKit Go.ChangeShapes Go.WideShapes Vc

set_option maxRecDepth 100000 in
theorem editsApply_lifted (os : Os) (started : os.Started) (H : Type) (enc : TypeId × Value → H) :
    ReturnsInHanded {} Tryd.checked os 7 .any (fun w args => (Rows.editsApplySpec.pre enc Tryd.prog Tryd.f7 [] false w args ∧ laidMetH Tryd.prog [("errors.errorType", Rows.laid_errors_errorType)] w) ∧ sizedMet enc Tryd.prog Tryd.f7 (OpenSpec.ofChange Rows.editsApplySpec) false w args)
      (Rows.editsApplySpec.post enc Tryd.prog Tryd.f7 false true false false) := by
  refine returnsInHanded_of_change_and (C := Tryd.checked) (X := fun w _ => laidMetH Tryd.prog [("errors.errorType", Rows.laid_errors_errorType)] w) (fun _ _ _ hh h => h.of_heap hh) Tryd.own started (by kernel_rfl) Tryd.func7
    (ChangeSpec.witness_at (enc := enc) (C := Tryd.checked) (os := os) (X := fun w _ => laidMetH Tryd.prog [("errors.errorType", Rows.laid_errors_errorType)] w) false (laidWorld os) #[.slice none 0 0, .slice none 0 0, .slice none 0 0] 8 rfl (by kernel_rfl) (by kernel_rfl) (by kernel_rfl) (by kernel_rfl) (by kernel_rfl) (laidWorld_met os _)) ?_
  intro W base args ds gs before hval0 hW _ hsz hL _
  have hval : ∀ (j : Nat) t v, Tryd.f7.params[j]? = some t → args[j]? = some v → Value.okWide Tryd.prog W .any base t v := hval0
  have hA := hW
  obtain ⟨p, q, hA, _⟩ := hA
  have hA : DataW.TrodAll enc Tryd.prog W 0 (fun _ => true) true Tryd.f7.params.toList args.toList ds p := hA
  rw [Tryd.params7] at hA hval
  obtain ⟨v0, v1, v2, d0, d1, d2, p0, p1, p2, rfl, rfl, rfl, h0, h1, h2⟩ := trodAll_three hA
  have hpar : Tryd.f7.params.toList = [22, 50, 50] := by rw [Tryd.params7]
  have hgs : gs = [] := by
    obtain ⟨_, _, _, hV, _⟩ := hW
    cases gs with
    | nil => rfl
    | cons g r => exact absurd hV (by intro h; cases h)
  subst hgs
  rw [hpar] at hsz
  have z0 := sized_at (P := Tryd.prog) 0 (t := 22) (d := d0) hsz rfl rfl
  obtain ⟨fuel0, h0⟩ := trod_slice_cell Tryd.underlying22 (hval 0 22 v0 rfl rfl) h0
  obtain ⟨s, L0, hl0, hR0, hz0⟩ := open_chg h0
  have hz0 := hz0 z0
  have z1 := sized_at (P := Tryd.prog) 1 (t := 50) (d := d1) hsz rfl rfl
  obtain ⟨fuel1, h1⟩ := trod_slice_cell Tryd.underlying50 (hval 1 50 v1 rfl rfl) h1
  obtain ⟨a, L1, hl1, hR1, hz1⟩ := open_in h1
  have hz1 := hz1 z1
  have z2 := sized_at (P := Tryd.prog) 2 (t := 50) (d := d2) hsz rfl rfl
  obtain ⟨fuel2, h2⟩ := trod_slice_cell Tryd.underlying50 (hval 2 50 v2 rfl rfl) h2
  obtain ⟨b, L2, hl2, hR2, hz2⟩ := open_in h2
  have hz2 := hz2 z2
  have hr : Tryd.f7.resultTypes = #[4] := by kernel_rfl
  refine (con_close (ρ := [L0, L1, L2]) (W := W) (vs := [v0, v1, v2]) (lawApply_con s a b hz0) (fun _ _ _ h => h.1) rfl (msat_ro (glob_of hL) ?_ ?_) ?_).mono fun e W' ⟨he, hb⟩ => ⟨_, he, post_true Tryd.laidOut (by rw [Tryd.params7]; exact readAll _ (by kernel_rfl)) rfl hr Tryd.underlying4 hW rfl hb⟩
  · intro c
    match c with
    | 0 => exact (hR0 0 [L0, L1, L2] rfl).2 _
    | 1 => exact (hR1 1 [L0, L1, L2] rfl).2 _
    | 2 => exact (hR2 2 [L0, L1, L2] rfl).2 _
    | c + 3 => exact trivial
  · intro c
    match c with
    | 0 => rfl
    | 1 => rfl
    | 2 => rfl
    | c + 3 => rfl
  · exact ⟨_, _, rfl, (hR0 0 [L0, L1, L2] rfl).1, ⟨_, _, rfl, (hR1 1 [L0, L1, L2] rfl).1, ⟨_, _, rfl, (hR2 2 [L0, L1, L2] rfl).1, rfl⟩⟩⟩

theorem editsApply_holds : Rows.EditsApplySaid :=
  OpenClaim.holds_of_wide 7 Tryd.f7 rfl rfl rfl rfl rfl rfl rfl ⟨rfl, rfl, rfl, rfl, rfl⟩ rfl rfl rfl rfl rfl (by kernel_rfl) Tryd.func7 (by kernel_rfl)
    (of_decide_eq_true (by kernel_rfl)) (by unfold Func.isWrapper; rw [if_neg (of_decide_eq_false (by kernel_rfl))]; exact ⟨rfl, rfl⟩)
    (fun os started H enc _ => editsApply_lifted os started H enc)

theorem editsApply_card_holds : Rows.EditsApplyCardSaid :=
  Claim7.holds_tied_plain_at .later [] [.handle] true (true, "ac7daab0e9a0d5bfd7152ab282570ee9e461f96917344614d5390b95c73fbf4c") true
    editsApply_holds (fun _ h => by cases h) (by kernel_rfl) (fun _ h => by cases h) editsApply_row_tie rfl ⟨rfl, rfl⟩ (by kernel_rfl) rfl
    (fun f fn hf hfn => by
      obtain rfl : f = 7 := Option.some.inj ((show Tryd.prog.funcNamed "selvage/selvagelaw06.EditsApply" = some 7 by kernel_rfl).symm.trans hf) |>.symm
      obtain rfl : fn = Tryd.f7 := (Option.some.inj (Tryd.func7.symm.trans hfn)).symm
      exact ⟨by kernel_rfl, noStand _ (by rw [Tryd.params7]; kernel_rfl)⟩)
    (by kernel_rfl)
#print axioms editsApply_card_holds
end Go.Proofs.YtiihmggoebohkaaDoor
