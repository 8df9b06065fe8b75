/- PROVED: the given statement 'EditsBackCardSaid' of this seat: for every row of changes and every two numbers EditsBack answers true and leaves all as it was. Its conditions are the given statement's own: the variable errors.errorType reads as it is laid, and what is handed in is no more than a machine can hold. -/
import Derived.Test.YtiihmggoebohkaaDoorR0
import Derived.Test.YtiihmggoebohkaaDoorB24
namespace Go.Proofs.YtiihmggoebohkaaDoor
open Go Go.RowKit Go.ChangeShapes Go.WideShapes Vc

set_option maxRecDepth 100000 in
theorem editsBack_lifted (os : Os) (started : os.Started) (H : Type) (enc : TypeId × Value → H) :
    ReturnsInHanded {} Tryd.checked os 8 .any (fun w args => (Rows.editsBackSpec.pre enc Tryd.prog Tryd.f8 [] false w args ∧ laidMetH Tryd.prog [("errors.errorType", Rows.laid_errors_errorType)] w) ∧ sizedMet enc Tryd.prog Tryd.f8 (OpenSpec.ofChange Rows.editsBackSpec) false w args)
      (Rows.editsBackSpec.post enc Tryd.prog Tryd.f8 false true false false) := by
  refine returnsInHanded_of_change_and (C := Tryd.checked) (X := fun w _ => laidMetH Tryd.prog [("errors.errorType", Rows.laid_errors_errorType)] w) (fun _ _ _ hh h => h.of_heap hh) Tryd.own started (by kernel_rfl) Tryd.func8
    (ChangeSpec.witness_at (enc := enc) (C := Tryd.checked) (os := os) (X := fun w _ => laidMetH Tryd.prog [("errors.errorType", Rows.laid_errors_errorType)] w) false (laidWorld os) #[.slice none 0 0, .int .i64 0, .int .i64 0] 8 rfl (by kernel_rfl) (by kernel_rfl) (by kernel_rfl) (by kernel_rfl) (by kernel_rfl) (laidWorld_met os _)) ?_
  intro W base args ds gs before hval0 hW _ hsz hL _
  have hval : ∀ (j : Nat) t v, Tryd.f8.params[j]? = some t → args[j]? = some v → Value.okWide Tryd.prog W .any base t v := hval0
  have hA := hW
  obtain ⟨p, q, hA, _⟩ := hA
  have hA : DataW.TrodAll enc Tryd.prog W 0 (fun _ => true) true Tryd.f8.params.toList args.toList ds p := hA
  rw [Tryd.params8] at hA hval
  obtain ⟨v0, v1, v2, d0, d1, d2, p0, p1, p2, rfl, rfl, rfl, h0, h1, h2⟩ := trodAll_three hA
  have hpar : Tryd.f8.params.toList = [22, 3, 3] := by rw [Tryd.params8]
  have hgs : gs = [] := by
    obtain ⟨_, _, _, hV, _⟩ := hW
    cases gs with
    | nil => rfl
    | cons g r => exact absurd hV (by intro h; cases h)
  subst hgs
  rw [hpar] at hsz
  have z0 := sized_at (P := Tryd.prog) 0 (t := 22) (d := d0) hsz rfl rfl
  obtain ⟨fuel0, h0⟩ := trod_slice_cell Tryd.underlying22 (hval 0 22 v0 rfl rfl) h0
  obtain ⟨s, L0, hl0, hR0, hz0⟩ := open_chg h0
  have hz0 := hz0 z0
  obtain ⟨n, rfl, rfl, rfl, hi1⟩ := open_int Tryd.underlying3 (hval 1 3 v1 rfl rfl) h1
  obtain ⟨m, rfl, rfl, rfl, hi2⟩ := open_int Tryd.underlying3 (hval 2 3 v2 rfl rfl) h2
  have hr : Tryd.f8.resultTypes = #[4] := by kernel_rfl
  refine (con_close (ρ := [L0]) (W := W) (vs := [v0, .int .i64 n, .int .i64 m]) (lawBack_con s n m hz0) (fun _ _ _ h => h.1) rfl (msat_ro (glob_of hL) ?_ ?_) ?_).mono fun e W' ⟨he, hb⟩ => ⟨_, he, post_true Tryd.laidOut (by rw [Tryd.params8]; exact readAll _ (by kernel_rfl)) rfl hr Tryd.underlying4 hW rfl hb⟩
  · intro c
    match c with
    | 0 => exact (hR0 0 [L0] rfl).2 _
    | c + 1 => exact trivial
  · intro c
    match c with
    | 0 => rfl
    | c + 1 => rfl
  · exact ⟨_, _, rfl, (hR0 0 [L0] rfl).1, ⟨_, _, rfl, rfl, ⟨_, _, rfl, rfl, rfl⟩⟩⟩

theorem editsBack_holds : Rows.EditsBackSaid :=
  OpenClaim.holds_of_wide 8 Tryd.f8 rfl rfl rfl rfl rfl rfl rfl ⟨rfl, rfl, rfl, rfl, rfl⟩ rfl rfl rfl rfl rfl (by kernel_rfl) Tryd.func8 (by kernel_rfl)
    (of_decide_eq_true (by kernel_rfl)) (by unfold Func.isWrapper; rw [if_neg (of_decide_eq_false (by kernel_rfl))]; exact ⟨rfl, rfl⟩)
    (fun os started H enc _ => editsBack_lifted os started H enc)

theorem editsBack_card_holds : Rows.EditsBackCardSaid :=
  Claim7.holds_tied_plain_at .later [] [.handle] true (true, "ac7daab0e9a0d5bfd7152ab282570ee9e461f96917344614d5390b95c73fbf4c") true
    editsBack_holds (fun _ h => by cases h) (by kernel_rfl) (fun _ h => by cases h) editsBack_row_tie rfl ⟨rfl, rfl⟩ (by kernel_rfl) rfl
    (fun f fn hf hfn => by
      obtain rfl : f = 8 := Option.some.inj ((show Tryd.prog.funcNamed "selvage/selvagelaw06.EditsBack" = some 8 by kernel_rfl).symm.trans hf) |>.symm
      obtain rfl : fn = Tryd.f8 := (Option.some.inj (Tryd.func8.symm.trans hfn)).symm
      exact ⟨by kernel_rfl, noStand _ (by rw [Tryd.params8]; kernel_rfl)⟩)
    (by kernel_rfl)
#print axioms editsBack_card_holds
end Go.Proofs.YtiihmggoebohkaaDoor
