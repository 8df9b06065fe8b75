/- PROVED: the given statement 'EditsJoinCardSaid' of this seat: for every two rows of changes and every three numbers EditsJoin answers true and leaves all as it was. Its conditions are the given statement's own: the variable errors.errorType reads as it is laid, and what is handed in is no more than a machine can hold. -/
import Derived.Test.YtiihmggoebohkaaDoorR0
import Derived.Test.YtiihmggoebohkaaDoorB28
namespace Go.Proofs.YtiihmggoebohkaaDoor
open Go Go.RowKit Go.ChangeShapes Go.WideShapes Vc

set_option maxRecDepth 100000 in
theorem editsJoin_lifted (os : Os) (started : os.Started) (H : Type) (enc : TypeId × Value → H) :
    ReturnsInHanded {} Tryd.checked os 9 .any (fun w args => (Rows.editsJoinSpec.pre enc Tryd.prog Tryd.f9 [] false w args ∧ laidMetH Tryd.prog [("errors.errorType", Rows.laid_errors_errorType)] w) ∧ sizedMet enc Tryd.prog Tryd.f9 (OpenSpec.ofChange Rows.editsJoinSpec) false w args)
      (Rows.editsJoinSpec.post enc Tryd.prog Tryd.f9 false true false false) := by
  refine returnsInHanded_of_change_and (C := Tryd.checked) (X := fun w _ => laidMetH Tryd.prog [("errors.errorType", Rows.laid_errors_errorType)] w) (fun _ _ _ hh h => h.of_heap hh) Tryd.own started (by kernel_rfl) Tryd.func9
    (ChangeSpec.witness_at (enc := enc) (C := Tryd.checked) (os := os) (X := fun w _ => laidMetH Tryd.prog [("errors.errorType", Rows.laid_errors_errorType)] w) false (laidWorld os) #[.agg #[.slice none 0 0, .slice none 0 0, .int .i64 0, .int .i64 0, .int .i64 0]] 8 rfl (by kernel_rfl) (by kernel_rfl) (by kernel_rfl) (by kernel_rfl) (by kernel_rfl) (laidWorld_met os _)) ?_
  intro W base args ds gs before hval0 hW _ hsz hL _
  have hval : ∀ (j : Nat) t v, Tryd.f9.params[j]? = some t → args[j]? = some v → Value.okWide Tryd.prog W .any base t v := hval0
  have hA := hW
  obtain ⟨p, q, hA, _⟩ := hA
  have hA : DataW.TrodAll enc Tryd.prog W 0 (fun _ => true) true Tryd.f9.params.toList args.toList ds p := hA
  rw [Tryd.params9] at hA hval
  obtain ⟨v0, d0, rfl, rfl, h0⟩ := trodAll_one hA
  have hpar : Tryd.f9.params.toList = [60] := by rw [Tryd.params9]
  have hgs : gs = [] := by
    obtain ⟨_, _, _, hV, _⟩ := hW
    cases gs with
    | nil => rfl
    | cons g r => exact absurd hV (by intro h; cases h)
  subst hgs
  rw [hpar] at hsz
  have z0 := sized_at (P := Tryd.prog) 0 (t := 60) (d := d0) hsz rfl rfl
  obtain ⟨s, t, n, m, k, c0, c1, L0, L1, rfl, hz0, hz1, hR0, hR1⟩ := open_two (hval 0 60 v0 rfl rfl) h0 z0
  have hr : Tryd.f9.resultTypes = #[4] := by kernel_rfl
  refine (con_close (ρ := [L0, L1]) (W := W) (vs := [.agg [c0, c1, .int .i64 n, .int .i64 m, .int .i64 k].toArray]) (lawJoin_con s t n m k hz0 hz1) (fun _ _ _ h => h.1) rfl (msat_ro (glob_of hL) ?_ ?_) ?_).mono fun e W' ⟨he, hb⟩ => ⟨_, he, post_true Tryd.laidOut (by rw [Tryd.params9]; exact readAll _ (by kernel_rfl)) rfl hr Tryd.underlying4 hW rfl hb⟩
  · intro c
    match c with
    | 0 => exact (hR0 0 [L0, L1] rfl).2 _
    | 1 => exact (hR1 1 [L0, L1] rfl).2 _
    | c + 2 => exact trivial
  · intro c
    match c with
    | 0 => rfl
    | 1 => rfl
    | c + 2 => rfl
  · exact ⟨_, _, rfl, ⟨_, rfl, ⟨_, _, rfl, hR0.rel rfl, ⟨_, _, rfl, hR1.rel rfl, ⟨_, _, rfl, rfl, ⟨_, _, rfl, rfl, ⟨_, _, rfl, rfl, rfl⟩⟩⟩⟩⟩, fun x hx => by
      simp only [List.mem_cons, List.not_mem_nil, or_false] at hx
      rcases hx with rfl | rfl | rfl | rfl | rfl <;> first | exact hR0.one | exact hR1.one | rfl⟩, rfl⟩

theorem editsJoin_holds : Rows.EditsJoinSaid :=
  OpenClaim.holds_of_wide 9 Tryd.f9 rfl rfl rfl rfl rfl rfl rfl ⟨rfl, rfl, rfl, rfl, rfl⟩ rfl rfl rfl rfl rfl (by kernel_rfl) Tryd.func9 (by kernel_rfl)
    (of_decide_eq_true (by kernel_rfl)) (by unfold Func.isWrapper; rw [if_neg (of_decide_eq_false (by kernel_rfl))]; exact ⟨rfl, rfl⟩)
    (fun os started H enc _ => editsJoin_lifted os started H enc)

theorem editsJoin_card_holds : Rows.EditsJoinCardSaid :=
  Claim7.holds_tied_plain_at .later [] [.handle] true (true, "ac7daab0e9a0d5bfd7152ab282570ee9e461f96917344614d5390b95c73fbf4c") true
    editsJoin_holds (fun _ h => by cases h) (by kernel_rfl) (fun _ h => by cases h) editsJoin_row_tie rfl ⟨rfl, rfl⟩ (by kernel_rfl) rfl
    (fun f fn hf hfn => by
      obtain rfl : f = 9 := Option.some.inj ((show Tryd.prog.funcNamed "selvage/selvagelaw06.EditsJoin" = some 9 by kernel_rfl).symm.trans hf) |>.symm
      obtain rfl : fn = Tryd.f9 := (Option.some.inj (Tryd.func9.symm.trans hfn)).symm
      exact ⟨by kernel_rfl, noStand _ (by rw [Tryd.params9]; kernel_rfl)⟩)
    (by kernel_rfl)
#print axioms editsJoin_card_holds
end Go.Proofs.YtiihmggoebohkaaDoor
