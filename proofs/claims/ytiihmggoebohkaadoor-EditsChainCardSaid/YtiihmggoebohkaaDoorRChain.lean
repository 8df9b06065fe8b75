/- PROVED: the given statement 'EditsChainCardSaid' of this seat: for every three rows of changes and every four numbers EditsChain answers true and leaves all as it was. Its conditions are the given statement's own: the variable errors.errorType reads as it is laid, and what is handed in is no more than a machine can hold. -/
import Derived.Test.YtiihmggoebohkaaDoorR1
import Derived.Test.YtiihmggoebohkaaDoorB30
namespace Go.Proofs.YtiihmggoebohkaaDoor
open Go Go.RowKit Go.ChangeShapes Go.WideShapes Vc

set_option maxRecDepth 100000 in
theorem editsChain_lifted (os : Os) (started : os.Started) (H : Type) (enc : TypeId × Value → H) :
    ReturnsInHanded {} Tryd.checked os 10 .any (fun w args => (Rows.editsChainSpec.pre enc Tryd.prog Tryd.f10 [] false w args ∧ laidMetH Tryd.prog [("errors.errorType", Rows.laid_errors_errorType)] w) ∧ sizedMet enc Tryd.prog Tryd.f10 (OpenSpec.ofChange Rows.editsChainSpec) false w args)
      (Rows.editsChainSpec.post enc Tryd.prog Tryd.f10 false true false false) := by
  refine returnsInHanded_of_change_and (C := Tryd.checked) (X := fun w _ => laidMetH Tryd.prog [("errors.errorType", Rows.laid_errors_errorType)] w) (fun _ _ _ hh h => h.of_heap hh) Tryd.own started (by kernel_rfl) Tryd.func10
    (ChangeSpec.witness_at (enc := enc) (C := Tryd.checked) (os := os) (X := fun w _ => laidMetH Tryd.prog [("errors.errorType", Rows.laid_errors_errorType)] w) false (laidWorld os) #[.agg #[.slice none 0 0, .slice none 0 0, .slice none 0 0, .int .i64 0, .int .i64 0, .int .i64 0, .int .i64 0]] 8 rfl (by kernel_rfl) (by kernel_rfl) (by kernel_rfl) (by kernel_rfl) (by kernel_rfl) (laidWorld_met os _)) ?_
  intro W base args ds gs before hval0 hW _ hsz hL _
  have hval : ∀ (j : Nat) t v, Tryd.f10.params[j]? = some t → args[j]? = some v → Value.okWide Tryd.prog W .any base t v := hval0
  have hA := hW
  obtain ⟨p, q, hA, _⟩ := hA
  have hA : DataW.TrodAll enc Tryd.prog W 0 (fun _ => true) true Tryd.f10.params.toList args.toList ds p := hA
  rw [Tryd.params10] at hA hval
  obtain ⟨v0, d0, rfl, rfl, h0⟩ := trodAll_one hA
  have hpar : Tryd.f10.params.toList = [65] := by rw [Tryd.params10]
  have hgs : gs = [] := by
    obtain ⟨_, _, _, hV, _⟩ := hW
    cases gs with
    | nil => rfl
    | cons g r => exact absurd hV (by intro h; cases h)
  subst hgs
  rw [hpar] at hsz
  have z0 := sized_at (P := Tryd.prog) 0 (t := 65) (d := d0) hsz rfl rfl
  obtain ⟨s, t, u, n, m, k, l, c0, c1, c2, L0, L1, L2, rfl, hz0, hz1, hz2, hR0, hR1, hR2⟩ := open_three (hval 0 65 v0 rfl rfl) h0 z0
  have hr : Tryd.f10.resultTypes = #[4] := by kernel_rfl
  refine (con_close (ρ := [L0, L1, L2]) (W := W) (vs := [.agg [c0, c1, c2, .int .i64 n, .int .i64 m, .int .i64 k, .int .i64 l].toArray]) (lawChain_con s t u n m k l hz0 hz1 hz2) (fun _ _ _ h => h.1) rfl (msat_ro (glob_of hL) ?_ ?_) ?_).mono fun e W' ⟨he, hb⟩ => ⟨_, he, post_true Tryd.laidOut (by rw [Tryd.params10]; exact readAll _ (by kernel_rfl)) rfl hr Tryd.underlying4 hW rfl hb⟩
  · intro c
    match c with
    | 0 => exact (hR0 0 [L0, L1, L2] rfl).2 _
    | 1 => exact (hR1 1 [L0, L1, L2] rfl).2 _
    | 2 => exact (hR2 2 [L0, L1, L2] rfl).2 _
    | c + 3 => exact trivial
  · intro c
    match c with
    | 0 => rfl
    | 1 => rfl
    | 2 => rfl
    | c + 3 => rfl
  · exact ⟨_, _, rfl, ⟨_, rfl, ⟨_, _, rfl, hR0.rel rfl, ⟨_, _, rfl, hR1.rel rfl, ⟨_, _, rfl, hR2.rel rfl, ⟨_, _, rfl, rfl, ⟨_, _, rfl, rfl, ⟨_, _, rfl, rfl, ⟨_, _, rfl, rfl, rfl⟩⟩⟩⟩⟩⟩⟩, fun x hx => by
      simp only [List.mem_cons, List.not_mem_nil, or_false] at hx
      rcases hx with rfl | rfl | rfl | rfl | rfl | rfl | rfl <;> first | exact hR0.one | exact hR1.one | exact hR2.one | rfl⟩, rfl⟩

theorem editsChain_holds : Rows.EditsChainSaid :=
  OpenClaim.holds_of_wide 10 Tryd.f10 rfl rfl rfl rfl rfl rfl rfl ⟨rfl, rfl, rfl, rfl, rfl⟩ rfl rfl rfl rfl rfl (by kernel_rfl) Tryd.func10 (by kernel_rfl)
    (of_decide_eq_true (by kernel_rfl)) (by unfold Func.isWrapper; rw [if_neg (of_decide_eq_false (by kernel_rfl))]; exact ⟨rfl, rfl⟩)
    (fun os started H enc _ => editsChain_lifted os started H enc)

theorem editsChain_card_holds : Rows.EditsChainCardSaid :=
  Claim7.holds_tied_plain_at .later [] [.handle] true (true, "ac7daab0e9a0d5bfd7152ab282570ee9e461f96917344614d5390b95c73fbf4c") true
    editsChain_holds (fun _ h => by cases h) (by kernel_rfl) (fun _ h => by cases h) editsChain_row_tie rfl ⟨rfl, rfl⟩ (by kernel_rfl) rfl
    (fun f fn hf hfn => by
      obtain rfl : f = 10 := Option.some.inj ((show Tryd.prog.funcNamed "selvage/selvagelaw06.EditsChain" = some 10 by kernel_rfl).symm.trans hf) |>.symm
      obtain rfl : fn = Tryd.f10 := (Option.some.inj (Tryd.func10.symm.trans hfn)).symm
      exact ⟨by kernel_rfl, noStand _ (by rw [Tryd.params10]; kernel_rfl)⟩)
    (by kernel_rfl)
#print axioms editsChain_card_holds
end Go.Proofs.YtiihmggoebohkaaDoor
