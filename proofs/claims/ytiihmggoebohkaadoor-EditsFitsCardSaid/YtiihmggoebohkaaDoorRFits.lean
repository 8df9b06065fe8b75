/- PROVED: the given statement 'EditsFitsCardSaid' of this seat: for every three lists and every two rows of pairs EditsFits answers true and leaves all as it was. Its conditions are the given statement's own: the variable errors.errorType reads as it is laid, and what is handed in is no more than a machine can hold. -/
import Derived.Test.YtiihmggoebohkaaDoorR1
import Derived.Test.YtiihmggoebohkaaDoorB33
namespace Go.Proofs.YtiihmggoebohkaaDoor
open Go Go.RowKit Go.ChangeShapes Go.WideShapes Vc

set_option maxRecDepth 100000 in
theorem editsFits_lifted (os : Os) (started : os.Started) (H : Type) (enc : TypeId × Value → H) :
    ReturnsInHanded {} Tryd.checked os 11 .any (fun w args => (Rows.editsFitsSpec.pre enc Tryd.prog Tryd.f11 [] false w args ∧ laidMetH Tryd.prog [("errors.errorType", Rows.laid_errors_errorType)] w) ∧ sizedMet enc Tryd.prog Tryd.f11 (OpenSpec.ofChange Rows.editsFitsSpec) false w args)
      (Rows.editsFitsSpec.post enc Tryd.prog Tryd.f11 false true false false) := by
  refine returnsInHanded_of_change_and (C := Tryd.checked) (X := fun w _ => laidMetH Tryd.prog [("errors.errorType", Rows.laid_errors_errorType)] w) (fun _ _ _ hh h => h.of_heap hh) Tryd.own started (by kernel_rfl) Tryd.func11
    (ChangeSpec.witness_at (enc := enc) (C := Tryd.checked) (os := os) (X := fun w _ => laidMetH Tryd.prog [("errors.errorType", Rows.laid_errors_errorType)] w) false (laidWorld os) #[.agg #[.slice none 0 0, .slice none 0 0, .slice none 0 0, .slice none 0 0, .slice none 0 0]] 8 rfl (by kernel_rfl) (by kernel_rfl) (by kernel_rfl) (by kernel_rfl) (by kernel_rfl) (laidWorld_met os _)) ?_
  intro W base args ds gs before hval0 hW _ hsz hL _
  have hval : ∀ (j : Nat) t v, Tryd.f11.params[j]? = some t → args[j]? = some v → Value.okWide Tryd.prog W .any base t v := hval0
  have hA := hW
  obtain ⟨p, q, hA, _⟩ := hA
  have hA : DataW.TrodAll enc Tryd.prog W 0 (fun _ => true) true Tryd.f11.params.toList args.toList ds p := hA
  rw [Tryd.params11] at hA hval
  obtain ⟨v0, d0, rfl, rfl, h0⟩ := trodAll_one hA
  have hpar : Tryd.f11.params.toList = [68] := by rw [Tryd.params11]
  have hgs : gs = [] := by
    obtain ⟨_, _, _, hV, _⟩ := hW
    cases gs with
    | nil => rfl
    | cons g r => exact absurd hV (by intro h; cases h)
  subst hgs
  rw [hpar] at hsz
  have z0 := sized_at (P := Tryd.prog) 0 (t := 68) (d := d0) hsz rfl rfl
  obtain ⟨a, b, c, P, Q, c0, c1, c2, c3, c4, L0, L1, L2, L3, L4, rfl, hz0, hz1, hz2, hz3, hz4, hR0, hR1, hR2, hR3, hR4⟩ := open_lists (hval 0 68 v0 rfl rfl) h0 z0
  have hr : Tryd.f11.resultTypes = #[4] := by kernel_rfl
  refine (con_close (ρ := [L0, L1, L2, L3, L4]) (W := W) (vs := [.agg [c0, c1, c2, c3, c4].toArray]) (lawFits_con a b c P Q hz0 hz1 hz2 hz3 hz4) (fun _ _ _ h => h.1) rfl (msat_ro (glob_of hL) ?_ ?_) ?_).mono fun e W' ⟨he, hb⟩ => ⟨_, he, post_true Tryd.laidOut (by rw [Tryd.params11]; exact readAll _ (by kernel_rfl)) rfl hr Tryd.underlying4 hW rfl hb⟩
  · intro c
    match c with
    | 0 => exact (hR0 0 [L0, L1, L2, L3, L4] rfl).2 _
    | 1 => exact (hR1 1 [L0, L1, L2, L3, L4] rfl).2 _
    | 2 => exact (hR2 2 [L0, L1, L2, L3, L4] rfl).2 _
    | 3 => exact (hR3 3 [L0, L1, L2, L3, L4] rfl).2 _
    | 4 => exact (hR4 4 [L0, L1, L2, L3, L4] rfl).2 _
    | c + 5 => exact trivial
  · intro c
    match c with
    | 0 => rfl
    | 1 => rfl
    | 2 => rfl
    | 3 => rfl
    | 4 => rfl
    | c + 5 => rfl
  · exact ⟨_, _, rfl, ⟨_, rfl, ⟨_, _, rfl, hR0.rel rfl, ⟨_, _, rfl, hR1.rel rfl, ⟨_, _, rfl, hR2.rel rfl, ⟨_, _, rfl, hR3.rel rfl, ⟨_, _, rfl, hR4.rel rfl, rfl⟩⟩⟩⟩⟩, fun x hx => by
      simp only [List.mem_cons, List.not_mem_nil, or_false] at hx
      rcases hx with rfl | rfl | rfl | rfl | rfl <;> first | exact hR0.one | exact hR1.one | exact hR2.one | exact hR3.one | exact hR4.one⟩, rfl⟩

theorem editsFits_holds : Rows.EditsFitsSaid :=
  OpenClaim.holds_of_wide 11 Tryd.f11 rfl rfl rfl rfl rfl rfl rfl ⟨rfl, rfl, rfl, rfl, rfl⟩ rfl rfl rfl rfl rfl (by kernel_rfl) Tryd.func11 (by kernel_rfl)
    (of_decide_eq_true (by kernel_rfl)) (by unfold Func.isWrapper; rw [if_neg (of_decide_eq_false (by kernel_rfl))]; exact ⟨rfl, rfl⟩)
    (fun os started H enc _ => editsFits_lifted os started H enc)

theorem editsFits_card_holds : Rows.EditsFitsCardSaid :=
  Claim7.holds_tied_plain_at .later [] [.handle] true (true, "ac7daab0e9a0d5bfd7152ab282570ee9e461f96917344614d5390b95c73fbf4c") true
    editsFits_holds (fun _ h => by cases h) (by kernel_rfl) (fun _ h => by cases h) editsFits_row_tie rfl ⟨rfl, rfl⟩ (by kernel_rfl) rfl
    (fun f fn hf hfn => by
      obtain rfl : f = 11 := Option.some.inj ((show Tryd.prog.funcNamed "selvage/selvagelaw06.EditsFits" = some 11 by kernel_rfl).symm.trans hf) |>.symm
      obtain rfl : fn = Tryd.f11 := (Option.some.inj (Tryd.func11.symm.trans hfn)).symm
      exact ⟨by kernel_rfl, noStand _ (by rw [Tryd.params11]; kernel_rfl)⟩)
    (by kernel_rfl)
#print axioms editsFits_card_holds
end Go.Proofs.YtiihmggoebohkaaDoor
