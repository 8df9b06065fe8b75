/- PROVED: the given statement 'SideCutsUptoCardSaid' of this seat: for every string and every two numbers SideCuts answers true. Its conditions are the given statement's own: the variable errors.errorType reads as it is laid, and what is handed in is of bulk at most 1048576. -/
import Derived.Test.YtjlobgcmhnkgnaaDoorR1
import Derived.Test.YtjlobgcmhnkgnaaDoorC9
namespace Go.Proofs.YtjlobgcmhnkgnaaDoor
open Go Go.RowKit Go.ChangeShapes Go.WideShapes Vc

set_option maxRecDepth 100000 in
theorem sideCuts_witness (os : Os) {H : Type} (enc : TypeId × Value → H) :
    (Rows.OpenSpec.upto Rows.sideCutsSpec).preRow enc Tryd.prog Tryd.f6 Rows.sideCutsUptoRow.domain false [("errors.errorType", Rows.laid_errors_errorType)] ((laidWorld os).forCall (fun _ _ => 0) ⟨#[], #[.string ⟨#[]⟩, .int .i64 0, .int .i64 0], []⟩).memory #[.string ⟨#[]⟩, .int .i64 0, .int .i64 0] := by
  have hw : (DataW.whole enc Tryd.prog ((laidWorld os).forCall (fun _ _ => 0) ⟨#[], #[.string ⟨#[]⟩, .int .i64 0, .int .i64 0], []⟩).memory Tryd.f6.params.toList (Rows.OpenSpec.upto Rows.sideCutsSpec).vars false (#[.string ⟨#[]⟩, .int .i64 0, .int .i64 0] : Array Value).toList 8).map (fun x => (x.1, x.2.1)) =
      some ([.lit (.string []), .lit (.int .i64 0), .lit (.int .i64 0)], []) := by kernel_rfl
  obtain ⟨⟨x1, x2, x3⟩, hx, hx1⟩ := Option.map_eq_some_iff.1 hw
  simp only [Prod.mk.injEq] at hx1
  obtain ⟨rfl, rfl⟩ := hx1
  exact OpenSpec.preRow_of_cond 8 hx (by kernel_rfl) (fun k hk => by cases hk; rfl) (by kernel_rfl) (laidWorld_met os _)

set_option maxRecDepth 100000 in
theorem sideCuts_lifted (os : Os) (started : os.Started) (H : Type) (enc : TypeId × Value → H) (F : Stop.Interp) :
    ReturnsInHanded {} Tryd.checked os 6 .any ((Rows.OpenSpec.upto Rows.sideCutsSpec).preRow enc Tryd.prog Tryd.f6 Rows.sideCutsUptoRow.domain false [("errors.errorType", Rows.laid_errors_errorType)]) (((Rows.OpenSpec.upto Rows.sideCutsSpec).at F).post enc Tryd.prog Tryd.f6 false true false false) := by
  refine returnsInHanded_of_row (C := Tryd.checked) (s := Rows.OpenSpec.upto Rows.sideCutsSpec) Tryd.own started (by kernel_rfl) Tryd.func6
    (witness_row_at (enc := enc) (C := Tryd.checked) false (laidWorld os) #[.string ⟨#[]⟩, .int .i64 0, .int .i64 0] rfl (by kernel_rfl) (by kernel_rfl) (by kernel_rfl) (sideCuts_witness os enc)) ?_
  intro W base args ds gs before hval0 hW _ hk _ hL _ _
  have hval : ∀ (j : Nat) t v, Tryd.f6.params[j]? = some t → args[j]? = some v → Value.okWide Tryd.prog W .any base t v := hval0
  have hA := hW
  obtain ⟨p, q, hA, _⟩ := hA
  have hA : DataW.TrodAll enc Tryd.prog W 0 (fun _ => true) true Tryd.f6.params.toList args.toList ds p := hA
  rw [Tryd.params6] at hA hval
  obtain ⟨v0, v1, v2, d0, d1, d2, p0, p1, p2, rfl, rfl, rfl, h0, h1, h2⟩ := trodAll_three hA
  have hgs : gs = [] := by
    obtain ⟨_, _, _, hV, _⟩ := hW
    cases gs with
    | nil => rfl
    | cons g r => exact absurd hV (by intro h; cases h)
  subst hgs
  have hk : Rows.uptoBulkAll _ ≤ 1048576 := of_decide_eq_true (hk _ rfl)
  simp only [List.append_nil, Rows.uptoBulkAll] at hk
  obtain ⟨l, rfl, rfl, rfl, hi0⟩ := open_s (hval 0 9 v0 rfl rfl) h0
  obtain ⟨column, rfl, rfl, rfl, hi1⟩ := open_int Tryd.underlying3 (hval 1 3 v1 rfl rfl) h1
  obtain ⟨w, rfl, rfl, rfl, hi2⟩ := open_int Tryd.underlying3 (hval 2 3 v2 rfl rfl) h2
  simp only [Rows.uptoBulk] at hk
  have hi1 := wf_range hi1
  have hi2 := wf_range hi2
  have hr : Tryd.f6.resultTypes = #[4] := by kernel_rfl
  refine (con_close (ρ := []) (W := W) (vs := [.string (bs l), .int .i64 column, .int .i64 w]) (lawCuts_con l column w (by omega) (by omega) (by omega) (by omega) (by omega)) (fun _ _ _ h => h.1) rfl (msat_ro (glob_of hL) ?_ ?_) ?_).mono fun e W' ⟨he, hb⟩ => ⟨_, he, post_true Tryd.laidOut (by rw [Tryd.params6]; exact readAll _ (by kernel_rfl)) rfl hr Tryd.underlying4 hW rfl hb⟩
  · intro c
    exact trivial
  · intro c
    rfl
  · exact ⟨_, _, rfl, rfl, ⟨_, _, rfl, rfl, ⟨_, _, rfl, rfl, rfl⟩⟩⟩

theorem sideCuts_upto_holds : Rows.SideCutsUptoSaid :=
  OpenClaim.holds_of_cond 6 Tryd.f6 rfl rfl rfl rfl rfl rfl rfl ⟨rfl, rfl, rfl, rfl, rfl⟩ rfl rfl rfl rfl rfl (by kernel_rfl) Tryd.func6 (by kernel_rfl)
    (of_decide_eq_true (by kernel_rfl)) (by unfold Func.isWrapper; rw [if_neg (of_decide_eq_false (by kernel_rfl))]; exact ⟨rfl, rfl⟩)
    (fun os started H enc _ F => by rw [OpenClaim.pre_eq_preRow]; exact sideCuts_lifted os started H enc F)

theorem sideCuts_upto_card_holds : Rows.SideCutsUptoCardSaid :=
  Claim7.holds_tied_plain_at .later [] [.handle] true (true, "a3bdc920b9b5afd9014f032e12ffb333c07cbff5953b2560b0367b8c4939d92d") true
    sideCuts_upto_holds (fun _ h => by cases h) (by kernel_rfl) (fun _ h => by cases h) sideCutsUpto_row_tie rfl ⟨rfl, rfl⟩ (by kernel_rfl) rfl
    (fun f fn hf hfn => by
      obtain rfl : f = 6 := Option.some.inj ((show Tryd.prog.funcNamed "selvage/selvagelaw15.SideCuts" = some 6 by kernel_rfl).symm.trans hf) |>.symm
      obtain rfl : fn = Tryd.f6 := (Option.some.inj (Tryd.func6.symm.trans hfn)).symm
      exact ⟨by kernel_rfl, noStand _ (by rw [Tryd.params6]; kernel_rfl)⟩)
    (by kernel_rfl)
#print axioms sideCuts_upto_card_holds
end Go.Proofs.YtjlobgcmhnkgnaaDoor
