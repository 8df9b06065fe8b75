/- PROVED: the given statement 'MergeOnesUptoCardSaid' of this seat: merged with no change a text is itself; the same change twice is one. Its conditions are the given statement's own: the variable errors.errorType reads as it is laid, and what is handed in is of bulk at most 1048576. -/
import Derived.Test.YtlmjkphiicmclaaDoorR0
import Derived.Test.YtlmjkphiicmclaaDoorN11
namespace Go.Proofs.YtlmjkphiicmclaaDoor
open Go Go.RowKit Go.ChangeShapes Go.WideShapes Vc

set_option maxRecDepth 100000 in
theorem mergeOnes_witness (os : Os) {H : Type} (enc : TypeId × Value → H) :
    (Rows.OpenSpec.upto Rows.mergeOnesSpec).preRow enc Tryd.prog Tryd.f6 Rows.mergeOnesUptoRow.domain false [("errors.errorType", Rows.laid_errors_errorType)] ((laidWorld os).forCall (fun _ _ => 0) ⟨#[], #[.slice none 0 0, .slice none 0 0, .slice none 0 0], []⟩).memory #[.slice none 0 0, .slice none 0 0, .slice none 0 0] := by
  have hw : (DataW.whole enc Tryd.prog ((laidWorld os).forCall (fun _ _ => 0) ⟨#[], #[.slice none 0 0, .slice none 0 0, .slice none 0 0], []⟩).memory Tryd.f6.params.toList (Rows.OpenSpec.upto Rows.mergeOnesSpec).vars false (#[.slice none 0 0, .slice none 0 0, .slice none 0 0] : Array Value).toList 8).map (fun x => (x.1, x.2.1)) =
      some ([.nil, .nil, .nil], []) := by kernel_rfl
  obtain ⟨⟨x1, x2, x3⟩, hx, hx1⟩ := Option.map_eq_some_iff.1 hw
  simp only [Prod.mk.injEq] at hx1
  obtain ⟨rfl, rfl⟩ := hx1
  exact OpenSpec.preRow_of_cond 8 hx (by kernel_rfl) (fun k hk => by cases hk; rfl) (by kernel_rfl) (laidWorld_met os _)

set_option maxRecDepth 100000 in
theorem mergeOnes_lifted (os : Os) (started : os.Started) (H : Type) (enc : TypeId × Value → H) (F : Stop.Interp) :
    ReturnsInHanded {} Tryd.checked os 6 .any ((Rows.OpenSpec.upto Rows.mergeOnesSpec).preRow enc Tryd.prog Tryd.f6 Rows.mergeOnesUptoRow.domain false [("errors.errorType", Rows.laid_errors_errorType)]) (((Rows.OpenSpec.upto Rows.mergeOnesSpec).at F).post enc Tryd.prog Tryd.f6 false true false false) := by
  refine returnsInHanded_of_row (C := Tryd.checked) (s := Rows.OpenSpec.upto Rows.mergeOnesSpec) Tryd.own started (by kernel_rfl) Tryd.func6
    (witness_row_at (enc := enc) (C := Tryd.checked) false (laidWorld os) #[.slice none 0 0, .slice none 0 0, .slice none 0 0] rfl (by kernel_rfl) (by kernel_rfl) (by kernel_rfl) (mergeOnes_witness os enc)) ?_
  intro W base args ds gs before hval0 hW _ hk _ hL _ _
  have hval : ∀ (j : Nat) t v, Tryd.f6.params[j]? = some t → args[j]? = some v → Value.okWide Tryd.prog W .any base t v := hval0
  have hA := hW
  obtain ⟨p, q, hA, _⟩ := hA
  have hA : DataW.TrodAll enc Tryd.prog W 0 (fun _ => true) true Tryd.f6.params.toList args.toList ds p := hA
  rw [Tryd.params6] at hA hval
  obtain ⟨v0, v1, v2, d0, d1, d2, p0, p1, p2, rfl, rfl, rfl, h0, h1, h2⟩ := trodAll_three hA
  have hgs : gs = [] := by
    obtain ⟨_, _, _, hV, _⟩ := hW
    cases gs with
    | nil => rfl
    | cons g r => exact absurd hV (by intro h; cases h)
  subst hgs
  have hk : Rows.uptoBulkAll _ ≤ 1048576 := of_decide_eq_true (hk _ rfl)
  simp only [List.append_nil, Rows.uptoBulkAll] at hk
  obtain ⟨fuel0, h0⟩ := trod_slice_cell Tryd.underlying22 (hval 0 22 v0 rfl rfl) h0
  obtain ⟨s, K0, hl0, hR0, _⟩ := open_chg h0
  have q0 : _ ≤ Rows.uptoBulk d0 := bulk_chg h0 hR0
  obtain ⟨fuel1, h1⟩ := trod_slice_cell Tryd.underlying23 (hval 1 23 v1 rfl rfl) h1
  obtain ⟨b, K1, hn1, hx1, hR1, hd1⟩ := open_st h1
  have q1 : _ ≤ Rows.uptoBulk d1 := bulk_st hd1
  obtain ⟨fuel2, h2⟩ := trod_slice_cell Tryd.underlying23 (hval 2 23 v2 rfl rfl) h2
  obtain ⟨m, K2, hn2, hx2, hR2, hd2⟩ := open_st h2
  have q2 : _ ≤ Rows.uptoBulk d2 := bulk_st hd2
  have hr : Tryd.f6.resultTypes = #[4] := by kernel_rfl
  refine (con_close (ρ := [K0, K1, K2]) (W := W) (vs := [v0, v1, v2]) (ones_con s b m ⟨(by omega), (by omega), (by omega), (by omega), (by omega)⟩) (fun _ _ _ h => h.1) rfl (msat_ro (glob_of hL) ?_ ?_) ?_).mono fun e W' ⟨he, hb⟩ => ⟨_, he, post_true Tryd.laidOut (by rw [Tryd.params6]; exact readAll _ (by kernel_rfl)) rfl hr Tryd.underlying4 hW rfl hb⟩
  · intro c
    match c with
    | 0 => exact (hR0 0 [K0, K1, K2] rfl).2 _
    | 1 => exact (hR1 1 [K0, K1, K2] rfl).2 _
    | 2 => exact (hR2 2 [K0, K1, K2] rfl).2 _
    | c + 3 => exact trivial
  · intro c
    match c with
    | 0 => rfl
    | 1 => rfl
    | 2 => rfl
    | c + 3 => rfl
  · exact ⟨_, _, rfl, (hR0 0 [K0, K1, K2] rfl).1, ⟨_, _, rfl, (hR1 1 [K0, K1, K2] rfl).1, ⟨_, _, rfl, (hR2 2 [K0, K1, K2] rfl).1, rfl⟩⟩⟩

theorem mergeOnes_upto_holds : Rows.MergeOnesUptoSaid :=
  OpenClaim.holds_of_cond 6 Tryd.f6 rfl rfl rfl rfl rfl rfl rfl ⟨rfl, rfl, rfl, rfl, rfl⟩ rfl rfl rfl rfl rfl (by kernel_rfl) Tryd.func6 (by kernel_rfl)
    (of_decide_eq_true (by kernel_rfl)) (by unfold Func.isWrapper; rw [if_neg (of_decide_eq_false (by kernel_rfl))]; exact ⟨rfl, rfl⟩)
    (fun os started H enc _ F => by rw [OpenClaim.pre_eq_preRow]; exact mergeOnes_lifted os started H enc F)

theorem mergeOnes_upto_card_holds : Rows.MergeOnesUptoCardSaid :=
  Claim7.holds_tied_plain_at .later [] [.handle] true (true, "b9da0829ee008c3bf047a40a601726e9a0011ae294a57d2014d4eedae53cc70b") true
    mergeOnes_upto_holds (fun _ h => by cases h) (by kernel_rfl) (fun _ h => by cases h) mergeOnesUpto_row_tie rfl ⟨rfl, rfl⟩ (by kernel_rfl) rfl
    (fun f fn hf hfn => by
      obtain rfl : f = 6 := Option.some.inj ((show Tryd.prog.funcNamed "selvage/selvagelaw18.MergeOnes" = some 6 by kernel_rfl).symm.trans hf) |>.symm
      obtain rfl : fn = Tryd.f6 := (Option.some.inj (Tryd.func6.symm.trans hfn)).symm
      exact ⟨by kernel_rfl, noStand _ (by rw [Tryd.params6]; kernel_rfl)⟩)
    (by kernel_rfl)
#print axioms mergeOnes_upto_card_holds
end Go.Proofs.YtlmjkphiicmclaaDoor
