/- PROVED: the given statement 'MergeOntosUptoCardSaid' of this seat: the script from mine to the merged text, and its lines, or the error, are the document's. Its conditions are the given statement's own: the variable errors.errorType reads as it is laid, and what is handed in is of bulk at most 1048576. -/
import Derived.Test.YtlmjkphiicmclaaDoorR0
import Derived.Test.YtlmjkphiicmclaaDoorO4
namespace Go.Proofs.YtlmjkphiicmclaaDoor
open Go Go.RowKit Go.ChangeShapes Go.WideShapes Vc

set_option maxRecDepth 100000 in
theorem mergeOntos_witness (os : Os) {H : Type} (enc : TypeId × Value → H) :
    (Rows.OpenSpec.upto Rows.mergeOntosSpec).preRow enc Tryd.prog Tryd.f10 Rows.mergeOntosUptoRow.domain false [("errors.errorType", Rows.laid_errors_errorType)] ((laidWorld os).forCall (fun _ _ => 0) ⟨#[], #[.agg #[.slice none 0 0, .slice none 0 0, .slice none 0 0, .slice none 0 0, .slice none 0 0, .slice none 0 0, .int .i64 0]], []⟩).memory #[.agg #[.slice none 0 0, .slice none 0 0, .slice none 0 0, .slice none 0 0, .slice none 0 0, .slice none 0 0, .int .i64 0]] := by
  have hw : (DataW.whole enc Tryd.prog ((laidWorld os).forCall (fun _ _ => 0) ⟨#[], #[.agg #[.slice none 0 0, .slice none 0 0, .slice none 0 0, .slice none 0 0, .slice none 0 0, .slice none 0 0, .int .i64 0]], []⟩).memory Tryd.f10.params.toList (Rows.OpenSpec.upto Rows.mergeOntosSpec).vars false (#[.agg #[.slice none 0 0, .slice none 0 0, .slice none 0 0, .slice none 0 0, .slice none 0 0, .slice none 0 0, .int .i64 0]] : Array Value).toList 8).map (fun x => (x.1, x.2.1)) =
      some ([.agg [.nil, .nil, .nil, .nil, .nil, .nil, .lit (.int .i64 0)]], []) := by kernel_rfl
  obtain ⟨⟨x1, x2, x3⟩, hx, hx1⟩ := Option.map_eq_some_iff.1 hw
  simp only [Prod.mk.injEq] at hx1
  obtain ⟨rfl, rfl⟩ := hx1
  exact OpenSpec.preRow_of_cond 8 hx (by kernel_rfl) (fun k hk => by cases hk; rfl) (by kernel_rfl) (laidWorld_met os _)

set_option maxRecDepth 100000 in
theorem mergeOntos_lifted (os : Os) (started : os.Started) (H : Type) (enc : TypeId × Value → H) (F : Stop.Interp) :
    ReturnsInHanded {} Tryd.checked os 10 .any ((Rows.OpenSpec.upto Rows.mergeOntosSpec).preRow enc Tryd.prog Tryd.f10 Rows.mergeOntosUptoRow.domain false [("errors.errorType", Rows.laid_errors_errorType)]) (((Rows.OpenSpec.upto Rows.mergeOntosSpec).at F).post enc Tryd.prog Tryd.f10 false true false false) := by
  refine returnsInHanded_of_row (C := Tryd.checked) (s := Rows.OpenSpec.upto Rows.mergeOntosSpec) Tryd.own started (by kernel_rfl) Tryd.func10
    (witness_row_at (enc := enc) (C := Tryd.checked) false (laidWorld os) #[.agg #[.slice none 0 0, .slice none 0 0, .slice none 0 0, .slice none 0 0, .slice none 0 0, .slice none 0 0, .int .i64 0]] rfl (by kernel_rfl) (by kernel_rfl) (by kernel_rfl) (mergeOntos_witness os enc)) ?_
  intro W base args ds gs before hval0 hW _ hk _ hL _ _
  have hval : ∀ (j : Nat) t v, Tryd.f10.params[j]? = some t → args[j]? = some v → Value.okWide Tryd.prog W .any base t v := hval0
  have hA := hW
  obtain ⟨p, q, hA, _⟩ := hA
  have hA : DataW.TrodAll enc Tryd.prog W 0 (fun _ => true) true Tryd.f10.params.toList args.toList ds p := hA
  rw [Tryd.params10] at hA hval
  obtain ⟨v0, d0, rfl, rfl, h0⟩ := trodAll_one hA
  have hgs : gs = [] := by
    obtain ⟨_, _, _, hV, _⟩ := hW
    cases gs with
    | nil => rfl
    | cons g r => exact absurd hV (by intro h; cases h)
  subst hgs
  have hk : Rows.uptoBulkAll _ ≤ 1048576 := of_decide_eq_true (hk _ rfl)
  simp only [List.append_nil, Rows.uptoBulkAll] at hk
  obtain ⟨s, t, b, m, y, lab, n, c0, c1, c2, c3, c4, c5, L0, L1, L2, L3, L4, L5, rfl, q0, hS0, hS1, hS2, hS3, hS4, hS5⟩ := open_job (hval 0 25 v0 rfl rfl) h0
  have hr : Tryd.f10.resultTypes = #[4] := by kernel_rfl
  refine (con_close (ρ := [L0, L1, L2, L3, L4, L5]) (W := W) (vs := [.agg [c0, c1, c2, c3, c4, c5, .int .i64 n].toArray]) (ontos_con s t b m y lab n ⟨(by omega), (by omega), (by omega), (by omega), (by omega), (by omega), (by omega), (by omega), (by omega), (by omega)⟩) (fun _ _ _ h => h.1) rfl (msat_ro (glob_of hL) ?_ ?_) ?_).mono fun e W' ⟨he, hb⟩ => ⟨_, he, post_true Tryd.laidOut (by rw [Tryd.params10]; exact readAll _ (by kernel_rfl)) rfl hr Tryd.underlying4 hW rfl hb⟩
  · intro c
    match c with
    | 0 => exact (hS0 0 [L0, L1, L2, L3, L4, L5] rfl).2 _
    | 1 => exact (hS1 1 [L0, L1, L2, L3, L4, L5] rfl).2 _
    | 2 => exact (hS2 2 [L0, L1, L2, L3, L4, L5] rfl).2 _
    | 3 => exact (hS3 3 [L0, L1, L2, L3, L4, L5] rfl).2 _
    | 4 => exact (hS4 4 [L0, L1, L2, L3, L4, L5] rfl).2 _
    | 5 => exact (hS5 5 [L0, L1, L2, L3, L4, L5] rfl).2 _
    | c + 6 => exact trivial
  · intro c
    match c with
    | 0 => rfl
    | 1 => rfl
    | 2 => rfl
    | 3 => rfl
    | 4 => rfl
    | 5 => rfl
    | c + 6 => rfl
  · exact ⟨_, _, rfl, ⟨_, rfl, ⟨_, _, rfl, hS0.rel rfl, ⟨_, _, rfl, hS1.rel rfl, ⟨_, _, rfl, hS2.rel rfl, ⟨_, _, rfl, hS3.rel rfl, ⟨_, _, rfl, hS4.rel rfl, ⟨_, _, rfl, hS5.rel rfl, ⟨_, _, rfl, rfl, rfl⟩⟩⟩⟩⟩⟩⟩, fun x hx => by
      simp only [List.mem_cons, List.not_mem_nil, or_false] at hx
      rcases hx with rfl | rfl | rfl | rfl | rfl | rfl | rfl <;> first | exact hS0.one | exact hS1.one | exact hS2.one | exact hS3.one | exact hS4.one | exact hS5.one | rfl⟩, rfl⟩

theorem mergeOntos_upto_holds : Rows.MergeOntosUptoSaid :=
  OpenClaim.holds_of_cond 10 Tryd.f10 rfl rfl rfl rfl rfl rfl rfl ⟨rfl, rfl, rfl, rfl, rfl⟩ rfl rfl rfl rfl rfl (by kernel_rfl) Tryd.func10 (by kernel_rfl)
    (of_decide_eq_true (by kernel_rfl)) (by unfold Func.isWrapper; rw [if_neg (of_decide_eq_false (by kernel_rfl))]; exact ⟨rfl, rfl⟩)
    (fun os started H enc _ F => by rw [OpenClaim.pre_eq_preRow]; exact mergeOntos_lifted os started H enc F)

theorem mergeOntos_upto_card_holds : Rows.MergeOntosUptoCardSaid :=
  Claim7.holds_tied_plain_at .later [] [.handle] true (true, "b9da0829ee008c3bf047a40a601726e9a0011ae294a57d2014d4eedae53cc70b") true
    mergeOntos_upto_holds (fun _ h => by cases h) (by kernel_rfl) (fun _ h => by cases h) mergeOntosUpto_row_tie rfl ⟨rfl, rfl⟩ (by kernel_rfl) rfl
    (fun f fn hf hfn => by
      obtain rfl : f = 10 := Option.some.inj ((show Tryd.prog.funcNamed "selvage/selvagelaw18.MergeOntos" = some 10 by kernel_rfl).symm.trans hf) |>.symm
      obtain rfl : fn = Tryd.f10 := (Option.some.inj (Tryd.func10.symm.trans hfn)).symm
      exact ⟨by kernel_rfl, noStand _ (by rw [Tryd.params10]; kernel_rfl)⟩)
    (by kernel_rfl)
#print axioms mergeOntos_upto_card_holds
end Go.Proofs.YtlmjkphiicmclaaDoor
