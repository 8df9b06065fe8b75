/- PROVED: the given statement 'MyersMeasuresUptoSaid' of this seat: for every three rows MyersMeasures answers true and leaves all as it was. Its conditions are the given statement's own (what is handed in is of bulk at most 1048576). -/
import Derived.Test.YtdabahipeepheaaR0
namespace Go.Proofs.Ytdabahipeepheaa
open Go Go.RowKit Go.ChangeShapes Go.WideShapes Vc

set_option maxRecDepth 100000 in
theorem myersMeasures_lifted (os : Os) (started : os.Started) (H : Type) (enc : TypeId × Value → H) (F : Stop.Interp) :
    ReturnsInHanded {} Try.checked os 4 .any ((Rows.OpenSpec.upto Rows.myersMeasuresSpec).pre6 enc Try.prog Try.f4 Rows.myersMeasuresUptoRow.domain false) (((Rows.OpenSpec.upto Rows.myersMeasuresSpec).at F).post enc Try.prog Try.f4 false true false false) := by
  refine returnsInHanded_of_cond (C := Try.checked) (s := Rows.OpenSpec.upto Rows.myersMeasuresSpec) (k := Rows.uptoSmall) rfl Try.own started (by kernel_rfl) Try.func4
    (OpenSpec.witness (enc := enc) (C := Try.checked) (s := Rows.OpenSpec.upto Rows.myersMeasuresSpec) (k := Rows.uptoSmall) rfl false ⟨#[], #[.slice none 0 0, .slice none 0 0, .slice none 0 0], []⟩ 8 (by kernel_rfl) (by kernel_rfl) (by kernel_rfl)
      (x := ([.nil, .nil, .nil], [], [])) (by kernel_rfl) rfl (by kernel_rfl)) ?_
  intro W base args ds gs before hval0 hW _ hk _
  have hval : ∀ (j : Nat) t v, Try.f4.params[j]? = some t → args[j]? = some v → Value.okWide Try.prog W .any base t v := hval0
  have hA := hW
  obtain ⟨p, q, hA, _⟩ := hA
  have hA : DataW.TrodAll enc Try.prog W 0 (fun _ => true) true Try.f4.params.toList args.toList ds p := hA
  rw [Try.params4] at hA hval
  obtain ⟨v0, v1, v2, d0, d1, d2, p0, p1, p2, rfl, rfl, rfl, h0, h1, h2⟩ := trodAll_three hA
  have hpar : Try.f4.params.toList = [22, 22, 22] := by rw [Try.params4]
  have hgs : gs = [] := by
    obtain ⟨_, _, _, hV, _⟩ := hW
    cases gs with
    | nil => rfl
    | cons g r => exact absurd hV (by intro h; cases h)
  subst hgs
  obtain ⟨fuel0, h0⟩ := trod_slice_cell Try.underlying22 (hval 0 22 v0 rfl rfl) h0
  obtain ⟨a, K0, hn0, hx0, hR0, hd0⟩ := open_it h0
  obtain ⟨fuel1, h1⟩ := trod_slice_cell Try.underlying22 (hval 1 22 v1 rfl rfl) h1
  obtain ⟨b, K1, hn1, hx1, hR1, hd1⟩ := open_it h1
  obtain ⟨fuel2, h2⟩ := trod_slice_cell Try.underlying22 (hval 2 22 v2 rfl rfl) h2
  obtain ⟨c, K2, hn2, hx2, hR2, hd2⟩ := open_it h2
  have hk0 : Rows.uptoBulkAll _ ≤ 1048576 := of_decide_eq_true hk
  simp only [List.append_nil] at hk0
  obtain ⟨b0, hk1⟩ := up_it hd0 hk0
  obtain ⟨b1, hk2⟩ := up_it hd1 hk1
  obtain ⟨b2, hk3⟩ := up_it hd2 hk2
  have hr : Try.f4.resultTypes = #[4] := by kernel_rfl
  refine (con_close (ρ := [K0, K1, K2]) (W := W) (vs := [v0, v1, v2]) (measures_con (lA a) (lA b) (lA c) a.length b.length c.length (by omega) (by omega) (by omega)) (fun _ _ _ h => h.1) rfl (msat_ro (fun _ _ h => by cases h) ?_ ?_) ?_).mono fun e W' ⟨he, hb⟩ => ⟨_, he, post_true Try.laidOut (by rw [Try.params4]; exact readAll _ (by kernel_rfl)) rfl hr Try.underlying4 hW rfl hb⟩
  · intro c
    match c with
    | 0 => exact (hR0 0 [K0, K1, K2] rfl).2 _
    | 1 => exact (hR1 1 [K0, K1, K2] rfl).2 _
    | 2 => exact (hR2 2 [K0, K1, K2] rfl).2 _
    | c + 3 => exact trivial
  · intro c
    match c with
    | 0 => rfl
    | 1 => rfl
    | 2 => rfl
    | c + 3 => rfl
  · exact ⟨_, _, rfl, (hR0 0 [K0, K1, K2] rfl).1, ⟨_, _, rfl, (hR1 1 [K0, K1, K2] rfl).1, ⟨_, _, rfl, (hR2 2 [K0, K1, K2] rfl).1, rfl⟩⟩⟩

theorem myersMeasures_upto_holds : Rows.MyersMeasuresUptoSaid :=
  OpenClaim.holds_of_cond 4 Try.f4 rfl rfl rfl rfl rfl rfl rfl ⟨rfl, rfl, rfl, rfl, rfl⟩ rfl rfl rfl rfl rfl (by kernel_rfl) Try.func4 (by kernel_rfl)
    (of_decide_eq_true (by kernel_rfl)) (by unfold Func.isWrapper; rw [if_neg (of_decide_eq_false (by kernel_rfl))]; exact ⟨rfl, rfl⟩)
    (fun os started H enc _ F => myersMeasures_lifted os started H enc F)
#print axioms myersMeasures_upto_holds
end Go.Proofs.Ytdabahipeepheaa
