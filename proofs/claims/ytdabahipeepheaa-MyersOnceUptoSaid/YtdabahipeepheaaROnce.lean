/- PROVED: the given statement 'MyersOnceUptoSaid' of this seat: for every two rows MyersOnce answers true and leaves all as it was. Its conditions are the given statement's own (what is handed in is of bulk at most 1048576). -/
import Derived.Test.YtdabahipeepheaaR0
import Derived.Test.YtdabahipeepheaaS15
namespace Go.Proofs.Ytdabahipeepheaa
open Go Go.RowKit Go.ChangeShapes Go.WideShapes Vc

set_option maxRecDepth 100000 in
theorem myersOnce_lifted (os : Os) (started : os.Started) (H : Type) (enc : TypeId × Value → H) (F : Stop.Interp) :
    ReturnsInHanded {} Try.checked os 5 .any ((Rows.OpenSpec.upto Rows.myersOnceSpec).pre6 enc Try.prog Try.f5 Rows.myersOnceUptoRow.domain false) (((Rows.OpenSpec.upto Rows.myersOnceSpec).at F).post enc Try.prog Try.f5 false true false false) := by
  refine returnsInHanded_of_cond (C := Try.checked) (s := Rows.OpenSpec.upto Rows.myersOnceSpec) (k := Rows.uptoSmall) rfl Try.own started (by kernel_rfl) Try.func5
    (OpenSpec.witness (enc := enc) (C := Try.checked) (s := Rows.OpenSpec.upto Rows.myersOnceSpec) (k := Rows.uptoSmall) rfl false ⟨#[], #[.slice none 0 0, .slice none 0 0], []⟩ 8 (by kernel_rfl) (by kernel_rfl) (by kernel_rfl)
      (x := ([.nil, .nil], [], [])) (by kernel_rfl) rfl (by kernel_rfl)) ?_
  intro W base args ds gs before hval0 hW _ hk _
  have hval : ∀ (j : Nat) t v, Try.f5.params[j]? = some t → args[j]? = some v → Value.okWide Try.prog W .any base t v := hval0
  have hA := hW
  obtain ⟨p, q, hA, _⟩ := hA
  have hA : DataW.TrodAll enc Try.prog W 0 (fun _ => true) true Try.f5.params.toList args.toList ds p := hA
  rw [Try.params5] at hA hval
  obtain ⟨v0, v1, d0, d1, p0, p1, rfl, rfl, rfl, h0, h1⟩ := trodAll_two hA
  have hpar : Try.f5.params.toList = [22, 22] := by rw [Try.params5]
  have hgs : gs = [] := by
    obtain ⟨_, _, _, hV, _⟩ := hW
    cases gs with
    | nil => rfl
    | cons g r => exact absurd hV (by intro h; cases h)
  subst hgs
  obtain ⟨fuel0, h0⟩ := trod_slice_cell Try.underlying22 (hval 0 22 v0 rfl rfl) h0
  obtain ⟨a, K0, hn0, hx0, hR0, hd0⟩ := open_it h0
  obtain ⟨fuel1, h1⟩ := trod_slice_cell Try.underlying22 (hval 1 22 v1 rfl rfl) h1
  obtain ⟨b, K1, hn1, hx1, hR1, hd1⟩ := open_it h1
  have hk0 : Rows.uptoBulkAll _ ≤ 1048576 := of_decide_eq_true hk
  simp only [List.append_nil] at hk0
  obtain ⟨b0, hk1⟩ := up_it hd0 hk0
  obtain ⟨b1, hk2⟩ := up_it hd1 hk1
  have hr : Try.f5.resultTypes = #[4] := by kernel_rfl
  refine (con_close (ρ := [K0, K1]) (W := W) (vs := [v0, v1]) (once_con (lA a) (lA b) a.length b.length (by omega) (by omega)) (fun _ _ _ h => h.1) rfl (msat_ro (fun _ _ h => by cases h) ?_ ?_) ?_).mono fun e W' ⟨he, hb⟩ => ⟨_, he, post_true Try.laidOut (by rw [Try.params5]; exact readAll _ (by kernel_rfl)) rfl hr Try.underlying4 hW rfl hb⟩
  · intro c
    match c with
    | 0 => exact (hR0 0 [K0, K1] rfl).2 _
    | 1 => exact (hR1 1 [K0, K1] rfl).2 _
    | c + 2 => exact trivial
  · intro c
    match c with
    | 0 => rfl
    | 1 => rfl
    | c + 2 => rfl
  · exact ⟨_, _, rfl, (hR0 0 [K0, K1] rfl).1, ⟨_, _, rfl, (hR1 1 [K0, K1] rfl).1, rfl⟩⟩

theorem myersOnce_upto_holds : Rows.MyersOnceUptoSaid :=
  OpenClaim.holds_of_cond 5 Try.f5 rfl rfl rfl rfl rfl rfl rfl ⟨rfl, rfl, rfl, rfl, rfl⟩ rfl rfl rfl rfl rfl (by kernel_rfl) Try.func5 (by kernel_rfl)
    (of_decide_eq_true (by kernel_rfl)) (by unfold Func.isWrapper; rw [if_neg (of_decide_eq_false (by kernel_rfl))]; exact ⟨rfl, rfl⟩)
    (fun os started H enc _ F => myersOnce_lifted os started H enc F)
#print axioms myersOnce_upto_holds
end Go.Proofs.Ytdabahipeepheaa
