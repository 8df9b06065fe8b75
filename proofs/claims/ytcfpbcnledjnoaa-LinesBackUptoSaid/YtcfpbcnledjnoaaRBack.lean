/- PROVED: the given statement 'LinesBackUptoSaid' of this seat: for every string and every list of strings LinesBack answers true and leaves all as it was. Its conditions are the given statement's own (what is handed in is of bulk at most 1048576). -/
import Derived.Test.YtcfpbcnledjnoaaR0
import Derived.Test.YtcfpbcnledjnoaaS10
namespace Go.Proofs.Ytcfpbcnledjnoaa
open Go Go.RowKit Go.ChangeShapes Go.WideShapes Vc

set_option maxRecDepth 100000 in
theorem linesBack_lifted (os : Os) (started : os.Started) (H : Type) (enc : TypeId × Value → H) (F : Stop.Interp) :
    ReturnsInHanded {} Try.checked os 7 .any ((Rows.OpenSpec.upto Rows.linesBackSpec).pre6 enc Try.prog Try.f7 Rows.linesBackUptoRow.domain false) (((Rows.OpenSpec.upto Rows.linesBackSpec).at F).post enc Try.prog Try.f7 false true false false) := by
  refine returnsInHanded_of_cond (C := Try.checked) (s := Rows.OpenSpec.upto Rows.linesBackSpec) (k := Rows.uptoSmall) rfl Try.own started (by kernel_rfl) Try.func7
    (OpenSpec.witness (enc := enc) (C := Try.checked) (s := Rows.OpenSpec.upto Rows.linesBackSpec) (k := Rows.uptoSmall) rfl false ⟨#[], #[.string .empty, .slice none 0 0], []⟩ 8 (by kernel_rfl) (by kernel_rfl) (by kernel_rfl)
      (x := ([.lit (.string []), .nil], [], [])) (by kernel_rfl) rfl (by kernel_rfl)) ?_
  intro W base args ds gs before hval0 hW _ hk _
  have hval : ∀ (j : Nat) t v, Try.f7.params[j]? = some t → args[j]? = some v → Value.okWide Try.prog W .any base t v := hval0
  have hA := hW
  obtain ⟨p, q, hA, _⟩ := hA
  have hA : DataW.TrodAll enc Try.prog W 0 (fun _ => true) true Try.f7.params.toList args.toList ds p := hA
  rw [Try.params7] at hA hval
  obtain ⟨v0, v1, d0, d1, p0, p1, rfl, rfl, rfl, h0, h1⟩ := trodAll_two hA
  have hpar : Try.f7.params.toList = [9, 23] := by rw [Try.params7]
  have hgs : gs = [] := by
    obtain ⟨_, _, _, hV, _⟩ := hW
    cases gs with
    | nil => rfl
    | cons g r => exact absurd hV (by intro h; cases h)
  subst hgs
  obtain ⟨l, rfl, rfl, rfl, hi0⟩ := open_s (hval 0 9 v0 rfl rfl) h0
  obtain ⟨fuel1, h1⟩ := trod_slice_cell Try.underlying23 (hval 1 23 v1 rfl rfl) h1
  obtain ⟨L, K1, hn1, hx1, hR1, hd1⟩ := open_st h1
  have hk0 : Rows.uptoBulkAll _ ≤ 1048576 := of_decide_eq_true hk
  simp only [List.append_nil] at hk0
  obtain ⟨b0, hk1⟩ := up_s hk0
  obtain ⟨b1, hk2⟩ := up_st hd1 hk1
  have hr : Try.f7.resultTypes = #[4] := by kernel_rfl
  refine (con_close (ρ := [K1]) (W := W) (vs := [.string (bs l), v1]) (lawBack_con l L (by omega) (by omega) (by omega) (fun x h => by have := len_flat h; omega)) (fun _ _ _ h => h.1) rfl (msat_ro (fun _ _ h => by cases h) ?_ ?_) ?_).mono fun e W' ⟨he, hb⟩ => ⟨_, he, post_true Try.laidOut (by rw [Try.params7]; exact readAll _ (by kernel_rfl)) rfl hr Try.underlying4 hW rfl hb⟩
  · intro c
    match c with
    | 0 => exact (hR1 0 [K1] rfl).2 _
    | c + 1 => exact trivial
  · intro c
    match c with
    | 0 => rfl
    | c + 1 => rfl
  · exact ⟨_, _, rfl, rfl, ⟨_, _, rfl, (hR1 0 [K1] rfl).1, rfl⟩⟩

theorem linesBack_upto_holds : Rows.LinesBackUptoSaid :=
  OpenClaim.holds_of_cond 7 Try.f7 rfl rfl rfl rfl rfl rfl rfl ⟨rfl, rfl, rfl, rfl, rfl⟩ rfl rfl rfl rfl rfl (by kernel_rfl) Try.func7 (by kernel_rfl)
    (of_decide_eq_true (by kernel_rfl)) (by unfold Func.isWrapper; rw [if_neg (of_decide_eq_false (by kernel_rfl))]; exact ⟨rfl, rfl⟩)
    (fun os started H enc _ F => linesBack_lifted os started H enc F)
#print axioms linesBack_upto_holds
end Go.Proofs.Ytcfpbcnledjnoaa
