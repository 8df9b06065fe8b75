/- PROVED: the given statement 'MyersLongSaid' of this seat: for every number and every row of places MyersLong answers true and leaves all as it was. Its conditions are the given statement's own. -/
import Derived.Test.YtdabahipeepheaaR0
import Derived.Test.YtdabahipeepheaaF3
namespace Go.Proofs.Ytdabahipeepheaa
open Go Go.RowKit Go.ChangeShapes Go.WideShapes Vc

set_option maxRecDepth 100000 in
theorem myersLong_lifted (os : Os) (started : os.Started) (H : Type) (enc : TypeId × Value → H) :
    ReturnsInHanded {} Try.checked os 6 .any (Rows.myersLongSpec.pre6 enc Try.prog Try.f6 Rows.myersLongRow.domain false) (Rows.myersLongSpec.post enc Try.prog Try.f6 false true false false) := by
  refine returnsInHanded_of_change_sized (C := Try.checked) Try.own started (by kernel_rfl) Try.func6
    (ChangeSpec.witness6 (enc := enc) (C := Try.checked) false ⟨#[], #[.int .i64 0, .slice none 0 0], []⟩ 8 (by kernel_rfl) (by kernel_rfl) (by kernel_rfl) (by kernel_rfl)) ?_
  intro W base args ds gs before hval0 hW _ hsz _
  have hval : ∀ (j : Nat) t v, Try.f6.params[j]? = some t → args[j]? = some v → Value.okWide Try.prog W .any base t v := hval0
  have hA := hW
  obtain ⟨p, q, hA, _⟩ := hA
  have hA : DataW.TrodAll enc Try.prog W 0 (fun _ => true) true Try.f6.params.toList args.toList ds p := hA
  rw [Try.params6] at hA hval
  obtain ⟨v0, v1, d0, d1, p0, p1, rfl, rfl, rfl, h0, h1⟩ := trodAll_two hA
  have hpar : Try.f6.params.toList = [3, 22] := by rw [Try.params6]
  have hgs : gs = [] := by
    obtain ⟨_, _, _, hV, _⟩ := hW
    cases gs with
    | nil => rfl
    | cons g r => exact absurd hV (by intro h; cases h)
  subst hgs
  rw [hpar] at hsz
  obtain ⟨n, rfl, rfl, rfl, hi0⟩ := open_int Try.underlying3 (hval 0 3 v0 rfl rfl) h0
  obtain ⟨fuel1, h1⟩ := trod_slice_cell Try.underlying22 (hval 1 22 v1 rfl rfl) h1
  obtain ⟨places, K1, hn1, hx1, hR1, hd1⟩ := open_it h1
  have hr : Try.f6.resultTypes = #[4] := by kernel_rfl
  refine (con_close (ρ := [K1]) (W := W) (vs := [.int .i64 n, v1]) (long_con n places.length (lA places)) (fun _ _ _ h => h.1) rfl (msat_ro (fun _ _ h => by cases h) ?_ ?_) ?_).mono fun e W' ⟨he, hb⟩ => ⟨_, he, post_true Try.laidOut (by rw [Try.params6]; exact readAll _ (by kernel_rfl)) rfl hr Try.underlying4 hW rfl hb⟩
  · intro c
    match c with
    | 0 => exact (hR1 0 [K1] rfl).2 _
    | c + 1 => exact trivial
  · intro c
    match c with
    | 0 => rfl
    | c + 1 => rfl
  · exact ⟨_, _, rfl, rfl, ⟨_, _, rfl, (hR1 0 [K1] rfl).1, rfl⟩⟩

theorem myersLong_holds : Rows.MyersLongSaid :=
  OpenClaim.holds_of_wide 6 Try.f6 rfl rfl rfl rfl rfl rfl rfl ⟨rfl, rfl, rfl, rfl, rfl⟩ rfl rfl rfl rfl rfl (by kernel_rfl) Try.func6 (by kernel_rfl)
    (of_decide_eq_true (by kernel_rfl)) (by unfold Func.isWrapper; rw [if_neg (of_decide_eq_false (by kernel_rfl))]; exact ⟨rfl, rfl⟩)
    (fun os started H enc _ => myersLong_lifted os started H enc)
#print axioms myersLong_holds
end Go.Proofs.Ytdabahipeepheaa
