/- Chapter 15: the reference's text of a piece of a list, walked. -/
import Derived.Test.YtjlobgcmhnkgnaaDoorJ1
namespace Go.Proofs.YtjlobgcmhnkgnaaDoor
open Go Go.RowKit Vc

abbrev rgF (f : Nat → Byt) (n : Nat) : Byt := ((List.range n).map f).flatten
theorem rg_succ (f : Nat → Byt) (n : Nat) : rgF f (n + 1) = rgF f n ++ f n := by simp [rgF, List.range_succ]
theorem rg_mono (f : Nat → Byt) {k n : Nat} (h : k ≤ n) : (rgF f k).length ≤ (rgF f n).length := by
  induction h with
  | refl => exact Nat.le_refl _
  | step _ ih => rw [rg_succ, List.length_append]; omega
theorem rg_seg (b : List Byt) {e n : Nat} (h : e + n ≤ b.length) : (List.range n).map (fun i => b.getD (i + e) []) = (b.drop e).take n := by
  apply List.ext_getElem
  · simp; omega
  · intro i h1 h2
    simp at h1
    have : i + e < b.length := by omega
    simp [Nat.add_comm e i, this]
set_option maxRecDepth 100000 in
set_option maxHeartbeats 4000000 in
theorem rJoin_con (f : Nat → Byt) (n : Nat) (hn : n ≤ 9223372036854775807) (hl : (rgF f n).length ≤ 140737488355328) : Con Tryd.prog glob 28 [.s 0 0 n] [(0, .ro 1 n fun i => stEnc (f i))] 1 (retV 1 (str (rgF f n))) := by
  refine spec_intro (tab := tab) (N := 19) Tryd.func28 rfl rfl tab_ok mix rfl rfl _ rfl ?_
  intro B hG
  repeat' (first | refine And.intro (by first | omega | (dsimp only; omega) | (show (_ : Bool) = true; kernel_rfl) | decide | (repeat' (first | refine And.intro ?_ ?_ | exact trivial | exact rfl))) ?_ | refine bcs_dec (fun h => ?_) (fun h => ?_) | refine bcs_ndec (fun h => ?_) (fun h => ?_) | refine bcs_not ?_ | refine bcs_intro (fun h => ?_) (fun h => ?_) | refine And.intro ?_ ?_ | refine reg_tail (by kernel_rfl) ?_)
  refine loop_rule (α := Nat × Byt) (fun (k, out) => ⟨[(0, .s 0 0 n), (3, .o 1), (4, .v (.int .i64 k))], [(0, .ro 1 n fun i => stEnc (f i)), (1, byOwn out)], 2⟩)
    (fun (k, out) => k ≤ n ∧ out = rgF f k) (fun (k, _) => n - k) (0, []) [.nil 1] ?_ ?_ ?_
  · exact ⟨by omega, rfl⟩
  · (refine ⟨rfl, rfl, ?_, ?_⟩ <;> repeat' (first | refine And.intro ?_ ?_ | exact trivial | exact rfl | refine lt0 | refine lt1 ?_ | refine lt2 ?_ ?_ | refine lt3 ?_ ?_ ?_ | refine lt4 ?_ ?_ ?_ ?_ | exact veq_refl _ | decide | (intro i hi; repeat' (first | refine And.intro ?_ ?_ | exact trivial | exact rfl))))
    all_goals exact Nat.le_refl _
  rintro ⟨k, out⟩ ⟨h1, h2⟩
  have ek : (f (0 + (k : Int).toNat)) = f k := by simp
  have hb : (bs (f (0 + (k : Int).toNat))).size = (f k).length := by rw [ek, bs_size]
  have hs : out ++ f k = rgF f (k + 1) := by rw [h2, rg_succ]
  have hlen : k < n → out.length + (f k).length ≤ 140737488355328 := fun h => by
    have h3 := congrArg List.length hs
    have h4 := rg_mono f (k := k + 1) (n := n) (by omega)
    rw [List.length_append] at h3
    omega
  repeat' (first | refine And.intro (by first | omega | (dsimp only; omega) | (show (_ : Bool) = true; kernel_rfl) | decide | (repeat' (first | refine And.intro ?_ ?_ | exact trivial | exact rfl))) ?_ | refine bcs_dec (fun h => ?_) (fun h => ?_) | refine bcs_ndec (fun h => ?_) (fun h => ?_) | refine bcs_not ?_ | refine bcs_intro (fun h => ?_) (fun h => ?_) | refine And.intro ?_ ?_ | refine reg_tail (by kernel_rfl) ?_)
  · refine ext_apps Tryd.underlying55 Tryd.underlying9 (te := Tryd.t5) (by kernel_rfl) rfl rfl rfl rfl ?_
    repeat' (first | refine And.intro (by first | omega | (dsimp only; omega) | (show (_ : Bool) = true; kernel_rfl) | decide | (repeat' (first | refine And.intro ?_ ?_ | exact trivial | exact rfl))) ?_ | refine bcs_dec (fun h => ?_) (fun h => ?_) | refine bcs_ndec (fun h => ?_) (fun h => ?_) | refine bcs_not ?_ | refine bcs_intro (fun h => ?_) (fun h => ?_) | refine And.intro ?_ ?_)
    refine appB rfl ?_
    repeat' (first | refine And.intro (by first | omega | (dsimp only; omega) | (show (_ : Bool) = true; kernel_rfl) | decide | (repeat' (first | refine And.intro ?_ ?_ | exact trivial | exact rfl))) ?_ | refine bcs_dec (fun h => ?_) (fun h => ?_) | refine bcs_ndec (fun h => ?_) (fun h => ?_) | refine bcs_not ?_ | refine bcs_intro (fun h => ?_) (fun h => ?_) | refine And.intro ?_ ?_ | refine reg_tail (by kernel_rfl) ?_)
    refine ⟨(k + 1, out ++ (f (0 + (k : Int).toNat))), [.at 2 0], ?_, ?_, ?_⟩
    · refine ⟨by omega, ?_⟩
      rw [ek]
      exact hs
    · show n - (k + 1) < n - k
      omega
    · (refine ⟨rfl, rfl, ?_, ?_⟩ <;> repeat' (first | refine And.intro ?_ ?_ | exact trivial | exact rfl | refine lt0 | refine lt1 ?_ | refine lt2 ?_ ?_ | refine lt3 ?_ ?_ ?_ | refine lt4 ?_ ?_ ?_ ?_ | exact veq_refl _ | decide | (intro i hi; repeat' (first | refine And.intro ?_ ?_ | exact trivial | exact rfl))))
      all_goals first | exact Nat.le_refl _ | (rw [List.length_append, bs_size])
  · have e : out = rgF f n := by rw [h2, show k = n by omega]
    subst e
    refine ext_b2s Tryd.underlying55 Tryd.underlying5 Tryd.underlying9 ?_
    refine ⟨_, rfl, fun j hj => by rw [Nat.zero_add], ?_⟩
    repeat' (first | refine And.intro (by first | omega | (dsimp only; omega) | (show (_ : Bool) = true; kernel_rfl) | decide | (repeat' (first | refine And.intro ?_ ?_ | exact trivial | exact rfl))) ?_ | refine bcs_dec (fun h => ?_) (fun h => ?_) | refine bcs_ndec (fun h => ?_) (fun h => ?_) | refine bcs_not ?_ | refine bcs_intro (fun h => ?_) (fun h => ?_) | refine And.intro ?_ ?_ | refine reg_tail (by kernel_rfl) ?_)
    refine ret_plain ?_
    exact rfl
theorem rJoin_seg (b : List Byt) (e n : Nat) (h : e + n ≤ b.length) (hn : n ≤ 9223372036854775807) (hl : ((b.drop e).take n).flatten.length ≤ 140737488355328) :
    Con Tryd.prog glob 28 [.s 0 0 n] [(0, .ro 1 n fun i => stEnc (b.getD (i + e) []))] 1 (retV 1 (str ((b.drop e).take n).flatten)) := by
  have h1 := rJoin_con (fun i => b.getD (i + e) []) n hn (by rw [rgF, rg_seg b h]; exact hl)
  rwa [rgF, rg_seg b h] at h1
end Go.Proofs.YtjlobgcmhnkgnaaDoor
