/- Chapter 15: errors' numbers; normal scripts are scripts; what an element weighs. -/
import Derived.Test.YtjlobgcmhnkgnaaDoorAs
import Derived.Test.YtjlobgcmhnkgnaaDoorB13
import Derived.Test.YtjlobgcmhnkgnaaDoorP1
namespace Go.Proofs.YtjlobgcmhnkgnaaDoor
open Go Go.RowKit Vc

theorem num_nil_con : Con Tryd.prog glob 10 [.v .nilIface] [] 0 (retV 0 (.v (.int .i64 0))) :=
  con_plain ⟨_, Tryd.func10, rfl, rfl⟩ (args := [.nilIface]) fun w _ => num_nil w
theorem num_err_con (e : Int) : Con Tryd.prog glob 10 [.v (.iface 63 (.int .i64 e))] [] 0 (retV 0 (.v (.int .i64 e))) :=
  con_plain ⟨_, Tryd.func10, rfl, rfl⟩ (args := [.iface 63 (.int .i64 e)]) fun w hg => num_err e w (hg 0 _ (List.mem_singleton.2 rfl))
theorem valid_congr {X Y : List Chg} {n m : Int} (h : ∀ a b, validF X a b n m = 0 → validF Y a b n m = 0) : ∀ (o : List Chg) (a b : Int), validF (o ++ X) a b n m = 0 → validF (o ++ Y) a b n m = 0
  | [], a, b, k => h a b k
  | c :: r, a, b, k => by
    obtain ⟨k1, k2⟩ := valid_cons k
    have := valid_congr h r _ _ k2
    show (if bad c a b n m then 60 else validF (r ++ Y) (c.A + c.N) (c.B + c.M) n m) = 0
    rw [if_neg k1]; exact this
theorem merge_valid {n m : Int} : ∀ (s out : List Chg), validF (out ++ s) 0 0 n m = 0 → validF (mergeF out s) 0 0 n m = 0
  | [], out, h => by rw [List.append_nil] at h; exact h
  | c :: r, out, h => by
    simp only [mergeF]
    split
    · rename_i hc
      obtain ⟨o, l, rfl⟩ : ∃ o l, out = o ++ [l] := ⟨out.dropLast, out.getLast hc.1, (List.dropLast_concat_getLast hc.1).symm⟩
      have hl := hc.2
      rw [last_app] at hl
      rw [set_last, last_app]
      refine merge_valid r _ ?_
      rw [List.append_assoc] at h ⊢
      refine valid_congr (fun a b k => ?_) o 0 0 h
      obtain ⟨k1, k2⟩ := valid_cons k
      obtain ⟨k3, k4⟩ := valid_cons k2
      unfold bad at k1 k3
      have nb : ¬ bad (l.plus c) a b n m := by unfold bad; dsimp only; omega
      show (if bad (l.plus c) a b n m then 60 else validF r (l.A + (l.N + c.N)) (l.B + (l.M + c.M)) n m) = 0
      rw [if_neg nb, show l.A + (l.N + c.N) = c.A + c.N by omega, show l.B + (l.M + c.M) = c.B + c.M by omega]
      exact k4
    · refine merge_valid r _ ?_
      rw [List.append_assoc]; exact h
theorem norm_valid {s : List Chg} {n m : Int} (h : validF s 0 0 n m = 0) : validF (normF s) 0 0 n m = 0 := merge_valid s [] h
theorem mergeF_len : ∀ (s out : List Chg), (mergeF out s).length ≤ out.length + s.length
  | [], out => by simp [mergeF]
  | c :: r, out => by
    simp only [mergeF]
    split
    · have := mergeF_len r (out.set (out.length - 1) ((lastC out).plus c))
      simp at this ⊢; omega
    · have := mergeF_len r (out ++ [c])
      simp at this ⊢; omega
theorem rNormal_good {s : List Chg} {n m : Int} (hs : s.length ≤ 9223372036854775807 - 1) (hv : validE s n m = 0) : Con Tryd.prog glob 13 [.s 0 0 s.length, .v (.int .i64 n), .v (.int .i64 m)] [(0, chRo s)] 1
    (retM (.t [.o 1, .v (.int .i64 0)]) [(1, chOwn (normF s))] 2) := by
  have h := rNormal_ok hs hv
  rwa [of_pairs hv] at h
theorem getD_flat (a : List Byt) (i : Nat) : (a.getD i []).length ≤ a.flatten.length := by
  by_cases h : i < a.length
  · rw [List.getD_eq_getElem?_getD, List.getElem?_eq_getElem h]
    have hm : a[i] ∈ a := List.getElem_mem h
    obtain ⟨x, y, e⟩ := List.append_of_mem hm
    have := congrArg (fun z => z.flatten.length) e
    simp only [List.flatten_append, List.flatten_cons, List.length_append] at this
    simp only [Option.getD_some]
    omega
  · rw [List.getD_eq_getElem?_getD, List.getElem?_eq_none (by omega)]; simp
end Go.Proofs.YtjlobgcmhnkgnaaDoor
