/- Verification conditions by symbolic execution: ahead of a call all slots but those that are named are forgotten. -/
import Derived.Test.YtlmjkphiicmclaaDoorVc29
namespace Go.Proofs.YtlmjkphiicmclaaDoor.Vc
open Go Go.RowKit

/-- The slots of the one stand in the other. -/
def thin : Fr → Fr → Prop
  | [], _ => True
  | (t, x) :: r, f => fget f t = x ∧ thin r f
theorem thin_get : ∀ {r f : Fr}, thin r f → ∀ t, fget r t = .u ∨ fget r t = fget f t
  | [], _, _, _ => Or.inl rfl
  | (n, x) :: r, f, ⟨h1, h2⟩, t => by
    rw [fget_cons]
    by_cases e : n = t
    · subst e; rw [if_pos rfl, h1]; exact Or.inr rfl
    · rw [if_neg e]; exact thin_get h2 t
theorem call_thin {Γ : Cx} {g : Nat} {svs : List SV} {s : St} {K : SV → St → Prop} (r : Fr) (h : thin r s.fr) (hc : fnat s.nx fun n => fmem s.mem fun M => CallP Γ g svs ⟨r, M, n⟩ K) : CallP Γ g svs s K := by
  rw [fnat_eq, fmem_eq] at hc
  refine ⟨hc.fn, fun ρ a w vs H hr => hc.run ρ a w vs ⟨H.nx, fun t => ?_, H.size, H.dfr, H.mem⟩ hr⟩
  rcases thin_get h t with e | e
  · show Rel ρ (fget r t) _
    rw [e]; simp only [Rel]
  · show Rel ρ (fget r t) _
    rw [e]; exact H.fr t
/-- A call behind which its caller's state is brought to its form once. -/
theorem call_ruleS {Γ : Cx} {g : Nat} {args svs : List SV} {mem : Mem} {nx : Nat} {Q : SV → Mem → Nat → Prop} {s : St} {K : SV → St → Prop} (k : List Kp) {G : List (Nat × Value)} (hs : Con Γ.P G g args mem nx Q) (hG : Γ.B.glob = G) (hc : CallOk k svs s args mem nx)
    (hK : ∀ x m' n, Q x m' n → fnat s.nx fun b => fmem (newM k nx b m' nx b (n - nx) (wrM k nx b m' mem s.mem)) fun M => fnat (b + (n - nx)) fun b1 => True ∧ K (ren3 k nx b x) ⟨s.fr, M, b1⟩) : CallP Γ g svs s K :=
  call_rule k hs hG hc fun x m' n h => by
    have h := hK x m' n h
    simp only [fnat_eq, fmem_eq] at h ⊢
    exact h.2
end Go.Proofs.YtlmjkphiicmclaaDoor.Vc
