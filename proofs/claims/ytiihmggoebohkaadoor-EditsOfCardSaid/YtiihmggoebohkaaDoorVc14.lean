/- Verification conditions by symbolic execution: code. -/
import Derived.Test.YtiihmggoebohkaaDoorVc13
namespace Go.Proofs.YtiihmggoebohkaaDoor.Vc
open Go Go.RowKit

structure Cx.Ok (Γ : Cx) : Prop where
  tab : Tab.ok Γ.P Γ.tab
  mix : Γ.P.follows .mixedOrders = true
  len : Γ.B.r0.length = Γ.n0

/-- Where a way through code ends, as assertions on states. -/
def Post (Γ : Cx) (K : St → Prop) (E : Nat → St → Prop) (R : St → Prop) : Exit → Act → World → Prop
  | .normal, a, w => ∃ s ρ, K s ∧ Holds Γ.B Γ.N ρ s a w
  | .exit i, a, w => ∃ s ρ, E i s ∧ Holds Γ.B Γ.N ρ s a w
  | .ret, a, w => ∃ s ρ, R s ∧ Holds Γ.B Γ.N ρ s a w
  | _, _, _ => False

/-- A loop: what is asked of its invariant stands in 'loop_rule'. -/
structure LoopP (Γ : Cx) (c : Code) (s : St) (E : Nat → St → Prop) (R : St → Prop) : Prop where
  run : Γ.Ok → ∀ ρ a w, Holds Γ.B Γ.N ρ s a w → (Code.loop c).wp Γ.P (Post Γ (fun _ => False) E R) a w

def vcC (s : St) (c : Operand) (p q : St → Prop) : Prop :=
  match c with
  | .tmp t => match s with
    | ⟨fr, mem, nx⟩ => match fget fr t with
      | .v (.bool b) => bcs b (p ⟨(t, .v (.bool true)) :: fr, mem, nx⟩) (q ⟨(t, .v (.bool false)) :: fr, mem, nx⟩)
      | _ => False
  | .const (.bool b) => bcs b (p s) (q s)
  | _ => False

def vcCode (Γ : Cx) : Code → St → (St → Prop) → (Nat → St → Prop) → (St → Prop) → Prop
  | .skip, s, K, _, _ => K s
  | .region _ ops d, s, K, _, _ => vcRegion Γ ops d s K
  | .seq a b, s, K, E, R => vcCode Γ a s (fun s => vcCode Γ b s K E R) E R
  | .cond c a b, s, K, E, R => vcC s c (fun s => vcCode Γ a s K E R) (fun s => vcCode Γ b s K E R)
  | .block id c, s, K, E, R => vcCode Γ c s K (fun i s => bif Nat.beq i id then K s else E i s) R
  | .loop c, s, _, E, R => LoopP Γ c s E R
  | .exit id, s, _, E, _ => E id s
  | .label _, s, K, _, _ => K s
  | .ret, s, _, _, R => R s
  | _, _, _, _, _ => False

section
variable {Γ : Cx} {ρ : List Loc} {s : St} {a : Act} {w : World}

theorem vcC_sound (H : Holds Γ.B Γ.N ρ s a w) {c : Operand} {p q : St → Prop} (h : vcC s c p q) :
    (a.eval c = .bool true ∧ ∃ s', p s' ∧ Holds Γ.B Γ.N ρ s' a w) ∨ (a.eval c = .bool false ∧ ∃ s', q s' ∧ Holds Γ.B Γ.N ρ s' a w) := by
  unfold vcC at h
  split at h
  · rename_i t
    obtain ⟨fr, mem, nx⟩ := s
    simp only at h
    have hft := H.fr t
    simp only at hft
    split at h
    · rename_i b he
      rw [he] at hft
      have hv := rel_v hft
      have set : ∀ b', b = b' → Holds Γ.B Γ.N ρ ⟨(t, .v (.bool b')) :: fr, mem, nx⟩ a w := by
        rintro b' rfl
        refine ⟨H.nx, fun t' => ?_, H.size, H.dfr, H.mem⟩
        rw [fget_cons]
        split
        · rename_i e; subst e; simp only [Rel]; exact hv
        · exact H.fr t'
      cases b with
      | true => exact .inl ⟨hv, _, h, set true rfl⟩
      | false => exact .inr ⟨hv, _, h, set false rfl⟩
    · exact h.elim
  · rename_i b
    cases b with
    | true => exact .inl ⟨rfl, _, h, H⟩
    | false => exact .inr ⟨rfl, _, h, H⟩
  · exact h.elim

/-- CODE. -/
theorem vcCode_sound (ok : Γ.Ok) : ∀ (c : Code) (s : St) (K : St → Prop) (E : Nat → St → Prop) (R : St → Prop) (ρ : List Loc) (a : Act) (w : World), vcCode Γ c s K E R → Holds Γ.B Γ.N ρ s a w → c.wp Γ.P (Post Γ K E R) a w
  | .skip, s, K, E, R, ρ, a, w, h, H => wp_skip ⟨s, ρ, h, H⟩
  | .region id ops d, s, K, E, R, ρ, a, w, h, H => vcRegion_sound ok.tab ok.mix (fun s ρ _ _ hk H => ⟨s, ρ, hk, H⟩) (fun _ _ _ h => h) h H
  | .seq x y, s, K, E, R, ρ, a, w, h, H => by
    refine wp_seq (wp_mono (vcCode_sound ok x s _ E R ρ a w h H) ?_)
    intro e a' w' hq
    cases e with
    | normal =>
      obtain ⟨s', ρ', hk, H'⟩ := hq
      exact vcCode_sound ok y s' K E R ρ' a' w' hk H'
    | _ => exact hq
  | .cond c x y, s, K, E, R, ρ, a, w, h, H => by
    simp only [vcCode] at h
    rcases vcC_sound H h with ⟨hc, s', hk, H'⟩ | ⟨hc, s', hk, H'⟩
    · exact wp_cond_true hc (vcCode_sound ok x s' K E R ρ a w hk H')
    · exact wp_cond_false hc (vcCode_sound ok y s' K E R ρ a w hk H')
  | .block id c, s, K, E, R, ρ, a, w, h, H => by
    refine wp_block (wp_mono (vcCode_sound ok c s K _ R ρ a w h H) ?_)
    intro e a' w' hq
    cases e with
    | exit i =>
      obtain ⟨s', ρ', hk, H'⟩ := hq
      simp only [Exit.inBlock]
      split
      · rename_i e; subst e
        simp only [Nat.beq_refl, cond_true] at hk
        exact ⟨s', ρ', hk, H'⟩
      · rename_i hne
        have : Nat.beq i id = false := by
          cases e : Nat.beq i id with
          | false => rfl
          | true => exact absurd (Nat.eq_of_beq_eq_true e) hne
        rw [this] at hk
        exact ⟨s', ρ', hk, H'⟩
    | _ => exact hq
  | .loop c, s, K, E, R, ρ, a, w, h, H => by
    have h' : LoopP Γ c s E R := h
    refine wp_mono (h'.run ok ρ a w H) ?_
    intro e a' w' hq
    cases e with
    | normal => obtain ⟨_, _, hf, _⟩ := hq; exact hf.elim
    | _ => exact hq
  | .exit id, s, K, E, R, ρ, a, w, h, H => wp_exit ⟨s, ρ, h, H⟩
  | .label _, s, K, E, R, ρ, a, w, h, H => wp_label ⟨s, ρ, h, H⟩
  | .ret, s, K, E, R, ρ, a, w, h, H => wp_ret ⟨s, ρ, h, H⟩
  | .rangeFunc _ _ _ _, _, _, _, _, _, _, _, h, _ => h.elim
  | .scope _, _, _, _, _, _, _, _, h, _ => h.elim
  | .goto _, _, _, _, _, _, _, _, h, _ => h.elim
  | .refuse _, _, _, _, _, _, _, _, h, _ => h.elim
end
end Go.Proofs.YtiihmggoebohkaaDoor.Vc
