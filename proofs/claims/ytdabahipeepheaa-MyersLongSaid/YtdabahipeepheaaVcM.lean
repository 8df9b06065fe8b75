/- Regions whose order is open: one order speaks for all, where what only reads lies in no other's way. -/
import Derived.StillTail
namespace Go.Proofs.Ytdabahipeepheaa.Vc
open Go

section
variable {P : Program} {ops : Array Oper} {Q : Exit → Act → World → Prop} {Inv : World → Prop}

def wpOpI (P : Program) (ops : Array Oper) (Q : Exit → Act → World → Prop) (Inv : World → Prop) (j : Nat) (K : Act → World → Prop) (a : Act) (w : World) : Prop :=
  wpOp P ops Q j (fun a' w' => Inv w' ∧ K a' w') a w
def wpAnyI (P : Program) (ops : Array Oper) (Q : Exit → Act → World → Prop) (Inv : World → Prop) : Nat → Array Bool → Act → World → Prop
  | 0, listed, a, w => Region.ready .any ops listed = [] ∧ Q .normal a w
  | fuel + 1, listed, a, w =>
    (Region.ready .any ops listed = [] → Q .normal a w) ∧
    ∀ i ∈ Region.ready .any ops listed, wpOpI P ops Q Inv i (wpAnyI P ops Q Inv fuel (listed.setIfInBounds i true)) a w
theorem wpAnyI_any : ∀ (fuel : Nat) (listed : Array Bool) (a : Act) (w : World), wpAnyI P ops Q Inv fuel listed a w → wpAny P .any ops Q fuel listed a w
  | 0, _, _, _, h => h
  | fuel + 1, _, _, _, h => ⟨h.1, fun i hi => wpOp_mono (fun _ _ hk => wpAnyI_any fuel _ _ _ hk.2) (h.2 i hi)⟩

/-- An operation that comes to the same value in every world that may be met. -/
def Stab (P : Program) (ops : Array Oper) (Inv : World → Prop) (o : Oper) (v : Value) (a : Act) : Prop :=
  (Region.wanted o (yielded ops a.tmps) = true ∧ ∀ w, Inv w → (execOp a.eval o).run P w = .ok (.value v) w) ∨ (Region.wanted o (yielded ops a.tmps) = false ∧ v = undef)

theorem Stab.wpOp {i : Nat} {o : Oper} {v : Value} {a : Act} {w : World} {K : Act → World → Prop} (hi : ops[i]? = some o) (hs : Stab P ops Inv o v a) (hw : Inv w) (h : K (a.put o.dst v) w) : wpOpI P ops Q Inv i K a w := by
  unfold wpOpI Go.wpOp
  simp only [hi]
  rcases hs with ⟨h1, h2⟩ | ⟨h1, rfl⟩
  · rw [if_pos h1]
    refine .inl ?_
    unfold Oper.wp
    rw [h2 w hw]
    exact ⟨hw, h⟩
  · rw [if_neg (by rw [h1]; simp)]
    exact ⟨hw, h⟩
theorem Stab.of_put {oi oj : Oper} {v : Value} {a : Act} (hs : Stab P ops Inv oi v a) (hsi : ∀ cs b, oi.op ≠ .select cs b) (u : Value) (h3 : ∀ d, oj.dst = some d → d ∉ oi.looksAt ops) : Stab P ops Inv oi v (a.put oj.dst u) := by
  unfold Stab at *
  rw [execOp_put oi hsi a oj.dst u h3, wanted_put oi a oj.dst u h3]
  exact hs
theorem Stab.of_defer {oi : Oper} {v : Value} {a : Act} (hs : Stab P ops Inv oi v a) (d : Deferred) : Stab P ops Inv oi v { a with defers := d :: a.defers } := by
  unfold Stab at *
  have he : Act.eval { a with defers := d :: a.defers } = a.eval := by funext x; cases x <;> rfl
  rw [he]
  exact hs

theorem put_defer (a : Act) (x : Option Tmp) (v : Value) (d : Deferred) : ({ a.put x v with defers := d :: (a.put x v).defers } : Act) = ({ a with defers := d :: a.defers } : Act).put x v := by
  cases x <;> rfl

/-- It may be done first. -/
theorem wpOp_put {j : Nat} {oi oj : Oper} {v : Value} (hj : ops[j]? = some oj) (hap : oi.apart ops oj = true)
    (hsi : ∀ cs b, oi.op ≠ .select cs b) (hsj : ∀ cs b, oj.op ≠ .select cs b) (hQ : ∀ ch a w, ¬ Q (.panic ch) a w) {K : Act → World → Prop} {a : Act} {w : World}
    (hy : Stab P ops Inv oi v a) (h : wpOpI P ops Q Inv j K (a.put oi.dst v) w) :
    wpOpI P ops Q Inv j (fun a' w' => Stab P ops Inv oi v a' ∧ K (a'.put oi.dst v) w') a w := by
  obtain ⟨h1, h2, h3⟩ := Oper.apart_spec hap
  unfold wpOpI Go.wpOp at *
  simp only [hj] at *
  rw [wanted_put oj a oi.dst v h1] at h
  split
  · rename_i hw
    simp only [hw, if_true] at h
    rcases h with h | ⟨h, hl⟩
    · refine .inl ?_
      unfold Oper.wp at *
      rw [execOp_put oj hsj a oi.dst v h1] at h
      generalize (execOp a.eval oj).run P w = r at *
      cases r with
      | ok n w' =>
        cases n <;> simp only [Oper.upon] at h ⊢
        case value u => exact ⟨h.1, hy.of_put hsi u h3, by rw [← Act.put_comm a v u h2]; exact h.2⟩
        case skip => exact ⟨h.1, hy.of_put hsi _ h3, by rw [← Act.put_comm a v undef h2]; exact h.2⟩
        case enter f args =>
          refine Calls.mono h (fun e w'' he => ?_)
          cases e with
          | returned u => exact ⟨he.1, hy.of_put hsi u h3, by rw [← Act.put_comm a v u h2]; exact he.2⟩
          | panicked ch => exact absurd he (hQ ch _ _)
          | outgrown => exact he
        case row row args =>
          refine Rows.mono h (fun u w'' he => ?_)
          exact ⟨he.1, hy.of_put hsi u h3, by rw [← Act.put_comm a v u h2]; exact he.2⟩
        case defer d =>
          refine ⟨h.1, (hy.of_defer d).of_put hsi undef h3, ?_⟩
          rw [← Act.put_comm _ v undef h2, ← put_defer]
          exact h.2
      | halt x w' =>
        cases x <;> simp only [Oper.upon] at h ⊢
        exact absurd h (hQ _ _ _)
    · refine .inr ⟨?_, hl⟩
      unfold Oper.asks at *
      rw [execOp_put oj hsj a oi.dst v h1] at h
      exact h
  · rename_i hw
    simp only [hw] at h
    exact ⟨h.1, hy.of_put hsi _ h3, by rw [← Act.put_comm a v undef h2]; exact h.2⟩

theorem wpAnyI_first (hQ : ∀ ch a w, ¬ Q (.panic ch) a w) {i : Nat} {oi : Oper} {v : Value} (hi : ops[i]? = some oi) (hsel : ∀ (j : Nat) (o : Oper) cs b, ops[j]? = some o → o.op ≠ .select cs b) :
    ∀ (fuel : Nat) (listed : Array Bool) (a : Act) (w : World), Inv w →
      (∀ j oj, ops[j]? = some oj → j ≠ i → listed.getD j true = false → (∀ e ∈ oj.after, Region.binds .any e = true → e.on ≠ i) → oi.apart ops oj = true) →
      i ∈ Region.ready .any ops listed → Stab P ops Inv oi v a →
      wpAnyI P ops Q Inv fuel (listed.setIfInBounds i true) (a.put oi.dst v) w → wpAnyI P ops Q Inv (fuel + 1) listed a w := by
  intro fuel
  induction fuel with
  | zero =>
    intro listed a w hI _ hr hy H
    refine ⟨fun h => (by rw [h] at hr; cases hr), fun j hj => ?_⟩
    by_cases hji : j = i
    · subst hji; exact hy.wpOp hi hI H
    · have := ready_mono hj hji
      rw [H.1] at this
      cases this
  | succ fuel ih =>
    intro listed a w hI hfree hr hy H
    refine ⟨fun h => (by rw [h] at hr; cases hr), fun j hj => ?_⟩
    by_cases hji : j = i
    · subst hji; exact hy.wpOp hi hI H
    · have h1 := H.2 j (ready_mono hj hji)
      obtain ⟨hjun, oj, hoj, hall⟩ := mem_ready.1 hj
      have hnot : ∀ e ∈ oj.after, Region.binds .any e = true → e.on ≠ i := fun e he hb heq => by
        have h1 := hall e he hb
        have h0 := (mem_ready.1 hr).1
        rw [heq] at h1
        rcases Nat.lt_or_ge i listed.size with h' | h'
        · simp [h'] at h0 h1; rw [h0] at h1; cases h1
        · simp [Array.getElem?_eq_none h'] at h1
      have h2 := wpOp_put hoj (hfree j oj hoj hji hjun hnot) (fun cs b => hsel i oi cs b hi) (fun cs b => hsel j oj cs b hoj) hQ hy h1
      have hfree' : ∀ k ok, ops[k]? = some ok → k ≠ i → (listed.setIfInBounds j true).getD k true = false →
          (∀ e ∈ ok.after, Region.binds .any e = true → e.on ≠ i) → oi.apart ops ok = true := fun k ok hk hki hun hno => by
        refine hfree k ok hk hki ?_ hno
        by_cases hjk : j = k
        · subst hjk; exact hjun
        · rw [getD_set_ne true hjk] at hun; exact hun
      refine wpOp_mono (fun a' w' h3 => ⟨h3.1, ih (listed.setIfInBounds j true) a' w' h3.1 hfree' (ready_mono hr (Ne.symm hji)) h3.2.1 ?_⟩) h2
      rw [Array.setIfInBounds_comm _ _ hji]
      exact h3.2.2

/-- An order that speaks for all: what is marked true only reads and lies in nobody's way; what is marked false is the only one that is ready. -/
def mixOk (ops : Array Oper) : List (Nat × Bool) → Array Bool → Bool
  | [], listed => (Region.ready .any ops listed).isEmpty
  | (k, true) :: r, listed => (Region.ready .any ops listed).contains k && Region.free .any ops listed k && mixOk ops r (listed.setIfInBounds k true)
  | (k, false) :: r, listed => decide (Region.ready .any ops listed = [k]) && mixOk ops r (listed.setIfInBounds k true)
def wpMix (P : Program) (ops : Array Oper) (Q : Exit → Act → World → Prop) (Inv : World → Prop) : List (Nat × Bool) → Act → World → Prop
  | [], a, w => Q .normal a w
  | (k, true) :: r, a, w => ∃ o v, ops[k]? = some o ∧ Stab P ops Inv o v a ∧ wpMix P ops Q Inv r (a.put o.dst v) w
  | (k, false) :: r, a, w => wpOpI P ops Q Inv k (wpMix P ops Q Inv r) a w
theorem wpMix_any (hQ : ∀ ch a w, ¬ Q (.panic ch) a w) (hs : Region.noSelect ops = true) : ∀ (l : List (Nat × Bool)) (listed : Array Bool) (a : Act) (w : World), mixOk ops l listed = true → Inv w → wpMix P ops Q Inv l a w → wpAnyI P ops Q Inv l.length listed a w
  | [], _, _, _, hB, _, h => ⟨by simpa [mixOk] using hB, h⟩
  | (k, true) :: r, listed, a, w, hB, hI, h => by
    simp only [mixOk, Bool.and_eq_true] at hB
    obtain ⟨⟨hr, hf⟩, hB'⟩ := hB
    obtain ⟨o, v, ho, hst, hk⟩ := h
    exact wpAnyI_first hQ ho (Region.noSelect_spec hs) r.length listed a w hI (Region.free_spec ho hf) (by simpa using hr) hst (wpMix_any hQ hs r _ _ _ hB' hI hk)
  | (k, false) :: r, listed, a, w, hB, hI, h => by
    simp only [mixOk, Bool.and_eq_true, decide_eq_true_eq] at hB
    refine ⟨fun h1 => (by rw [hB.1] at h1; cases h1), fun i hi => ?_⟩
    rw [hB.1] at hi
    have hik : i = k := by simpa using hi
    subst hik
    have h0 : wpOp P ops Q i (fun a' w' => Inv w' ∧ wpMix P ops Q Inv r a' w') a w := h
    exact wpOp_mono (fun a' w' h' => ⟨h'.1, wpMix_any hQ hs r _ a' w' hB.2 h'.1 h'.2⟩) h0

/-- A REGION WHOSE ORDER IS OPEN. -/
theorem wp_region_mix {id : Nat} {a : Act} {w : World} (hm : P.follows .mixedOrders = true) (hQ : ∀ ch a w, ¬ Q (.panic ch) a w) (l : List (Nat × Bool)) (hs : Region.noSelect ops = true) (hl : l.length = ops.size)
    (hB : mixOk ops l (Array.replicate ops.size false) = true) (hI : Inv { w with drawn := w.drawn + 1 }) (h : wpMix P ops Q Inv l a { w with drawn := w.drawn + 1 }) : (Code.region id ops true).wp P Q a w := by
  refine wp_region_any hm (wpAnyI_any (Inv := Inv) _ _ _ _ ?_)
  rw [← hl]
  exact wpMix_any hQ hs l _ a _ (by rw [hl]; exact hB) hI h
end
end Go.Proofs.Ytdabahipeepheaa.Vc
