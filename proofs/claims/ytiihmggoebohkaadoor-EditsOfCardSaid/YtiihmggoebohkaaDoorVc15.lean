/- Verification conditions by symbolic execution: one state entails another; loops. -/
import Derived.Test.YtiihmggoebohkaaDoorVc14
namespace Go.Proofs.YtiihmggoebohkaaDoor.Vc
open Go Go.RowKit

/-- Where a new chunk lies among the old ones: in one of them, from an element on; or nowhere (its size); or it is the nil slice's. -/
inductive Kp where
  | at (c d : Nat)
  | nul (sz : Nat)
  | nil (sz : Nat)
def kAt : List Kp → Nat → Option Kp
  | [], _ => none
  | x :: _, 0 => some x
  | _ :: r, n + 1 => kAt r n
theorem kAt_eq : ∀ (l : List Kp) (n : Nat), kAt l n = l[n]?
  | [], n => by simp [kAt]
  | x :: r, 0 => by simp [kAt]
  | x :: r, n + 1 => by simp [kAt, kAt_eq r n]

def veq : Value → Value → Prop
  | .int k a, .int k' b => bif kB k k' then a = b else False
  | .bool a, .bool b => a = b
  | .string a, .string b => a = b
  | .iface t x, .iface t' y => t = t' ∧ x = y
  | x, y => x = y
theorem veq_eq {x y : Value} (h : veq x y) : x = y := by
  cases x <;> cases y <;> first
    | exact h
    | (rename_i k a k' b
       simp only [veq] at h
       cases hb : kB k k' with
       | true => rw [hb] at h; have := kB_eq hb; subst this; exact congrArg _ h
       | false => rw [hb] at h; exact h.elim)
    | (simp only [veq] at h; rw [h])
    | (simp only [veq] at h; rw [h.1, h.2])

/-- Is the first value (over new chunks) the second one (over old chunks)? -/
def sim0 (k : List Kp) (m : Mem) : SV → SV → Prop
  | .u, _ => True
  | .v x, .v y => veq x y
  | .p c i o, .p c' i' o' => match kAt k c with
    | some (.at d e) => bif Nat.beq d c' && Nat.beq o o' then i + e = i' else False
    | _ => False
  | .s c i n, .s c' i' n' => match kAt k c with
    | some (.at d e) => bif Nat.beq d c' then i + e = i' ∧ n = n' else False
    | _ => False
  | .s c i n, .o c' => match kAt k c with
    | some (.at d e) => bif Nat.beq d c' then (match mget m c' with | .own _ _ n' _ => i + e = 0 ∧ n = n' | _ => False) else False
    | _ => False
  | .s c _ n, .v (.slice none 0 0) => match kAt k c with
    | some _ => n = 0
    | none => False
  | .o c, .o c' => match kAt k c with
    | some (.at d e) => bif Nat.beq d c' && Nat.beq e 0 then True else False
    | _ => False
  | .o c, .v (.slice none 0 0) => match kAt k c with
    | some (.nil _) => True
    | _ => False
  | _, _ => False
def simL0 (k : List Kp) (m : Mem) : List SV → List SV → Prop
  | [], [] => True
  | x :: r, y :: q => sim0 k m x y ∧ simL0 k m r q
  | _, _ => False
def sim1 (k : List Kp) (m : Mem) : SV → SV → Prop
  | .f g l, y => match y with
    | .f g' l' => bif Nat.beq g g' then simL0 k m l l' else False
    | _ => False
  | x, y => sim0 k m x y
def simL1 (k : List Kp) (m : Mem) : List SV → List SV → Prop
  | [], [] => True
  | x :: r, y :: q => sim1 k m x y ∧ simL1 k m r q
  | _, _ => False
def sim2 (k : List Kp) (m : Mem) : SV → SV → Prop
  | .a l, y => match y with
    | .a l' => simL1 k m l l'
    | _ => False
  | x, y => sim1 k m x y
def simL2 (k : List Kp) (m : Mem) : List SV → List SV → Prop
  | [], [] => True
  | x :: r, y :: q => sim2 k m x y ∧ simL2 k m r q
  | _, _ => False
def sim3 (k : List Kp) (m : Mem) : SV → SV → Prop
  | .t l, y => match y with
    | .t l' => simL2 k m l l'
    | _ => False
  | x, y => sim2 k m x y

/-- A chunk, as an old one holds it. -/
def simC (k : List Kp) (m : Mem) (x : Ch) (y : Kp) : Prop :=
  match x with
  | .non => True
  | .ro sz n f => match y with
    | .nul z => bif Nat.beq z sz then n = 0 else False
    | .nil z => bif Nat.beq z sz then n = 0 else False
    | .at d e => match mget m d with
      | .ro sz' n' f' => bif Nat.beq sz sz' then n + e ≤ n' ∧ ∀ i, i < n → simL1 k m (f i) (f' (i + e)) else False
      | .own _ sz' n' f' => bif Nat.beq sz sz' then n + e ≤ n' ∧ ∀ i, i < n → simL1 k m (f i) (f' (i + e)) else False
      | _ => False
  | .own t sz n f => match y with
    | .nul _ => False
    | .nil z => bif Nat.beq z sz then n = 0 else False
    | .at d e => match mget m d with
      | .own t' sz' n' f' => bif Nat.beq t t' && Nat.beq sz sz' && Nat.beq e 0 then n = n' ∧ ∀ i, i < n → simL1 k m (f i) (f' i) else False
      | _ => False
  | .box t l => match y with
    | .nul _ => False
    | .nil _ => False
    | .at d e => match mget m d with
      | .box t' l' => bif Nat.beq t t' && Nat.beq e 0 then simL1 k m l l' else False
      | _ => False
def simM (k : List Kp) (m : Mem) : Mem → Prop
  | [] => True
  | (c, ch) :: r => (match kAt k c with | some y => simC k m ch y | none => False) ∧ simM k m r
def simF (k : List Kp) (m : Mem) (fr : Fr) : Fr → Prop
  | [] => True
  | (t, x) :: r => sim3 k m x (fget fr t) ∧ simF k m fr r

def Loc.shift (L : Loc) (e : Nat) : Loc := ⟨L.blk, L.off + e * L.sz, L.sz, match e with | 0 => L.own | _ => .nilFunc⟩
theorem Loc.shift_zero (L : Loc) : L.shift 0 = L := by cases L; simp [Loc.shift]
def Kp.loc (ρ : List Loc) : Kp → Loc
  | .at c d => ((ρ[c]?).getD ⟨0, 0, 0, .nilFunc⟩).shift d
  | .nul sz => ⟨0, 0, sz, .nilFunc⟩
  | .nil sz => ⟨0, 0, sz, .slice none 0 0⟩
/-- The new places. -/
def kLoc (ρ : List Loc) (k : List Kp) : List Loc := k.map (Kp.loc ρ)
theorem kLoc_get {ρ : List Loc} {k : List Kp} {c : Nat} {y : Kp} (h : kAt k c = some y) : (kLoc ρ k)[c]? = some (y.loc ρ) := by
  rw [kAt_eq] at h
  simp [kLoc, h]
theorem kLoc_at {ρ : List Loc} {k : List Kp} {c d e : Nat} {L : Loc} (h : kAt k c = some (.at d e)) (hL : ρ[d]? = some L) : (kLoc ρ k)[c]? = some (L.shift e) := by
  rw [kLoc_get h]; simp [Kp.loc, hL]

section
variable {B : Bs} {ρ : List Loc} {m : Mem} {w : World} {k : List Kp}

theorem sim0_sound (hm : ∀ c, ChSat B ρ w c (mget m c)) : ∀ {x y : SV} {v : Value}, sim0 k m x y → Rel ρ y v → Rel (kLoc ρ k) x v := by
  intro x y v h hr
  unfold sim0 at h
  split at h
  · simp only [Rel]
  · have := veq_eq h
    subst this
    simpa only [Rel] using hr
  · split at h
    · rename_i d e hk
      cases hb : (Nat.beq d _ && Nat.beq _ _) with
      | false => rw [hb] at h; exact h.elim
      | true =>
        rw [hb] at h
        simp only [Bool.and_eq_true] at hb
        have h1 := Nat.eq_of_beq_eq_true hb.1
        have h2 := Nat.eq_of_beq_eq_true hb.2
        subst h1 h2
        simp only [cond_true] at h
        subst h
        obtain ⟨L, hL, rfl⟩ := rel_p hr
        simp only [Rel]
        refine ⟨_, kLoc_at hk hL, ?_⟩
        simp only [Loc.shift, Nat.add_mul]
        congr 3
        omega
    · exact h.elim
  · split at h
    · rename_i d e hk
      cases hb : Nat.beq d _ with
      | false => rw [hb] at h; exact h.elim
      | true =>
        rw [hb] at h
        have h1 := Nat.eq_of_beq_eq_true hb
        subst h1
        obtain ⟨rfl, rfl⟩ := h
        obtain ⟨L, A, q, hL, hv, hn, hq, hA⟩ := rel_s hr
        simp only [Rel]
        refine ⟨_, A, q, kLoc_at hk hL, hv, hn, hq, fun hp => ?_⟩
        rw [hA hp]
        simp only [Loc.shift, Nat.add_mul]
        congr 2
        omega
    · exact h.elim
  · split at h
    · rename_i d e hk
      cases hb : Nat.beq d _ with
      | false => rw [hb] at h; exact h.elim
      | true =>
        rw [hb] at h
        have h1 := Nat.eq_of_beq_eq_true hb
        subst h1
        simp only [cond_true] at h
        have hc := hm d
        split at h
        · rename_i t sz n' f hmd
          rw [hmd] at hc
          obtain ⟨h0, rfl⟩ := h
          obtain ⟨L, hL, hv⟩ := rel_o hr
          obtain ⟨h2, h3, A, cap, hv', hn, hcm, hA, _⟩ := own_form hc hL
          simp only [Rel]
          refine ⟨_, A, cap, kLoc_at hk hL, hv.trans hv', hn, hcm, fun hp => ?_⟩
          have e0 : e = 0 := by omega
          subst e0
          rw [Loc.shift_zero, hA hp, h3]
          congr 2
          have : (_ : Nat) = 0 := Nat.eq_zero_of_add_eq_zero_right h0
          rw [this]; simp
        · exact h.elim
    · exact h.elim
  · split at h
    · rename_i y' hk
      have hv := rel_v hr
      subst h
      simp only [Rel]
      exact ⟨_, none, 0, kLoc_get hk, hv, Nat.le_refl _, Nat.zero_le _, fun hp => absurd hp (by omega)⟩
    · exact h.elim
  · split at h
    · rename_i d e hk
      cases hb : (Nat.beq d _ && Nat.beq e 0) with
      | false => rw [hb] at h; exact h.elim
      | true =>
        simp only [Bool.and_eq_true] at hb
        have h1 := Nat.eq_of_beq_eq_true hb.1
        have h2 := Nat.eq_of_beq_eq_true hb.2
        subst h1 h2
        simp only [Rel] at hr ⊢
        obtain ⟨L, hL, h3, h4⟩ := hr
        exact ⟨L, by rw [kLoc_at hk hL, Loc.shift_zero], h3, h4⟩
    · exact h.elim
  · split at h
    · rename_i z hk
      have hv := rel_v hr
      subst hv
      simp only [Rel]
      exact ⟨_, kLoc_get hk, rfl, rfl⟩
    · exact h.elim
  · exact h.elim
theorem simL0_sound (hm : ∀ c, ChSat B ρ w c (mget m c)) : ∀ {x y : List SV} {v : List Value}, simL0 k m x y → RelL ρ y v → RelL (kLoc ρ k) x v
  | [], [], v, _, hr => by simpa only [RelL] using hr
  | x :: r, y :: q, v, h, hr => by
    obtain ⟨h1, h2⟩ := h
    simp only [RelL] at hr ⊢
    obtain ⟨u, ur, e, h3, h4⟩ := hr
    exact ⟨u, ur, e, sim0_sound hm h1 h3, simL0_sound hm h2 h4⟩
  | [], _ :: _, _, h, _ => h.elim
  | _ :: _, [], _, h, _ => h.elim
theorem sim1_sound (hm : ∀ c, ChSat B ρ w c (mget m c)) {x y : SV} {v : Value} (h : sim1 k m x y) (hr : Rel ρ y v) : Rel (kLoc ρ k) x v := by
  unfold sim1 at h
  split at h
  · split at h
    · rename_i g l _ g' l'
      cases hb : Nat.beq g g' with
      | false => rw [hb] at h; exact h.elim
      | true =>
        rw [hb] at h
        have h1 := Nat.eq_of_beq_eq_true hb
        subst h1
        obtain ⟨vs, hv, hl⟩ := rel_f hr
        simp only [Rel]
        exact ⟨vs, hv, simL0_sound hm h hl⟩
    · exact h.elim
  · exact sim0_sound hm h hr
theorem simL1_sound (hm : ∀ c, ChSat B ρ w c (mget m c)) : ∀ {x y : List SV} {v : List Value}, simL1 k m x y → RelL ρ y v → RelL (kLoc ρ k) x v
  | [], [], v, _, hr => by simpa only [RelL] using hr
  | x :: r, y :: q, v, h, hr => by
    obtain ⟨h1, h2⟩ := h
    simp only [RelL] at hr ⊢
    obtain ⟨u, ur, e, h3, h4⟩ := hr
    exact ⟨u, ur, e, sim1_sound hm h1 h3, simL1_sound hm h2 h4⟩
  | [], _ :: _, _, h, _ => h.elim
  | _ :: _, [], _, h, _ => h.elim
theorem sim2_sound (hm : ∀ c, ChSat B ρ w c (mget m c)) {x y : SV} {v : Value} (h : sim2 k m x y) (hr : Rel ρ y v) : Rel (kLoc ρ k) x v := by
  unfold sim2 at h
  split at h
  · split at h
    · obtain ⟨vs, hv, hl, h1⟩ := rel_a hr
      simp only [Rel]
      exact ⟨vs, hv, simL1_sound hm h hl, h1⟩
    · exact h.elim
  · exact sim1_sound hm h hr
theorem simL2_sound (hm : ∀ c, ChSat B ρ w c (mget m c)) : ∀ {x y : List SV} {v : List Value}, simL2 k m x y → RelL ρ y v → RelL (kLoc ρ k) x v
  | [], [], v, _, hr => by simpa only [RelL] using hr
  | x :: r, y :: q, v, h, hr => by
    obtain ⟨h1, h2⟩ := h
    simp only [RelL] at hr ⊢
    obtain ⟨u, ur, e, h3, h4⟩ := hr
    exact ⟨u, ur, e, sim2_sound hm h1 h3, simL2_sound hm h2 h4⟩
  | [], _ :: _, _, h, _ => h.elim
  | _ :: _, [], _, h, _ => h.elim
theorem sim3_sound (hm : ∀ c, ChSat B ρ w c (mget m c)) {x y : SV} {v : Value} (h : sim3 k m x y) (hr : Rel ρ y v) : Rel (kLoc ρ k) x v := by
  unfold sim3 at h
  split at h
  · split at h
    · obtain ⟨vs, hv, hl⟩ := rel_t hr
      simp only [Rel]
      exact ⟨vs, hv, simL2_sound hm h hl⟩
    · exact h.elim
  · exact sim2_sound hm h hr
theorem simF_sound (hm : ∀ c, ChSat B ρ w c (mget m c)) {fr : Fr} {a : Act} (hf : ∀ t, Rel ρ (fget fr t) (a.tmps.getD t undef)) : ∀ (fr' : Fr), simF k m fr fr' → ∀ t, Rel (kLoc ρ k) (fget fr' t) (a.tmps.getD t undef)
  | [], _, t => by simp only [fget, Rel]
  | (t', x) :: r, h, t => by
    obtain ⟨h1, h2⟩ := h
    rw [fget_cons]
    split
    · rename_i e; subst e; exact sim3_sound hm h1 (hf _)
    · exact simF_sound hm hf r h2 t

/-- The cells of an element of a row of the call's own. -/
theorem own_row {L : Loc} {c e z n : Nat} {f : Nat → List SV} (hch : ChSat B ρ w c (.own e z n f)) (hL : ρ[c]? = some L) : L.sz = z ∧ (0 < n → L.blk < w.heap.size) ∧
    ∀ i, i < n → ∃ vs, RelL ρ (f i) vs ∧ vs.length = z ∧ (∀ y ∈ vs, y.oneCell' = true) ∧ ∀ q u, vs[q]? = some u → w.cell? ⟨L.blk, L.off + i * z + q, none⟩ = some u := by
  obtain ⟨L', vs, h1, h2, h3, h4, h5, h6, h7⟩ := hch
  rw [hL] at h1; cases h1
  refine ⟨h2, fun hn => ?_, fun i hi => ⟨(vs.drop (i * z)).take z, h7 i hi, ?_, fun x hx => h6 x (List.mem_of_mem_drop (List.mem_of_mem_take hx)), fun j u hu => ?_⟩⟩
  · rcases h4.2 with ⟨_, hn'⟩ | ⟨g, cap, cur, hv, _⟩
    · omega
    · have hg : L.own.ownBlock = some g := by rw [hv]; rfl
      rw [(h5 g hg).1]; exact (h4.lt g hg).2
  · have hle : (i + 1) * z ≤ n * z := Nat.mul_le_mul_right _ hi
    have := h4.1
    rw [Nat.add_mul] at hle
    simp; omega
  · have hj : j < z := by
      rcases Nat.lt_or_ge j z with hlt | hge
      · exact hlt
      · rw [List.getElem?_take, if_neg (by omega)] at hu; cases hu
    rw [List.getElem?_take_of_lt hj, List.getElem?_drop] at hu
    rcases h4.2 with ⟨_, hn⟩ | ⟨g, cap, cur, hv, _⟩
    · omega
    · have hg : L.own.ownBlock = some g := by rw [hv]; rfl
      have hc := h4.cells (g := g) hg (i * z + j) u hu
      rw [Addr.add_lit] at hc
      rw [h3, (h5 g hg).1]
      simpa using hc

/-- What a chunk of a new list of places lies in, its old one lies in. -/
def OldOcc (ρ : List Loc) (m : Mem) (y : Kp) (b : Nat) : Prop := match y with
  | .at d _ => Occ ρ d (mget m d) b
  | .nul _ => False
  | .nil _ => False
theorem simC_sound (hm : ∀ c, ChSat B ρ w c (mget m c)) {c : Nat} {x : Ch} {y : Kp} (hk : kAt k c = some y) (h : simC k m x y) :
    ChSat B (kLoc ρ k) w c x ∧ (∀ b, Occ (kLoc ρ k) c x b → OldOcc ρ m y b) ∧ (x.wr = true → (∃ d e, y = .at d e ∧ (mget m d).wr = true) ∨ ∃ z, y = .nil z) := by
  have hkl := kLoc_get (ρ := ρ) hk
  unfold simC at h
  split at h
  · exact ⟨trivial, fun b o => o.elim, fun e => by cases e⟩
  · rename_i sz n f
    have rd : ∀ (d e n' : Nat) (f' : Nat → List SV) (L : Loc), y = .at d e → ρ[d]? = some L → L.sz = sz → n + e ≤ n' → (0 < n' → L.blk < w.heap.size) → (∀ b, 0 < n' → L.blk = b → Occ ρ d (mget m d) b) →
        (∀ i, i < n' → ∃ vs, RelL ρ (f' i) vs ∧ vs.length = sz ∧ (∀ x ∈ vs, x.oneCell' = true) ∧ ∀ j u, vs[j]? = some u → w.cell? ⟨L.blk, L.off + i * sz + j, none⟩ = some u) → (∀ i, i < n → simL1 k m (f i) (f' (i + e))) →
        ChSat B (kLoc ρ k) w c (.ro sz n f) ∧ (∀ b, Occ (kLoc ρ k) c (.ro sz n f) b → OldOcc ρ m y b) ∧ (Ch.wr (.ro sz n f) = true → (∃ d e, y = .at d e ∧ (mget m d).wr = true) ∨ ∃ z, y = .nil z) := by
      intro d e n' f' L hy hL hs hle hblk hocc hrow hsim
      subst hy
      have hkl' := kLoc_at hk hL
      refine ⟨⟨_, hkl', hs, fun hn => hblk (by omega), fun i hi => ?_⟩, fun b o => ?_, fun hw => by cases hw⟩
      · obtain ⟨vs, r1, r2, r3, r4⟩ := hrow (i + e) (by omega)
        refine ⟨vs, simL1_sound hm (hsim i hi) r1, r2, r3, fun j u hu => ?_⟩
        have := r4 j u hu
        simp only [Loc.shift]
        rw [hs, show L.off + e * sz + i * sz + j = L.off + (i + e) * sz + j by rw [Nat.add_mul]; omega]
        exact this
      · obtain ⟨hn, L2, h2, h3⟩ := o
        rw [hkl'] at h2; cases h2
        exact hocc b (by omega) h3
    split at h
    · rename_i z
      cases hb : Nat.beq z sz with
      | false => rw [hb] at h; exact h.elim
      | true =>
        rw [hb] at h
        have := Nat.eq_of_beq_eq_true hb
        subst this
        have h0 : n = 0 := h
        subst h0
        exact ⟨⟨_, hkl, rfl, fun hn => absurd hn (by omega), fun i hi => absurd hi (by omega)⟩, fun b o => absurd o.1 (by omega), fun hw => by cases hw⟩
    · rename_i z
      cases hb : Nat.beq z sz with
      | false => rw [hb] at h; exact h.elim
      | true =>
        rw [hb] at h
        have := Nat.eq_of_beq_eq_true hb
        subst this
        have h0 : n = 0 := h
        subst h0
        exact ⟨⟨_, hkl, rfl, fun hn => absurd hn (by omega), fun i hi => absurd hi (by omega)⟩, fun b o => absurd o.1 (by omega), fun hw => by cases hw⟩
    · rename_i d e
      have hd := hm d
      split at h
      · rename_i sz' n' f' hmd
        rw [hmd] at hd
        cases hb : Nat.beq sz sz' with
        | false => rw [hb] at h; exact h.elim
        | true =>
          rw [hb] at h
          have := Nat.eq_of_beq_eq_true hb
          subst this
          obtain ⟨L, h1, h2, h3, h4⟩ := hd
          exact rd d e n' f' L rfl h1 h2 h.1 h3 (fun b hn hb => by rw [hmd]; exact ⟨hn, L, h1, hb⟩) h4 h.2
      · rename_i t sz' n' f' hmd
        rw [hmd] at hd
        cases hb : Nat.beq sz sz' with
        | false => rw [hb] at h; exact h.elim
        | true =>
          rw [hb] at h
          have := Nat.eq_of_beq_eq_true hb
          subst this
          obtain ⟨L, h1⟩ := hd.loc.resolve_left (fun e => by cases e)
          obtain ⟨h2, h3, h4⟩ := own_row hd h1
          refine rd d e n' f' L rfl h1 h2 h.1 h3 (fun b hn hb => ?_) h4 h.2
          rw [hmd]
          obtain ⟨L', vs, k1, k2, k3, k4, k5, _⟩ := hd
          rw [h1] at k1; cases k1
          rcases k4.2 with ⟨_, hn'⟩ | ⟨g, cap, cur, hv, _⟩
          · omega
          · have hg : L.own.ownBlock = some g := by rw [hv]; rfl
            exact ⟨L, h1, by rw [hg, ← (k5 g hg).1, hb]⟩
      · exact h.elim
  · rename_i t sz n f
    split at h
    · exact h.elim
    · rename_i z
      cases hb : Nat.beq z sz with
      | false => rw [hb] at h; exact h.elim
      | true =>
        rw [hb] at h
        have := Nat.eq_of_beq_eq_true hb
        subst this
        have h0 : n = 0 := h
        subst h0
        refine ⟨⟨_, [], hkl, rfl, rfl, ⟨by simp, .inl ⟨rfl, rfl⟩⟩, fun b hb => (by cases hb), by simp, fun i hi => absurd hi (by omega)⟩, fun b o => ?_, fun _ => .inr ⟨z, rfl⟩⟩
        obtain ⟨L2, h2, h3⟩ := o
        rw [hkl] at h2; cases h2
        cases h3
    · rename_i d e
      have hd := hm d
      split at h
      · rename_i t' sz' n' f' hmd
        rw [hmd] at hd
        cases hb : (Nat.beq t t' && Nat.beq sz sz' && Nat.beq e 0) with
        | false => rw [hb] at h; exact h.elim
        | true =>
          rw [hb] at h
          simp only [Bool.and_eq_true] at hb
          have h1 := Nat.eq_of_beq_eq_true hb.1.1
          have h2 := Nat.eq_of_beq_eq_true hb.1.2
          have h3 := Nat.eq_of_beq_eq_true hb.2
          subst h1 h2 h3
          obtain ⟨rfl, hsim⟩ := h
          obtain ⟨L, vs, k1, k2, k3, k4, k5, k6, k7⟩ := hd
          have hkl' := kLoc_at hk k1
          rw [Loc.shift_zero] at hkl'
          refine ⟨⟨L, vs, hkl', k2, k3, k4, k5, k6, fun i hi => simL1_sound hm (hsim i hi) (k7 i hi)⟩, fun b o => ?_, fun _ => .inl ⟨d, 0, rfl, by rw [hmd]; rfl⟩⟩
          obtain ⟨L2, h2, h3⟩ := o
          rw [hkl'] at h2; cases h2
          show Occ ρ d (mget m d) b
          rw [hmd]
          exact ⟨L, k1, h3⟩
      · exact h.elim
  · rename_i t l
    split at h
    · exact h.elim
    · exact h.elim
    · rename_i d e
      have hd := hm d
      split at h
      · rename_i t' l' hmd
        rw [hmd] at hd
        cases hb : (Nat.beq t t' && Nat.beq e 0) with
        | false => rw [hb] at h; exact h.elim
        | true =>
          rw [hb] at h
          simp only [Bool.and_eq_true] at hb
          have h1 := Nat.eq_of_beq_eq_true hb.1
          have h3 := Nat.eq_of_beq_eq_true hb.2
          subst h1 h3
          obtain ⟨L, vs, k1, k2, k3, k4, k5, k6, k7⟩ := hd
          have hkl' := kLoc_at hk k1
          rw [Loc.shift_zero] at hkl'
          refine ⟨⟨L, vs, hkl', k2, by have q1 := k5.length; have q2 := (simL1_sound (B := B) (w := w) hm h k5).length; omega, k4, simL1_sound hm h k5, k6, k7⟩, fun b o => ?_, fun _ => .inl ⟨d, 0, rfl, by rw [hmd]; rfl⟩⟩
          obtain ⟨L2, h2, h3⟩ := o
          rw [hkl'] at h2; cases h2
          show Occ ρ d (mget m d) b
          rw [hmd]
          exact ⟨L, k1, h3⟩
      · exact h.elim
end
end Go.Proofs.YtiihmggoebohkaaDoor.Vc
